/- The walk of the law FnBoardsTurnedOfAll: the call does what the plain function says; the conditions stand in the theorem. -/
import Derived.Test.YtmfbhhicioepjaaQ0
import Derived.Test.YtmfbhhicioepjaaQ13
import Derived.Test.YtmfbhhicioepjaaQ7
import Derived.Test.YtmfbhhicioepjaaQ8
import Derived.Test.YtmfbhhicioepjaaQ9
import Derived.Test.YtmfbhhicioepjaaQ10
import Derived.Test.YtmfbhhicioepjaaQ11
import Derived.Test.YtmfbhhicioepjaaQ12
import Derived.Test.YtmfbhhicioepjaaHTurn
namespace Go.Proofs.Ytmfbhhicioepjaa.Q
open Go.RowKit Go.Proofs.YtmfbhhicioepjaaW.PrintWords Go.Proofs.YtmfbhhicioepjaaW.PrintLast Go.Proofs.YtmfbhhicioepjaaW.PrintMore
attribute [local go_sem] max2_int min2_int max_two min_two max_three min_three max_four min_four   -- for this text's walks alone
set_option linter.unusedVariables false
set_option linter.unusedSimpArgs false

abbrev tt : Bool := true
abbrev ff : Bool := false
theorem zn1 {p : Prop} (h : p := by first | exact BK480.out | ((with_reducible repeat (first | refine blk_drewN ?_ _ | refine blk_drew ?_ | refine blk_alloc ?_ _)); exact BK480.out)) : p := h
theorem zn2 {p : Prop} (h : p := by first | exact BK481.out | ((with_reducible repeat (first | refine blk_drewN ?_ _ | refine blk_drew ?_ | refine blk_alloc ?_ _)); exact BK481.out)) : p := h
theorem zn3 {p : Prop} (h : p := by (try simp only [List.map_toArray, List.map_cons, List.map_nil]); first | done | rfl | (simp only [List.length_drop, List.length_take]; rfl)) : p := h
theorem zn4 {p : Prop} (h : p := by first | exact BK479.out | ((with_reducible repeat (first | refine blk_drewN ?_ _ | refine blk_drew ?_ | refine blk_alloc ?_ _)); exact BK479.out)) : p := h
theorem zn5 {p : Prop} (h : p := by repeat (first | (with_reducible first | exact HB.out | apply below_alloc | apply pw_below_drewN | apply below_drew1 | refine below_set ?_ GE479.out | refine below_set ?_ GE480.out | refine below_set ?_ GE481.out | refine below_set ?_ GE488.out | refine below_set ?_ GE495.out | refine below_set ?_ GE502.out | refine below_set ?_ GE509.out) | exact HB.out)) : p := h
theorem zn6 {p : Prop} (h : p := by repeat (first | (with_reducible first | exact HB.out | apply below_alloc | apply pw_below_drewN | apply below_drew1 | refine below_set ?_ GE480.out | refine below_set ?_ GE481.out) | exact HB.out)) : p := h
theorem zn7 {p : Prop} (h : p := by first | exact BK488.out | ((with_reducible repeat (first | refine blk_drewN ?_ _ | refine blk_drew ?_ | refine blk_alloc ?_ _)); exact BK488.out)) : p := h
theorem zn8 {p : Prop} (h : p := by first | exact BK502.out | ((with_reducible repeat (first | refine blk_drewN ?_ _ | refine blk_drew ?_ | refine blk_alloc ?_ _)); exact BK502.out)) : p := h
theorem zn9 {p : Prop} (h : p := by repeat (first | (with_reducible first | exact HB.out | apply below_alloc | apply pw_below_drewN | apply below_drew1 | refine below_set ?_ GE479.out | refine below_set ?_ GE480.out | refine below_set ?_ GE481.out | refine below_set ?_ GE488.out | refine below_set ?_ GE502.out | refine below_set ?_ GE528.out) | exact HB.out)) : p := h
theorem zn10 {p : Prop} (h : p := by repeat (first | exact (Kd.C_below HR1_2.out HB.out) | (with_reducible refine Kd.C_alloc ?_ _) | (with_reducible refine Kd.C_drewN ?_ _) | (with_reducible refine Kd.C_drew ?_))) : p := h
theorem zn11 {p : Prop} (h : p := by repeat (first | (with_reducible first | exact HB.out | apply below_alloc | apply pw_below_drewN | apply below_drew1 | refine below_set ?_ GE479.out | refine below_set ?_ GE480.out | refine below_set ?_ GE481.out | refine below_set ?_ GE488.out | refine below_set ?_ GE502.out) | exact HB.out)) : p := h
theorem zn12 {p : Prop} (h : p := by repeat (first | (with_reducible first | exact HB.out | apply below_alloc | apply pw_below_drewN | apply below_drew1 | refine below_set ?_ GE480.out | refine below_set ?_ GE481.out | refine below_set ?_ GE587.out) | exact HB.out)) : p := h
theorem zn13 {p : Prop} (h : p := by first | exact BK495.out | ((with_reducible repeat (first | refine blk_drewN ?_ _ | refine blk_drew ?_ | refine blk_alloc ?_ _)); exact BK495.out)) : p := h
theorem zn14 {p : Prop} (h : p := by repeat (first | exact (Kd.C_below HR0_2.out HB.out) | (with_reducible refine Kd.C_alloc ?_ _) | (with_reducible refine Kd.C_drewN ?_ _) | (with_reducible refine Kd.C_drew ?_))) : p := h
theorem zn15 {p : Prop} (h : p := by repeat (first | (with_reducible first | exact HB.out | apply below_alloc | apply pw_below_drewN | apply below_drew1 | refine below_set ?_ GE479.out | refine below_set ?_ GE480.out | refine below_set ?_ GE481.out | refine below_set ?_ GE488.out | refine below_set ?_ GE495.out | refine below_set ?_ GE502.out) | exact HB.out)) : p := h
theorem zn16 {p : Prop} (h : p := by first | exact HO_503002.out | ((with_reducible repeat (first | apply Kd.R_alloc | apply Kd.R_drewN | apply Kd.R_drew)); exact HO_503002.out)) : p := h
theorem zn17 {p : Prop} (h : p := by first | exact HO_489002.out | ((with_reducible repeat (first | apply Kd.R_alloc | apply Kd.R_drewN | apply Kd.R_drew)); exact HO_489002.out)) : p := h
theorem zn18 {p : Prop} (h : p := by repeat (first | (with_reducible first | exact HB.out | apply below_alloc | apply pw_below_drewN | apply below_drew1 | refine below_set ?_ GE479.out | refine below_set ?_ GE480.out | refine below_set ?_ GE481.out | refine below_set ?_ GE488.out | refine below_set ?_ GE495.out) | exact HB.out)) : p := h
theorem zn19 {p : Prop} (h : p := by first | exact HO486.out | ((with_reducible repeat (first | apply Kd.R_alloc | apply Kd.R_drewN | apply Kd.R_drew)); exact HO486.out)) : p := h
theorem zn20 {p : Prop} (h : p := by repeat (first | (with_reducible first | exact HB.out | apply below_alloc | apply pw_below_drewN | apply below_drew1 | refine below_set ?_ GE479.out | refine below_set ?_ GE480.out | refine below_set ?_ GE481.out | refine below_set ?_ GE488.out) | exact HB.out)) : p := h
theorem zn21 {p : Prop} (h : p := by first | exact HO493.out | ((with_reducible repeat (first | apply Kd.R_alloc | apply Kd.R_drewN | apply Kd.R_drew)); exact HO493.out)) : p := h
theorem zn22 {p : Prop} (h : p := by first | exact BK509.out | ((with_reducible repeat (first | refine blk_drewN ?_ _ | refine blk_drew ?_ | refine blk_alloc ?_ _)); exact BK509.out)) : p := h
theorem zn23 {p : Prop} (h : p := by repeat (first | (with_reducible first | exact HB.out | apply below_alloc | apply pw_below_drewN | apply below_drew1 | refine below_set ?_ GE479.out | refine below_set ?_ GE480.out | refine below_set ?_ GE481.out) | exact HB.out)) : p := h
theorem zn24 {p : Prop} (h : p := by first | exact HO500.out | ((with_reducible repeat (first | apply Kd.R_alloc | apply Kd.R_drewN | apply Kd.R_drew)); exact HO500.out)) : p := h
theorem zn25 {p : Prop} (h : p := by repeat (first | (with_reducible first | exact HB.out | apply below_alloc | apply pw_below_drewN | apply below_drew1 | refine below_set ?_ GE479.out | refine below_set ?_ GE480.out | refine below_set ?_ GE481.out | refine below_set ?_ GE488.out | refine below_set ?_ GE502.out | refine below_set ?_ GE528.out | refine below_set ?_ GE542.out) | exact HB.out)) : p := h
theorem zn26 {p : Prop} (h : p := by first | exact HO507.out | ((with_reducible repeat (first | apply Kd.R_alloc | apply Kd.R_drewN | apply Kd.R_drew)); exact HO507.out)) : p := h
theorem zn27 {p : Prop} (h : p := by repeat (first | (with_reducible first | exact HB.out | apply below_alloc | apply pw_below_drewN | apply below_drew1 | refine below_set ?_ GE479.out | refine below_set ?_ GE480.out) | exact HB.out)) : p := h
theorem zn28 {p : Prop} (h : p := by first | exact BK528.out | ((with_reducible repeat (first | refine blk_drewN ?_ _ | refine blk_drew ?_ | refine blk_alloc ?_ _)); exact BK528.out)) : p := h
theorem zn29 {p : Prop} (h : p := by first | exact HO512.out | ((with_reducible repeat (first | apply Kd.R_alloc | apply Kd.R_drewN | apply Kd.R_drew)); exact HO512.out)) : p := h
theorem zn30 {p : Prop} (h : p := by repeat (first | (with_reducible first | exact HB.out | apply below_alloc | apply pw_below_drewN | apply below_drew1 | refine below_set ?_ GE479.out) | exact HB.out)) : p := h
theorem zn31 {p : Prop} (h : p := by repeat (first | (with_reducible first | exact HB.out | apply below_alloc | apply pw_below_drewN | apply below_drew1 | refine below_set ?_ GE480.out | refine below_set ?_ GE481.out | refine below_set ?_ GE587.out | refine below_set ?_ GE594.out) | exact HB.out)) : p := h
theorem zn32 {p : Prop} (h : p := by first | exact HO_246.out | ((with_reducible repeat (first | apply Kd.R_alloc | apply Kd.R_drewN | apply Kd.R_drew)); exact HO_246.out)) : p := h
theorem zn33 {p : Prop} (h : p := by first | exact HO516.out | ((with_reducible repeat (first | apply Kd.R_alloc | apply Kd.R_drewN | apply Kd.R_drew)); exact HO516.out)) : p := h
theorem zn34 {p : Prop} (h : p := by (with_reducible repeat (first | refine blk_drewN ?_ _ | refine blk_drew ?_ | refine blk_alloc ?_ _)); refine blk_put (cs := #[.int .i64 t588, .int .i64 t589, .slice none 0 0]) ?_ 2 _ rfl; (with_reducible repeat (first | refine blk_drewN ?_ _ | refine blk_drew ?_ | refine blk_alloc ?_ _)); refine blk_put (cs := #[.int .i64 t588, .int .i64 0, .slice none 0 0]) ?_ 1 _ rfl; (with_reducible repeat (first | refine blk_drewN ?_ _ | refine blk_drew ?_ | refine blk_alloc ?_ _)); refine blk_put (cs := #[.int .i64 0, .int .i64 0, .slice none 0 0]) ?_ 0 _ rfl; first | exact BK594.out | ((with_reducible repeat (first | refine blk_drewN ?_ _ | refine blk_drew ?_ | refine blk_alloc ?_ _)); exact BK594.out)) : p := h
theorem zn35 {p : Prop} (h : p := by (with_reducible repeat (first | refine blk_drewN ?_ _ | refine blk_drew ?_ | refine blk_alloc ?_ _)); refine blk_put (cs := #[.int .i64 t581, .int .i64 t582, .slice none 0 0]) ?_ 2 _ rfl; (with_reducible repeat (first | refine blk_drewN ?_ _ | refine blk_drew ?_ | refine blk_alloc ?_ _)); refine blk_put (cs := #[.int .i64 t581, .int .i64 0, .slice none 0 0]) ?_ 1 _ rfl; (with_reducible repeat (first | refine blk_drewN ?_ _ | refine blk_drew ?_ | refine blk_alloc ?_ _)); refine blk_put (cs := #[.int .i64 0, .int .i64 0, .slice none 0 0]) ?_ 0 _ rfl; first | exact BK587.out | ((with_reducible repeat (first | refine blk_drewN ?_ _ | refine blk_drew ?_ | refine blk_alloc ?_ _)); exact BK587.out)) : p := h
theorem zn36 {p : Prop} (h : p := by repeat (first | (with_reducible first | exact HB.out | apply below_alloc | apply pw_below_drewN | apply below_drew1) | exact HB.out)) : p := h
theorem zn37 {p : Prop} (h : p := by first | exact HO_529002.out | ((with_reducible repeat (first | apply Kd.R_alloc | apply Kd.R_drewN | apply Kd.R_drew)); exact HO_529002.out)) : p := h
theorem zn38 {p : Prop} (h : p := by first | exact HO_23.out | ((with_reducible repeat (first | apply Kd.R_alloc | apply Kd.R_drewN | apply Kd.R_drew)); exact HO_23.out)) : p := h
theorem zn39 {p : Prop} (h : p := by first | exact BK587.out | ((with_reducible repeat (first | refine blk_drewN ?_ _ | refine blk_drew ?_ | refine blk_alloc ?_ _)); exact BK587.out)) : p := h
theorem zn40 {p : Prop} (h : p := by (with_reducible repeat (first | refine blk_drewN ?_ _ | refine blk_drew ?_ | refine blk_alloc ?_ _)); refine blk_far ?_ NB587_594.out _; (with_reducible repeat (first | refine blk_drewN ?_ _ | refine blk_drew ?_ | refine blk_alloc ?_ _)); refine blk_far ?_ NB587_594.out _; (with_reducible repeat (first | refine blk_drewN ?_ _ | refine blk_drew ?_ | refine blk_alloc ?_ _)); refine blk_far ?_ NB587_594.out _; first | exact BK587.out | ((with_reducible repeat (first | refine blk_drewN ?_ _ | refine blk_drew ?_ | refine blk_alloc ?_ _)); exact BK587.out)) : p := h
theorem zn41 {p : Prop} (h : p := by (with_reducible repeat (first | refine blk_drewN ?_ _ | refine blk_drew ?_ | refine blk_alloc ?_ _)); refine blk_far ?_ NB481_594.out _; (with_reducible repeat (first | refine blk_drewN ?_ _ | refine blk_drew ?_ | refine blk_alloc ?_ _)); refine blk_far ?_ NB481_594.out _; (with_reducible repeat (first | refine blk_drewN ?_ _ | refine blk_drew ?_ | refine blk_alloc ?_ _)); refine blk_far ?_ NB481_594.out _; first | exact BK481.out | ((with_reducible repeat (first | refine blk_drewN ?_ _ | refine blk_drew ?_ | refine blk_alloc ?_ _)); exact BK481.out)) : p := h
theorem zn42 {p : Prop} (h : p := by (with_reducible repeat (first | refine blk_drewN ?_ _ | refine blk_drew ?_ | refine blk_alloc ?_ _)); refine blk_far ?_ NB481_587.out _; (with_reducible repeat (first | refine blk_drewN ?_ _ | refine blk_drew ?_ | refine blk_alloc ?_ _)); refine blk_far ?_ NB481_587.out _; (with_reducible repeat (first | refine blk_drewN ?_ _ | refine blk_drew ?_ | refine blk_alloc ?_ _)); refine blk_far ?_ NB481_587.out _; first | exact BK481.out | ((with_reducible repeat (first | refine blk_drewN ?_ _ | refine blk_drew ?_ | refine blk_alloc ?_ _)); exact BK481.out)) : p := h
theorem zn43 {p : Prop} (h : p := by (with_reducible repeat (first | refine blk_drewN ?_ _ | refine blk_drew ?_ | refine blk_alloc ?_ _)); refine blk_far ?_ NB480_594.out _; (with_reducible repeat (first | refine blk_drewN ?_ _ | refine blk_drew ?_ | refine blk_alloc ?_ _)); refine blk_far ?_ NB480_594.out _; (with_reducible repeat (first | refine blk_drewN ?_ _ | refine blk_drew ?_ | refine blk_alloc ?_ _)); refine blk_far ?_ NB480_594.out _; first | exact BK480.out | ((with_reducible repeat (first | refine blk_drewN ?_ _ | refine blk_drew ?_ | refine blk_alloc ?_ _)); exact BK480.out)) : p := h
theorem zn44 {p : Prop} (h : p := by (with_reducible repeat (first | refine blk_drewN ?_ _ | refine blk_drew ?_ | refine blk_alloc ?_ _)); refine blk_far ?_ NB480_587.out _; (with_reducible repeat (first | refine blk_drewN ?_ _ | refine blk_drew ?_ | refine blk_alloc ?_ _)); refine blk_far ?_ NB480_587.out _; (with_reducible repeat (first | refine blk_drewN ?_ _ | refine blk_drew ?_ | refine blk_alloc ?_ _)); refine blk_far ?_ NB480_587.out _; first | exact BK480.out | ((with_reducible repeat (first | refine blk_drewN ?_ _ | refine blk_drew ?_ | refine blk_alloc ?_ _)); exact BK480.out)) : p := h
theorem zn45 {p : Prop} (h : p := by repeat (first | exact (Kd.C_below HR3_2.out HB.out) | (with_reducible refine Kd.C_alloc ?_ _) | (with_reducible refine Kd.C_drewN ?_ _) | (with_reducible refine Kd.C_drew ?_))) : p := h
theorem zn46 {p : Prop} (h : p := by (with_reducible repeat (first | apply Kd.R_alloc | apply Kd.R_drewN | apply Kd.R_drew)); exact (Kd.R_mono (Kd.R_far (p := ⟨gb542, 2, none⟩) (Kd.R_far (p := ⟨gb542, 1, none⟩) (Kd.R_far (p := ⟨gb542, 0, none⟩) (Kd.R_types HO_529002.out BK542.out (by decide)) (fun _ hk => hk.2) (.int .i64 t536)) (fun _ hk => hk.2) (.int .i64 t537)) (fun _ hk => hk.2) (.slice Ao162 t538.length co162)) (fun _ h_ => h_.1))) : p := h
theorem zn47 {p : Prop} (h : p := by (with_reducible repeat (first | apply Kd.R_alloc | apply Kd.R_drewN | apply Kd.R_drew)); exact (Kd.R_mono (Kd.R_far (p := ⟨gb594, 2, none⟩) (Kd.R_far (p := ⟨gb594, 1, none⟩) (Kd.R_far (p := ⟨gb594, 0, none⟩) (Kd.R_types HO592.out BK594.out (by decide)) (fun _ hk => hk.2) (.int .i64 t588)) (fun _ hk => hk.2) (.int .i64 t589)) (fun _ hk => hk.2) (.slice Ao321 t590.length co321)) (fun _ h_ => h_.1))) : p := h
theorem zn48 {p : Prop} (h : p := by (with_reducible repeat (first | apply Kd.R_alloc | apply Kd.R_drewN | apply Kd.R_drew)); exact (Kd.R_mono (Kd.R_far (p := ⟨gb594, 2, none⟩) (Kd.R_far (p := ⟨gb594, 1, none⟩) (Kd.R_far (p := ⟨gb594, 0, none⟩) (Kd.R_types HO592.out BK594.out (by decide)) (fun _ hk => hk.2) (.int .i64 t588)) (fun _ hk => hk.2) (.int .i64 t589)) (fun _ hk => hk.2) (.slice Ao283 t590.length co283)) (fun _ h_ => h_.1))) : p := h
theorem zn49 {p : Prop} (h : p := by (with_reducible repeat (first | apply Kd.R_alloc | apply Kd.R_drewN | apply Kd.R_drew)); exact (Kd.R_mono (Kd.R_far (p := ⟨gb594, 2, none⟩) (Kd.R_far (p := ⟨gb594, 1, none⟩) (Kd.R_far (p := ⟨gb594, 0, none⟩) (Kd.R_types HO585.out BK594.out (by decide)) (fun _ hk => hk.2) (.int .i64 t588)) (fun _ hk => hk.2) (.int .i64 t589)) (fun _ hk => hk.2) (.slice Ao321 t590.length co321)) (fun _ h_ => h_.1))) : p := h
theorem zn50 {p : Prop} (h : p := by (with_reducible repeat (first | apply Kd.R_alloc | apply Kd.R_drewN | apply Kd.R_drew)); exact (Kd.R_mono (Kd.R_far (p := ⟨gb594, 2, none⟩) (Kd.R_far (p := ⟨gb594, 1, none⟩) (Kd.R_far (p := ⟨gb594, 0, none⟩) (Kd.R_types HO585.out BK594.out (by decide)) (fun _ hk => hk.2) (.int .i64 t588)) (fun _ hk => hk.2) (.int .i64 t589)) (fun _ hk => hk.2) (.slice Ao283 t590.length co283)) (fun _ h_ => h_.1))) : p := h
theorem zn51 {p : Prop} (h : p := by (with_reducible repeat (first | apply Kd.R_alloc | apply Kd.R_drewN | apply Kd.R_drew)); exact (Kd.R_mono (Kd.R_far (p := ⟨gb587, 2, none⟩) (Kd.R_far (p := ⟨gb587, 1, none⟩) (Kd.R_far (p := ⟨gb587, 0, none⟩) (Kd.R_types HO585.out BK587.out (by decide)) (fun _ hk => hk.2) (.int .i64 t581)) (fun _ hk => hk.2) (.int .i64 t582)) (fun _ hk => hk.2) (.slice Ao314 t583.length co314)) (fun _ h_ => h_.1))) : p := h
theorem zn52 {p : Prop} (h : p := by (with_reducible repeat (first | apply Kd.R_alloc | apply Kd.R_drewN | apply Kd.R_drew)); exact (Kd.R_mono (Kd.R_far (p := ⟨gb587, 2, none⟩) (Kd.R_far (p := ⟨gb587, 1, none⟩) (Kd.R_far (p := ⟨gb587, 0, none⟩) (Kd.R_types HO585.out BK587.out (by decide)) (fun _ hk => hk.2) (.int .i64 t581)) (fun _ hk => hk.2) (.int .i64 t582)) (fun _ hk => hk.2) (.slice Ao276 t583.length co276)) (fun _ h_ => h_.1))) : p := h
theorem zn53 {p : Prop} (h : p := by (with_reducible repeat (first | apply Kd.R_alloc | apply Kd.R_drewN | apply Kd.R_drew)); exact (Kd.R_mono (Kd.R_far (p := ⟨gb509, 2, none⟩) (Kd.R_far (p := ⟨gb509, 1, none⟩) (Kd.R_far (p := ⟨gb509, 0, none⟩) (Kd.R_types HO507.out BK509.out (by decide)) (fun _ hk => hk.2) (.int .i64 t503)) (fun _ hk => hk.2) (.int .i64 t504)) (fun _ hk => hk.2) (.slice Ao82 t505.length co82)) (fun _ h_ => h_.1))) : p := h
theorem zn54 {p : Prop} (h : p := by (with_reducible repeat (first | apply Kd.R_alloc | apply Kd.R_drewN | apply Kd.R_drew)); exact (Kd.R_mono (Kd.R_far (p := ⟨gb509, 2, none⟩) (Kd.R_far (p := ⟨gb509, 1, none⟩) (Kd.R_far (p := ⟨gb509, 0, none⟩) (Kd.R_types HO500.out BK509.out (by decide)) (fun _ hk => hk.2) (.int .i64 t503)) (fun _ hk => hk.2) (.int .i64 t504)) (fun _ hk => hk.2) (.slice Ao82 t505.length co82)) (fun _ h_ => h_.1))) : p := h
theorem zn55 {p : Prop} (h : p := by (with_reducible repeat (first | apply Kd.R_alloc | apply Kd.R_drewN | apply Kd.R_drew)); exact (Kd.R_mono (Kd.R_far (p := ⟨gb509, 2, none⟩) (Kd.R_far (p := ⟨gb509, 1, none⟩) (Kd.R_far (p := ⟨gb509, 0, none⟩) (Kd.R_types HO493.out BK509.out (by decide)) (fun _ hk => hk.2) (.int .i64 t503)) (fun _ hk => hk.2) (.int .i64 t504)) (fun _ hk => hk.2) (.slice Ao82 t505.length co82)) (fun _ h_ => h_.1))) : p := h
theorem zn56 {p : Prop} (h : p := by (with_reducible repeat (first | apply Kd.R_alloc | apply Kd.R_drewN | apply Kd.R_drew)); exact (Kd.R_mono (Kd.R_far (p := ⟨gb509, 2, none⟩) (Kd.R_far (p := ⟨gb509, 1, none⟩) (Kd.R_far (p := ⟨gb509, 0, none⟩) (Kd.R_types HO486.out BK509.out (by decide)) (fun _ hk => hk.2) (.int .i64 t503)) (fun _ hk => hk.2) (.int .i64 t504)) (fun _ hk => hk.2) (.slice Ao82 t505.length co82)) (fun _ h_ => h_.1))) : p := h
theorem zn57 {p : Prop} (h : p := by (with_reducible repeat (first | apply Kd.R_alloc | apply Kd.R_drewN | apply Kd.R_drew)); exact (Kd.R_mono (Kd.R_far (p := ⟨gb502, 2, none⟩) (Kd.R_far (p := ⟨gb502, 1, none⟩) (Kd.R_far (p := ⟨gb502, 0, none⟩) (Kd.R_types HO500.out BK502.out (by decide)) (fun _ hk => hk.2) (.int .i64 t496)) (fun _ hk => hk.2) (.int .i64 t497)) (fun _ hk => hk.2) (.slice Ao71 t498.length co71)) (fun _ h_ => h_.1))) : p := h
theorem zn58 {p : Prop} (h : p := by (with_reducible repeat (first | apply Kd.R_alloc | apply Kd.R_drewN | apply Kd.R_drew)); exact (Kd.R_mono (Kd.R_far (p := ⟨gb502, 2, none⟩) (Kd.R_far (p := ⟨gb502, 1, none⟩) (Kd.R_far (p := ⟨gb502, 0, none⟩) (Kd.R_types HO493.out BK502.out (by decide)) (fun _ hk => hk.2) (.int .i64 t496)) (fun _ hk => hk.2) (.int .i64 t497)) (fun _ hk => hk.2) (.slice Ao71 t498.length co71)) (fun _ h_ => h_.1))) : p := h
theorem zn59 {p : Prop} (h : p := by (with_reducible repeat (first | apply Kd.R_alloc | apply Kd.R_drewN | apply Kd.R_drew)); exact (Kd.R_mono (Kd.R_far (p := ⟨gb502, 2, none⟩) (Kd.R_far (p := ⟨gb502, 1, none⟩) (Kd.R_far (p := ⟨gb502, 0, none⟩) (Kd.R_types HO486.out BK502.out (by decide)) (fun _ hk => hk.2) (.int .i64 t496)) (fun _ hk => hk.2) (.int .i64 t497)) (fun _ hk => hk.2) (.slice Ao71 t498.length co71)) (fun _ h_ => h_.1))) : p := h
theorem zn60 {p : Prop} (h : p := by (with_reducible repeat (first | apply Kd.R_alloc | apply Kd.R_drewN | apply Kd.R_drew)); exact (Kd.R_mono (Kd.R_far (p := ⟨gb495, 2, none⟩) (Kd.R_far (p := ⟨gb495, 1, none⟩) (Kd.R_far (p := ⟨gb495, 0, none⟩) (Kd.R_types HO493.out BK495.out (by decide)) (fun _ hk => hk.2) (.int .i64 t489)) (fun _ hk => hk.2) (.int .i64 t490)) (fun _ hk => hk.2) (.slice Ao61 t491.length co61)) (fun _ h_ => h_.1))) : p := h
theorem zn61 {p : Prop} (h : p := by (with_reducible repeat (first | apply Kd.R_alloc | apply Kd.R_drewN | apply Kd.R_drew)); exact (Kd.R_mono (Kd.R_far (p := ⟨gb495, 2, none⟩) (Kd.R_far (p := ⟨gb495, 1, none⟩) (Kd.R_far (p := ⟨gb495, 0, none⟩) (Kd.R_types HO486.out BK495.out (by decide)) (fun _ hk => hk.2) (.int .i64 t489)) (fun _ hk => hk.2) (.int .i64 t490)) (fun _ hk => hk.2) (.slice Ao61 t491.length co61)) (fun _ h_ => h_.1))) : p := h
theorem zn62 {p : Prop} (h : p := by (with_reducible repeat (first | apply Kd.R_alloc | apply Kd.R_drewN | apply Kd.R_drew)); exact (Kd.R_mono (Kd.R_far (p := ⟨gb488, 2, none⟩) (Kd.R_far (p := ⟨gb488, 1, none⟩) (Kd.R_far (p := ⟨gb488, 0, none⟩) (Kd.R_types HO486.out BK488.out (by decide)) (fun _ hk => hk.2) (.int .i64 t482)) (fun _ hk => hk.2) (.int .i64 t483)) (fun _ hk => hk.2) (.slice Ao52 t484.length co52)) (fun _ h_ => h_.1))) : p := h
theorem zn63 {p : Prop} (h : p := by first | exact HO585.out | ((with_reducible repeat (first | apply Kd.R_alloc | apply Kd.R_drewN | apply Kd.R_drew)); exact HO585.out)) : p := h
theorem zn64 {p : Prop} (h : p := by first | rfl | (simp [errW_none, errW_some] <;> rfl) | (simp [*, errW_none, errW_some] <;> rfl)) : p := h
theorem zn65 {p : Prop} (h : p := by repeat (first | exact (Kd.R_reads' HO_503002.out).2.2 | (with_reducible refine Kd.C_alloc ?_ _) | (with_reducible refine Kd.C_drewN ?_ _) | (with_reducible refine Kd.C_drew ?_))) : p := h
theorem zn66 {p : Prop} (h : p := by first | rfl | (simp; done) | (simp [*]; done)) : p := h
theorem zn67 {p : Prop} (h : p := by rw [hg]; exact Nat.ne_of_lt (blk_lt (g := gb480) (o := .cells #[.int .i64 a1_0, .int .i64 a1_1, .slice A1_2 l1_2.length c1_2] 30 (0, 0)) zn1)) : p := h
theorem zn68 {p : Prop} (h : p := by rw [hg]; exact Nat.ne_of_gt (blk_lt (g := gb480) (o := .cells #[.int .i64 a1_0, .int .i64 a1_1, .slice A1_2 l1_2.length c1_2] 30 (0, 0)) zn1)) : p := h
theorem zn69 {p : Prop} (h : p := by rw [hg]; exact Nat.ne_of_lt (blk_lt (g := gb481) (o := .cells #[.int .i64 a3_0, .int .i64 a3_1, .slice A3_2 l3_2.length c3_2] 30 (0, 0)) zn2)) : p := h
theorem zn70 {p : Prop} (h : p := by rw [hg]; exact Nat.ne_of_lt (blk_lt (g := gb479) (o := .cells #[.int .i64 a0_0, .int .i64 a0_1, .slice A0_2 l0_2.length c0_2] 30 (0, 0)) zn4)) : p := h
theorem zn71 {p : Prop} (h : p := by rw [hg]; exact Nat.ne_of_gt (blk_lt (g := gb481) (o := .cells #[.int .i64 a3_0, .int .i64 a3_1, .slice A3_2 l3_2.length c3_2] 30 (0, 0)) zn2)) : p := h
theorem zn72 {p : Prop} (h : p := by rw [hg]; exact Nat.ne_of_gt (blk_lt (g := gb479) (o := .cells #[.int .i64 a0_0, .int .i64 a0_1, .slice A0_2 l0_2.length c0_2] 30 (0, 0)) zn4)) : p := h
theorem zn73 {p : Prop} (h : p := by rw [hg]; exact Nat.ne_of_lt (blk_lt (g := gb488) (o := .cells #[.int .i64 t482, .int .i64 t483, .slice Ao52 t484.length co52] 30 (0, 0)) zn7)) : p := h
theorem zn74 {p : Prop} (h : p := by rw [hg]; exact Nat.ne_of_gt (blk_lt (g := gb488) (o := .cells #[.int .i64 t482, .int .i64 t483, .slice Ao52 t484.length co52] 30 (0, 0)) zn7)) : p := h
theorem zn75 {p : Prop} (h : p := by rw [hg]; exact Nat.ne_of_lt (blk_lt (g := gb502) (o := .cells #[.int .i64 t496, .int .i64 t497, .slice Ao71 t498.length co71] 30 (0, 0)) zn8)) : p := h
theorem zn76 {p : Prop} (h : p := by rw [hg]; exact Nat.ne_of_gt (blk_lt (g := gb502) (o := .cells #[.int .i64 t496, .int .i64 t497, .slice Ao71 t498.length co71] 30 (0, 0)) zn8)) : p := h
theorem zn77 {p : Prop} (h : p := by rw [hg]; exact Nat.ne_of_lt (blk_lt (g := gb495) (o := .cells #[.int .i64 t489, .int .i64 t490, .slice Ao61 t491.length co61] 30 (0, 0)) zn13)) : p := h
theorem zn78 {p : Prop} (h : p := by rw [hg]; exact Nat.ne_of_gt (blk_lt (g := gb495) (o := .cells #[.int .i64 t489, .int .i64 t490, .slice Ao61 t491.length co61] 30 (0, 0)) zn13)) : p := h
set_option maxHeartbeats 60000000 in
set_option maxRecDepth 100000 in
theorem laws_FnBoardsTurnedOfAll.calls (k : Nat) (a0_0 : Int) (a0_1 : Int) (A0_2 : Option Addr) (c0_2 : Nat) (l0_2 : List Int) (a1_0 : Int) (a1_1 : Int) (A1_2 : Option Addr) (c1_2 : Nat) (l1_2 : List Int) (a2 : Int) (a3_0 : Int) (a3_1 : Int) (A3_2 : Option Addr) (c3_2 : Nat) (l3_2 : List Int) (a4 : ByteArray) (a5 : Int) (a6 : Int) (r : Bool) (w : World) (hr0_2 : Kd.C (Kd.int .i64) w A0_2 l0_2.length l0_2) (hc0_2 : l0_2.length ≤ c0_2) (hr1_2 : Kd.C (Kd.int .i64) w A1_2 l1_2.length l1_2) (hc1_2 : l1_2.length ≤ c1_2) (hr3_2 : Kd.C (Kd.int .i64) w A3_2 l3_2.length l3_2) (hc3_2 : l3_2.length ≤ c3_2) (h : laws_FnBoardsTurnedOfAll.f k a0_0 a0_1 l0_2 a1_0 a1_1 l1_2 a2 a3_0 a3_1 l3_2 a4 a5 a6 = some r) :
  Calls Try.prog 4 #[.agg #[.int .i64 a0_0, .int .i64 a0_1, .slice A0_2 l0_2.length c0_2], .agg #[.int .i64 a1_0, .int .i64 a1_1, .slice A1_2 l1_2.length c1_2], .int .i64 a2, .agg #[.int .i64 a3_0, .int .i64 a3_1, .slice A3_2 l3_2.length c3_2], .string a4, .int .i64 a5, .int .i64 a6] w fun e w' => e = .returned (.bool r) ∧ Below w.heap.size w w' := by
 have hu30 := Try.underlying30
 have HR0_2 := Aside0.mk hr0_2
 have HC0_2 := Aside0.mk hc0_2
 clear hr0_2 hc0_2
 have HR1_2 := Aside0.mk hr1_2
 have HC1_2 := Aside0.mk hc1_2
 clear hr1_2 hc1_2
 have HR3_2 := Aside0.mk hr3_2
 have HC3_2 := Aside0.mk hc3_2
 clear hr3_2 hc3_2
 have HB := Aside0.mk (Below.refl w.heap.size w)
 have H : (if (a4.size : Int) > 1048576 then (some true) else ((impl_TurnBoard.f k a0_0 a0_1 l0_2).bind fun bt482 => ((spec_TurnBoard.f k a0_0 a0_1 l0_2).bind fun bt489 => ((impl_MirrorBoard.f k a0_0 a0_1 l0_2).bind fun bt496 => ((spec_MirrorBoard.f k a0_0 a0_1 l0_2).bind fun bt503 => ((impl_CellsOf.f k a0_0 a0_1 l0_2).bind fun bt510 => ((spec_CellsOf.f k a0_0 a0_1 l0_2).bind fun bt514 => ((impl_CountCells.f k a0_0 a0_1 l0_2).bind fun bt518 => ((spec_CountCells.f k a0_0 a0_1 l0_2).bind fun bt520 => (if (bt482.2.2.2 != bt489.2.2.2) = true then (none) else ((laws_yBoard.f k bt482.1 bt482.2.1 bt482.2.2.1 bt489.1 bt489.2.1 bt489.2.2.1).bind fun t522 => (if t522 = true then (if (bt496.2.2.2 != bt503.2.2.2) = true then (none) else ((laws_yBoard.f k bt496.1 bt496.2.1 bt496.2.2.1 bt503.1 bt503.2.1 bt503.2.2.1).bind fun t523 => (if t523 = true then (if (bt510.2 != bt514.2) = true then (none) else ((laws_ySame.f k bt510.1 bt514.1).bind fun t524 => (if t524 = true then (if (bt518.2 != bt520.2) = true then (none) else (if bt518.1 = bt520.1 then ((impl_IsBoard.f k a0_0 a0_1 l0_2).bind fun t525 => (if (bt482.2.2.2 != t525) = true then (none) else ((impl_IsBoard.f k a0_0 a0_1 l0_2).bind fun t526 => ((spec_IsBoard.f k a0_0 a0_1 l0_2).bind fun t527 => (if (t526 != t527) = true then (none) else (if (bt496.2.2.2 != bt482.2.2.2) = true then (none) else (if (bt510.2 != bt482.2.2.2) = true then (none) else (if (bt518.2 != bt482.2.2.2) = true then (none) else (if bt482.2.2.2 = true then (laws_FnBoardsTurnedOfAll.l0 k a2 a4 a5 a6 bt510.1 bt518.1 0 a0_0 a0_1 l0_2 a1_0 a1_1 l1_2 a3_0 a3_1 l3_2 bt482.1 bt482.2.1 bt482.2.2.1 bt496.1 bt496.2.1 bt496.2.2.1 a0_0 a0_1 l0_2) else (laws_FnBoardsTurnedOfAll.j2 k a2 a4 a5 a6 a1_0 a1_1 l1_2 a3_0 a3_1 l3_2)))))))))) else (none))) else (none)))) else (none)))) else (none))))))))))))) = some r := h
 clear h
 by_cases c8 : (a4.size : Int) > 1048576
 ·rw [if_pos c8] at H
  have c8b0 : decide (1048576 < (a4.size : Int)) = true := decide_eq_true c8
  have c8b1 : decide (1048576 < a4.size) = true := decide_eq_true (by omega)
  clear c8
  obtain rfl := Option.some.inj H
  go_enter Try.func4, Try.ntmps4
  go_wp2_with (first | ((with_reducible refine gate_dst (N := 7) rfl ?_); (try (refine gate_guard (by rfl) ?_; dsimp only)); refine box_event ?hg (N := 7) ?hd (cs := #[.int .i64 a0_0, .int .i64 a0_1, .slice A0_2 l0_2.length c0_2]) (t := 30) ?hr ?_; (case hd => rfl); (case hg => rfl); (case hr => first | (go_simp; done) | (go_simp; rfl)); intro gb479 hg w9 hbox hb; have n0_ := Aside0.mk (below_step zn36 hb); have n1_ := Aside0.mk (hbox); have n2_ := Aside0.mk ((by rw [hg]; exact (below_size zn36) : w.heap.size ≤ gb479)); have n3_ := Aside0.mk ((by rw [hg]; exact (below_size zn36) : w.heap.size ≤ gb479)); clear HB; have HB := n0_; have BK479 := n1_; have GW479 := n2_; have GE479 := n3_; clear n0_ n1_ n2_ n3_; clear hb hbox hg) | ((with_reducible refine gate_dst (N := 8) rfl ?_); (try (refine gate_guard (by rfl) ?_; dsimp only)); refine box_event ?hg (N := 8) ?hd (cs := #[.int .i64 a1_0, .int .i64 a1_1, .slice A1_2 l1_2.length c1_2]) (t := 30) ?hr ?_; (case hd => rfl); (case hg => rfl); (case hr => first | (go_simp; done) | (go_simp; rfl)); intro gb480 hg w10 hbox hb; have n0_ := Aside0.mk (blk_below (g := gb479) (o := .cells #[.int .i64 a0_0, .int .i64 a0_1, .slice A0_2 l0_2.length c0_2] 30 (0, 0)) zn4 hb); have n1_ := Aside0.mk (below_step zn30 hb); have n2_ := Aside0.mk (hbox); have n3_ := Aside0.mk ((by rw [hg]; exact (below_size zn30) : w.heap.size ≤ gb480)); have n4_ := Aside0.mk ((by rw [hg]; exact (below_size zn30) : w.heap.size ≤ gb480)); have n5_ := Aside0.mk ((zn70 : gb479 ≠ gb480)); have n6_ := Aside0.mk ((zn72 : gb480 ≠ gb479)); clear BK479; clear HB; have BK479 := n0_; have HB := n1_; have BK480 := n2_; have GW480 := n3_; have GE480 := n4_; have NB479_480 := n5_; have NB480_479 := n6_; clear n0_ n1_ n2_ n3_ n4_ n5_ n6_; clear hb hbox hg) | ((with_reducible refine gate_dst (N := 10) rfl ?_); (try (refine gate_guard (by rfl) ?_; dsimp only)); refine box_event ?hg (N := 10) ?hd (cs := #[.int .i64 a3_0, .int .i64 a3_1, .slice A3_2 l3_2.length c3_2]) (t := 30) ?hr ?_; (case hd => rfl); (case hg => rfl); (case hr => first | (go_simp; done) | (go_simp; rfl)); intro gb481 hg w11 hbox hb; have n0_ := Aside0.mk (blk_below (g := gb479) (o := .cells #[.int .i64 a0_0, .int .i64 a0_1, .slice A0_2 l0_2.length c0_2] 30 (0, 0)) zn4 hb); have n1_ := Aside0.mk (blk_below (g := gb480) (o := .cells #[.int .i64 a1_0, .int .i64 a1_1, .slice A1_2 l1_2.length c1_2] 30 (0, 0)) zn1 hb); have n2_ := Aside0.mk (below_step zn27 hb); have n3_ := Aside0.mk (hbox); have n4_ := Aside0.mk ((by rw [hg]; exact (below_size zn27) : w.heap.size ≤ gb481)); have n5_ := Aside0.mk ((by rw [hg]; exact (below_size zn27) : w.heap.size ≤ gb481)); have n6_ := Aside0.mk ((zn70 : gb479 ≠ gb481)); have n7_ := Aside0.mk ((zn72 : gb481 ≠ gb479)); have n8_ := Aside0.mk ((zn67 : gb480 ≠ gb481)); have n9_ := Aside0.mk ((zn68 : gb481 ≠ gb480)); clear BK479; clear BK480; clear HB; have BK479 := n0_; have BK480 := n1_; have HB := n2_; have BK481 := n3_; have GW481 := n4_; have GE481 := n5_; have NB479_481 := n6_; have NB481_479 := n7_; have NB480_481 := n8_; have NB481_480 := n9_; clear n0_ n1_ n2_ n3_ n4_ n5_ n6_ n7_ n8_ n9_; clear hb hbox hg))
  go_ret
  exact ⟨zn64, zn23⟩
 rw [if_neg c8] at H
 have c8b0 : decide (1048576 < (a4.size : Int)) = false := decide_eq_false c8
 have c8b1 : decide (1048576 < a4.size) = false := decide_eq_false (by omega)
 clear c8
 replace H := Option.bind_eq_some_iff.mp H
 obtain ⟨⟨t482, t483, t484, t487⟩, A120, H⟩ := H
 try dsimp only at H
 have A12 := Aside0.mk A120
 clear A120
 replace H := Option.bind_eq_some_iff.mp H
 obtain ⟨⟨t489, t490, t491, t494⟩, A130, H⟩ := H
 try dsimp only at H
 have A13 := Aside0.mk A130
 clear A130
 replace H := Option.bind_eq_some_iff.mp H
 obtain ⟨⟨t496, t497, t498, t501⟩, A140, H⟩ := H
 try dsimp only at H
 have A14 := Aside0.mk A140
 clear A140
 replace H := Option.bind_eq_some_iff.mp H
 obtain ⟨⟨t503, t504, t505, t508⟩, A150, H⟩ := H
 try dsimp only at H
 have A15 := Aside0.mk A150
 clear A150
 replace H := Option.bind_eq_some_iff.mp H
 obtain ⟨⟨t510, t513⟩, A160, H⟩ := H
 try dsimp only at H
 have A16 := Aside0.mk A160
 clear A160
 replace H := Option.bind_eq_some_iff.mp H
 obtain ⟨⟨t514, t517⟩, A170, H⟩ := H
 try dsimp only at H
 have A17 := Aside0.mk A170
 clear A170
 replace H := Option.bind_eq_some_iff.mp H
 obtain ⟨⟨t518, t519⟩, A180, H⟩ := H
 try dsimp only at H
 have A18 := Aside0.mk A180
 clear A180
 replace H := Option.bind_eq_some_iff.mp H
 obtain ⟨⟨t520, t521⟩, A190, H⟩ := H
 try dsimp only at H
 have A19 := Aside0.mk A190
 clear A190
 by_cases c20 : (t487 != t494) = true
 ·rw [if_pos c20] at H
  exact absurd H (by simp)
 rw [if_neg c20] at H
 have c20b0 : (t487 != t494) = false := by simpa using c20
 (try (have c20b1 : decide (t487 = t494) = true := by simpa using c20))
 (try (have c20b2 : (t487 == t494) = true := by simpa using c20))
 clear c20
 replace H := Option.bind_eq_some_iff.mp H
 obtain ⟨t522, A210, H⟩ := H
 try dsimp only at H
 have A21 := Aside0.mk A210
 clear A210
 by_cases c22 : t522 = true
 rotate_left
 ·replace c22 := Bool.eq_false_iff.mpr c22
  subst c22
  have H1 : (none) = some r := by rw [if_neg (show ¬ (false = true) by decide)] at H; exact H
  clear H
  have H := H1
  clear H1
  exact absurd H (by simp)
 subst c22
 rw [if_pos rfl] at H
 by_cases c23 : (t501 != t508) = true
 ·rw [if_pos c23] at H
  exact absurd H (by simp)
 rw [if_neg c23] at H
 have c23b0 : (t501 != t508) = false := by simpa using c23
 (try (have c23b1 : decide (t501 = t508) = true := by simpa using c23))
 (try (have c23b2 : (t501 == t508) = true := by simpa using c23))
 clear c23
 replace H := Option.bind_eq_some_iff.mp H
 obtain ⟨t523, A240, H⟩ := H
 try dsimp only at H
 have A24 := Aside0.mk A240
 clear A240
 by_cases c25 : t523 = true
 rotate_left
 ·replace c25 := Bool.eq_false_iff.mpr c25
  subst c25
  have H1 : (none) = some r := by rw [if_neg (show ¬ (false = true) by decide)] at H; exact H
  clear H
  have H := H1
  clear H1
  exact absurd H (by simp)
 subst c25
 rw [if_pos rfl] at H
 by_cases c26 : (t513 != t517) = true
 ·rw [if_pos c26] at H
  exact absurd H (by simp)
 rw [if_neg c26] at H
 have c26b0 : (t513 != t517) = false := by simpa using c26
 (try (have c26b1 : decide (t513 = t517) = true := by simpa using c26))
 (try (have c26b2 : (t513 == t517) = true := by simpa using c26))
 clear c26
 replace H := Option.bind_eq_some_iff.mp H
 obtain ⟨t524, A270, H⟩ := H
 try dsimp only at H
 have A27 := Aside0.mk A270
 clear A270
 by_cases c28 : t524 = true
 rotate_left
 ·replace c28 := Bool.eq_false_iff.mpr c28
  subst c28
  have H1 : (none) = some r := by rw [if_neg (show ¬ (false = true) by decide)] at H; exact H
  clear H
  have H := H1
  clear H1
  exact absurd H (by simp)
 subst c28
 rw [if_pos rfl] at H
 by_cases c29 : (t519 != t521) = true
 ·rw [if_pos c29] at H
  exact absurd H (by simp)
 rw [if_neg c29] at H
 have c29b0 : (t519 != t521) = false := by simpa using c29
 (try (have c29b1 : decide (t519 = t521) = true := by simpa using c29))
 (try (have c29b2 : (t519 == t521) = true := by simpa using c29))
 clear c29
 by_cases c30 : t518 = t520
 rotate_left
 ·rw [if_neg c30] at H
  exact absurd H (by simp)
 rw [if_pos c30] at H
 have c30b0 : (t518 == t520) = true := beq_iff_eq.mpr c30
 have c30b1 : (t518 != t520) = false := bne_eq_false_iff_eq.mpr c30
 clear c30
 replace H := Option.bind_eq_some_iff.mp H
 obtain ⟨t525, A310, H⟩ := H
 try dsimp only at H
 have A31 := Aside0.mk A310
 clear A310
 by_cases c32 : (t487 != t525) = true
 ·rw [if_pos c32] at H
  exact absurd H (by simp)
 rw [if_neg c32] at H
 have c32b0 : (t487 != t525) = false := by simpa using c32
 (try (have c32b1 : decide (t487 = t525) = true := by simpa using c32))
 (try (have c32b2 : (t487 == t525) = true := by simpa using c32))
 clear c32
 replace H := Option.bind_eq_some_iff.mp H
 obtain ⟨t526, A330, H⟩ := H
 try dsimp only at H
 have A33 := Aside0.mk A330
 clear A330
 replace H := Option.bind_eq_some_iff.mp H
 obtain ⟨t527, A340, H⟩ := H
 try dsimp only at H
 have A34 := Aside0.mk A340
 clear A340
 by_cases c35 : (t526 != t527) = true
 ·rw [if_pos c35] at H
  exact absurd H (by simp)
 rw [if_neg c35] at H
 have c35b0 : (t526 != t527) = false := by simpa using c35
 (try (have c35b1 : decide (t526 = t527) = true := by simpa using c35))
 (try (have c35b2 : (t526 == t527) = true := by simpa using c35))
 clear c35
 by_cases c36 : (t501 != t487) = true
 ·rw [if_pos c36] at H
  exact absurd H (by simp)
 rw [if_neg c36] at H
 have c36b0 : (t501 != t487) = false := by simpa using c36
 (try (have c36b1 : decide (t501 = t487) = true := by simpa using c36))
 (try (have c36b2 : (t501 == t487) = true := by simpa using c36))
 clear c36
 by_cases c37 : (t513 != t487) = true
 ·rw [if_pos c37] at H
  exact absurd H (by simp)
 rw [if_neg c37] at H
 have c37b0 : (t513 != t487) = false := by simpa using c37
 (try (have c37b1 : decide (t513 = t487) = true := by simpa using c37))
 (try (have c37b2 : (t513 == t487) = true := by simpa using c37))
 clear c37
 by_cases c38 : (t519 != t487) = true
 ·rw [if_pos c38] at H
  exact absurd H (by simp)
 rw [if_neg c38] at H
 have c38b0 : (t519 != t487) = false := by simpa using c38
 (try (have c38b1 : decide (t519 = t487) = true := by simpa using c38))
 (try (have c38b2 : (t519 == t487) = true := by simpa using c38))
 clear c38
 have HC39 := Aside0.mk H
 clear H
 go_enter Try.func4, Try.ntmps4
 try go_wp2_with (first | ((with_reducible refine gate_dst (N := 7) rfl ?_); (try (refine gate_guard (by rfl) ?_; dsimp only)); refine box_event ?hg (N := 7) ?hd (cs := #[.int .i64 a0_0, .int .i64 a0_1, .slice A0_2 l0_2.length c0_2]) (t := 30) ?hr ?_; (case hd => rfl); (case hg => rfl); (case hr => first | (go_simp; done) | (go_simp; rfl)); intro gb479 hg w40 hbox hb; have n0_ := Aside0.mk (below_step zn36 hb); have n1_ := Aside0.mk (hbox); have n2_ := Aside0.mk ((by rw [hg]; exact (below_size zn36) : w.heap.size ≤ gb479)); have n3_ := Aside0.mk ((by rw [hg]; exact (below_size zn36) : w.heap.size ≤ gb479)); clear HB; have HB := n0_; have BK479 := n1_; have GW479 := n2_; have GE479 := n3_; clear n0_ n1_ n2_ n3_; clear hb hbox hg) | ((with_reducible refine gate_dst (N := 8) rfl ?_); (try (refine gate_guard (by rfl) ?_; dsimp only)); refine box_event ?hg (N := 8) ?hd (cs := #[.int .i64 a1_0, .int .i64 a1_1, .slice A1_2 l1_2.length c1_2]) (t := 30) ?hr ?_; (case hd => rfl); (case hg => rfl); (case hr => first | (go_simp; done) | (go_simp; rfl)); intro gb480 hg w41 hbox hb; have n0_ := Aside0.mk (blk_below (g := gb479) (o := .cells #[.int .i64 a0_0, .int .i64 a0_1, .slice A0_2 l0_2.length c0_2] 30 (0, 0)) zn4 hb); have n1_ := Aside0.mk (below_step zn30 hb); have n2_ := Aside0.mk (hbox); have n3_ := Aside0.mk ((by rw [hg]; exact (below_size zn30) : w.heap.size ≤ gb480)); have n4_ := Aside0.mk ((by rw [hg]; exact (below_size zn30) : w.heap.size ≤ gb480)); have n5_ := Aside0.mk ((zn70 : gb479 ≠ gb480)); have n6_ := Aside0.mk ((zn72 : gb480 ≠ gb479)); clear BK479; clear HB; have BK479 := n0_; have HB := n1_; have BK480 := n2_; have GW480 := n3_; have GE480 := n4_; have NB479_480 := n5_; have NB480_479 := n6_; clear n0_ n1_ n2_ n3_ n4_ n5_ n6_; clear hb hbox hg) | ((with_reducible refine gate_dst (N := 10) rfl ?_); (try (refine gate_guard (by rfl) ?_; dsimp only)); refine box_event ?hg (N := 10) ?hd (cs := #[.int .i64 a3_0, .int .i64 a3_1, .slice A3_2 l3_2.length c3_2]) (t := 30) ?hr ?_; (case hd => rfl); (case hg => rfl); (case hr => first | (go_simp; done) | (go_simp; rfl)); intro gb481 hg w42 hbox hb; have n0_ := Aside0.mk (blk_below (g := gb479) (o := .cells #[.int .i64 a0_0, .int .i64 a0_1, .slice A0_2 l0_2.length c0_2] 30 (0, 0)) zn4 hb); have n1_ := Aside0.mk (blk_below (g := gb480) (o := .cells #[.int .i64 a1_0, .int .i64 a1_1, .slice A1_2 l1_2.length c1_2] 30 (0, 0)) zn1 hb); have n2_ := Aside0.mk (below_step zn27 hb); have n3_ := Aside0.mk (hbox); have n4_ := Aside0.mk ((by rw [hg]; exact (below_size zn27) : w.heap.size ≤ gb481)); have n5_ := Aside0.mk ((by rw [hg]; exact (below_size zn27) : w.heap.size ≤ gb481)); have n6_ := Aside0.mk ((zn70 : gb479 ≠ gb481)); have n7_ := Aside0.mk ((zn72 : gb481 ≠ gb479)); have n8_ := Aside0.mk ((zn67 : gb480 ≠ gb481)); have n9_ := Aside0.mk ((zn68 : gb481 ≠ gb480)); clear BK479; clear BK480; clear HB; have BK479 := n0_; have BK480 := n1_; have HB := n2_; have BK481 := n3_; have GW481 := n4_; have GE481 := n5_; have NB479_481 := n6_; have NB481_479 := n7_; have NB480_481 := n8_; have NB481_480 := n9_; clear n0_ n1_ n2_ n3_ n4_ n5_ n6_ n7_ n8_ n9_; clear hb hbox hg; have hnb43 := NB479_480.out; have hnc43 := NB480_479.out; have hnb44 := NB479_481.out; have hnc44 := NB481_479.out; have hcz45_0 : w42.cell? ⟨gb479, 0, none⟩ = some (.int .i64 a0_0) := (blk_cell BK479.out 0).trans rfl; have hcz45_1 : w42.cell? ⟨gb479, 1, none⟩ = some (.int .i64 a0_1) := (blk_cell BK479.out 1).trans rfl; have hcz45_2 : w42.cell? ⟨gb479, 2, none⟩ = some (.slice A0_2 l0_2.length c0_2) := (blk_cell BK479.out 2).trans rfl; have hfz45_0 := blk_frozen BK479.out 0; have hfz45_1 := blk_frozen BK479.out 1; have hfz45_2 := blk_frozen BK479.out 2) | ((with_reducible refine gate_callee (f := 15) rfl ?_); refine goesL_ (some 82) rfl rfl Try.func15 (by kernel_rfl) rfl #[.agg #[.int .i64 a0_0, .int .i64 a0_1, .slice A0_2 l0_2.length c0_2]] rfl zn3 ?_; (with_reducible refine (impl_TurnBoard.calls k a0_0 a0_1 _ _ l0_2 t482 t483 t484 t487 _ ?side1 ?side2 A12.out).mono ?_); (case side1 => exact zn14); (case side2 => exact HC0_2.out); rintro e w46 ⟨v485, rfl, ho0, hb⟩; refine ⟨_, rfl, ?_⟩; have n0_ := Aside0.mk (Kd.R_lower ho0 (below_size zn23)); have n1_ := Aside0.mk (blk_below (g := gb479) (o := .cells #[.int .i64 a0_0, .int .i64 a0_1, .slice A0_2 l0_2.length c0_2] 30 (0, 0)) zn4 hb); have n2_ := Aside0.mk (blk_below (g := gb480) (o := .cells #[.int .i64 a1_0, .int .i64 a1_1, .slice A1_2 l1_2.length c1_2] 30 (0, 0)) zn1 hb); have n3_ := Aside0.mk (blk_below (g := gb481) (o := .cells #[.int .i64 a3_0, .int .i64 a3_1, .slice A3_2 l3_2.length c3_2] 30 (0, 0)) zn2 hb); have n4_ := Aside0.mk (below_step zn23 hb); clear BK479; clear BK480; clear BK481; clear HB; have HO486 := n0_; have BK479 := n1_; have BK480 := n2_; have BK481 := n3_; have HB := n4_; clear n0_ n1_ n2_ n3_ n4_; (try clear hb); (try clear hb2); (try clear hk); (try clear hi); (try clear ho0); (try clear hna_); (try clear hnb_)) | ((with_reducible refine gate_dst (N := 15) rfl ?_); (try (refine gate_guard (by rfl) ?_; dsimp only)); refine box_event ?hg (N := 15) ?hd (cs := #[.int .i64 0, .int .i64 0, .slice none 0 0]) (t := 30) ?hr ?_; (case hd => rfl); (case hg => rfl); (case hr => first | (go_simp; done) | (go_simp; rfl)); intro gb488 hg w47 hbox hb; have n0_ := Aside0.mk (Kd.R_below zn19 hb); have n1_ := Aside0.mk (blk_below (g := gb479) (o := .cells #[.int .i64 a0_0, .int .i64 a0_1, .slice A0_2 l0_2.length c0_2] 30 (0, 0)) zn4 hb); have n2_ := Aside0.mk (blk_below (g := gb480) (o := .cells #[.int .i64 a1_0, .int .i64 a1_1, .slice A1_2 l1_2.length c1_2] 30 (0, 0)) zn1 hb); have n3_ := Aside0.mk (blk_below (g := gb481) (o := .cells #[.int .i64 a3_0, .int .i64 a3_1, .slice A3_2 l3_2.length c3_2] 30 (0, 0)) zn2 hb); have n4_ := Aside0.mk (below_step zn23 hb); have n5_ := Aside0.mk (hbox); have n6_ := Aside0.mk ((by rw [hg]; exact (below_size zn23) : w.heap.size ≤ gb488)); have n7_ := Aside0.mk ((by rw [hg]; exact (below_size zn23) : w.heap.size ≤ gb488)); have n8_ := Aside0.mk ((zn70 : gb479 ≠ gb488)); have n9_ := Aside0.mk ((zn72 : gb488 ≠ gb479)); have n10_ := Aside0.mk ((zn67 : gb480 ≠ gb488)); have n11_ := Aside0.mk ((zn68 : gb488 ≠ gb480)); have n12_ := Aside0.mk ((zn69 : gb481 ≠ gb488)); have n13_ := Aside0.mk ((zn71 : gb488 ≠ gb481)); clear HO486; clear BK479; clear BK480; clear BK481; clear HB; have HO486 := n0_; have BK479 := n1_; have BK480 := n2_; have BK481 := n3_; have HB := n4_; have BK488 := n5_; have GW488 := n6_; have GE488 := n7_; have NB479_488 := n8_; have NB488_479 := n9_; have NB480_488 := n10_; have NB488_480 := n11_; have NB481_488 := n12_; have NB488_481 := n13_; clear n0_ n1_ n2_ n3_ n4_ n5_ n6_ n7_ n8_ n9_ n10_ n11_ n12_ n13_; clear hb hbox hg; have hnb48 := NB488_479.out; have hnc48 := NB479_488.out; have hnb49 := NB488_480.out; have hnc49 := NB480_488.out; have hnb50 := NB488_481.out; have hnc50 := NB481_488.out; have hcz51_0 : w47.cell? ⟨gb488, 0, none⟩ = some (.int .i64 0) := (blk_cell BK488.out 0).trans rfl; have hcz51_1 : w47.cell? ⟨gb488, 1, none⟩ = some (.int .i64 0) := (blk_cell BK488.out 1).trans rfl; have hcz51_2 : w47.cell? ⟨gb488, 2, none⟩ = some (.slice none 0 0) := (blk_cell BK488.out 2).trans rfl; have hfz51_0 := blk_frozen BK488.out 0; have hfz51_1 := blk_frozen BK488.out 1; have hfz51_2 := blk_frozen BK488.out 2; obtain ⟨Ao52, co52, eo52⟩ := Kd.R_slice HO486.out; subst eo52; have hcz53_0 : w47.cell? ⟨gb479, 0, none⟩ = some (.int .i64 a0_0) := (blk_cell BK479.out 0).trans rfl; have hcz53_1 : w47.cell? ⟨gb479, 1, none⟩ = some (.int .i64 a0_1) := (blk_cell BK479.out 1).trans rfl; have hcz53_2 : w47.cell? ⟨gb479, 2, none⟩ = some (.slice A0_2 l0_2.length c0_2) := (blk_cell BK479.out 2).trans rfl; have hfz53_0 := blk_frozen BK479.out 0; have hfz53_1 := blk_frozen BK479.out 1; have hfz53_2 := blk_frozen BK479.out 2) | ((with_reducible refine gate_callee (f := 16) rfl ?_); refine goesL_ (some 87) rfl rfl Try.func16 (by kernel_rfl) rfl #[.agg #[.int .i64 a0_0, .int .i64 a0_1, .slice A0_2 l0_2.length c0_2]] rfl zn3 ?_; (with_reducible refine (spec_TurnBoard.calls k a0_0 a0_1 _ _ l0_2 t489 t490 t491 t494 _ ?side1 ?side2 A13.out).mono ?_); (case side1 => exact Kd.C_below HR0_2.out zn20); (case side2 => exact HC0_2.out); rintro e w54 ⟨v492, rfl, ho0, hb⟩; refine ⟨_, rfl, ?_⟩; have n0_ := Aside0.mk (Kd.R_elder' zn62 (Kd.R_base ho0) hb); have n1_ := Aside0.mk (Kd.R_lower (Kd.R_new' ho0 (Kd.R_lt zn62)) (below_size zn20)); have n2_ := Aside0.mk (blk_below (g := gb479) (o := .cells #[.int .i64 a0_0, .int .i64 a0_1, .slice A0_2 l0_2.length c0_2] 30 (0, 0)) (by (with_reducible repeat (first | refine blk_drewN ?_ _ | refine blk_drew ?_ | refine blk_alloc ?_ _)); refine blk_far ?_ NB479_488.out _; (with_reducible repeat (first | refine blk_drewN ?_ _ | refine blk_drew ?_ | refine blk_alloc ?_ _)); refine blk_far ?_ NB479_488.out _; (with_reducible repeat (first | refine blk_drewN ?_ _ | refine blk_drew ?_ | refine blk_alloc ?_ _)); refine blk_far ?_ NB479_488.out _; first | exact BK479.out | ((with_reducible repeat (first | refine blk_drewN ?_ _ | refine blk_drew ?_ | refine blk_alloc ?_ _)); exact BK479.out)) hb); have n3_ := Aside0.mk (blk_below (g := gb480) (o := .cells #[.int .i64 a1_0, .int .i64 a1_1, .slice A1_2 l1_2.length c1_2] 30 (0, 0)) (by (with_reducible repeat (first | refine blk_drewN ?_ _ | refine blk_drew ?_ | refine blk_alloc ?_ _)); refine blk_far ?_ NB480_488.out _; (with_reducible repeat (first | refine blk_drewN ?_ _ | refine blk_drew ?_ | refine blk_alloc ?_ _)); refine blk_far ?_ NB480_488.out _; (with_reducible repeat (first | refine blk_drewN ?_ _ | refine blk_drew ?_ | refine blk_alloc ?_ _)); refine blk_far ?_ NB480_488.out _; first | exact BK480.out | ((with_reducible repeat (first | refine blk_drewN ?_ _ | refine blk_drew ?_ | refine blk_alloc ?_ _)); exact BK480.out)) hb); have n4_ := Aside0.mk (blk_below (g := gb481) (o := .cells #[.int .i64 a3_0, .int .i64 a3_1, .slice A3_2 l3_2.length c3_2] 30 (0, 0)) (by (with_reducible repeat (first | refine blk_drewN ?_ _ | refine blk_drew ?_ | refine blk_alloc ?_ _)); refine blk_far ?_ NB481_488.out _; (with_reducible repeat (first | refine blk_drewN ?_ _ | refine blk_drew ?_ | refine blk_alloc ?_ _)); refine blk_far ?_ NB481_488.out _; (with_reducible repeat (first | refine blk_drewN ?_ _ | refine blk_drew ?_ | refine blk_alloc ?_ _)); refine blk_far ?_ NB481_488.out _; first | exact BK481.out | ((with_reducible repeat (first | refine blk_drewN ?_ _ | refine blk_drew ?_ | refine blk_alloc ?_ _)); exact BK481.out)) hb); have n5_ := Aside0.mk (blk_below (g := gb488) (o := .cells #[.int .i64 t482, .int .i64 t483, .slice Ao52 t484.length co52] 30 (0, 0)) (by (with_reducible repeat (first | refine blk_drewN ?_ _ | refine blk_drew ?_ | refine blk_alloc ?_ _)); refine blk_put (cs := #[.int .i64 t482, .int .i64 t483, .slice none 0 0]) ?_ 2 _ rfl; (with_reducible repeat (first | refine blk_drewN ?_ _ | refine blk_drew ?_ | refine blk_alloc ?_ _)); refine blk_put (cs := #[.int .i64 t482, .int .i64 0, .slice none 0 0]) ?_ 1 _ rfl; (with_reducible repeat (first | refine blk_drewN ?_ _ | refine blk_drew ?_ | refine blk_alloc ?_ _)); refine blk_put (cs := #[.int .i64 0, .int .i64 0, .slice none 0 0]) ?_ 0 _ rfl; first | exact BK488.out | ((with_reducible repeat (first | refine blk_drewN ?_ _ | refine blk_drew ?_ | refine blk_alloc ?_ _)); exact BK488.out)) hb); have n6_ := Aside0.mk (below_step zn20 hb); clear HO486; clear BK479; clear BK480; clear BK481; clear BK488; clear HB; have HO486 := n0_; have HO493 := n1_; have BK479 := n2_; have BK480 := n3_; have BK481 := n4_; have BK488 := n5_; have HB := n6_; clear n0_ n1_ n2_ n3_ n4_ n5_ n6_; (try clear hb); (try clear hb2); (try clear hk); (try clear hi); (try clear ho0); (try clear hna_); (try clear hnb_)) | ((with_reducible refine gate_dst (N := 17) rfl ?_); (try (refine gate_guard (by rfl) ?_; dsimp only)); refine box_event ?hg (N := 17) ?hd (cs := #[.int .i64 0, .int .i64 0, .slice none 0 0]) (t := 30) ?hr ?_; (case hd => rfl); (case hg => rfl); (case hr => first | (go_simp; done) | (go_simp; rfl)); intro gb495 hg w55 hbox hb; have n0_ := Aside0.mk (Kd.R_below zn19 hb); have n1_ := Aside0.mk (Kd.R_below zn21 hb); have n2_ := Aside0.mk (blk_below (g := gb479) (o := .cells #[.int .i64 a0_0, .int .i64 a0_1, .slice A0_2 l0_2.length c0_2] 30 (0, 0)) zn4 hb); have n3_ := Aside0.mk (blk_below (g := gb480) (o := .cells #[.int .i64 a1_0, .int .i64 a1_1, .slice A1_2 l1_2.length c1_2] 30 (0, 0)) zn1 hb); have n4_ := Aside0.mk (blk_below (g := gb481) (o := .cells #[.int .i64 a3_0, .int .i64 a3_1, .slice A3_2 l3_2.length c3_2] 30 (0, 0)) zn2 hb); have n5_ := Aside0.mk (blk_below (g := gb488) (o := .cells #[.int .i64 t482, .int .i64 t483, .slice Ao52 t484.length co52] 30 (0, 0)) zn7 hb); have n6_ := Aside0.mk (below_step zn20 hb); have n7_ := Aside0.mk (hbox); have n8_ := Aside0.mk ((by rw [hg]; exact (below_size zn20) : w.heap.size ≤ gb495)); have n9_ := Aside0.mk ((by rw [hg]; exact (below_size zn20) : w.heap.size ≤ gb495)); have n10_ := Aside0.mk ((zn70 : gb479 ≠ gb495)); have n11_ := Aside0.mk ((zn72 : gb495 ≠ gb479)); have n12_ := Aside0.mk ((zn67 : gb480 ≠ gb495)); have n13_ := Aside0.mk ((zn68 : gb495 ≠ gb480)); have n14_ := Aside0.mk ((zn69 : gb481 ≠ gb495)); have n15_ := Aside0.mk ((zn71 : gb495 ≠ gb481)); have n16_ := Aside0.mk ((zn73 : gb488 ≠ gb495)); have n17_ := Aside0.mk ((zn74 : gb495 ≠ gb488)); clear HO486; clear HO493; clear BK479; clear BK480; clear BK481; clear BK488; clear HB; have HO486 := n0_; have HO493 := n1_; have BK479 := n2_; have BK480 := n3_; have BK481 := n4_; have BK488 := n5_; have HB := n6_; have BK495 := n7_; have GW495 := n8_; have GE495 := n9_; have NB479_495 := n10_; have NB495_479 := n11_; have NB480_495 := n12_; have NB495_480 := n13_; have NB481_495 := n14_; have NB495_481 := n15_; have NB488_495 := n16_; have NB495_488 := n17_; clear n0_ n1_ n2_ n3_ n4_ n5_ n6_ n7_ n8_ n9_ n10_ n11_ n12_ n13_ n14_ n15_ n16_ n17_; clear hb hbox hg; have hnb56 := NB495_479.out; have hnc56 := NB479_495.out; have hnb57 := NB495_480.out; have hnc57 := NB480_495.out; have hnb58 := NB495_481.out; have hnc58 := NB481_495.out; have hnb59 := NB495_488.out; have hnc59 := NB488_495.out; have hcz60_0 : w55.cell? ⟨gb495, 0, none⟩ = some (.int .i64 0) := (blk_cell BK495.out 0).trans rfl; have hcz60_1 : w55.cell? ⟨gb495, 1, none⟩ = some (.int .i64 0) := (blk_cell BK495.out 1).trans rfl; have hcz60_2 : w55.cell? ⟨gb495, 2, none⟩ = some (.slice none 0 0) := (blk_cell BK495.out 2).trans rfl; have hfz60_0 := blk_frozen BK495.out 0; have hfz60_1 := blk_frozen BK495.out 1; have hfz60_2 := blk_frozen BK495.out 2; obtain ⟨Ao61, co61, eo61⟩ := Kd.R_slice HO493.out; subst eo61; have hcz62_0 : w55.cell? ⟨gb479, 0, none⟩ = some (.int .i64 a0_0) := (blk_cell BK479.out 0).trans rfl; have hcz62_1 : w55.cell? ⟨gb479, 1, none⟩ = some (.int .i64 a0_1) := (blk_cell BK479.out 1).trans rfl; have hcz62_2 : w55.cell? ⟨gb479, 2, none⟩ = some (.slice A0_2 l0_2.length c0_2) := (blk_cell BK479.out 2).trans rfl; have hfz62_0 := blk_frozen BK479.out 0; have hfz62_1 := blk_frozen BK479.out 1; have hfz62_2 := blk_frozen BK479.out 2) | ((with_reducible refine gate_callee (f := 17) rfl ?_); refine goesL_ (some 92) rfl rfl Try.func17 (by kernel_rfl) rfl #[.agg #[.int .i64 a0_0, .int .i64 a0_1, .slice A0_2 l0_2.length c0_2]] rfl zn3 ?_; (with_reducible refine (impl_MirrorBoard.calls k a0_0 a0_1 _ _ l0_2 t496 t497 t498 t501 _ ?side1 ?side2 A14.out).mono ?_); (case side1 => exact Kd.C_below HR0_2.out zn18); (case side2 => exact HC0_2.out); rintro e w63 ⟨v499, rfl, ho0, hb⟩; refine ⟨_, rfl, ?_⟩; have n0_ := Aside0.mk (Kd.R_elder' zn61 (Kd.R_base ho0) hb); have n1_ := Aside0.mk (Kd.R_elder' zn60 (Kd.R_base ho0) hb); have n2_ := Aside0.mk (Kd.R_lower (Kd.R_new' (Kd.R_new' ho0 (Kd.R_lt zn61)) (Kd.R_lt zn60)) (below_size zn18)); have n3_ := Aside0.mk (blk_below (g := gb479) (o := .cells #[.int .i64 a0_0, .int .i64 a0_1, .slice A0_2 l0_2.length c0_2] 30 (0, 0)) (by (with_reducible repeat (first | refine blk_drewN ?_ _ | refine blk_drew ?_ | refine blk_alloc ?_ _)); refine blk_far ?_ NB479_495.out _; (with_reducible repeat (first | refine blk_drewN ?_ _ | refine blk_drew ?_ | refine blk_alloc ?_ _)); refine blk_far ?_ NB479_495.out _; (with_reducible repeat (first | refine blk_drewN ?_ _ | refine blk_drew ?_ | refine blk_alloc ?_ _)); refine blk_far ?_ NB479_495.out _; first | exact BK479.out | ((with_reducible repeat (first | refine blk_drewN ?_ _ | refine blk_drew ?_ | refine blk_alloc ?_ _)); exact BK479.out)) hb); have n4_ := Aside0.mk (blk_below (g := gb480) (o := .cells #[.int .i64 a1_0, .int .i64 a1_1, .slice A1_2 l1_2.length c1_2] 30 (0, 0)) (by (with_reducible repeat (first | refine blk_drewN ?_ _ | refine blk_drew ?_ | refine blk_alloc ?_ _)); refine blk_far ?_ NB480_495.out _; (with_reducible repeat (first | refine blk_drewN ?_ _ | refine blk_drew ?_ | refine blk_alloc ?_ _)); refine blk_far ?_ NB480_495.out _; (with_reducible repeat (first | refine blk_drewN ?_ _ | refine blk_drew ?_ | refine blk_alloc ?_ _)); refine blk_far ?_ NB480_495.out _; first | exact BK480.out | ((with_reducible repeat (first | refine blk_drewN ?_ _ | refine blk_drew ?_ | refine blk_alloc ?_ _)); exact BK480.out)) hb); have n5_ := Aside0.mk (blk_below (g := gb481) (o := .cells #[.int .i64 a3_0, .int .i64 a3_1, .slice A3_2 l3_2.length c3_2] 30 (0, 0)) (by (with_reducible repeat (first | refine blk_drewN ?_ _ | refine blk_drew ?_ | refine blk_alloc ?_ _)); refine blk_far ?_ NB481_495.out _; (with_reducible repeat (first | refine blk_drewN ?_ _ | refine blk_drew ?_ | refine blk_alloc ?_ _)); refine blk_far ?_ NB481_495.out _; (with_reducible repeat (first | refine blk_drewN ?_ _ | refine blk_drew ?_ | refine blk_alloc ?_ _)); refine blk_far ?_ NB481_495.out _; first | exact BK481.out | ((with_reducible repeat (first | refine blk_drewN ?_ _ | refine blk_drew ?_ | refine blk_alloc ?_ _)); exact BK481.out)) hb); have n6_ := Aside0.mk (blk_below (g := gb488) (o := .cells #[.int .i64 t482, .int .i64 t483, .slice Ao52 t484.length co52] 30 (0, 0)) (by (with_reducible repeat (first | refine blk_drewN ?_ _ | refine blk_drew ?_ | refine blk_alloc ?_ _)); refine blk_far ?_ NB488_495.out _; (with_reducible repeat (first | refine blk_drewN ?_ _ | refine blk_drew ?_ | refine blk_alloc ?_ _)); refine blk_far ?_ NB488_495.out _; (with_reducible repeat (first | refine blk_drewN ?_ _ | refine blk_drew ?_ | refine blk_alloc ?_ _)); refine blk_far ?_ NB488_495.out _; first | exact BK488.out | ((with_reducible repeat (first | refine blk_drewN ?_ _ | refine blk_drew ?_ | refine blk_alloc ?_ _)); exact BK488.out)) hb); have n7_ := Aside0.mk (blk_below (g := gb495) (o := .cells #[.int .i64 t489, .int .i64 t490, .slice Ao61 t491.length co61] 30 (0, 0)) (by (with_reducible repeat (first | refine blk_drewN ?_ _ | refine blk_drew ?_ | refine blk_alloc ?_ _)); refine blk_put (cs := #[.int .i64 t489, .int .i64 t490, .slice none 0 0]) ?_ 2 _ rfl; (with_reducible repeat (first | refine blk_drewN ?_ _ | refine blk_drew ?_ | refine blk_alloc ?_ _)); refine blk_put (cs := #[.int .i64 t489, .int .i64 0, .slice none 0 0]) ?_ 1 _ rfl; (with_reducible repeat (first | refine blk_drewN ?_ _ | refine blk_drew ?_ | refine blk_alloc ?_ _)); refine blk_put (cs := #[.int .i64 0, .int .i64 0, .slice none 0 0]) ?_ 0 _ rfl; first | exact BK495.out | ((with_reducible repeat (first | refine blk_drewN ?_ _ | refine blk_drew ?_ | refine blk_alloc ?_ _)); exact BK495.out)) hb); have n8_ := Aside0.mk (below_step zn18 hb); clear HO486; clear HO493; clear BK479; clear BK480; clear BK481; clear BK488; clear BK495; clear HB; have HO486 := n0_; have HO493 := n1_; have HO500 := n2_; have BK479 := n3_; have BK480 := n4_; have BK481 := n5_; have BK488 := n6_; have BK495 := n7_; have HB := n8_; clear n0_ n1_ n2_ n3_ n4_ n5_ n6_ n7_ n8_; (try clear hb); (try clear hb2); (try clear hk); (try clear hi); (try clear ho0); (try clear hna_); (try clear hnb_)) | ((with_reducible refine gate_dst (N := 19) rfl ?_); (try (refine gate_guard (by rfl) ?_; dsimp only)); refine box_event ?hg (N := 19) ?hd (cs := #[.int .i64 0, .int .i64 0, .slice none 0 0]) (t := 30) ?hr ?_; (case hd => rfl); (case hg => rfl); (case hr => first | (go_simp; done) | (go_simp; rfl)); intro gb502 hg w64 hbox hb; have n0_ := Aside0.mk (Kd.R_below zn19 hb); have n1_ := Aside0.mk (Kd.R_below zn21 hb); have n2_ := Aside0.mk (Kd.R_below zn24 hb); have n3_ := Aside0.mk (blk_below (g := gb479) (o := .cells #[.int .i64 a0_0, .int .i64 a0_1, .slice A0_2 l0_2.length c0_2] 30 (0, 0)) zn4 hb); have n4_ := Aside0.mk (blk_below (g := gb480) (o := .cells #[.int .i64 a1_0, .int .i64 a1_1, .slice A1_2 l1_2.length c1_2] 30 (0, 0)) zn1 hb); have n5_ := Aside0.mk (blk_below (g := gb481) (o := .cells #[.int .i64 a3_0, .int .i64 a3_1, .slice A3_2 l3_2.length c3_2] 30 (0, 0)) zn2 hb); have n6_ := Aside0.mk (blk_below (g := gb488) (o := .cells #[.int .i64 t482, .int .i64 t483, .slice Ao52 t484.length co52] 30 (0, 0)) zn7 hb); have n7_ := Aside0.mk (blk_below (g := gb495) (o := .cells #[.int .i64 t489, .int .i64 t490, .slice Ao61 t491.length co61] 30 (0, 0)) zn13 hb); have n8_ := Aside0.mk (below_step zn18 hb); have n9_ := Aside0.mk (hbox); have n10_ := Aside0.mk ((by rw [hg]; exact (below_size zn18) : w.heap.size ≤ gb502)); have n11_ := Aside0.mk ((by rw [hg]; exact (below_size zn18) : w.heap.size ≤ gb502)); have n12_ := Aside0.mk ((zn70 : gb479 ≠ gb502)); have n13_ := Aside0.mk ((zn72 : gb502 ≠ gb479)); have n14_ := Aside0.mk ((zn67 : gb480 ≠ gb502)); have n15_ := Aside0.mk ((zn68 : gb502 ≠ gb480)); have n16_ := Aside0.mk ((zn69 : gb481 ≠ gb502)); have n17_ := Aside0.mk ((zn71 : gb502 ≠ gb481)); have n18_ := Aside0.mk ((zn73 : gb488 ≠ gb502)); have n19_ := Aside0.mk ((zn74 : gb502 ≠ gb488)); have n20_ := Aside0.mk ((zn77 : gb495 ≠ gb502)); have n21_ := Aside0.mk ((zn78 : gb502 ≠ gb495)); clear HO486; clear HO493; clear HO500; clear BK479; clear BK480; clear BK481; clear BK488; clear BK495; clear HB; have HO486 := n0_; have HO493 := n1_; have HO500 := n2_; have BK479 := n3_; have BK480 := n4_; have BK481 := n5_; have BK488 := n6_; have BK495 := n7_; have HB := n8_; have BK502 := n9_; have GW502 := n10_; have GE502 := n11_; have NB479_502 := n12_; have NB502_479 := n13_; have NB480_502 := n14_; have NB502_480 := n15_; have NB481_502 := n16_; have NB502_481 := n17_; have NB488_502 := n18_; have NB502_488 := n19_; have NB495_502 := n20_; have NB502_495 := n21_; clear n0_ n1_ n2_ n3_ n4_ n5_ n6_ n7_ n8_ n9_ n10_ n11_ n12_ n13_ n14_ n15_ n16_ n17_ n18_ n19_ n20_ n21_; clear hb hbox hg; have hnb65 := NB502_479.out; have hnc65 := NB479_502.out; have hnb66 := NB502_480.out; have hnc66 := NB480_502.out; have hnb67 := NB502_481.out; have hnc67 := NB481_502.out; have hnb68 := NB502_488.out; have hnc68 := NB488_502.out; have hnb69 := NB502_495.out; have hnc69 := NB495_502.out; have hcz70_0 : w64.cell? ⟨gb502, 0, none⟩ = some (.int .i64 0) := (blk_cell BK502.out 0).trans rfl; have hcz70_1 : w64.cell? ⟨gb502, 1, none⟩ = some (.int .i64 0) := (blk_cell BK502.out 1).trans rfl; have hcz70_2 : w64.cell? ⟨gb502, 2, none⟩ = some (.slice none 0 0) := (blk_cell BK502.out 2).trans rfl; have hfz70_0 := blk_frozen BK502.out 0; have hfz70_1 := blk_frozen BK502.out 1; have hfz70_2 := blk_frozen BK502.out 2; obtain ⟨Ao71, co71, eo71⟩ := Kd.R_slice HO500.out; subst eo71; have hcz72_0 : w64.cell? ⟨gb479, 0, none⟩ = some (.int .i64 a0_0) := (blk_cell BK479.out 0).trans rfl; have hcz72_1 : w64.cell? ⟨gb479, 1, none⟩ = some (.int .i64 a0_1) := (blk_cell BK479.out 1).trans rfl; have hcz72_2 : w64.cell? ⟨gb479, 2, none⟩ = some (.slice A0_2 l0_2.length c0_2) := (blk_cell BK479.out 2).trans rfl; have hfz72_0 := blk_frozen BK479.out 0; have hfz72_1 := blk_frozen BK479.out 1; have hfz72_2 := blk_frozen BK479.out 2) | ((with_reducible refine gate_callee (f := 18) rfl ?_); refine goesL_ (some 97) rfl rfl Try.func18 (by kernel_rfl) rfl #[.agg #[.int .i64 a0_0, .int .i64 a0_1, .slice A0_2 l0_2.length c0_2]] rfl zn3 ?_; (with_reducible refine (spec_MirrorBoard.calls k a0_0 a0_1 _ _ l0_2 t503 t504 t505 t508 _ ?side1 ?side2 A15.out).mono ?_); (case side1 => exact Kd.C_below HR0_2.out zn15); (case side2 => exact HC0_2.out); rintro e w73 ⟨v506, rfl, ho0, hb⟩; refine ⟨_, rfl, ?_⟩; have n0_ := Aside0.mk (Kd.R_elder' zn59 (Kd.R_base ho0) hb); have n1_ := Aside0.mk (Kd.R_elder' zn58 (Kd.R_base ho0) hb); have n2_ := Aside0.mk (Kd.R_elder' zn57 (Kd.R_base ho0) hb); have n3_ := Aside0.mk (Kd.R_lower (Kd.R_new' (Kd.R_new' (Kd.R_new' ho0 (Kd.R_lt zn59)) (Kd.R_lt zn58)) (Kd.R_lt zn57)) (below_size zn15)); have n4_ := Aside0.mk (blk_below (g := gb479) (o := .cells #[.int .i64 a0_0, .int .i64 a0_1, .slice A0_2 l0_2.length c0_2] 30 (0, 0)) (by (with_reducible repeat (first | refine blk_drewN ?_ _ | refine blk_drew ?_ | refine blk_alloc ?_ _)); refine blk_far ?_ NB479_502.out _; (with_reducible repeat (first | refine blk_drewN ?_ _ | refine blk_drew ?_ | refine blk_alloc ?_ _)); refine blk_far ?_ NB479_502.out _; (with_reducible repeat (first | refine blk_drewN ?_ _ | refine blk_drew ?_ | refine blk_alloc ?_ _)); refine blk_far ?_ NB479_502.out _; first | exact BK479.out | ((with_reducible repeat (first | refine blk_drewN ?_ _ | refine blk_drew ?_ | refine blk_alloc ?_ _)); exact BK479.out)) hb); have n5_ := Aside0.mk (blk_below (g := gb480) (o := .cells #[.int .i64 a1_0, .int .i64 a1_1, .slice A1_2 l1_2.length c1_2] 30 (0, 0)) (by (with_reducible repeat (first | refine blk_drewN ?_ _ | refine blk_drew ?_ | refine blk_alloc ?_ _)); refine blk_far ?_ NB480_502.out _; (with_reducible repeat (first | refine blk_drewN ?_ _ | refine blk_drew ?_ | refine blk_alloc ?_ _)); refine blk_far ?_ NB480_502.out _; (with_reducible repeat (first | refine blk_drewN ?_ _ | refine blk_drew ?_ | refine blk_alloc ?_ _)); refine blk_far ?_ NB480_502.out _; first | exact BK480.out | ((with_reducible repeat (first | refine blk_drewN ?_ _ | refine blk_drew ?_ | refine blk_alloc ?_ _)); exact BK480.out)) hb); have n6_ := Aside0.mk (blk_below (g := gb481) (o := .cells #[.int .i64 a3_0, .int .i64 a3_1, .slice A3_2 l3_2.length c3_2] 30 (0, 0)) (by (with_reducible repeat (first | refine blk_drewN ?_ _ | refine blk_drew ?_ | refine blk_alloc ?_ _)); refine blk_far ?_ NB481_502.out _; (with_reducible repeat (first | refine blk_drewN ?_ _ | refine blk_drew ?_ | refine blk_alloc ?_ _)); refine blk_far ?_ NB481_502.out _; (with_reducible repeat (first | refine blk_drewN ?_ _ | refine blk_drew ?_ | refine blk_alloc ?_ _)); refine blk_far ?_ NB481_502.out _; first | exact BK481.out | ((with_reducible repeat (first | refine blk_drewN ?_ _ | refine blk_drew ?_ | refine blk_alloc ?_ _)); exact BK481.out)) hb); have n7_ := Aside0.mk (blk_below (g := gb488) (o := .cells #[.int .i64 t482, .int .i64 t483, .slice Ao52 t484.length co52] 30 (0, 0)) (by (with_reducible repeat (first | refine blk_drewN ?_ _ | refine blk_drew ?_ | refine blk_alloc ?_ _)); refine blk_far ?_ NB488_502.out _; (with_reducible repeat (first | refine blk_drewN ?_ _ | refine blk_drew ?_ | refine blk_alloc ?_ _)); refine blk_far ?_ NB488_502.out _; (with_reducible repeat (first | refine blk_drewN ?_ _ | refine blk_drew ?_ | refine blk_alloc ?_ _)); refine blk_far ?_ NB488_502.out _; first | exact BK488.out | ((with_reducible repeat (first | refine blk_drewN ?_ _ | refine blk_drew ?_ | refine blk_alloc ?_ _)); exact BK488.out)) hb); have n8_ := Aside0.mk (blk_below (g := gb495) (o := .cells #[.int .i64 t489, .int .i64 t490, .slice Ao61 t491.length co61] 30 (0, 0)) (by (with_reducible repeat (first | refine blk_drewN ?_ _ | refine blk_drew ?_ | refine blk_alloc ?_ _)); refine blk_far ?_ NB495_502.out _; (with_reducible repeat (first | refine blk_drewN ?_ _ | refine blk_drew ?_ | refine blk_alloc ?_ _)); refine blk_far ?_ NB495_502.out _; (with_reducible repeat (first | refine blk_drewN ?_ _ | refine blk_drew ?_ | refine blk_alloc ?_ _)); refine blk_far ?_ NB495_502.out _; first | exact BK495.out | ((with_reducible repeat (first | refine blk_drewN ?_ _ | refine blk_drew ?_ | refine blk_alloc ?_ _)); exact BK495.out)) hb); have n9_ := Aside0.mk (blk_below (g := gb502) (o := .cells #[.int .i64 t496, .int .i64 t497, .slice Ao71 t498.length co71] 30 (0, 0)) (by (with_reducible repeat (first | refine blk_drewN ?_ _ | refine blk_drew ?_ | refine blk_alloc ?_ _)); refine blk_put (cs := #[.int .i64 t496, .int .i64 t497, .slice none 0 0]) ?_ 2 _ rfl; (with_reducible repeat (first | refine blk_drewN ?_ _ | refine blk_drew ?_ | refine blk_alloc ?_ _)); refine blk_put (cs := #[.int .i64 t496, .int .i64 0, .slice none 0 0]) ?_ 1 _ rfl; (with_reducible repeat (first | refine blk_drewN ?_ _ | refine blk_drew ?_ | refine blk_alloc ?_ _)); refine blk_put (cs := #[.int .i64 0, .int .i64 0, .slice none 0 0]) ?_ 0 _ rfl; first | exact BK502.out | ((with_reducible repeat (first | refine blk_drewN ?_ _ | refine blk_drew ?_ | refine blk_alloc ?_ _)); exact BK502.out)) hb); have n10_ := Aside0.mk (below_step zn15 hb); clear HO486; clear HO493; clear HO500; clear BK479; clear BK480; clear BK481; clear BK488; clear BK495; clear BK502; clear HB; have HO486 := n0_; have HO493 := n1_; have HO500 := n2_; have HO507 := n3_; have BK479 := n4_; have BK480 := n5_; have BK481 := n6_; have BK488 := n7_; have BK495 := n8_; have BK502 := n9_; have HB := n10_; clear n0_ n1_ n2_ n3_ n4_ n5_ n6_ n7_ n8_ n9_ n10_; (try clear hb); (try clear hb2); (try clear hk); (try clear hi); (try clear ho0); (try clear hna_); (try clear hnb_)) | ((with_reducible refine gate_dst (N := 21) rfl ?_); (try (refine gate_guard (by rfl) ?_; dsimp only)); refine box_event ?hg (N := 21) ?hd (cs := #[.int .i64 0, .int .i64 0, .slice none 0 0]) (t := 30) ?hr ?_; (case hd => rfl); (case hg => rfl); (case hr => first | (go_simp; done) | (go_simp; rfl)); intro gb509 hg w74 hbox hb; have n0_ := Aside0.mk (Kd.R_below zn19 hb); have n1_ := Aside0.mk (Kd.R_below zn21 hb); have n2_ := Aside0.mk (Kd.R_below zn24 hb); have n3_ := Aside0.mk (Kd.R_below zn26 hb); have n4_ := Aside0.mk (blk_below (g := gb479) (o := .cells #[.int .i64 a0_0, .int .i64 a0_1, .slice A0_2 l0_2.length c0_2] 30 (0, 0)) zn4 hb); have n5_ := Aside0.mk (blk_below (g := gb480) (o := .cells #[.int .i64 a1_0, .int .i64 a1_1, .slice A1_2 l1_2.length c1_2] 30 (0, 0)) zn1 hb); have n6_ := Aside0.mk (blk_below (g := gb481) (o := .cells #[.int .i64 a3_0, .int .i64 a3_1, .slice A3_2 l3_2.length c3_2] 30 (0, 0)) zn2 hb); have n7_ := Aside0.mk (blk_below (g := gb488) (o := .cells #[.int .i64 t482, .int .i64 t483, .slice Ao52 t484.length co52] 30 (0, 0)) zn7 hb); have n8_ := Aside0.mk (blk_below (g := gb495) (o := .cells #[.int .i64 t489, .int .i64 t490, .slice Ao61 t491.length co61] 30 (0, 0)) zn13 hb); have n9_ := Aside0.mk (blk_below (g := gb502) (o := .cells #[.int .i64 t496, .int .i64 t497, .slice Ao71 t498.length co71] 30 (0, 0)) zn8 hb); have n10_ := Aside0.mk (below_step zn15 hb); have n11_ := Aside0.mk (hbox); have n12_ := Aside0.mk ((by rw [hg]; exact (below_size zn15) : w.heap.size ≤ gb509)); have n13_ := Aside0.mk ((by rw [hg]; exact (below_size zn15) : w.heap.size ≤ gb509)); have n14_ := Aside0.mk ((zn70 : gb479 ≠ gb509)); have n15_ := Aside0.mk ((zn72 : gb509 ≠ gb479)); have n16_ := Aside0.mk ((zn67 : gb480 ≠ gb509)); have n17_ := Aside0.mk ((zn68 : gb509 ≠ gb480)); have n18_ := Aside0.mk ((zn69 : gb481 ≠ gb509)); have n19_ := Aside0.mk ((zn71 : gb509 ≠ gb481)); have n20_ := Aside0.mk ((zn73 : gb488 ≠ gb509)); have n21_ := Aside0.mk ((zn74 : gb509 ≠ gb488)); have n22_ := Aside0.mk ((zn77 : gb495 ≠ gb509)); have n23_ := Aside0.mk ((zn78 : gb509 ≠ gb495)); have n24_ := Aside0.mk ((zn75 : gb502 ≠ gb509)); have n25_ := Aside0.mk ((zn76 : gb509 ≠ gb502)); clear HO486; clear HO493; clear HO500; clear HO507; clear BK479; clear BK480; clear BK481; clear BK488; clear BK495; clear BK502; clear HB; have HO486 := n0_; have HO493 := n1_; have HO500 := n2_; have HO507 := n3_; have BK479 := n4_; have BK480 := n5_; have BK481 := n6_; have BK488 := n7_; have BK495 := n8_; have BK502 := n9_; have HB := n10_; have BK509 := n11_; have GW509 := n12_; have GE509 := n13_; have NB479_509 := n14_; have NB509_479 := n15_; have NB480_509 := n16_; have NB509_480 := n17_; have NB481_509 := n18_; have NB509_481 := n19_; have NB488_509 := n20_; have NB509_488 := n21_; have NB495_509 := n22_; have NB509_495 := n23_; have NB502_509 := n24_; have NB509_502 := n25_; clear n0_ n1_ n2_ n3_ n4_ n5_ n6_ n7_ n8_ n9_ n10_ n11_ n12_ n13_ n14_ n15_ n16_ n17_ n18_ n19_ n20_ n21_ n22_ n23_ n24_ n25_; clear hb hbox hg; have hnb75 := NB509_479.out; have hnc75 := NB479_509.out; have hnb76 := NB509_480.out; have hnc76 := NB480_509.out; have hnb77 := NB509_481.out; have hnc77 := NB481_509.out; have hnb78 := NB509_488.out; have hnc78 := NB488_509.out; have hnb79 := NB509_495.out; have hnc79 := NB495_509.out; have hnb80 := NB509_502.out; have hnc80 := NB502_509.out; have hcz81_0 : w74.cell? ⟨gb509, 0, none⟩ = some (.int .i64 0) := (blk_cell BK509.out 0).trans rfl; have hcz81_1 : w74.cell? ⟨gb509, 1, none⟩ = some (.int .i64 0) := (blk_cell BK509.out 1).trans rfl; have hcz81_2 : w74.cell? ⟨gb509, 2, none⟩ = some (.slice none 0 0) := (blk_cell BK509.out 2).trans rfl; have hfz81_0 := blk_frozen BK509.out 0; have hfz81_1 := blk_frozen BK509.out 1; have hfz81_2 := blk_frozen BK509.out 2; obtain ⟨Ao82, co82, eo82⟩ := Kd.R_slice HO507.out; subst eo82; have hcz83_0 : w74.cell? ⟨gb479, 0, none⟩ = some (.int .i64 a0_0) := (blk_cell BK479.out 0).trans rfl; have hcz83_1 : w74.cell? ⟨gb479, 1, none⟩ = some (.int .i64 a0_1) := (blk_cell BK479.out 1).trans rfl; have hcz83_2 : w74.cell? ⟨gb479, 2, none⟩ = some (.slice A0_2 l0_2.length c0_2) := (blk_cell BK479.out 2).trans rfl; have hfz83_0 := blk_frozen BK479.out 0; have hfz83_1 := blk_frozen BK479.out 1; have hfz83_2 := blk_frozen BK479.out 2) | ((with_reducible refine gate_callee (f := 19) rfl ?_); refine goesL_ (some 102) rfl rfl Try.func19 (by kernel_rfl) rfl #[.agg #[.int .i64 a0_0, .int .i64 a0_1, .slice A0_2 l0_2.length c0_2]] rfl zn3 ?_; (with_reducible refine (impl_CellsOf.calls k a0_0 a0_1 _ _ l0_2 t510 t513 _ ?side1 ?side2 A16.out).mono ?_); (case side1 => exact Kd.C_below HR0_2.out zn5); (case side2 => exact HC0_2.out); rintro e w84 ⟨v511, rfl, ho0, hb⟩; refine ⟨_, rfl, ?_⟩; have n0_ := Aside0.mk (Kd.R_elder' zn56 (Kd.R_base ho0) hb); have n1_ := Aside0.mk (Kd.R_elder' zn55 (Kd.R_base ho0) hb); have n2_ := Aside0.mk (Kd.R_elder' zn54 (Kd.R_base ho0) hb); have n3_ := Aside0.mk (Kd.R_elder' zn53 (Kd.R_base ho0) hb); have n4_ := Aside0.mk (Kd.R_lower (Kd.R_new' (Kd.R_new' (Kd.R_new' (Kd.R_new' ho0 (Kd.R_lt zn56)) (Kd.R_lt zn55)) (Kd.R_lt zn54)) (Kd.R_lt zn53)) (below_size zn5)); have n5_ := Aside0.mk (blk_below (g := gb479) (o := .cells #[.int .i64 a0_0, .int .i64 a0_1, .slice A0_2 l0_2.length c0_2] 30 (0, 0)) (by (with_reducible repeat (first | refine blk_drewN ?_ _ | refine blk_drew ?_ | refine blk_alloc ?_ _)); refine blk_far ?_ NB479_509.out _; (with_reducible repeat (first | refine blk_drewN ?_ _ | refine blk_drew ?_ | refine blk_alloc ?_ _)); refine blk_far ?_ NB479_509.out _; (with_reducible repeat (first | refine blk_drewN ?_ _ | refine blk_drew ?_ | refine blk_alloc ?_ _)); refine blk_far ?_ NB479_509.out _; first | exact BK479.out | ((with_reducible repeat (first | refine blk_drewN ?_ _ | refine blk_drew ?_ | refine blk_alloc ?_ _)); exact BK479.out)) hb); have n6_ := Aside0.mk (blk_below (g := gb480) (o := .cells #[.int .i64 a1_0, .int .i64 a1_1, .slice A1_2 l1_2.length c1_2] 30 (0, 0)) (by (with_reducible repeat (first | refine blk_drewN ?_ _ | refine blk_drew ?_ | refine blk_alloc ?_ _)); refine blk_far ?_ NB480_509.out _; (with_reducible repeat (first | refine blk_drewN ?_ _ | refine blk_drew ?_ | refine blk_alloc ?_ _)); refine blk_far ?_ NB480_509.out _; (with_reducible repeat (first | refine blk_drewN ?_ _ | refine blk_drew ?_ | refine blk_alloc ?_ _)); refine blk_far ?_ NB480_509.out _; first | exact BK480.out | ((with_reducible repeat (first | refine blk_drewN ?_ _ | refine blk_drew ?_ | refine blk_alloc ?_ _)); exact BK480.out)) hb); have n7_ := Aside0.mk (blk_below (g := gb481) (o := .cells #[.int .i64 a3_0, .int .i64 a3_1, .slice A3_2 l3_2.length c3_2] 30 (0, 0)) (by (with_reducible repeat (first | refine blk_drewN ?_ _ | refine blk_drew ?_ | refine blk_alloc ?_ _)); refine blk_far ?_ NB481_509.out _; (with_reducible repeat (first | refine blk_drewN ?_ _ | refine blk_drew ?_ | refine blk_alloc ?_ _)); refine blk_far ?_ NB481_509.out _; (with_reducible repeat (first | refine blk_drewN ?_ _ | refine blk_drew ?_ | refine blk_alloc ?_ _)); refine blk_far ?_ NB481_509.out _; first | exact BK481.out | ((with_reducible repeat (first | refine blk_drewN ?_ _ | refine blk_drew ?_ | refine blk_alloc ?_ _)); exact BK481.out)) hb); have n8_ := Aside0.mk (blk_below (g := gb488) (o := .cells #[.int .i64 t482, .int .i64 t483, .slice Ao52 t484.length co52] 30 (0, 0)) (by (with_reducible repeat (first | refine blk_drewN ?_ _ | refine blk_drew ?_ | refine blk_alloc ?_ _)); refine blk_far ?_ NB488_509.out _; (with_reducible repeat (first | refine blk_drewN ?_ _ | refine blk_drew ?_ | refine blk_alloc ?_ _)); refine blk_far ?_ NB488_509.out _; (with_reducible repeat (first | refine blk_drewN ?_ _ | refine blk_drew ?_ | refine blk_alloc ?_ _)); refine blk_far ?_ NB488_509.out _; first | exact BK488.out | ((with_reducible repeat (first | refine blk_drewN ?_ _ | refine blk_drew ?_ | refine blk_alloc ?_ _)); exact BK488.out)) hb); have n9_ := Aside0.mk (blk_below (g := gb495) (o := .cells #[.int .i64 t489, .int .i64 t490, .slice Ao61 t491.length co61] 30 (0, 0)) (by (with_reducible repeat (first | refine blk_drewN ?_ _ | refine blk_drew ?_ | refine blk_alloc ?_ _)); refine blk_far ?_ NB495_509.out _; (with_reducible repeat (first | refine blk_drewN ?_ _ | refine blk_drew ?_ | refine blk_alloc ?_ _)); refine blk_far ?_ NB495_509.out _; (with_reducible repeat (first | refine blk_drewN ?_ _ | refine blk_drew ?_ | refine blk_alloc ?_ _)); refine blk_far ?_ NB495_509.out _; first | exact BK495.out | ((with_reducible repeat (first | refine blk_drewN ?_ _ | refine blk_drew ?_ | refine blk_alloc ?_ _)); exact BK495.out)) hb); have n10_ := Aside0.mk (blk_below (g := gb502) (o := .cells #[.int .i64 t496, .int .i64 t497, .slice Ao71 t498.length co71] 30 (0, 0)) (by (with_reducible repeat (first | refine blk_drewN ?_ _ | refine blk_drew ?_ | refine blk_alloc ?_ _)); refine blk_far ?_ NB502_509.out _; (with_reducible repeat (first | refine blk_drewN ?_ _ | refine blk_drew ?_ | refine blk_alloc ?_ _)); refine blk_far ?_ NB502_509.out _; (with_reducible repeat (first | refine blk_drewN ?_ _ | refine blk_drew ?_ | refine blk_alloc ?_ _)); refine blk_far ?_ NB502_509.out _; first | exact BK502.out | ((with_reducible repeat (first | refine blk_drewN ?_ _ | refine blk_drew ?_ | refine blk_alloc ?_ _)); exact BK502.out)) hb); have n11_ := Aside0.mk (blk_below (g := gb509) (o := .cells #[.int .i64 t503, .int .i64 t504, .slice Ao82 t505.length co82] 30 (0, 0)) (by (with_reducible repeat (first | refine blk_drewN ?_ _ | refine blk_drew ?_ | refine blk_alloc ?_ _)); refine blk_put (cs := #[.int .i64 t503, .int .i64 t504, .slice none 0 0]) ?_ 2 _ rfl; (with_reducible repeat (first | refine blk_drewN ?_ _ | refine blk_drew ?_ | refine blk_alloc ?_ _)); refine blk_put (cs := #[.int .i64 t503, .int .i64 0, .slice none 0 0]) ?_ 1 _ rfl; (with_reducible repeat (first | refine blk_drewN ?_ _ | refine blk_drew ?_ | refine blk_alloc ?_ _)); refine blk_put (cs := #[.int .i64 0, .int .i64 0, .slice none 0 0]) ?_ 0 _ rfl; first | exact BK509.out | ((with_reducible repeat (first | refine blk_drewN ?_ _ | refine blk_drew ?_ | refine blk_alloc ?_ _)); exact BK509.out)) hb); have n12_ := Aside0.mk (below_step zn5 hb); clear HO486; clear HO493; clear HO500; clear HO507; clear BK479; clear BK480; clear BK481; clear BK488; clear BK495; clear BK502; clear BK509; clear HB; have HO486 := n0_; have HO493 := n1_; have HO500 := n2_; have HO507 := n3_; have HO512 := n4_; have BK479 := n5_; have BK480 := n6_; have BK481 := n7_; have BK488 := n8_; have BK495 := n9_; have BK502 := n10_; have BK509 := n11_; have HB := n12_; clear n0_ n1_ n2_ n3_ n4_ n5_ n6_ n7_ n8_ n9_ n10_ n11_ n12_; (try clear hb); (try clear hb2); (try clear hk); (try clear hi); (try clear ho0); (try clear hna_); (try clear hnb_); have hcz85_0 : w84.cell? ⟨gb479, 0, none⟩ = some (.int .i64 a0_0) := (blk_cell BK479.out 0).trans rfl; have hcz85_1 : w84.cell? ⟨gb479, 1, none⟩ = some (.int .i64 a0_1) := (blk_cell BK479.out 1).trans rfl; have hcz85_2 : w84.cell? ⟨gb479, 2, none⟩ = some (.slice A0_2 l0_2.length c0_2) := (blk_cell BK479.out 2).trans rfl; have hfz85_0 := blk_frozen BK479.out 0; have hfz85_1 := blk_frozen BK479.out 1; have hfz85_2 := blk_frozen BK479.out 2) | ((with_reducible refine gate_callee (f := 20) rfl ?_); refine goesL_ (some 107) rfl rfl Try.func20 (by kernel_rfl) rfl #[.agg #[.int .i64 a0_0, .int .i64 a0_1, .slice A0_2 l0_2.length c0_2]] rfl zn3 ?_; (with_reducible refine (spec_CellsOf.calls k a0_0 a0_1 _ _ l0_2 t514 t517 _ ?side1 ?side2 A17.out).mono ?_); (case side1 => exact zn14); (case side2 => exact HC0_2.out); rintro e w86 ⟨v515, rfl, ho0, hb⟩; refine ⟨_, rfl, ?_⟩; have n0_ := Aside0.mk (Kd.R_elder' zn19 (Kd.R_base ho0) hb); have n1_ := Aside0.mk (Kd.R_elder' zn21 (Kd.R_base ho0) hb); have n2_ := Aside0.mk (Kd.R_elder' zn24 (Kd.R_base ho0) hb); have n3_ := Aside0.mk (Kd.R_elder' zn26 (Kd.R_base ho0) hb); have n4_ := Aside0.mk (Kd.R_elder' zn29 (Kd.R_base ho0) hb); have n5_ := Aside0.mk (Kd.R_lower (Kd.R_new' (Kd.R_new' (Kd.R_new' (Kd.R_new' (Kd.R_new' ho0 (Kd.R_lt zn19)) (Kd.R_lt zn21)) (Kd.R_lt zn24)) (Kd.R_lt zn26)) (Kd.R_lt zn29)) (below_size zn5)); have n6_ := Aside0.mk (blk_below (g := gb479) (o := .cells #[.int .i64 a0_0, .int .i64 a0_1, .slice A0_2 l0_2.length c0_2] 30 (0, 0)) zn4 hb); have n7_ := Aside0.mk (blk_below (g := gb480) (o := .cells #[.int .i64 a1_0, .int .i64 a1_1, .slice A1_2 l1_2.length c1_2] 30 (0, 0)) zn1 hb); have n8_ := Aside0.mk (blk_below (g := gb481) (o := .cells #[.int .i64 a3_0, .int .i64 a3_1, .slice A3_2 l3_2.length c3_2] 30 (0, 0)) zn2 hb); have n9_ := Aside0.mk (blk_below (g := gb488) (o := .cells #[.int .i64 t482, .int .i64 t483, .slice Ao52 t484.length co52] 30 (0, 0)) zn7 hb); have n10_ := Aside0.mk (blk_below (g := gb495) (o := .cells #[.int .i64 t489, .int .i64 t490, .slice Ao61 t491.length co61] 30 (0, 0)) zn13 hb); have n11_ := Aside0.mk (blk_below (g := gb502) (o := .cells #[.int .i64 t496, .int .i64 t497, .slice Ao71 t498.length co71] 30 (0, 0)) zn8 hb); have n12_ := Aside0.mk (blk_below (g := gb509) (o := .cells #[.int .i64 t503, .int .i64 t504, .slice Ao82 t505.length co82] 30 (0, 0)) zn22 hb); have n13_ := Aside0.mk (below_step zn5 hb); clear HO486; clear HO493; clear HO500; clear HO507; clear HO512; clear BK479; clear BK480; clear BK481; clear BK488; clear BK495; clear BK502; clear BK509; clear HB; have HO486 := n0_; have HO493 := n1_; have HO500 := n2_; have HO507 := n3_; have HO512 := n4_; have HO516 := n5_; have BK479 := n6_; have BK480 := n7_; have BK481 := n8_; have BK488 := n9_; have BK495 := n10_; have BK502 := n11_; have BK509 := n12_; have HB := n13_; clear n0_ n1_ n2_ n3_ n4_ n5_ n6_ n7_ n8_ n9_ n10_ n11_ n12_ n13_; (try clear hb); (try clear hb2); (try clear hk); (try clear hi); (try clear ho0); (try clear hna_); (try clear hnb_); have hcz87_0 : w86.cell? ⟨gb479, 0, none⟩ = some (.int .i64 a0_0) := (blk_cell BK479.out 0).trans rfl; have hcz87_1 : w86.cell? ⟨gb479, 1, none⟩ = some (.int .i64 a0_1) := (blk_cell BK479.out 1).trans rfl; have hcz87_2 : w86.cell? ⟨gb479, 2, none⟩ = some (.slice A0_2 l0_2.length c0_2) := (blk_cell BK479.out 2).trans rfl; have hfz87_0 := blk_frozen BK479.out 0; have hfz87_1 := blk_frozen BK479.out 1; have hfz87_2 := blk_frozen BK479.out 2) | ((with_reducible refine gate_callee (f := 21) rfl ?_); refine goesL_ (some 112) rfl rfl Try.func21 (by kernel_rfl) rfl #[.agg #[.int .i64 a0_0, .int .i64 a0_1, .slice A0_2 l0_2.length c0_2]] rfl zn3 ?_; (with_reducible refine (impl_CountCells.calls k a0_0 a0_1 _ _ l0_2 t518 t519 _ ?side1 ?side2 A18.out).mono ?_); (case side1 => exact zn14); (case side2 => exact HC0_2.out); rintro e w88 ⟨rfl, hb⟩; refine ⟨_, rfl, ?_⟩; have n0_ := Aside0.mk (Kd.R_below zn19 hb); have n1_ := Aside0.mk (Kd.R_below zn21 hb); have n2_ := Aside0.mk (Kd.R_below zn24 hb); have n3_ := Aside0.mk (Kd.R_below zn26 hb); have n4_ := Aside0.mk (Kd.R_below zn29 hb); have n5_ := Aside0.mk (Kd.R_below zn33 hb); have n6_ := Aside0.mk (blk_below (g := gb479) (o := .cells #[.int .i64 a0_0, .int .i64 a0_1, .slice A0_2 l0_2.length c0_2] 30 (0, 0)) zn4 hb); have n7_ := Aside0.mk (blk_below (g := gb480) (o := .cells #[.int .i64 a1_0, .int .i64 a1_1, .slice A1_2 l1_2.length c1_2] 30 (0, 0)) zn1 hb); have n8_ := Aside0.mk (blk_below (g := gb481) (o := .cells #[.int .i64 a3_0, .int .i64 a3_1, .slice A3_2 l3_2.length c3_2] 30 (0, 0)) zn2 hb); have n9_ := Aside0.mk (blk_below (g := gb488) (o := .cells #[.int .i64 t482, .int .i64 t483, .slice Ao52 t484.length co52] 30 (0, 0)) zn7 hb); have n10_ := Aside0.mk (blk_below (g := gb495) (o := .cells #[.int .i64 t489, .int .i64 t490, .slice Ao61 t491.length co61] 30 (0, 0)) zn13 hb); have n11_ := Aside0.mk (blk_below (g := gb502) (o := .cells #[.int .i64 t496, .int .i64 t497, .slice Ao71 t498.length co71] 30 (0, 0)) zn8 hb); have n12_ := Aside0.mk (blk_below (g := gb509) (o := .cells #[.int .i64 t503, .int .i64 t504, .slice Ao82 t505.length co82] 30 (0, 0)) zn22 hb); have n13_ := Aside0.mk (below_step zn5 hb); clear HO486; clear HO493; clear HO500; clear HO507; clear HO512; clear HO516; clear BK479; clear BK480; clear BK481; clear BK488; clear BK495; clear BK502; clear BK509; clear HB; have HO486 := n0_; have HO493 := n1_; have HO500 := n2_; have HO507 := n3_; have HO512 := n4_; have HO516 := n5_; have BK479 := n6_; have BK480 := n7_; have BK481 := n8_; have BK488 := n9_; have BK495 := n10_; have BK502 := n11_; have BK509 := n12_; have HB := n13_; clear n0_ n1_ n2_ n3_ n4_ n5_ n6_ n7_ n8_ n9_ n10_ n11_ n12_ n13_; (try clear hb); (try clear hb2); (try clear hk); (try clear hi); (try clear hna_); (try clear hnb_); have hcz89_0 : w88.cell? ⟨gb479, 0, none⟩ = some (.int .i64 a0_0) := (blk_cell BK479.out 0).trans rfl; have hcz89_1 : w88.cell? ⟨gb479, 1, none⟩ = some (.int .i64 a0_1) := (blk_cell BK479.out 1).trans rfl; have hcz89_2 : w88.cell? ⟨gb479, 2, none⟩ = some (.slice A0_2 l0_2.length c0_2) := (blk_cell BK479.out 2).trans rfl; have hfz89_0 := blk_frozen BK479.out 0; have hfz89_1 := blk_frozen BK479.out 1; have hfz89_2 := blk_frozen BK479.out 2) | ((with_reducible refine gate_callee (f := 22) rfl ?_); refine goesL_ (some 117) rfl rfl Try.func22 (by kernel_rfl) rfl #[.agg #[.int .i64 a0_0, .int .i64 a0_1, .slice A0_2 l0_2.length c0_2]] rfl zn3 ?_; (with_reducible refine (spec_CountCells.calls k a0_0 a0_1 _ _ l0_2 t520 t521 _ ?side1 ?side2 A19.out).mono ?_); (case side1 => exact zn14); (case side2 => exact HC0_2.out); rintro e w90 ⟨rfl, hb⟩; refine ⟨_, rfl, ?_⟩; have n0_ := Aside0.mk (Kd.R_below zn19 hb); have n1_ := Aside0.mk (Kd.R_below zn21 hb); have n2_ := Aside0.mk (Kd.R_below zn24 hb); have n3_ := Aside0.mk (Kd.R_below zn26 hb); have n4_ := Aside0.mk (Kd.R_below zn29 hb); have n5_ := Aside0.mk (Kd.R_below zn33 hb); have n6_ := Aside0.mk (blk_below (g := gb479) (o := .cells #[.int .i64 a0_0, .int .i64 a0_1, .slice A0_2 l0_2.length c0_2] 30 (0, 0)) zn4 hb); have n7_ := Aside0.mk (blk_below (g := gb480) (o := .cells #[.int .i64 a1_0, .int .i64 a1_1, .slice A1_2 l1_2.length c1_2] 30 (0, 0)) zn1 hb); have n8_ := Aside0.mk (blk_below (g := gb481) (o := .cells #[.int .i64 a3_0, .int .i64 a3_1, .slice A3_2 l3_2.length c3_2] 30 (0, 0)) zn2 hb); have n9_ := Aside0.mk (blk_below (g := gb488) (o := .cells #[.int .i64 t482, .int .i64 t483, .slice Ao52 t484.length co52] 30 (0, 0)) zn7 hb); have n10_ := Aside0.mk (blk_below (g := gb495) (o := .cells #[.int .i64 t489, .int .i64 t490, .slice Ao61 t491.length co61] 30 (0, 0)) zn13 hb); have n11_ := Aside0.mk (blk_below (g := gb502) (o := .cells #[.int .i64 t496, .int .i64 t497, .slice Ao71 t498.length co71] 30 (0, 0)) zn8 hb); have n12_ := Aside0.mk (blk_below (g := gb509) (o := .cells #[.int .i64 t503, .int .i64 t504, .slice Ao82 t505.length co82] 30 (0, 0)) zn22 hb); have n13_ := Aside0.mk (below_step zn5 hb); clear HO486; clear HO493; clear HO500; clear HO507; clear HO512; clear HO516; clear BK479; clear BK480; clear BK481; clear BK488; clear BK495; clear BK502; clear BK509; clear HB; have HO486 := n0_; have HO493 := n1_; have HO500 := n2_; have HO507 := n3_; have HO512 := n4_; have HO516 := n5_; have BK479 := n6_; have BK480 := n7_; have BK481 := n8_; have BK488 := n9_; have BK495 := n10_; have BK502 := n11_; have BK509 := n12_; have HB := n13_; clear n0_ n1_ n2_ n3_ n4_ n5_ n6_ n7_ n8_ n9_ n10_ n11_ n12_ n13_; (try clear hb); (try clear hb2); (try clear hk); (try clear hi); (try clear hna_); (try clear hnb_)))
 have n0_ := Aside0.mk (Kd.R_drew HO486.out)
 have n1_ := Aside0.mk (Kd.R_drew HO493.out)
 have n2_ := Aside0.mk (Kd.R_drew HO500.out)
 have n3_ := Aside0.mk (Kd.R_drew HO507.out)
 have n4_ := Aside0.mk (Kd.R_drew HO512.out)
 have n5_ := Aside0.mk (Kd.R_drew HO516.out)
 have n6_ := Aside0.mk (blk_drew BK479.out)
 have n7_ := Aside0.mk (blk_drew BK480.out)
 have n8_ := Aside0.mk (blk_drew BK481.out)
 have n9_ := Aside0.mk (blk_drew BK488.out)
 have n10_ := Aside0.mk (blk_drew BK495.out)
 have n11_ := Aside0.mk (blk_drew BK502.out)
 have n12_ := Aside0.mk (blk_drew BK509.out)
 have n13_ := Aside0.mk (below_drew1 HB.out)
 clear HO486
 clear HO493
 clear HO500
 clear HO507
 clear HO512
 clear HO516
 clear BK479
 clear BK480
 clear BK481
 clear BK488
 clear BK495
 clear BK502
 clear BK509
 clear HB
 have HO486 := n0_
 have HO493 := n1_
 have HO500 := n2_
 have HO507 := n3_
 have HO512 := n4_
 have HO516 := n5_
 have BK479 := n6_
 have BK480 := n7_
 have BK481 := n8_
 have BK488 := n9_
 have BK495 := n10_
 have BK502 := n11_
 have BK509 := n12_
 have HB := n13_
 clear n0_ n1_ n2_ n3_ n4_ n5_ n6_ n7_ n8_ n9_ n10_ n11_ n12_ n13_
 refine start_ (n := 69) (S := fun w' => w'.cell? ⟨gb488, 0, none⟩ = some (.int .i64 t482) ∧ w'.cell? ⟨gb488, 1, none⟩ = some (.int .i64 t483) ∧ w'.cell? ⟨gb488, 2, none⟩ = some (.slice Ao52 t484.length co52) ∧ w'.cell? ⟨gb495, 0, none⟩ = some (.int .i64 t489) ∧ w'.cell? ⟨gb495, 1, none⟩ = some (.int .i64 t490) ∧ w'.cell? ⟨gb495, 2, none⟩ = some (.slice Ao61 t491.length co61) ∧ w'.cell? ⟨gb502, 0, none⟩ = some (.int .i64 t496) ∧ w'.cell? ⟨gb502, 1, none⟩ = some (.int .i64 t497) ∧ w'.cell? ⟨gb502, 2, none⟩ = some (.slice Ao71 t498.length co71) ∧ w'.cell? ⟨gb509, 0, none⟩ = some (.int .i64 t503) ∧ w'.cell? ⟨gb509, 1, none⟩ = some (.int .i64 t504) ∧ w'.cell? ⟨gb509, 2, none⟩ = some (.slice Ao82 t505.length co82) ∧ w'.cell? ⟨gb479, 0, none⟩ = some (.int .i64 a0_0) ∧ w'.cell? ⟨gb479, 1, none⟩ = some (.int .i64 a0_1) ∧ w'.cell? ⟨gb479, 2, none⟩ = some (.slice A0_2 l0_2.length c0_2)) (ds := []) #[ff,ff,ff,ff,ff,ff,ff,ff,ff,ff,ff,ff,ff,ff,ff,ff,ff,ff,ff,ff,ff,ff,ff,ff,ff,ff,ff,ff,ff,ff,ff,ff,ff,ff,ff,ff,ff,ff,ff,ff,ff,ff,ff,ff,ff,ff,ff,ff,ff,ff,ff,ff,ff,ff,ff,ff,ff,ff,ff,ff,ff,ff,ff,ff,ff,ff,ff,ff,ff] (by kernel_rfl) rfl rfl ⟨(blk_cell BK488.out 0).trans rfl, (blk_cell BK488.out 1).trans rfl, (blk_cell BK488.out 2).trans rfl, (blk_cell BK495.out 0).trans rfl, (blk_cell BK495.out 1).trans rfl, (blk_cell BK495.out 2).trans rfl, (blk_cell BK502.out 0).trans rfl, (blk_cell BK502.out 1).trans rfl, (blk_cell BK502.out 2).trans rfl, (blk_cell BK509.out 0).trans rfl, (blk_cell BK509.out 1).trans rfl, (blk_cell BK509.out 2).trans rfl, (blk_cell BK479.out 0).trans rfl, (blk_cell BK479.out 1).trans rfl, (blk_cell BK479.out 2).trans rfl⟩ (fun hHeld => ?_); refine with_tabW laws_FnBoardsTurnedOfAll.tab11 laws_FnBoardsTurnedOfAll.bits11 (fun HT_ HW_ => ?_)
 generalize w90.drew = w91 at HO486 HO493 HO500 HO507 HO512 HO516 BK479 BK480 BK481 BK488 BK495 BK502 BK509 HB hHeld ⊢
 refine pure_ (i := 0) (N := some 120) (v := ?_) (a' := ?_) #[tt,ff,ff,ff,ff,ff,ff,ff,ff,ff,ff,ff,ff,ff,ff,ff,ff,ff,ff,ff,ff,ff,ff,ff,ff,ff,ff,ff,ff,ff,ff,ff,ff,ff,ff,ff,ff,ff,ff,ff,ff,ff,ff,ff,ff,ff,ff,ff,ff,ff,ff,ff,ff,ff,ff,ff,ff,ff,ff,ff,ff,ff,ff,ff,ff,ff,ff,ff,ff] rfl rfl (any_of HT_.out (by kernel_rfl)) (fun _ _ _ h => h) (Or.inl ⟨by rfl, ?_⟩) ?_ ?_
 rotate_left
 ·intro w'
  go_simp
  with_reducible rfl
 rotate_left
 ·simp only [Act.put, List.setIfInBounds_toArray, List.set_cons_zero, List.set_cons_succ, i64_w, i32_w]
  rfl
 refine pure_ (i := 1) (N := some 121) (v := ?_) (a' := ?_) #[tt,tt,ff,ff,ff,ff,ff,ff,ff,ff,ff,ff,ff,ff,ff,ff,ff,ff,ff,ff,ff,ff,ff,ff,ff,ff,ff,ff,ff,ff,ff,ff,ff,ff,ff,ff,ff,ff,ff,ff,ff,ff,ff,ff,ff,ff,ff,ff,ff,ff,ff,ff,ff,ff,ff,ff,ff,ff,ff,ff,ff,ff,ff,ff,ff,ff,ff,ff,ff] rfl rfl (any_of HT_.out (by kernel_rfl)) (fun _ _ _ h => h) (Or.inl ⟨by rfl, ?_⟩) ?_ ?_
 rotate_left
 ·intro w'
  go_simp
  with_reducible rfl
 rotate_left
 ·simp only [Act.put, List.setIfInBounds_toArray, List.set_cons_zero, List.set_cons_succ, i64_w, i32_w]
  rfl
 refine pure_ (i := 2) (N := some 122) (v := ?_) (a' := ?_) #[tt,tt,tt,ff,ff,ff,ff,ff,ff,ff,ff,ff,ff,ff,ff,ff,ff,ff,ff,ff,ff,ff,ff,ff,ff,ff,ff,ff,ff,ff,ff,ff,ff,ff,ff,ff,ff,ff,ff,ff,ff,ff,ff,ff,ff,ff,ff,ff,ff,ff,ff,ff,ff,ff,ff,ff,ff,ff,ff,ff,ff,ff,ff,ff,ff,ff,ff,ff,ff] rfl rfl (any_of HT_.out (by kernel_rfl)) (fun _ _ _ h => h) (Or.inl ⟨by rfl, ?_⟩) ?_ ?_
 rotate_left
 ·intro w'
  go_simp
  with_reducible rfl
 rotate_left
 ·simp only [Act.put, List.setIfInBounds_toArray, List.set_cons_zero, List.set_cons_succ, i64_w, i32_w]
  rfl
 refine pure_ (i := 3) (N := some 123) (v := ?_) (a' := ?_) #[tt,tt,tt,tt,ff,ff,ff,ff,ff,ff,ff,ff,ff,ff,ff,ff,ff,ff,ff,ff,ff,ff,ff,ff,ff,ff,ff,ff,ff,ff,ff,ff,ff,ff,ff,ff,ff,ff,ff,ff,ff,ff,ff,ff,ff,ff,ff,ff,ff,ff,ff,ff,ff,ff,ff,ff,ff,ff,ff,ff,ff,ff,ff,ff,ff,ff,ff,ff,ff] rfl rfl (any_of HT_.out (by kernel_rfl)) (fun _ _ _ h => h) (Or.inl ⟨by rfl, ?_⟩) ?_ ?_
 rotate_left
 ·intro w'
  go_simp
  with_reducible rfl
 rotate_left
 ·simp only [Act.put, List.setIfInBounds_toArray, List.set_cons_zero, List.set_cons_succ, i64_w, i32_w]
  rfl
 refine take_ (i := 4) (N := some 124) (v := ?_) (a' := ?_) #[tt,tt,tt,tt,tt,ff,ff,ff,ff,ff,ff,ff,ff,ff,ff,ff,ff,ff,ff,ff,ff,ff,ff,ff,ff,ff,ff,ff,ff,ff,ff,ff,ff,ff,ff,ff,ff,ff,ff,ff,ff,ff,ff,ff,ff,ff,ff,ff,ff,ff,ff,ff,ff,ff,ff,ff,ff,ff,ff,ff,ff,ff,ff,ff,ff,ff,ff,ff,ff] rfl rfl (take_ofW HT_.out HW_.out (by kernel_rfl)) (fun _ _ _ h => h) (Or.inl ⟨by rfl, ?_⟩) hHeld ?_ ?_
 rotate_left
 ·rintro w' ⟨s0, s1, s2, s3, s4, s5, s6, s7, s8, s9, s10, s11, s12, s13, s14⟩
  go_simp
  with_reducible rfl
 rotate_left
 ·simp only [Act.put, List.setIfInBounds_toArray, List.set_cons_zero, List.set_cons_succ, i64_w, i32_w]
  rfl
 refine take_ (i := 5) (N := some 125) (v := ?_) (a' := ?_) #[tt,tt,tt,tt,tt,tt,ff,ff,ff,ff,ff,ff,ff,ff,ff,ff,ff,ff,ff,ff,ff,ff,ff,ff,ff,ff,ff,ff,ff,ff,ff,ff,ff,ff,ff,ff,ff,ff,ff,ff,ff,ff,ff,ff,ff,ff,ff,ff,ff,ff,ff,ff,ff,ff,ff,ff,ff,ff,ff,ff,ff,ff,ff,ff,ff,ff,ff,ff,ff] rfl rfl (take_ofW HT_.out HW_.out (by kernel_rfl)) (fun _ _ _ h => h) (Or.inl ⟨by rfl, ?_⟩) hHeld ?_ ?_
 rotate_left
 ·rintro w' ⟨s0, s1, s2, s3, s4, s5, s6, s7, s8, s9, s10, s11, s12, s13, s14⟩
  go_simp
  with_reducible rfl
 rotate_left
 ·simp only [Act.put, List.setIfInBounds_toArray, List.set_cons_zero, List.set_cons_succ, i64_w, i32_w]
  rfl
 refine one_ (i := 6) (N := some 126) #[tt,tt,tt,tt,tt,tt,tt,ff,ff,ff,ff,ff,ff,ff,ff,ff,ff,ff,ff,ff,ff,ff,ff,ff,ff,ff,ff,ff,ff,ff,ff,ff,ff,ff,ff,ff,ff,ff,ff,ff,ff,ff,ff,ff,ff,ff,ff,ff,ff,ff,ff,ff,ff,ff,ff,ff,ff,ff,ff,ff,ff,ff,ff,ff,ff,ff,ff,ff,ff] rfl rfl (one_of HT_.out (by kernel_rfl)) (by decide) (fun K hK => ?_)
 refine goes_ Try.func23 (by kernel_rfl) rfl #[.agg #[.int .i64 t482, .int .i64 t483, .slice Ao52 t484.length co52], .agg #[.int .i64 t489, .int .i64 t490, .slice Ao61 t491.length co61]] (by rfl) rfl rfl zn3 ?_
 with_reducible refine (laws_yBoard.calls k t482 t483 _ _ t484 t489 t490 _ _ t491 true _ ?side1 ?side2 ?side3 ?side4 A21.out).mono ?_
 (case side1 => repeat (first | exact (Kd.R_reads' HO486.out).2.2 | (with_reducible refine Kd.C_alloc ?_ _) | (with_reducible refine Kd.C_drewN ?_ _) | (with_reducible refine Kd.C_drew ?_)))
 (case side2 => exact (Kd.R_reads' HO486.out).2.1)
 (case side3 => repeat (first | exact (Kd.R_reads' HO493.out).2.2 | (with_reducible refine Kd.C_alloc ?_ _) | (with_reducible refine Kd.C_drewN ?_ _) | (with_reducible refine Kd.C_drew ?_)))
 (case side4 => exact (Kd.R_reads' HO493.out).2.1)
 rintro e w92 ⟨rfl, hb⟩
 refine ⟨_, rfl, ?_⟩
 have n0_ := Aside0.mk (Kd.R_below zn19 hb)
 have n1_ := Aside0.mk (Kd.R_below zn21 hb)
 have n2_ := Aside0.mk (Kd.R_below zn24 hb)
 have n3_ := Aside0.mk (Kd.R_below zn26 hb)
 have n4_ := Aside0.mk (Kd.R_below zn29 hb)
 have n5_ := Aside0.mk (Kd.R_below zn33 hb)
 have n6_ := Aside0.mk (blk_below (g := gb479) (o := .cells #[.int .i64 a0_0, .int .i64 a0_1, .slice A0_2 l0_2.length c0_2] 30 (0, 0)) zn4 hb)
 have n7_ := Aside0.mk (blk_below (g := gb480) (o := .cells #[.int .i64 a1_0, .int .i64 a1_1, .slice A1_2 l1_2.length c1_2] 30 (0, 0)) zn1 hb)
 have n8_ := Aside0.mk (blk_below (g := gb481) (o := .cells #[.int .i64 a3_0, .int .i64 a3_1, .slice A3_2 l3_2.length c3_2] 30 (0, 0)) zn2 hb)
 have n9_ := Aside0.mk (blk_below (g := gb488) (o := .cells #[.int .i64 t482, .int .i64 t483, .slice Ao52 t484.length co52] 30 (0, 0)) zn7 hb)
 have n10_ := Aside0.mk (blk_below (g := gb495) (o := .cells #[.int .i64 t489, .int .i64 t490, .slice Ao61 t491.length co61] 30 (0, 0)) zn13 hb)
 have n11_ := Aside0.mk (blk_below (g := gb502) (o := .cells #[.int .i64 t496, .int .i64 t497, .slice Ao71 t498.length co71] 30 (0, 0)) zn8 hb)
 have n12_ := Aside0.mk (blk_below (g := gb509) (o := .cells #[.int .i64 t503, .int .i64 t504, .slice Ao82 t505.length co82] 30 (0, 0)) zn22 hb)
 have n13_ := Aside0.mk (below_step zn5 hb)
 clear HO486
 clear HO493
 clear HO500
 clear HO507
 clear HO512
 clear HO516
 clear BK479
 clear BK480
 clear BK481
 clear BK488
 clear BK495
 clear BK502
 clear BK509
 clear HB
 have HO486 := n0_
 have HO493 := n1_
 have HO500 := n2_
 have HO507 := n3_
 have HO512 := n4_
 have HO516 := n5_
 have BK479 := n6_
 have BK480 := n7_
 have BK481 := n8_
 have BK488 := n9_
 have BK495 := n10_
 have BK502 := n11_
 have BK509 := n12_
 have HB := n13_
 clear n0_ n1_ n2_ n3_ n4_ n5_ n6_ n7_ n8_ n9_ n10_ n11_ n12_ n13_
 (try clear hb)
 (try clear hb2)
 (try clear hk)
 (try clear hi)
 (try clear hna_)
 (try clear hnb_)
 refine hK.out _ _ ⟨(blk_cell BK488.out 0).trans rfl, (blk_cell BK488.out 1).trans rfl, (blk_cell BK488.out 2).trans rfl, (blk_cell BK495.out 0).trans rfl, (blk_cell BK495.out 1).trans rfl, (blk_cell BK495.out 2).trans rfl, (blk_cell BK502.out 0).trans rfl, (blk_cell BK502.out 1).trans rfl, (blk_cell BK502.out 2).trans rfl, (blk_cell BK509.out 0).trans rfl, (blk_cell BK509.out 1).trans rfl, (blk_cell BK509.out 2).trans rfl, (blk_cell BK479.out 0).trans rfl, (blk_cell BK479.out 1).trans rfl, (blk_cell BK479.out 2).trans rfl⟩ (fun hHeld => ?_)
 clear hK K
 refine norm_ (a' := ?_) ?_ ?_
 rotate_left
 ·show Act.put _ (some 126) _ = _
  simp only [Act.put, List.setIfInBounds_toArray, List.set_cons_zero, List.set_cons_succ, i64_w, i32_w]
  rfl
 refine pure_ (i := 7) (N := some 127) (v := ?_) (a' := ?_) #[tt,tt,tt,tt,tt,tt,tt,tt,ff,ff,ff,ff,ff,ff,ff,ff,ff,ff,ff,ff,ff,ff,ff,ff,ff,ff,ff,ff,ff,ff,ff,ff,ff,ff,ff,ff,ff,ff,ff,ff,ff,ff,ff,ff,ff,ff,ff,ff,ff,ff,ff,ff,ff,ff,ff,ff,ff,ff,ff,ff,ff,ff,ff,ff,ff,ff,ff,ff,ff] rfl rfl (any_of HT_.out (by kernel_rfl)) (fun _ _ _ h => h) (Or.inl ⟨by rfl, ?_⟩) ?_ ?_
 rotate_left
 ·intro w'
  go_simp
  with_reducible rfl
 rotate_left
 ·simp only [Act.put, List.setIfInBounds_toArray, List.set_cons_zero, List.set_cons_succ, i64_w, i32_w]
  rfl
 refine pure_ (i := 8) (N := some 128) (v := ?_) (a' := ?_) #[tt,tt,tt,tt,tt,tt,tt,tt,tt,ff,ff,ff,ff,ff,ff,ff,ff,ff,ff,ff,ff,ff,ff,ff,ff,ff,ff,ff,ff,ff,ff,ff,ff,ff,ff,ff,ff,ff,ff,ff,ff,ff,ff,ff,ff,ff,ff,ff,ff,ff,ff,ff,ff,ff,ff,ff,ff,ff,ff,ff,ff,ff,ff,ff,ff,ff,ff,ff,ff] rfl rfl (any_of HT_.out (by kernel_rfl)) (fun _ _ _ h => h) (Or.inl ⟨by rfl, ?_⟩) ?_ ?_
 rotate_left
 ·intro w'
  go_simp
  with_reducible rfl
 rotate_left
 ·simp only [Act.put, List.setIfInBounds_toArray, List.set_cons_zero, List.set_cons_succ, i64_w, i32_w]
  rfl
 refine pure_ (i := 9) (N := some 129) (v := ?_) (a' := ?_) #[tt,tt,tt,tt,tt,tt,tt,tt,tt,tt,ff,ff,ff,ff,ff,ff,ff,ff,ff,ff,ff,ff,ff,ff,ff,ff,ff,ff,ff,ff,ff,ff,ff,ff,ff,ff,ff,ff,ff,ff,ff,ff,ff,ff,ff,ff,ff,ff,ff,ff,ff,ff,ff,ff,ff,ff,ff,ff,ff,ff,ff,ff,ff,ff,ff,ff,ff,ff,ff] rfl rfl (any_of HT_.out (by kernel_rfl)) (fun _ _ _ h => h) (Or.inl ⟨by rfl, ?_⟩) ?_ ?_
 rotate_left
 ·intro w'
  go_simp
  with_reducible rfl
 rotate_left
 ·simp only [Act.put, List.setIfInBounds_toArray, List.set_cons_zero, List.set_cons_succ, i64_w, i32_w]
  rfl
 refine pure_ (i := 10) (N := some 130) (v := ?_) (a' := ?_) #[tt,tt,tt,tt,tt,tt,tt,tt,tt,tt,tt,ff,ff,ff,ff,ff,ff,ff,ff,ff,ff,ff,ff,ff,ff,ff,ff,ff,ff,ff,ff,ff,ff,ff,ff,ff,ff,ff,ff,ff,ff,ff,ff,ff,ff,ff,ff,ff,ff,ff,ff,ff,ff,ff,ff,ff,ff,ff,ff,ff,ff,ff,ff,ff,ff,ff,ff,ff,ff] rfl rfl (any_of HT_.out (by kernel_rfl)) (fun _ _ _ h => h) (Or.inl ⟨by rfl, ?_⟩) ?_ ?_
 rotate_left
 ·intro w'
  go_simp
  with_reducible rfl
 rotate_left
 ·simp only [Act.put, List.setIfInBounds_toArray, List.set_cons_zero, List.set_cons_succ, i64_w, i32_w]
  rfl
 refine pure_ (i := 11) (N := some 131) (v := ?_) (a' := ?_) #[tt,tt,tt,tt,tt,tt,tt,tt,tt,tt,tt,tt,ff,ff,ff,ff,ff,ff,ff,ff,ff,ff,ff,ff,ff,ff,ff,ff,ff,ff,ff,ff,ff,ff,ff,ff,ff,ff,ff,ff,ff,ff,ff,ff,ff,ff,ff,ff,ff,ff,ff,ff,ff,ff,ff,ff,ff,ff,ff,ff,ff,ff,ff,ff,ff,ff,ff,ff,ff] rfl rfl (any_of HT_.out (by kernel_rfl)) (fun _ _ _ h => h) (Or.inl ⟨by rfl, ?_⟩) ?_ ?_
 rotate_left
 ·intro w'
  go_simp
  with_reducible rfl
 rotate_left
 ·simp only [Act.put, List.setIfInBounds_toArray, List.set_cons_zero, List.set_cons_succ, i64_w, i32_w]
  rfl
 refine pure_ (i := 12) (N := some 132) (v := ?_) (a' := ?_) #[tt,tt,tt,tt,tt,tt,tt,tt,tt,tt,tt,tt,tt,ff,ff,ff,ff,ff,ff,ff,ff,ff,ff,ff,ff,ff,ff,ff,ff,ff,ff,ff,ff,ff,ff,ff,ff,ff,ff,ff,ff,ff,ff,ff,ff,ff,ff,ff,ff,ff,ff,ff,ff,ff,ff,ff,ff,ff,ff,ff,ff,ff,ff,ff,ff,ff,ff,ff,ff] rfl rfl (any_of HT_.out (by kernel_rfl)) (fun _ _ _ h => h) (Or.inl ⟨by rfl, ?_⟩) ?_ ?_
 rotate_left
 ·intro w'
  go_simp
  with_reducible rfl
 rotate_left
 ·simp only [Act.put, List.setIfInBounds_toArray, List.set_cons_zero, List.set_cons_succ, i64_w, i32_w]
  rfl
 refine pure_ (i := 13) (N := some 133) (v := ?_) (a' := ?_) #[tt,tt,tt,tt,tt,tt,tt,tt,tt,tt,tt,tt,tt,tt,ff,ff,ff,ff,ff,ff,ff,ff,ff,ff,ff,ff,ff,ff,ff,ff,ff,ff,ff,ff,ff,ff,ff,ff,ff,ff,ff,ff,ff,ff,ff,ff,ff,ff,ff,ff,ff,ff,ff,ff,ff,ff,ff,ff,ff,ff,ff,ff,ff,ff,ff,ff,ff,ff,ff] rfl rfl (any_of HT_.out (by kernel_rfl)) (fun _ _ _ h => h) (Or.inl ⟨by rfl, ?_⟩) ?_ ?_
 rotate_left
 ·intro w'
  go_simp
  with_reducible rfl
 rotate_left
 ·simp only [Act.put, List.setIfInBounds_toArray, List.set_cons_zero, List.set_cons_succ, i64_w, i32_w]
  rfl
 refine pure_ (i := 14) (N := some 134) (v := ?_) (a' := ?_) #[tt,tt,tt,tt,tt,tt,tt,tt,tt,tt,tt,tt,tt,tt,tt,ff,ff,ff,ff,ff,ff,ff,ff,ff,ff,ff,ff,ff,ff,ff,ff,ff,ff,ff,ff,ff,ff,ff,ff,ff,ff,ff,ff,ff,ff,ff,ff,ff,ff,ff,ff,ff,ff,ff,ff,ff,ff,ff,ff,ff,ff,ff,ff,ff,ff,ff,ff,ff,ff] rfl rfl (any_of HT_.out (by kernel_rfl)) (fun _ _ _ h => h) (Or.inl ⟨by rfl, ?_⟩) ?_ ?_
 rotate_left
 ·intro w'
  go_simp
  with_reducible rfl
 rotate_left
 ·simp only [Act.put, List.setIfInBounds_toArray, List.set_cons_zero, List.set_cons_succ, i64_w, i32_w]
  rfl
 refine take_ (i := 15) (N := some 135) (v := ?_) (a' := ?_) #[tt,tt,tt,tt,tt,tt,tt,tt,tt,tt,tt,tt,tt,tt,tt,tt,ff,ff,ff,ff,ff,ff,ff,ff,ff,ff,ff,ff,ff,ff,ff,ff,ff,ff,ff,ff,ff,ff,ff,ff,ff,ff,ff,ff,ff,ff,ff,ff,ff,ff,ff,ff,ff,ff,ff,ff,ff,ff,ff,ff,ff,ff,ff,ff,ff,ff,ff,ff,ff] rfl rfl (take_ofW HT_.out HW_.out (by kernel_rfl)) (fun _ _ _ h => h) (Or.inl ⟨by rfl, ?_⟩) hHeld ?_ ?_
 rotate_left
 ·rintro w' ⟨s0, s1, s2, s3, s4, s5, s6, s7, s8, s9, s10, s11, s12, s13, s14⟩
  go_simp
  with_reducible rfl
 rotate_left
 ·simp only [Act.put, List.setIfInBounds_toArray, List.set_cons_zero, List.set_cons_succ, i64_w, i32_w]
  rfl
 refine take_ (i := 16) (N := some 136) (v := ?_) (a' := ?_) #[tt,tt,tt,tt,tt,tt,tt,tt,tt,tt,tt,tt,tt,tt,tt,tt,tt,ff,ff,ff,ff,ff,ff,ff,ff,ff,ff,ff,ff,ff,ff,ff,ff,ff,ff,ff,ff,ff,ff,ff,ff,ff,ff,ff,ff,ff,ff,ff,ff,ff,ff,ff,ff,ff,ff,ff,ff,ff,ff,ff,ff,ff,ff,ff,ff,ff,ff,ff,ff] rfl rfl (take_ofW HT_.out HW_.out (by kernel_rfl)) (fun _ _ _ h => h) (Or.inl ⟨by rfl, ?_⟩) hHeld ?_ ?_
 rotate_left
 ·rintro w' ⟨s0, s1, s2, s3, s4, s5, s6, s7, s8, s9, s10, s11, s12, s13, s14⟩
  go_simp
  with_reducible rfl
 rotate_left
 ·simp only [Act.put, List.setIfInBounds_toArray, List.set_cons_zero, List.set_cons_succ, i64_w, i32_w]
  rfl
 refine one_ (i := 17) (N := some 137) #[tt,tt,tt,tt,tt,tt,tt,tt,tt,tt,tt,tt,tt,tt,tt,tt,tt,tt,ff,ff,ff,ff,ff,ff,ff,ff,ff,ff,ff,ff,ff,ff,ff,ff,ff,ff,ff,ff,ff,ff,ff,ff,ff,ff,ff,ff,ff,ff,ff,ff,ff,ff,ff,ff,ff,ff,ff,ff,ff,ff,ff,ff,ff,ff,ff,ff,ff,ff,ff] rfl rfl (one_of HT_.out (by kernel_rfl)) (by decide) (fun K hK => ?_)
 refine goes_ Try.func23 (by kernel_rfl) rfl #[.agg #[.int .i64 t496, .int .i64 t497, .slice Ao71 t498.length co71], .agg #[.int .i64 t503, .int .i64 t504, .slice Ao82 t505.length co82]] (by rfl) rfl rfl zn3 ?_
 with_reducible refine (laws_yBoard.calls k t496 t497 _ _ t498 t503 t504 _ _ t505 true _ ?side1 ?side2 ?side3 ?side4 A24.out).mono ?_
 (case side1 => repeat (first | exact (Kd.R_reads' HO500.out).2.2 | (with_reducible refine Kd.C_alloc ?_ _) | (with_reducible refine Kd.C_drewN ?_ _) | (with_reducible refine Kd.C_drew ?_)))
 (case side2 => exact (Kd.R_reads' HO500.out).2.1)
 (case side3 => repeat (first | exact (Kd.R_reads' HO507.out).2.2 | (with_reducible refine Kd.C_alloc ?_ _) | (with_reducible refine Kd.C_drewN ?_ _) | (with_reducible refine Kd.C_drew ?_)))
 (case side4 => exact (Kd.R_reads' HO507.out).2.1)
 rintro e w93 ⟨rfl, hb⟩
 refine ⟨_, rfl, ?_⟩
 have n0_ := Aside0.mk (Kd.R_below zn19 hb)
 have n1_ := Aside0.mk (Kd.R_below zn21 hb)
 have n2_ := Aside0.mk (Kd.R_below zn24 hb)
 have n3_ := Aside0.mk (Kd.R_below zn26 hb)
 have n4_ := Aside0.mk (Kd.R_below zn29 hb)
 have n5_ := Aside0.mk (Kd.R_below zn33 hb)
 have n6_ := Aside0.mk (blk_below (g := gb479) (o := .cells #[.int .i64 a0_0, .int .i64 a0_1, .slice A0_2 l0_2.length c0_2] 30 (0, 0)) zn4 hb)
 have n7_ := Aside0.mk (blk_below (g := gb480) (o := .cells #[.int .i64 a1_0, .int .i64 a1_1, .slice A1_2 l1_2.length c1_2] 30 (0, 0)) zn1 hb)
 have n8_ := Aside0.mk (blk_below (g := gb481) (o := .cells #[.int .i64 a3_0, .int .i64 a3_1, .slice A3_2 l3_2.length c3_2] 30 (0, 0)) zn2 hb)
 have n9_ := Aside0.mk (blk_below (g := gb488) (o := .cells #[.int .i64 t482, .int .i64 t483, .slice Ao52 t484.length co52] 30 (0, 0)) zn7 hb)
 have n10_ := Aside0.mk (blk_below (g := gb495) (o := .cells #[.int .i64 t489, .int .i64 t490, .slice Ao61 t491.length co61] 30 (0, 0)) zn13 hb)
 have n11_ := Aside0.mk (blk_below (g := gb502) (o := .cells #[.int .i64 t496, .int .i64 t497, .slice Ao71 t498.length co71] 30 (0, 0)) zn8 hb)
 have n12_ := Aside0.mk (blk_below (g := gb509) (o := .cells #[.int .i64 t503, .int .i64 t504, .slice Ao82 t505.length co82] 30 (0, 0)) zn22 hb)
 have n13_ := Aside0.mk (below_step zn5 hb)
 clear HO486
 clear HO493
 clear HO500
 clear HO507
 clear HO512
 clear HO516
 clear BK479
 clear BK480
 clear BK481
 clear BK488
 clear BK495
 clear BK502
 clear BK509
 clear HB
 have HO486 := n0_
 have HO493 := n1_
 have HO500 := n2_
 have HO507 := n3_
 have HO512 := n4_
 have HO516 := n5_
 have BK479 := n6_
 have BK480 := n7_
 have BK481 := n8_
 have BK488 := n9_
 have BK495 := n10_
 have BK502 := n11_
 have BK509 := n12_
 have HB := n13_
 clear n0_ n1_ n2_ n3_ n4_ n5_ n6_ n7_ n8_ n9_ n10_ n11_ n12_ n13_
 (try clear hb)
 (try clear hb2)
 (try clear hk)
 (try clear hi)
 (try clear hna_)
 (try clear hnb_)
 obtain ⟨Ao94, co94, eo94⟩ := Kd.R_slice HO512.out
 (first | subst eo94 | (injection eo94 with f1_ f2_ f3_; have f4_ := f1_.symm; have f5_ := f3_.symm; clear f1_ f2_ f3_; subst f4_; subst f5_))
 obtain ⟨Ao95, co95, eo95⟩ := Kd.R_slice HO516.out
 (first | subst eo95 | (injection eo95 with f1_ f2_ f3_; have f4_ := f1_.symm; have f5_ := f3_.symm; clear f1_ f2_ f3_; subst f4_; subst f5_))
 refine hK.out _ _ ⟨(blk_cell BK488.out 0).trans rfl, (blk_cell BK488.out 1).trans rfl, (blk_cell BK488.out 2).trans rfl, (blk_cell BK495.out 0).trans rfl, (blk_cell BK495.out 1).trans rfl, (blk_cell BK495.out 2).trans rfl, (blk_cell BK502.out 0).trans rfl, (blk_cell BK502.out 1).trans rfl, (blk_cell BK502.out 2).trans rfl, (blk_cell BK509.out 0).trans rfl, (blk_cell BK509.out 1).trans rfl, (blk_cell BK509.out 2).trans rfl, (blk_cell BK479.out 0).trans rfl, (blk_cell BK479.out 1).trans rfl, (blk_cell BK479.out 2).trans rfl⟩ (fun hHeld => ?_)
 clear hK K
 refine norm_ (a' := ?_) ?_ ?_
 rotate_left
 ·show Act.put _ (some 137) _ = _
  simp only [Act.put, List.setIfInBounds_toArray, List.set_cons_zero, List.set_cons_succ, i64_w, i32_w]
  rfl
 refine pure_ (i := 18) (N := some 138) (v := ?_) (a' := ?_) #[tt,tt,tt,tt,tt,tt,tt,tt,tt,tt,tt,tt,tt,tt,tt,tt,tt,tt,tt,ff,ff,ff,ff,ff,ff,ff,ff,ff,ff,ff,ff,ff,ff,ff,ff,ff,ff,ff,ff,ff,ff,ff,ff,ff,ff,ff,ff,ff,ff,ff,ff,ff,ff,ff,ff,ff,ff,ff,ff,ff,ff,ff,ff,ff,ff,ff,ff,ff,ff] rfl rfl (any_of HT_.out (by kernel_rfl)) (fun _ _ _ h => h) (Or.inl ⟨by rfl, ?_⟩) ?_ ?_
 rotate_left
 ·intro w'
  go_simp
  with_reducible rfl
 rotate_left
 ·simp only [Act.put, List.setIfInBounds_toArray, List.set_cons_zero, List.set_cons_succ, i64_w, i32_w]
  rfl
 refine pure_ (i := 19) (N := some 139) (v := ?_) (a' := ?_) #[tt,tt,tt,tt,tt,tt,tt,tt,tt,tt,tt,tt,tt,tt,tt,tt,tt,tt,tt,tt,ff,ff,ff,ff,ff,ff,ff,ff,ff,ff,ff,ff,ff,ff,ff,ff,ff,ff,ff,ff,ff,ff,ff,ff,ff,ff,ff,ff,ff,ff,ff,ff,ff,ff,ff,ff,ff,ff,ff,ff,ff,ff,ff,ff,ff,ff,ff,ff,ff] rfl rfl (any_of HT_.out (by kernel_rfl)) (fun _ _ _ h => h) (Or.inl ⟨by rfl, ?_⟩) ?_ ?_
 rotate_left
 ·intro w'
  go_simp
  with_reducible rfl
 rotate_left
 ·simp only [Act.put, List.setIfInBounds_toArray, List.set_cons_zero, List.set_cons_succ, i64_w, i32_w]
  rfl
 refine pure_ (i := 20) (N := some 140) (v := ?_) (a' := ?_) #[tt,tt,tt,tt,tt,tt,tt,tt,tt,tt,tt,tt,tt,tt,tt,tt,tt,tt,tt,tt,tt,ff,ff,ff,ff,ff,ff,ff,ff,ff,ff,ff,ff,ff,ff,ff,ff,ff,ff,ff,ff,ff,ff,ff,ff,ff,ff,ff,ff,ff,ff,ff,ff,ff,ff,ff,ff,ff,ff,ff,ff,ff,ff,ff,ff,ff,ff,ff,ff] rfl rfl (any_of HT_.out (by kernel_rfl)) (fun _ _ _ h => h) (Or.inl ⟨by rfl, ?_⟩) ?_ ?_
 rotate_left
 ·intro w'
  go_simp
  with_reducible rfl
 rotate_left
 ·simp only [Act.put, List.setIfInBounds_toArray, List.set_cons_zero, List.set_cons_succ, i64_w, i32_w]
  rfl
 refine pure_ (i := 21) (N := some 141) (v := ?_) (a' := ?_) #[tt,tt,tt,tt,tt,tt,tt,tt,tt,tt,tt,tt,tt,tt,tt,tt,tt,tt,tt,tt,tt,tt,ff,ff,ff,ff,ff,ff,ff,ff,ff,ff,ff,ff,ff,ff,ff,ff,ff,ff,ff,ff,ff,ff,ff,ff,ff,ff,ff,ff,ff,ff,ff,ff,ff,ff,ff,ff,ff,ff,ff,ff,ff,ff,ff,ff,ff,ff,ff] rfl rfl (any_of HT_.out (by kernel_rfl)) (fun _ _ _ h => h) (Or.inl ⟨by rfl, ?_⟩) ?_ ?_
 rotate_left
 ·intro w'
  go_simp
  with_reducible rfl
 rotate_left
 ·simp only [Act.put, List.setIfInBounds_toArray, List.set_cons_zero, List.set_cons_succ, i64_w, i32_w]
  rfl
 refine pure_ (i := 22) (N := some 142) (v := ?_) (a' := ?_) #[tt,tt,tt,tt,tt,tt,tt,tt,tt,tt,tt,tt,tt,tt,tt,tt,tt,tt,tt,tt,tt,tt,tt,ff,ff,ff,ff,ff,ff,ff,ff,ff,ff,ff,ff,ff,ff,ff,ff,ff,ff,ff,ff,ff,ff,ff,ff,ff,ff,ff,ff,ff,ff,ff,ff,ff,ff,ff,ff,ff,ff,ff,ff,ff,ff,ff,ff,ff,ff] rfl rfl (any_of HT_.out (by kernel_rfl)) (fun _ _ _ h => h) (Or.inl ⟨by rfl, ?_⟩) ?_ ?_
 rotate_left
 ·intro w'
  go_simp
  with_reducible rfl
 rotate_left
 ·simp only [Act.put, List.setIfInBounds_toArray, List.set_cons_zero, List.set_cons_succ, i64_w, i32_w]
  rfl
 refine pure_ (i := 23) (N := some 143) (v := ?_) (a' := ?_) #[tt,tt,tt,tt,tt,tt,tt,tt,tt,tt,tt,tt,tt,tt,tt,tt,tt,tt,tt,tt,tt,tt,tt,tt,ff,ff,ff,ff,ff,ff,ff,ff,ff,ff,ff,ff,ff,ff,ff,ff,ff,ff,ff,ff,ff,ff,ff,ff,ff,ff,ff,ff,ff,ff,ff,ff,ff,ff,ff,ff,ff,ff,ff,ff,ff,ff,ff,ff,ff] rfl rfl (any_of HT_.out (by kernel_rfl)) (fun _ _ _ h => h) (Or.inl ⟨by rfl, ?_⟩) ?_ ?_
 rotate_left
 ·intro w'
  go_simp
  with_reducible rfl
 rotate_left
 ·simp only [Act.put, List.setIfInBounds_toArray, List.set_cons_zero, List.set_cons_succ, i64_w, i32_w]
  rfl
 refine pure_ (i := 24) (N := some 144) (v := ?_) (a' := ?_) #[tt,tt,tt,tt,tt,tt,tt,tt,tt,tt,tt,tt,tt,tt,tt,tt,tt,tt,tt,tt,tt,tt,tt,tt,tt,ff,ff,ff,ff,ff,ff,ff,ff,ff,ff,ff,ff,ff,ff,ff,ff,ff,ff,ff,ff,ff,ff,ff,ff,ff,ff,ff,ff,ff,ff,ff,ff,ff,ff,ff,ff,ff,ff,ff,ff,ff,ff,ff,ff] rfl rfl (any_of HT_.out (by kernel_rfl)) (fun _ _ _ h => h) (Or.inl ⟨by rfl, ?_⟩) ?_ ?_
 rotate_left
 ·intro w'
  go_simp
  with_reducible rfl
 rotate_left
 ·simp only [Act.put, List.setIfInBounds_toArray, List.set_cons_zero, List.set_cons_succ, i64_w, i32_w]
  rfl
 refine pure_ (i := 25) (N := some 145) (v := ?_) (a' := ?_) #[tt,tt,tt,tt,tt,tt,tt,tt,tt,tt,tt,tt,tt,tt,tt,tt,tt,tt,tt,tt,tt,tt,tt,tt,tt,tt,ff,ff,ff,ff,ff,ff,ff,ff,ff,ff,ff,ff,ff,ff,ff,ff,ff,ff,ff,ff,ff,ff,ff,ff,ff,ff,ff,ff,ff,ff,ff,ff,ff,ff,ff,ff,ff,ff,ff,ff,ff,ff,ff] rfl rfl (any_of HT_.out (by kernel_rfl)) (fun _ _ _ h => h) (Or.inl ⟨by rfl, ?_⟩) ?_ ?_
 rotate_left
 ·intro w'
  go_simp
  with_reducible rfl
 rotate_left
 ·simp only [Act.put, List.setIfInBounds_toArray, List.set_cons_zero, List.set_cons_succ, i64_w, i32_w]
  rfl
 refine pure_ (i := 26) (N := some 146) (v := ?_) (a' := ?_) #[tt,tt,tt,tt,tt,tt,tt,tt,tt,tt,tt,tt,tt,tt,tt,tt,tt,tt,tt,tt,tt,tt,tt,tt,tt,tt,tt,ff,ff,ff,ff,ff,ff,ff,ff,ff,ff,ff,ff,ff,ff,ff,ff,ff,ff,ff,ff,ff,ff,ff,ff,ff,ff,ff,ff,ff,ff,ff,ff,ff,ff,ff,ff,ff,ff,ff,ff,ff,ff] rfl rfl (any_of HT_.out (by kernel_rfl)) (fun _ _ _ h => h) (Or.inl ⟨by rfl, ?_⟩) ?_ ?_
 rotate_left
 ·intro w'
  go_simp
  with_reducible rfl
 rotate_left
 ·simp only [Act.put, List.setIfInBounds_toArray, List.set_cons_zero, List.set_cons_succ, i64_w, i32_w]
  rfl
 refine pure_ (i := 27) (N := some 147) (v := ?_) (a' := ?_) #[tt,tt,tt,tt,tt,tt,tt,tt,tt,tt,tt,tt,tt,tt,tt,tt,tt,tt,tt,tt,tt,tt,tt,tt,tt,tt,tt,tt,ff,ff,ff,ff,ff,ff,ff,ff,ff,ff,ff,ff,ff,ff,ff,ff,ff,ff,ff,ff,ff,ff,ff,ff,ff,ff,ff,ff,ff,ff,ff,ff,ff,ff,ff,ff,ff,ff,ff,ff,ff] rfl rfl (any_of HT_.out (by kernel_rfl)) (fun _ _ _ h => h) (Or.inl ⟨by rfl, ?_⟩) ?_ ?_
 rotate_left
 ·intro w'
  go_simp
  with_reducible rfl
 rotate_left
 ·simp only [Act.put, List.setIfInBounds_toArray, List.set_cons_zero, List.set_cons_succ, i64_w, i32_w]
  rfl
 refine one_ (i := 28) (N := some 148) #[tt,tt,tt,tt,tt,tt,tt,tt,tt,tt,tt,tt,tt,tt,tt,tt,tt,tt,tt,tt,tt,tt,tt,tt,tt,tt,tt,tt,tt,ff,ff,ff,ff,ff,ff,ff,ff,ff,ff,ff,ff,ff,ff,ff,ff,ff,ff,ff,ff,ff,ff,ff,ff,ff,ff,ff,ff,ff,ff,ff,ff,ff,ff,ff,ff,ff,ff,ff,ff] rfl rfl (one_of HT_.out (by kernel_rfl)) (by decide) (fun K hK => ?_)
 refine goes_ Try.func24 (by kernel_rfl) rfl #[.slice Ao94 t510.length co94, .slice Ao95 t514.length co95] (by rfl) rfl rfl zn3 ?_
 with_reducible refine (laws_ySame.calls k _ _ t510 _ _ t514 true _ ?side1 ?side2 ?side3 ?side4 A27.out).mono ?_
 (case side1 => repeat (first | exact (Kd.R_reads' HO512.out).2.2 | (with_reducible refine Kd.C_alloc ?_ _) | (with_reducible refine Kd.C_drewN ?_ _) | (with_reducible refine Kd.C_drew ?_)))
 (case side2 => exact (Kd.R_reads' HO512.out).2.1)
 (case side3 => repeat (first | exact (Kd.R_reads' HO516.out).2.2 | (with_reducible refine Kd.C_alloc ?_ _) | (with_reducible refine Kd.C_drewN ?_ _) | (with_reducible refine Kd.C_drew ?_)))
 (case side4 => exact (Kd.R_reads' HO516.out).2.1)
 rintro e w' ⟨rfl, ⟨nd, rfl⟩⟩
 refine ⟨_, rfl, ?_⟩
 refine hK.out _ _ ⟨(blk_cell BK488.out 0).trans rfl, (blk_cell BK488.out 1).trans rfl, (blk_cell BK488.out 2).trans rfl, (blk_cell BK495.out 0).trans rfl, (blk_cell BK495.out 1).trans rfl, (blk_cell BK495.out 2).trans rfl, (blk_cell BK502.out 0).trans rfl, (blk_cell BK502.out 1).trans rfl, (blk_cell BK502.out 2).trans rfl, (blk_cell BK509.out 0).trans rfl, (blk_cell BK509.out 1).trans rfl, (blk_cell BK509.out 2).trans rfl, (blk_cell BK479.out 0).trans rfl, (blk_cell BK479.out 1).trans rfl, (blk_cell BK479.out 2).trans rfl⟩ (fun hHeld => ?_)
 clear hK K
 refine norm_ (a' := ?_) ?_ ?_
 rotate_left
 ·show Act.put _ (some 148) _ = _
  simp only [Act.put, List.setIfInBounds_toArray, List.set_cons_zero, List.set_cons_succ, i64_w, i32_w]
  rfl
 refine pure_ (i := 29) (N := some 149) (v := ?_) (a' := ?_) #[tt,tt,tt,tt,tt,tt,tt,tt,tt,tt,tt,tt,tt,tt,tt,tt,tt,tt,tt,tt,tt,tt,tt,tt,tt,tt,tt,tt,tt,tt,ff,ff,ff,ff,ff,ff,ff,ff,ff,ff,ff,ff,ff,ff,ff,ff,ff,ff,ff,ff,ff,ff,ff,ff,ff,ff,ff,ff,ff,ff,ff,ff,ff,ff,ff,ff,ff,ff,ff] rfl rfl (any_of HT_.out (by kernel_rfl)) (fun _ _ _ h => h) (Or.inl ⟨by rfl, ?_⟩) ?_ ?_
 rotate_left
 ·intro w'
  go_simp
  with_reducible rfl
 rotate_left
 ·simp only [Act.put, List.setIfInBounds_toArray, List.set_cons_zero, List.set_cons_succ, i64_w, i32_w]
  rfl
 refine pure_ (i := 30) (N := some 150) (v := ?_) (a' := ?_) #[tt,tt,tt,tt,tt,tt,tt,tt,tt,tt,tt,tt,tt,tt,tt,tt,tt,tt,tt,tt,tt,tt,tt,tt,tt,tt,tt,tt,tt,tt,tt,ff,ff,ff,ff,ff,ff,ff,ff,ff,ff,ff,ff,ff,ff,ff,ff,ff,ff,ff,ff,ff,ff,ff,ff,ff,ff,ff,ff,ff,ff,ff,ff,ff,ff,ff,ff,ff,ff] rfl rfl (any_of HT_.out (by kernel_rfl)) (fun _ _ _ h => h) (Or.inl ⟨by rfl, ?_⟩) ?_ ?_
 rotate_left
 ·intro w'
  go_simp
  with_reducible rfl
 rotate_left
 ·simp only [Act.put, List.setIfInBounds_toArray, List.set_cons_zero, List.set_cons_succ, i64_w, i32_w]
  rfl
 refine pure_ (i := 31) (N := some 151) (v := ?_) (a' := ?_) #[tt,tt,tt,tt,tt,tt,tt,tt,tt,tt,tt,tt,tt,tt,tt,tt,tt,tt,tt,tt,tt,tt,tt,tt,tt,tt,tt,tt,tt,tt,tt,tt,ff,ff,ff,ff,ff,ff,ff,ff,ff,ff,ff,ff,ff,ff,ff,ff,ff,ff,ff,ff,ff,ff,ff,ff,ff,ff,ff,ff,ff,ff,ff,ff,ff,ff,ff,ff,ff] rfl rfl (any_of HT_.out (by kernel_rfl)) (fun _ _ _ h => h) (Or.inl ⟨by rfl, ?_⟩) ?_ ?_
 rotate_left
 ·intro w'
  go_simp
  with_reducible rfl
 rotate_left
 ·simp only [Act.put, List.setIfInBounds_toArray, List.set_cons_zero, List.set_cons_succ, i64_w, i32_w]
  rfl
 refine pure_ (i := 32) (N := some 152) (v := ?_) (a' := ?_) #[tt,tt,tt,tt,tt,tt,tt,tt,tt,tt,tt,tt,tt,tt,tt,tt,tt,tt,tt,tt,tt,tt,tt,tt,tt,tt,tt,tt,tt,tt,tt,tt,tt,ff,ff,ff,ff,ff,ff,ff,ff,ff,ff,ff,ff,ff,ff,ff,ff,ff,ff,ff,ff,ff,ff,ff,ff,ff,ff,ff,ff,ff,ff,ff,ff,ff,ff,ff,ff] rfl rfl (any_of HT_.out (by kernel_rfl)) (fun _ _ _ h => h) (Or.inl ⟨by rfl, ?_⟩) ?_ ?_
 rotate_left
 ·intro w'
  go_simp
  with_reducible rfl
 rotate_left
 ·simp only [Act.put, List.setIfInBounds_toArray, List.set_cons_zero, List.set_cons_succ, i64_w, i32_w]
  rfl
 refine pure_ (i := 33) (N := some 153) (v := ?_) (a' := ?_) #[tt,tt,tt,tt,tt,tt,tt,tt,tt,tt,tt,tt,tt,tt,tt,tt,tt,tt,tt,tt,tt,tt,tt,tt,tt,tt,tt,tt,tt,tt,tt,tt,tt,tt,ff,ff,ff,ff,ff,ff,ff,ff,ff,ff,ff,ff,ff,ff,ff,ff,ff,ff,ff,ff,ff,ff,ff,ff,ff,ff,ff,ff,ff,ff,ff,ff,ff,ff,ff] rfl rfl (any_of HT_.out (by kernel_rfl)) (fun _ _ _ h => h) (Or.inl ⟨by rfl, ?_⟩) ?_ ?_
 rotate_left
 ·intro w'
  go_simp
  with_reducible rfl
 rotate_left
 ·simp only [Act.put, List.setIfInBounds_toArray, List.set_cons_zero, List.set_cons_succ, i64_w, i32_w]
  rfl
 refine pure_ (i := 34) (N := some 154) (v := ?_) (a' := ?_) #[tt,tt,tt,tt,tt,tt,tt,tt,tt,tt,tt,tt,tt,tt,tt,tt,tt,tt,tt,tt,tt,tt,tt,tt,tt,tt,tt,tt,tt,tt,tt,tt,tt,tt,tt,ff,ff,ff,ff,ff,ff,ff,ff,ff,ff,ff,ff,ff,ff,ff,ff,ff,ff,ff,ff,ff,ff,ff,ff,ff,ff,ff,ff,ff,ff,ff,ff,ff,ff] rfl rfl (any_of HT_.out (by kernel_rfl)) (fun _ _ _ h => h) (Or.inl ⟨by rfl, ?_⟩) ?_ ?_
 rotate_left
 ·intro w'
  go_simp
  with_reducible rfl
 rotate_left
 ·simp only [Act.put, List.setIfInBounds_toArray, List.set_cons_zero, List.set_cons_succ, i64_w, i32_w]
  rfl
 refine pure_ (i := 35) (N := some 155) (v := ?_) (a' := ?_) #[tt,tt,tt,tt,tt,tt,tt,tt,tt,tt,tt,tt,tt,tt,tt,tt,tt,tt,tt,tt,tt,tt,tt,tt,tt,tt,tt,tt,tt,tt,tt,tt,tt,tt,tt,tt,ff,ff,ff,ff,ff,ff,ff,ff,ff,ff,ff,ff,ff,ff,ff,ff,ff,ff,ff,ff,ff,ff,ff,ff,ff,ff,ff,ff,ff,ff,ff,ff,ff] rfl rfl (any_of HT_.out (by kernel_rfl)) (fun _ _ _ h => h) (Or.inl ⟨by rfl, ?_⟩) ?_ ?_
 rotate_left
 ·intro w'
  go_simp
  with_reducible rfl
 rotate_left
 ·simp only [Act.put, List.setIfInBounds_toArray, List.set_cons_zero, List.set_cons_succ, i64_w, i32_w]
  rfl
 refine pure_ (i := 36) (N := some 156) (v := ?_) (a' := ?_) #[tt,tt,tt,tt,tt,tt,tt,tt,tt,tt,tt,tt,tt,tt,tt,tt,tt,tt,tt,tt,tt,tt,tt,tt,tt,tt,tt,tt,tt,tt,tt,tt,tt,tt,tt,tt,tt,ff,ff,ff,ff,ff,ff,ff,ff,ff,ff,ff,ff,ff,ff,ff,ff,ff,ff,ff,ff,ff,ff,ff,ff,ff,ff,ff,ff,ff,ff,ff,ff] rfl rfl (any_of HT_.out (by kernel_rfl)) (fun _ _ _ h => h) (Or.inl ⟨by rfl, ?_⟩) ?_ ?_
 rotate_left
 ·intro w'
  go_simp
  with_reducible rfl
 rotate_left
 ·simp only [Act.put, List.setIfInBounds_toArray, List.set_cons_zero, List.set_cons_succ, i64_w, i32_w]
  rfl
 refine pure_ (i := 37) (N := some 157) (v := ?_) (a' := ?_) #[tt,tt,tt,tt,tt,tt,tt,tt,tt,tt,tt,tt,tt,tt,tt,tt,tt,tt,tt,tt,tt,tt,tt,tt,tt,tt,tt,tt,tt,tt,tt,tt,tt,tt,tt,tt,tt,tt,ff,ff,ff,ff,ff,ff,ff,ff,ff,ff,ff,ff,ff,ff,ff,ff,ff,ff,ff,ff,ff,ff,ff,ff,ff,ff,ff,ff,ff,ff,ff] rfl rfl (any_of HT_.out (by kernel_rfl)) (fun _ _ _ h => h) (Or.inl ⟨by rfl, ?_⟩) ?_ ?_
 rotate_left
 ·intro w'
  go_simp
  with_reducible rfl
 rotate_left
 ·simp only [Act.put, List.setIfInBounds_toArray, List.set_cons_zero, List.set_cons_succ, i64_w, i32_w]
  rfl
 refine pure_ (i := 38) (N := some 158) (v := ?_) (a' := ?_) #[tt,tt,tt,tt,tt,tt,tt,tt,tt,tt,tt,tt,tt,tt,tt,tt,tt,tt,tt,tt,tt,tt,tt,tt,tt,tt,tt,tt,tt,tt,tt,tt,tt,tt,tt,tt,tt,tt,tt,ff,ff,ff,ff,ff,ff,ff,ff,ff,ff,ff,ff,ff,ff,ff,ff,ff,ff,ff,ff,ff,ff,ff,ff,ff,ff,ff,ff,ff,ff] rfl rfl (any_of HT_.out (by kernel_rfl)) (fun _ _ _ h => h) (Or.inl ⟨by rfl, ?_⟩) ?_ ?_
 rotate_left
 ·intro w'
  go_simp
  with_reducible rfl
 rotate_left
 ·simp only [Act.put, List.setIfInBounds_toArray, List.set_cons_zero, List.set_cons_succ, i64_w, i32_w]
  rfl
 refine pure_ (i := 39) (N := some 159) (v := ?_) (a' := ?_) #[tt,tt,tt,tt,tt,tt,tt,tt,tt,tt,tt,tt,tt,tt,tt,tt,tt,tt,tt,tt,tt,tt,tt,tt,tt,tt,tt,tt,tt,tt,tt,tt,tt,tt,tt,tt,tt,tt,tt,tt,ff,ff,ff,ff,ff,ff,ff,ff,ff,ff,ff,ff,ff,ff,ff,ff,ff,ff,ff,ff,ff,ff,ff,ff,ff,ff,ff,ff,ff] rfl rfl (any_of HT_.out (by kernel_rfl)) (fun _ _ _ h => h) (Or.inl ⟨by rfl, ?_⟩) ?_ ?_
 rotate_left
 ·intro w'
  go_simp
  with_reducible rfl
 rotate_left
 ·simp only [Act.put, List.setIfInBounds_toArray, List.set_cons_zero, List.set_cons_succ, i64_w, i32_w]
  rfl
 refine pure_ (i := 40) (N := some 160) (v := ?_) (a' := ?_) #[tt,tt,tt,tt,tt,tt,tt,tt,tt,tt,tt,tt,tt,tt,tt,tt,tt,tt,tt,tt,tt,tt,tt,tt,tt,tt,tt,tt,tt,tt,tt,tt,tt,tt,tt,tt,tt,tt,tt,tt,tt,ff,ff,ff,ff,ff,ff,ff,ff,ff,ff,ff,ff,ff,ff,ff,ff,ff,ff,ff,ff,ff,ff,ff,ff,ff,ff,ff,ff] rfl rfl (any_of HT_.out (by kernel_rfl)) (fun _ _ _ h => h) (Or.inl ⟨by rfl, ?_⟩) ?_ ?_
 rotate_left
 ·intro w'
  go_simp
  with_reducible rfl
 rotate_left
 ·simp only [Act.put, List.setIfInBounds_toArray, List.set_cons_zero, List.set_cons_succ, i64_w, i32_w]
  rfl
 refine pure_ (i := 41) (N := some 161) (v := ?_) (a' := ?_) #[tt,tt,tt,tt,tt,tt,tt,tt,tt,tt,tt,tt,tt,tt,tt,tt,tt,tt,tt,tt,tt,tt,tt,tt,tt,tt,tt,tt,tt,tt,tt,tt,tt,tt,tt,tt,tt,tt,tt,tt,tt,tt,ff,ff,ff,ff,ff,ff,ff,ff,ff,ff,ff,ff,ff,ff,ff,ff,ff,ff,ff,ff,ff,ff,ff,ff,ff,ff,ff] rfl rfl (any_of HT_.out (by kernel_rfl)) (fun _ _ _ h => h) (Or.inl ⟨by rfl, ?_⟩) ?_ ?_
 rotate_left
 ·intro w'
  go_simp
  with_reducible rfl
 rotate_left
 ·simp only [Act.put, List.setIfInBounds_toArray, List.set_cons_zero, List.set_cons_succ, i64_w, i32_w]
  rfl
 refine pure_ (i := 42) (N := some 162) (v := ?_) (a' := ?_) #[tt,tt,tt,tt,tt,tt,tt,tt,tt,tt,tt,tt,tt,tt,tt,tt,tt,tt,tt,tt,tt,tt,tt,tt,tt,tt,tt,tt,tt,tt,tt,tt,tt,tt,tt,tt,tt,tt,tt,tt,tt,tt,tt,ff,ff,ff,ff,ff,ff,ff,ff,ff,ff,ff,ff,ff,ff,ff,ff,ff,ff,ff,ff,ff,ff,ff,ff,ff,ff] rfl rfl (any_of HT_.out (by kernel_rfl)) (fun _ _ _ h => h) (Or.inl ⟨by rfl, ?_⟩) ?_ ?_
 rotate_left
 ·intro w'
  go_simp
  with_reducible rfl
 rotate_left
 ·simp only [Act.put, List.setIfInBounds_toArray, List.set_cons_zero, List.set_cons_succ, i64_w, i32_w]
  rfl
 refine take_ (i := 43) (N := some 163) (v := ?_) (a' := ?_) #[tt,tt,tt,tt,tt,tt,tt,tt,tt,tt,tt,tt,tt,tt,tt,tt,tt,tt,tt,tt,tt,tt,tt,tt,tt,tt,tt,tt,tt,tt,tt,tt,tt,tt,tt,tt,tt,tt,tt,tt,tt,tt,tt,tt,ff,ff,ff,ff,ff,ff,ff,ff,ff,ff,ff,ff,ff,ff,ff,ff,ff,ff,ff,ff,ff,ff,ff,ff,ff] rfl rfl (take_ofW HT_.out HW_.out (by kernel_rfl)) (fun _ _ _ h => h) (Or.inl ⟨by rfl, ?_⟩) hHeld ?_ ?_
 rotate_left
 ·rintro w' ⟨s0, s1, s2, s3, s4, s5, s6, s7, s8, s9, s10, s11, s12, s13, s14⟩
  go_simp
  with_reducible rfl
 rotate_left
 ·simp only [Act.put, List.setIfInBounds_toArray, List.set_cons_zero, List.set_cons_succ, i64_w, i32_w]
  rfl
 refine one_ (i := 44) (N := some 164) #[tt,tt,tt,tt,tt,tt,tt,tt,tt,tt,tt,tt,tt,tt,tt,tt,tt,tt,tt,tt,tt,tt,tt,tt,tt,tt,tt,tt,tt,tt,tt,tt,tt,tt,tt,tt,tt,tt,tt,tt,tt,tt,tt,tt,tt,ff,ff,ff,ff,ff,ff,ff,ff,ff,ff,ff,ff,ff,ff,ff,ff,ff,ff,ff,ff,ff,ff,ff,ff] rfl rfl (one_of HT_.out (by kernel_rfl)) (by decide) (fun K hK => ?_)
 refine goes_ Try.func25 (by kernel_rfl) rfl #[.agg #[.int .i64 a0_0, .int .i64 a0_1, .slice A0_2 l0_2.length c0_2]] (by rfl) rfl rfl zn3 ?_
 with_reducible refine (impl_IsBoard.calls k a0_0 a0_1 _ _ l0_2 t525 _ ?side1 ?side2 A31.out).mono ?_
 (case side1 => repeat (first | exact (Kd.C_below HR0_2.out zn5) | (with_reducible refine Kd.C_alloc ?_ _) | (with_reducible refine Kd.C_drewN ?_ _) | (with_reducible refine Kd.C_drew ?_)))
 (case side2 => exact HC0_2.out)
 rintro e w96 ⟨rfl, hb⟩
 refine ⟨_, rfl, ?_⟩
 have n0_ := Aside0.mk (Kd.R_below zn19 hb)
 have n1_ := Aside0.mk (Kd.R_below zn21 hb)
 have n2_ := Aside0.mk (Kd.R_below zn24 hb)
 have n3_ := Aside0.mk (Kd.R_below zn26 hb)
 have n4_ := Aside0.mk (Kd.R_below zn29 hb)
 have n5_ := Aside0.mk (Kd.R_below zn33 hb)
 have n6_ := Aside0.mk (blk_below (g := gb479) (o := .cells #[.int .i64 a0_0, .int .i64 a0_1, .slice A0_2 l0_2.length c0_2] 30 (0, 0)) zn4 hb)
 have n7_ := Aside0.mk (blk_below (g := gb480) (o := .cells #[.int .i64 a1_0, .int .i64 a1_1, .slice A1_2 l1_2.length c1_2] 30 (0, 0)) zn1 hb)
 have n8_ := Aside0.mk (blk_below (g := gb481) (o := .cells #[.int .i64 a3_0, .int .i64 a3_1, .slice A3_2 l3_2.length c3_2] 30 (0, 0)) zn2 hb)
 have n9_ := Aside0.mk (blk_below (g := gb488) (o := .cells #[.int .i64 t482, .int .i64 t483, .slice Ao52 t484.length co52] 30 (0, 0)) zn7 hb)
 have n10_ := Aside0.mk (blk_below (g := gb495) (o := .cells #[.int .i64 t489, .int .i64 t490, .slice Ao61 t491.length co61] 30 (0, 0)) zn13 hb)
 have n11_ := Aside0.mk (blk_below (g := gb502) (o := .cells #[.int .i64 t496, .int .i64 t497, .slice Ao71 t498.length co71] 30 (0, 0)) zn8 hb)
 have n12_ := Aside0.mk (blk_below (g := gb509) (o := .cells #[.int .i64 t503, .int .i64 t504, .slice Ao82 t505.length co82] 30 (0, 0)) zn22 hb)
 have n13_ := Aside0.mk (below_step zn5 hb)
 clear HO486
 clear HO493
 clear HO500
 clear HO507
 clear HO512
 clear HO516
 clear BK479
 clear BK480
 clear BK481
 clear BK488
 clear BK495
 clear BK502
 clear BK509
 clear HB
 have HO486 := n0_
 have HO493 := n1_
 have HO500 := n2_
 have HO507 := n3_
 have HO512 := n4_
 have HO516 := n5_
 have BK479 := n6_
 have BK480 := n7_
 have BK481 := n8_
 have BK488 := n9_
 have BK495 := n10_
 have BK502 := n11_
 have BK509 := n12_
 have HB := n13_
 clear n0_ n1_ n2_ n3_ n4_ n5_ n6_ n7_ n8_ n9_ n10_ n11_ n12_ n13_
 (try clear hb)
 (try clear hb2)
 (try clear hk)
 (try clear hi)
 (try clear hna_)
 (try clear hnb_)
 refine hK.out _ _ ⟨(blk_cell BK488.out 0).trans rfl, (blk_cell BK488.out 1).trans rfl, (blk_cell BK488.out 2).trans rfl, (blk_cell BK495.out 0).trans rfl, (blk_cell BK495.out 1).trans rfl, (blk_cell BK495.out 2).trans rfl, (blk_cell BK502.out 0).trans rfl, (blk_cell BK502.out 1).trans rfl, (blk_cell BK502.out 2).trans rfl, (blk_cell BK509.out 0).trans rfl, (blk_cell BK509.out 1).trans rfl, (blk_cell BK509.out 2).trans rfl, (blk_cell BK479.out 0).trans rfl, (blk_cell BK479.out 1).trans rfl, (blk_cell BK479.out 2).trans rfl⟩ (fun hHeld => ?_)
 clear hK K
 refine norm_ (a' := ?_) ?_ ?_
 rotate_left
 ·show Act.put _ (some 164) _ = _
  simp only [Act.put, List.setIfInBounds_toArray, List.set_cons_zero, List.set_cons_succ, i64_w, i32_w]
  rfl
 refine pure_ (i := 45) (N := some 165) (v := ?_) (a' := ?_) #[tt,tt,tt,tt,tt,tt,tt,tt,tt,tt,tt,tt,tt,tt,tt,tt,tt,tt,tt,tt,tt,tt,tt,tt,tt,tt,tt,tt,tt,tt,tt,tt,tt,tt,tt,tt,tt,tt,tt,tt,tt,tt,tt,tt,tt,tt,ff,ff,ff,ff,ff,ff,ff,ff,ff,ff,ff,ff,ff,ff,ff,ff,ff,ff,ff,ff,ff,ff,ff] rfl rfl (any_of HT_.out (by kernel_rfl)) (fun _ _ _ h => h) (Or.inl ⟨by rfl, ?_⟩) ?_ ?_
 rotate_left
 ·intro w'
  go_simp
  with_reducible rfl
 rotate_left
 ·simp only [Act.put, List.setIfInBounds_toArray, List.set_cons_zero, List.set_cons_succ, i64_w, i32_w]
  rfl
 refine pure_ (i := 46) (N := some 166) (v := ?_) (a' := ?_) #[tt,tt,tt,tt,tt,tt,tt,tt,tt,tt,tt,tt,tt,tt,tt,tt,tt,tt,tt,tt,tt,tt,tt,tt,tt,tt,tt,tt,tt,tt,tt,tt,tt,tt,tt,tt,tt,tt,tt,tt,tt,tt,tt,tt,tt,tt,tt,ff,ff,ff,ff,ff,ff,ff,ff,ff,ff,ff,ff,ff,ff,ff,ff,ff,ff,ff,ff,ff,ff] rfl rfl (any_of HT_.out (by kernel_rfl)) (fun _ _ _ h => h) (Or.inl ⟨by rfl, ?_⟩) ?_ ?_
 rotate_left
 ·intro w'
  go_simp
  with_reducible rfl
 rotate_left
 ·simp only [Act.put, List.setIfInBounds_toArray, List.set_cons_zero, List.set_cons_succ, i64_w, i32_w]
  rfl
 refine pure_ (i := 47) (N := some 167) (v := ?_) (a' := ?_) #[tt,tt,tt,tt,tt,tt,tt,tt,tt,tt,tt,tt,tt,tt,tt,tt,tt,tt,tt,tt,tt,tt,tt,tt,tt,tt,tt,tt,tt,tt,tt,tt,tt,tt,tt,tt,tt,tt,tt,tt,tt,tt,tt,tt,tt,tt,tt,tt,ff,ff,ff,ff,ff,ff,ff,ff,ff,ff,ff,ff,ff,ff,ff,ff,ff,ff,ff,ff,ff] rfl rfl (any_of HT_.out (by kernel_rfl)) (fun _ _ _ h => h) (Or.inl ⟨by rfl, ?_⟩) ?_ ?_
 rotate_left
 ·intro w'
  go_simp
  with_reducible rfl
 rotate_left
 ·simp only [Act.put, List.setIfInBounds_toArray, List.set_cons_zero, List.set_cons_succ, i64_w, i32_w]
  rfl
 refine take_ (i := 48) (N := some 168) (v := ?_) (a' := ?_) #[tt,tt,tt,tt,tt,tt,tt,tt,tt,tt,tt,tt,tt,tt,tt,tt,tt,tt,tt,tt,tt,tt,tt,tt,tt,tt,tt,tt,tt,tt,tt,tt,tt,tt,tt,tt,tt,tt,tt,tt,tt,tt,tt,tt,tt,tt,tt,tt,tt,ff,ff,ff,ff,ff,ff,ff,ff,ff,ff,ff,ff,ff,ff,ff,ff,ff,ff,ff,ff] rfl rfl (take_ofW HT_.out HW_.out (by kernel_rfl)) (fun _ _ _ h => h) (Or.inl ⟨by rfl, ?_⟩) hHeld ?_ ?_
 rotate_left
 ·rintro w' ⟨s0, s1, s2, s3, s4, s5, s6, s7, s8, s9, s10, s11, s12, s13, s14⟩
  go_simp
  with_reducible rfl
 rotate_left
 ·simp only [Act.put, List.setIfInBounds_toArray, List.set_cons_zero, List.set_cons_succ, i64_w, i32_w]
  rfl
 refine take_ (i := 50) (N := some 170) (v := ?_) (a' := ?_) #[tt,tt,tt,tt,tt,tt,tt,tt,tt,tt,tt,tt,tt,tt,tt,tt,tt,tt,tt,tt,tt,tt,tt,tt,tt,tt,tt,tt,tt,tt,tt,tt,tt,tt,tt,tt,tt,tt,tt,tt,tt,tt,tt,tt,tt,tt,tt,tt,tt,ff,tt,ff,ff,ff,ff,ff,ff,ff,ff,ff,ff,ff,ff,ff,ff,ff,ff,ff,ff] rfl rfl (take_ofW HT_.out HW_.out (by kernel_rfl)) (fun _ _ _ h => h) (Or.inl ⟨by rfl, ?_⟩) hHeld ?_ ?_
 rotate_left
 ·rintro w' ⟨s0, s1, s2, s3, s4, s5, s6, s7, s8, s9, s10, s11, s12, s13, s14⟩
  go_simp
  with_reducible rfl
 rotate_left
 ·simp only [Act.put, List.setIfInBounds_toArray, List.set_cons_zero, List.set_cons_succ, i64_w, i32_w]
  rfl
 refine one_ (i := 49) (N := some 169) #[tt,tt,tt,tt,tt,tt,tt,tt,tt,tt,tt,tt,tt,tt,tt,tt,tt,tt,tt,tt,tt,tt,tt,tt,tt,tt,tt,tt,tt,tt,tt,tt,tt,tt,tt,tt,tt,tt,tt,tt,tt,tt,tt,tt,tt,tt,tt,tt,tt,tt,tt,ff,ff,ff,ff,ff,ff,ff,ff,ff,ff,ff,ff,ff,ff,ff,ff,ff,ff] rfl rfl (one_of HT_.out (by kernel_rfl)) (by decide) (fun K hK => ?_)
 refine goes_ Try.func25 (by kernel_rfl) rfl #[.agg #[.int .i64 a0_0, .int .i64 a0_1, .slice A0_2 l0_2.length c0_2]] (by rfl) rfl rfl zn3 ?_
 with_reducible refine (impl_IsBoard.calls k a0_0 a0_1 _ _ l0_2 t526 _ ?side1 ?side2 A33.out).mono ?_
 (case side1 => exact zn14)
 (case side2 => exact HC0_2.out)
 rintro e w97 ⟨rfl, hb⟩
 refine ⟨_, rfl, ?_⟩
 have n0_ := Aside0.mk (Kd.R_below zn19 hb)
 have n1_ := Aside0.mk (Kd.R_below zn21 hb)
 have n2_ := Aside0.mk (Kd.R_below zn24 hb)
 have n3_ := Aside0.mk (Kd.R_below zn26 hb)
 have n4_ := Aside0.mk (Kd.R_below zn29 hb)
 have n5_ := Aside0.mk (Kd.R_below zn33 hb)
 have n6_ := Aside0.mk (blk_below (g := gb479) (o := .cells #[.int .i64 a0_0, .int .i64 a0_1, .slice A0_2 l0_2.length c0_2] 30 (0, 0)) zn4 hb)
 have n7_ := Aside0.mk (blk_below (g := gb480) (o := .cells #[.int .i64 a1_0, .int .i64 a1_1, .slice A1_2 l1_2.length c1_2] 30 (0, 0)) zn1 hb)
 have n8_ := Aside0.mk (blk_below (g := gb481) (o := .cells #[.int .i64 a3_0, .int .i64 a3_1, .slice A3_2 l3_2.length c3_2] 30 (0, 0)) zn2 hb)
 have n9_ := Aside0.mk (blk_below (g := gb488) (o := .cells #[.int .i64 t482, .int .i64 t483, .slice Ao52 t484.length co52] 30 (0, 0)) zn7 hb)
 have n10_ := Aside0.mk (blk_below (g := gb495) (o := .cells #[.int .i64 t489, .int .i64 t490, .slice Ao61 t491.length co61] 30 (0, 0)) zn13 hb)
 have n11_ := Aside0.mk (blk_below (g := gb502) (o := .cells #[.int .i64 t496, .int .i64 t497, .slice Ao71 t498.length co71] 30 (0, 0)) zn8 hb)
 have n12_ := Aside0.mk (blk_below (g := gb509) (o := .cells #[.int .i64 t503, .int .i64 t504, .slice Ao82 t505.length co82] 30 (0, 0)) zn22 hb)
 have n13_ := Aside0.mk (below_step zn5 hb)
 clear HO486
 clear HO493
 clear HO500
 clear HO507
 clear HO512
 clear HO516
 clear BK479
 clear BK480
 clear BK481
 clear BK488
 clear BK495
 clear BK502
 clear BK509
 clear HB
 have HO486 := n0_
 have HO493 := n1_
 have HO500 := n2_
 have HO507 := n3_
 have HO512 := n4_
 have HO516 := n5_
 have BK479 := n6_
 have BK480 := n7_
 have BK481 := n8_
 have BK488 := n9_
 have BK495 := n10_
 have BK502 := n11_
 have BK509 := n12_
 have HB := n13_
 clear n0_ n1_ n2_ n3_ n4_ n5_ n6_ n7_ n8_ n9_ n10_ n11_ n12_ n13_
 (try clear hb)
 (try clear hb2)
 (try clear hk)
 (try clear hi)
 (try clear hna_)
 (try clear hnb_)
 refine hK.out _ _ ⟨(blk_cell BK488.out 0).trans rfl, (blk_cell BK488.out 1).trans rfl, (blk_cell BK488.out 2).trans rfl, (blk_cell BK495.out 0).trans rfl, (blk_cell BK495.out 1).trans rfl, (blk_cell BK495.out 2).trans rfl, (blk_cell BK502.out 0).trans rfl, (blk_cell BK502.out 1).trans rfl, (blk_cell BK502.out 2).trans rfl, (blk_cell BK509.out 0).trans rfl, (blk_cell BK509.out 1).trans rfl, (blk_cell BK509.out 2).trans rfl, (blk_cell BK479.out 0).trans rfl, (blk_cell BK479.out 1).trans rfl, (blk_cell BK479.out 2).trans rfl⟩ (fun hHeld => ?_)
 clear hK K
 refine norm_ (a' := ?_) ?_ ?_
 rotate_left
 ·show Act.put _ (some 169) _ = _
  simp only [Act.put, List.setIfInBounds_toArray, List.set_cons_zero, List.set_cons_succ, i64_w, i32_w]
  rfl
 refine one_ (i := 51) (N := some 171) #[tt,tt,tt,tt,tt,tt,tt,tt,tt,tt,tt,tt,tt,tt,tt,tt,tt,tt,tt,tt,tt,tt,tt,tt,tt,tt,tt,tt,tt,tt,tt,tt,tt,tt,tt,tt,tt,tt,tt,tt,tt,tt,tt,tt,tt,tt,tt,tt,tt,tt,tt,tt,ff,ff,ff,ff,ff,ff,ff,ff,ff,ff,ff,ff,ff,ff,ff,ff,ff] rfl rfl (one_of HT_.out (by kernel_rfl)) (by decide) (fun K hK => ?_)
 refine goes_ Try.func26 (by kernel_rfl) rfl #[.agg #[.int .i64 a0_0, .int .i64 a0_1, .slice A0_2 l0_2.length c0_2]] (by rfl) rfl rfl zn3 ?_
 with_reducible refine (spec_IsBoard.calls k a0_0 a0_1 _ _ l0_2 t527 _ ?side1 ?side2 A34.out).mono ?_
 (case side1 => exact zn14)
 (case side2 => exact HC0_2.out)
 rintro e w98 ⟨rfl, hb⟩
 refine ⟨_, rfl, ?_⟩
 have n0_ := Aside0.mk (Kd.R_below zn19 hb)
 have n1_ := Aside0.mk (Kd.R_below zn21 hb)
 have n2_ := Aside0.mk (Kd.R_below zn24 hb)
 have n3_ := Aside0.mk (Kd.R_below zn26 hb)
 have n4_ := Aside0.mk (Kd.R_below zn29 hb)
 have n5_ := Aside0.mk (Kd.R_below zn33 hb)
 have n6_ := Aside0.mk (blk_below (g := gb479) (o := .cells #[.int .i64 a0_0, .int .i64 a0_1, .slice A0_2 l0_2.length c0_2] 30 (0, 0)) zn4 hb)
 have n7_ := Aside0.mk (blk_below (g := gb480) (o := .cells #[.int .i64 a1_0, .int .i64 a1_1, .slice A1_2 l1_2.length c1_2] 30 (0, 0)) zn1 hb)
 have n8_ := Aside0.mk (blk_below (g := gb481) (o := .cells #[.int .i64 a3_0, .int .i64 a3_1, .slice A3_2 l3_2.length c3_2] 30 (0, 0)) zn2 hb)
 have n9_ := Aside0.mk (blk_below (g := gb488) (o := .cells #[.int .i64 t482, .int .i64 t483, .slice Ao52 t484.length co52] 30 (0, 0)) zn7 hb)
 have n10_ := Aside0.mk (blk_below (g := gb495) (o := .cells #[.int .i64 t489, .int .i64 t490, .slice Ao61 t491.length co61] 30 (0, 0)) zn13 hb)
 have n11_ := Aside0.mk (blk_below (g := gb502) (o := .cells #[.int .i64 t496, .int .i64 t497, .slice Ao71 t498.length co71] 30 (0, 0)) zn8 hb)
 have n12_ := Aside0.mk (blk_below (g := gb509) (o := .cells #[.int .i64 t503, .int .i64 t504, .slice Ao82 t505.length co82] 30 (0, 0)) zn22 hb)
 have n13_ := Aside0.mk (below_step zn5 hb)
 clear HO486
 clear HO493
 clear HO500
 clear HO507
 clear HO512
 clear HO516
 clear BK479
 clear BK480
 clear BK481
 clear BK488
 clear BK495
 clear BK502
 clear BK509
 clear HB
 have HO486 := n0_
 have HO493 := n1_
 have HO500 := n2_
 have HO507 := n3_
 have HO512 := n4_
 have HO516 := n5_
 have BK479 := n6_
 have BK480 := n7_
 have BK481 := n8_
 have BK488 := n9_
 have BK495 := n10_
 have BK502 := n11_
 have BK509 := n12_
 have HB := n13_
 clear n0_ n1_ n2_ n3_ n4_ n5_ n6_ n7_ n8_ n9_ n10_ n11_ n12_ n13_
 (try clear hb)
 (try clear hb2)
 (try clear hk)
 (try clear hi)
 (try clear hna_)
 (try clear hnb_)
 refine hK.out _ _ ⟨(blk_cell BK488.out 0).trans rfl, (blk_cell BK488.out 1).trans rfl, (blk_cell BK488.out 2).trans rfl, (blk_cell BK495.out 0).trans rfl, (blk_cell BK495.out 1).trans rfl, (blk_cell BK495.out 2).trans rfl, (blk_cell BK502.out 0).trans rfl, (blk_cell BK502.out 1).trans rfl, (blk_cell BK502.out 2).trans rfl, (blk_cell BK509.out 0).trans rfl, (blk_cell BK509.out 1).trans rfl, (blk_cell BK509.out 2).trans rfl, (blk_cell BK479.out 0).trans rfl, (blk_cell BK479.out 1).trans rfl, (blk_cell BK479.out 2).trans rfl⟩ (fun hHeld => ?_)
 clear hK K
 refine norm_ (a' := ?_) ?_ ?_
 rotate_left
 ·show Act.put _ (some 171) _ = _
  simp only [Act.put, List.setIfInBounds_toArray, List.set_cons_zero, List.set_cons_succ, i64_w, i32_w]
  rfl
 refine pure_ (i := 52) (N := some 172) (v := ?_) (a' := ?_) #[tt,tt,tt,tt,tt,tt,tt,tt,tt,tt,tt,tt,tt,tt,tt,tt,tt,tt,tt,tt,tt,tt,tt,tt,tt,tt,tt,tt,tt,tt,tt,tt,tt,tt,tt,tt,tt,tt,tt,tt,tt,tt,tt,tt,tt,tt,tt,tt,tt,tt,tt,tt,tt,ff,ff,ff,ff,ff,ff,ff,ff,ff,ff,ff,ff,ff,ff,ff,ff] rfl rfl (any_of HT_.out (by kernel_rfl)) (fun _ _ _ h => h) (Or.inl ⟨by rfl, ?_⟩) ?_ ?_
 rotate_left
 ·intro w'
  go_simp
  with_reducible rfl
 rotate_left
 ·simp only [Act.put, List.setIfInBounds_toArray, List.set_cons_zero, List.set_cons_succ, i64_w, i32_w]
  rfl
 refine pure_ (i := 53) (N := some 173) (v := ?_) (a' := ?_) #[tt,tt,tt,tt,tt,tt,tt,tt,tt,tt,tt,tt,tt,tt,tt,tt,tt,tt,tt,tt,tt,tt,tt,tt,tt,tt,tt,tt,tt,tt,tt,tt,tt,tt,tt,tt,tt,tt,tt,tt,tt,tt,tt,tt,tt,tt,tt,tt,tt,tt,tt,tt,tt,tt,ff,ff,ff,ff,ff,ff,ff,ff,ff,ff,ff,ff,ff,ff,ff] rfl rfl (any_of HT_.out (by kernel_rfl)) (fun _ _ _ h => h) (Or.inl ⟨by rfl, ?_⟩) ?_ ?_
 rotate_left
 ·intro w'
  go_simp
  with_reducible rfl
 rotate_left
 ·simp only [Act.put, List.setIfInBounds_toArray, List.set_cons_zero, List.set_cons_succ, i64_w, i32_w]
  rfl
 refine pure_ (i := 54) (N := some 174) (v := ?_) (a' := ?_) #[tt,tt,tt,tt,tt,tt,tt,tt,tt,tt,tt,tt,tt,tt,tt,tt,tt,tt,tt,tt,tt,tt,tt,tt,tt,tt,tt,tt,tt,tt,tt,tt,tt,tt,tt,tt,tt,tt,tt,tt,tt,tt,tt,tt,tt,tt,tt,tt,tt,tt,tt,tt,tt,tt,tt,ff,ff,ff,ff,ff,ff,ff,ff,ff,ff,ff,ff,ff,ff] rfl rfl (any_of HT_.out (by kernel_rfl)) (fun _ _ _ h => h) (Or.inl ⟨by rfl, ?_⟩) ?_ ?_
 rotate_left
 ·intro w'
  go_simp
  with_reducible rfl
 rotate_left
 ·simp only [Act.put, List.setIfInBounds_toArray, List.set_cons_zero, List.set_cons_succ, i64_w, i32_w]
  rfl
 refine pure_ (i := 55) (N := some 175) (v := ?_) (a' := ?_) #[tt,tt,tt,tt,tt,tt,tt,tt,tt,tt,tt,tt,tt,tt,tt,tt,tt,tt,tt,tt,tt,tt,tt,tt,tt,tt,tt,tt,tt,tt,tt,tt,tt,tt,tt,tt,tt,tt,tt,tt,tt,tt,tt,tt,tt,tt,tt,tt,tt,tt,tt,tt,tt,tt,tt,tt,ff,ff,ff,ff,ff,ff,ff,ff,ff,ff,ff,ff,ff] rfl rfl (any_of HT_.out (by kernel_rfl)) (fun _ _ _ h => h) (Or.inl ⟨by rfl, ?_⟩) ?_ ?_
 rotate_left
 ·intro w'
  go_simp
  with_reducible rfl
 rotate_left
 ·simp only [Act.put, List.setIfInBounds_toArray, List.set_cons_zero, List.set_cons_succ, i64_w, i32_w]
  rfl
 refine pure_ (i := 56) (N := some 176) (v := ?_) (a' := ?_) #[tt,tt,tt,tt,tt,tt,tt,tt,tt,tt,tt,tt,tt,tt,tt,tt,tt,tt,tt,tt,tt,tt,tt,tt,tt,tt,tt,tt,tt,tt,tt,tt,tt,tt,tt,tt,tt,tt,tt,tt,tt,tt,tt,tt,tt,tt,tt,tt,tt,tt,tt,tt,tt,tt,tt,tt,tt,ff,ff,ff,ff,ff,ff,ff,ff,ff,ff,ff,ff] rfl rfl (any_of HT_.out (by kernel_rfl)) (fun _ _ _ h => h) (Or.inl ⟨by rfl, ?_⟩) ?_ ?_
 rotate_left
 ·intro w'
  go_simp
  with_reducible rfl
 rotate_left
 ·simp only [Act.put, List.setIfInBounds_toArray, List.set_cons_zero, List.set_cons_succ, i64_w, i32_w]
  rfl
 refine pure_ (i := 57) (N := some 177) (v := ?_) (a' := ?_) #[tt,tt,tt,tt,tt,tt,tt,tt,tt,tt,tt,tt,tt,tt,tt,tt,tt,tt,tt,tt,tt,tt,tt,tt,tt,tt,tt,tt,tt,tt,tt,tt,tt,tt,tt,tt,tt,tt,tt,tt,tt,tt,tt,tt,tt,tt,tt,tt,tt,tt,tt,tt,tt,tt,tt,tt,tt,tt,ff,ff,ff,ff,ff,ff,ff,ff,ff,ff,ff] rfl rfl (any_of HT_.out (by kernel_rfl)) (fun _ _ _ h => h) (Or.inl ⟨by rfl, ?_⟩) ?_ ?_
 rotate_left
 ·intro w'
  go_simp
  with_reducible rfl
 rotate_left
 ·simp only [Act.put, List.setIfInBounds_toArray, List.set_cons_zero, List.set_cons_succ, i64_w, i32_w]
  rfl
 refine pure_ (i := 58) (N := some 178) (v := ?_) (a' := ?_) #[tt,tt,tt,tt,tt,tt,tt,tt,tt,tt,tt,tt,tt,tt,tt,tt,tt,tt,tt,tt,tt,tt,tt,tt,tt,tt,tt,tt,tt,tt,tt,tt,tt,tt,tt,tt,tt,tt,tt,tt,tt,tt,tt,tt,tt,tt,tt,tt,tt,tt,tt,tt,tt,tt,tt,tt,tt,tt,tt,ff,ff,ff,ff,ff,ff,ff,ff,ff,ff] rfl rfl (any_of HT_.out (by kernel_rfl)) (fun _ _ _ h => h) (Or.inl ⟨by rfl, ?_⟩) ?_ ?_
 rotate_left
 ·intro w'
  go_simp
  with_reducible rfl
 rotate_left
 ·simp only [Act.put, List.setIfInBounds_toArray, List.set_cons_zero, List.set_cons_succ, i64_w, i32_w]
  rfl
 refine pure_ (i := 59) (N := some 179) (v := ?_) (a' := ?_) #[tt,tt,tt,tt,tt,tt,tt,tt,tt,tt,tt,tt,tt,tt,tt,tt,tt,tt,tt,tt,tt,tt,tt,tt,tt,tt,tt,tt,tt,tt,tt,tt,tt,tt,tt,tt,tt,tt,tt,tt,tt,tt,tt,tt,tt,tt,tt,tt,tt,tt,tt,tt,tt,tt,tt,tt,tt,tt,tt,tt,ff,ff,ff,ff,ff,ff,ff,ff,ff] rfl rfl (any_of HT_.out (by kernel_rfl)) (fun _ _ _ h => h) (Or.inl ⟨by rfl, ?_⟩) ?_ ?_
 rotate_left
 ·intro w'
  go_simp
  with_reducible rfl
 rotate_left
 ·simp only [Act.put, List.setIfInBounds_toArray, List.set_cons_zero, List.set_cons_succ, i64_w, i32_w]
  rfl
 refine pure_ (i := 60) (N := some 180) (v := ?_) (a' := ?_) #[tt,tt,tt,tt,tt,tt,tt,tt,tt,tt,tt,tt,tt,tt,tt,tt,tt,tt,tt,tt,tt,tt,tt,tt,tt,tt,tt,tt,tt,tt,tt,tt,tt,tt,tt,tt,tt,tt,tt,tt,tt,tt,tt,tt,tt,tt,tt,tt,tt,tt,tt,tt,tt,tt,tt,tt,tt,tt,tt,tt,tt,ff,ff,ff,ff,ff,ff,ff,ff] rfl rfl (any_of HT_.out (by kernel_rfl)) (fun _ _ _ h => h) (Or.inl ⟨by rfl, ?_⟩) ?_ ?_
 rotate_left
 ·intro w'
  go_simp
  with_reducible rfl
 rotate_left
 ·simp only [Act.put, List.setIfInBounds_toArray, List.set_cons_zero, List.set_cons_succ, i64_w, i32_w]
  rfl
 refine pure_ (i := 61) (N := some 181) (v := ?_) (a' := ?_) #[tt,tt,tt,tt,tt,tt,tt,tt,tt,tt,tt,tt,tt,tt,tt,tt,tt,tt,tt,tt,tt,tt,tt,tt,tt,tt,tt,tt,tt,tt,tt,tt,tt,tt,tt,tt,tt,tt,tt,tt,tt,tt,tt,tt,tt,tt,tt,tt,tt,tt,tt,tt,tt,tt,tt,tt,tt,tt,tt,tt,tt,tt,ff,ff,ff,ff,ff,ff,ff] rfl rfl (any_of HT_.out (by kernel_rfl)) (fun _ _ _ h => h) (Or.inl ⟨by rfl, ?_⟩) ?_ ?_
 rotate_left
 ·intro w'
  go_simp
  with_reducible rfl
 rotate_left
 ·simp only [Act.put, List.setIfInBounds_toArray, List.set_cons_zero, List.set_cons_succ, i64_w, i32_w]
  rfl
 refine pure_ (i := 62) (N := some 182) (v := ?_) (a' := ?_) #[tt,tt,tt,tt,tt,tt,tt,tt,tt,tt,tt,tt,tt,tt,tt,tt,tt,tt,tt,tt,tt,tt,tt,tt,tt,tt,tt,tt,tt,tt,tt,tt,tt,tt,tt,tt,tt,tt,tt,tt,tt,tt,tt,tt,tt,tt,tt,tt,tt,tt,tt,tt,tt,tt,tt,tt,tt,tt,tt,tt,tt,tt,tt,ff,ff,ff,ff,ff,ff] rfl rfl (any_of HT_.out (by kernel_rfl)) (fun _ _ _ h => h) (Or.inl ⟨by rfl, ?_⟩) ?_ ?_
 rotate_left
 ·intro w'
  go_simp
  with_reducible rfl
 rotate_left
 ·simp only [Act.put, List.setIfInBounds_toArray, List.set_cons_zero, List.set_cons_succ, i64_w, i32_w]
  rfl
 refine pure_ (i := 63) (N := some 183) (v := ?_) (a' := ?_) #[tt,tt,tt,tt,tt,tt,tt,tt,tt,tt,tt,tt,tt,tt,tt,tt,tt,tt,tt,tt,tt,tt,tt,tt,tt,tt,tt,tt,tt,tt,tt,tt,tt,tt,tt,tt,tt,tt,tt,tt,tt,tt,tt,tt,tt,tt,tt,tt,tt,tt,tt,tt,tt,tt,tt,tt,tt,tt,tt,tt,tt,tt,tt,tt,ff,ff,ff,ff,ff] rfl rfl (any_of HT_.out (by kernel_rfl)) (fun _ _ _ h => h) (Or.inl ⟨by rfl, ?_⟩) ?_ ?_
 rotate_left
 ·intro w'
  go_simp
  with_reducible rfl
 rotate_left
 ·simp only [Act.put, List.setIfInBounds_toArray, List.set_cons_zero, List.set_cons_succ, i64_w, i32_w]
  rfl
 refine pure_ (i := 64) (N := some 184) (v := ?_) (a' := ?_) #[tt,tt,tt,tt,tt,tt,tt,tt,tt,tt,tt,tt,tt,tt,tt,tt,tt,tt,tt,tt,tt,tt,tt,tt,tt,tt,tt,tt,tt,tt,tt,tt,tt,tt,tt,tt,tt,tt,tt,tt,tt,tt,tt,tt,tt,tt,tt,tt,tt,tt,tt,tt,tt,tt,tt,tt,tt,tt,tt,tt,tt,tt,tt,tt,tt,ff,ff,ff,ff] rfl rfl (any_of HT_.out (by kernel_rfl)) (fun _ _ _ h => h) (Or.inl ⟨by rfl, ?_⟩) ?_ ?_
 rotate_left
 ·intro w'
  go_simp
  with_reducible rfl
 rotate_left
 ·simp only [Act.put, List.setIfInBounds_toArray, List.set_cons_zero, List.set_cons_succ, i64_w, i32_w]
  rfl
 refine pure_ (i := 65) (N := some 185) (v := ?_) (a' := ?_) #[tt,tt,tt,tt,tt,tt,tt,tt,tt,tt,tt,tt,tt,tt,tt,tt,tt,tt,tt,tt,tt,tt,tt,tt,tt,tt,tt,tt,tt,tt,tt,tt,tt,tt,tt,tt,tt,tt,tt,tt,tt,tt,tt,tt,tt,tt,tt,tt,tt,tt,tt,tt,tt,tt,tt,tt,tt,tt,tt,tt,tt,tt,tt,tt,tt,tt,ff,ff,ff] rfl rfl (any_of HT_.out (by kernel_rfl)) (fun _ _ _ h => h) (Or.inl ⟨by rfl, ?_⟩) ?_ ?_
 rotate_left
 ·intro w'
  go_simp
  with_reducible rfl
 rotate_left
 ·simp only [Act.put, List.setIfInBounds_toArray, List.set_cons_zero, List.set_cons_succ, i64_w, i32_w]
  rfl
 refine pure_ (i := 66) (N := some 186) (v := ?_) (a' := ?_) #[tt,tt,tt,tt,tt,tt,tt,tt,tt,tt,tt,tt,tt,tt,tt,tt,tt,tt,tt,tt,tt,tt,tt,tt,tt,tt,tt,tt,tt,tt,tt,tt,tt,tt,tt,tt,tt,tt,tt,tt,tt,tt,tt,tt,tt,tt,tt,tt,tt,tt,tt,tt,tt,tt,tt,tt,tt,tt,tt,tt,tt,tt,tt,tt,tt,tt,tt,ff,ff] rfl rfl (any_of HT_.out (by kernel_rfl)) (fun _ _ _ h => h) (Or.inl ⟨by rfl, ?_⟩) ?_ ?_
 rotate_left
 ·intro w'
  go_simp
  with_reducible rfl
 rotate_left
 ·simp only [Act.put, List.setIfInBounds_toArray, List.set_cons_zero, List.set_cons_succ, i64_w, i32_w]
  rfl
 refine pure_ (i := 67) (N := some 187) (v := ?_) (a' := ?_) #[tt,tt,tt,tt,tt,tt,tt,tt,tt,tt,tt,tt,tt,tt,tt,tt,tt,tt,tt,tt,tt,tt,tt,tt,tt,tt,tt,tt,tt,tt,tt,tt,tt,tt,tt,tt,tt,tt,tt,tt,tt,tt,tt,tt,tt,tt,tt,tt,tt,tt,tt,tt,tt,tt,tt,tt,tt,tt,tt,tt,tt,tt,tt,tt,tt,tt,tt,tt,ff] rfl rfl (any_of HT_.out (by kernel_rfl)) (fun _ _ _ h => h) (Or.inl ⟨by rfl, ?_⟩) ?_ ?_
 rotate_left
 ·intro w'
  go_simp
  with_reducible rfl
 rotate_left
 ·simp only [Act.put, List.setIfInBounds_toArray, List.set_cons_zero, List.set_cons_succ, i64_w, i32_w]
  rfl
 refine pure_ (i := 68) (N := some 188) (v := ?_) (a' := ?_) #[tt,tt,tt,tt,tt,tt,tt,tt,tt,tt,tt,tt,tt,tt,tt,tt,tt,tt,tt,tt,tt,tt,tt,tt,tt,tt,tt,tt,tt,tt,tt,tt,tt,tt,tt,tt,tt,tt,tt,tt,tt,tt,tt,tt,tt,tt,tt,tt,tt,tt,tt,tt,tt,tt,tt,tt,tt,tt,tt,tt,tt,tt,tt,tt,tt,tt,tt,tt,tt] rfl rfl (any_of HT_.out (by kernel_rfl)) (fun _ _ _ h => h) (Or.inl ⟨by rfl, ?_⟩) ?_ ?_
 rotate_left
 ·intro w'
  go_simp
  with_reducible rfl
 rotate_left
 ·simp only [Act.put, List.setIfInBounds_toArray, List.set_cons_zero, List.set_cons_succ, i64_w, i32_w]
  rfl
 refine done_ (done_of HT_.out (by kernel_rfl)) ?_
 go_upto_if 189 with (fail)
 go_cut [] (fun wc => ∃ (kq : Nat), Aside0 (laws_FnBoardsTurnedOfAll.j2 kq a2 a4 a5 a6 a1_0 a1_1 l1_2 a3_0 a3_1 l3_2 = some r) ∧ Aside0 (kq ≤ k) ∧ Aside0 (wc.heap[gb480]? = some (.cells #[.int .i64 a1_0, .int .i64 a1_1, (.slice A1_2 l1_2.length c1_2)] 30 (0, 0))) ∧ Aside0 (wc.heap[gb481]? = some (.cells #[.int .i64 a3_0, .int .i64 a3_1, (.slice A3_2 l3_2.length c3_2)] 30 (0, 0))) ∧ Aside0 (Below w.heap.size w wc))
 case first => as_aux_lemma =>
  have H := HC39.out
  clear HC39
  by_cases c99 : t487 = true
  rotate_left
  ·replace c99 := Bool.eq_false_iff.mpr c99
   subst c99
   have H1 : (laws_FnBoardsTurnedOfAll.j2 k a2 a4 a5 a6 a1_0 a1_1 l1_2 a3_0 a3_1 l3_2) = some r := by rw [if_neg (show ¬ (false = true) by decide)] at H; exact H
   clear H
   have H := H1
   clear H1
   have H' := Aside0.mk H
   clear H
   go_wp2
   go_meet
   case rel => exact ⟨_, H', ⟨by first | omega | exact Nat.le_refl _⟩, ⟨zn1⟩, ⟨zn2⟩, ⟨zn5⟩⟩
  subst c99
  rw [if_pos rfl] at H
  have H' := Aside0.mk H
  clear H
  have hnb100 := NB479_480.out
  have hnc100 := NB480_479.out
  have hnb101 := NB479_481.out
  have hnc101 := NB481_479.out
  have hnb102 := NB479_488.out
  have hnc102 := NB488_479.out
  have hnb103 := NB479_495.out
  have hnc103 := NB495_479.out
  have hnb104 := NB479_502.out
  have hnc104 := NB502_479.out
  have hnb105 := NB479_509.out
  have hnc105 := NB509_479.out
  have hcz106_0 : w98.cell? ⟨gb479, 0, none⟩ = some (.int .i64 a0_0) := (blk_cell BK479.out 0).trans rfl
  have hcz106_1 : w98.cell? ⟨gb479, 1, none⟩ = some (.int .i64 a0_1) := (blk_cell BK479.out 1).trans rfl
  have hcz106_2 : w98.cell? ⟨gb479, 2, none⟩ = some (.slice A0_2 l0_2.length c0_2) := (blk_cell BK479.out 2).trans rfl
  have hfz106_0 := blk_frozen BK479.out 0
  have hfz106_1 := blk_frozen BK479.out 1
  have hfz106_2 := blk_frozen BK479.out 2
  go_wp2_with (first | ((with_reducible refine gate_dst (N := 31) rfl ?_); (try (refine gate_guard (by rfl) ?_; dsimp only)); refine box_event ?hg (N := 31) ?hd (cs := #[.int .i64 0, .int .i64 0, .slice none 0 0]) (t := 30) ?hr ?_; (case hd => rfl); (case hg => rfl); (case hr => first | (go_simp; done) | (go_simp; rfl)); intro gb528 hg w107 hbox hb; have n0_ := Aside0.mk (Kd.R_below zn19 hb); have n1_ := Aside0.mk (Kd.R_below zn21 hb); have n2_ := Aside0.mk (Kd.R_below zn24 hb); have n3_ := Aside0.mk (Kd.R_below zn26 hb); have n4_ := Aside0.mk (Kd.R_below zn29 hb); have n5_ := Aside0.mk (Kd.R_below zn33 hb); have n6_ := Aside0.mk (blk_below (g := gb479) (o := .cells #[.int .i64 a0_0, .int .i64 a0_1, .slice A0_2 l0_2.length c0_2] 30 (0, 0)) zn4 hb); have n7_ := Aside0.mk (blk_below (g := gb480) (o := .cells #[.int .i64 a1_0, .int .i64 a1_1, .slice A1_2 l1_2.length c1_2] 30 (0, 0)) zn1 hb); have n8_ := Aside0.mk (blk_below (g := gb481) (o := .cells #[.int .i64 a3_0, .int .i64 a3_1, .slice A3_2 l3_2.length c3_2] 30 (0, 0)) zn2 hb); have n9_ := Aside0.mk (blk_below (g := gb488) (o := .cells #[.int .i64 t482, .int .i64 t483, .slice Ao52 t484.length co52] 30 (0, 0)) zn7 hb); have n10_ := Aside0.mk (blk_below (g := gb495) (o := .cells #[.int .i64 t489, .int .i64 t490, .slice Ao61 t491.length co61] 30 (0, 0)) zn13 hb); have n11_ := Aside0.mk (blk_below (g := gb502) (o := .cells #[.int .i64 t496, .int .i64 t497, .slice Ao71 t498.length co71] 30 (0, 0)) zn8 hb); have n12_ := Aside0.mk (blk_below (g := gb509) (o := .cells #[.int .i64 t503, .int .i64 t504, .slice Ao82 t505.length co82] 30 (0, 0)) zn22 hb); have n13_ := Aside0.mk (below_step zn5 hb); have n14_ := Aside0.mk (hbox); have n15_ := Aside0.mk ((by rw [hg]; exact (below_size zn5) : w.heap.size ≤ gb528)); have n16_ := Aside0.mk ((by rw [hg]; exact (below_size zn5) : w.heap.size ≤ gb528)); have n17_ := Aside0.mk ((zn70 : gb479 ≠ gb528)); have n18_ := Aside0.mk ((zn72 : gb528 ≠ gb479)); have n19_ := Aside0.mk ((zn67 : gb480 ≠ gb528)); have n20_ := Aside0.mk ((zn68 : gb528 ≠ gb480)); have n21_ := Aside0.mk ((zn69 : gb481 ≠ gb528)); have n22_ := Aside0.mk ((zn71 : gb528 ≠ gb481)); have n23_ := Aside0.mk ((zn73 : gb488 ≠ gb528)); have n24_ := Aside0.mk ((zn74 : gb528 ≠ gb488)); have n25_ := Aside0.mk ((zn77 : gb495 ≠ gb528)); have n26_ := Aside0.mk ((zn78 : gb528 ≠ gb495)); have n27_ := Aside0.mk ((zn75 : gb502 ≠ gb528)); have n28_ := Aside0.mk ((zn76 : gb528 ≠ gb502)); have n29_ := Aside0.mk ((by rw [hg]; exact Nat.ne_of_lt (blk_lt (g := gb509) (o := .cells #[.int .i64 t503, .int .i64 t504, .slice Ao82 t505.length co82] 30 (0, 0)) zn22) : gb509 ≠ gb528)); have n30_ := Aside0.mk ((by rw [hg]; exact Nat.ne_of_gt (blk_lt (g := gb509) (o := .cells #[.int .i64 t503, .int .i64 t504, .slice Ao82 t505.length co82] 30 (0, 0)) zn22) : gb528 ≠ gb509)); clear HO486; clear HO493; clear HO500; clear HO507; clear HO512; clear HO516; clear BK479; clear BK480; clear BK481; clear BK488; clear BK495; clear BK502; clear BK509; clear HB; have HO486 := n0_; have HO493 := n1_; have HO500 := n2_; have HO507 := n3_; have HO512 := n4_; have HO516 := n5_; have BK479 := n6_; have BK480 := n7_; have BK481 := n8_; have BK488 := n9_; have BK495 := n10_; have BK502 := n11_; have BK509 := n12_; have HB := n13_; have BK528 := n14_; have GW528 := n15_; have GE528 := n16_; have NB479_528 := n17_; have NB528_479 := n18_; have NB480_528 := n19_; have NB528_480 := n20_; have NB481_528 := n21_; have NB528_481 := n22_; have NB488_528 := n23_; have NB528_488 := n24_; have NB495_528 := n25_; have NB528_495 := n26_; have NB502_528 := n27_; have NB528_502 := n28_; have NB509_528 := n29_; have NB528_509 := n30_; clear n0_ n1_ n2_ n3_ n4_ n5_ n6_ n7_ n8_ n9_ n10_ n11_ n12_ n13_ n14_ n15_ n16_ n17_ n18_ n19_ n20_ n21_ n22_ n23_ n24_ n25_ n26_ n27_ n28_ n29_ n30_; clear hb hbox hg; have hnb108 := NB528_479.out; have hnc108 := NB479_528.out; have hnb109 := NB528_480.out; have hnc109 := NB480_528.out; have hnb110 := NB528_481.out; have hnc110 := NB481_528.out; have hnb111 := NB528_488.out; have hnc111 := NB488_528.out; have hnb112 := NB528_495.out; have hnc112 := NB495_528.out; have hnb113 := NB528_502.out; have hnc113 := NB502_528.out; have hnb114 := NB528_509.out; have hnc114 := NB509_528.out; have hcz115_0 : w107.cell? ⟨gb528, 0, none⟩ = some (.int .i64 0) := (blk_cell BK528.out 0).trans rfl; have hcz115_1 : w107.cell? ⟨gb528, 1, none⟩ = some (.int .i64 0) := (blk_cell BK528.out 1).trans rfl; have hcz115_2 : w107.cell? ⟨gb528, 2, none⟩ = some (.slice none 0 0) := (blk_cell BK528.out 2).trans rfl; have hfz115_0 := blk_frozen BK528.out 0; have hfz115_1 := blk_frozen BK528.out 1; have hfz115_2 := blk_frozen BK528.out 2))
  go_loopg [32] k (fun kq v32 w' => ∃ (x32_1 : Int) (x529000_1 : Int) (x529001_1 : Int) (x529002_1 : List Int) (u529002 : Value) (uo_ : Value) (lo_ : List Int), v32 = .int .i64 x32_1 ∧ Aside0 (laws_FnBoardsTurnedOfAll.l0 kq a2 a4 a5 a6 t510 t518 x32_1 a0_0 a0_1 l0_2 a1_0 a1_1 l1_2 a3_0 a3_1 l3_2 t482 t483 t484 t496 t497 t498 x529000_1 x529001_1 x529002_1 = some r) ∧ Aside0 (kq ≤ k) ∧ Aside0 (Kd.R (Kd.int .i64) 3 w' w.heap.size (fun k_ => some k_ ≠ ((.slice Ao52 t484.length co52) : Value).ownBlock ∧ some k_ ≠ ((.slice Ao71 t498.length co71) : Value).ownBlock ∧ some k_ ≠ (uo_ : Value).ownBlock) (.slice Ao94 t510.length co94) t510) ∧ Aside0 (Kd.R (Kd.int .i64) 3 w' w.heap.size (fun k_ => some k_ ≠ ((.slice Ao94 t510.length co94) : Value).ownBlock ∧ some k_ ≠ ((.slice Ao71 t498.length co71) : Value).ownBlock ∧ some k_ ≠ (uo_ : Value).ownBlock) (.slice Ao52 t484.length co52) t484) ∧ Aside0 (Kd.R (Kd.int .i64) 3 w' w.heap.size (fun k_ => some k_ ≠ ((.slice Ao94 t510.length co94) : Value).ownBlock ∧ some k_ ≠ ((.slice Ao52 t484.length co52) : Value).ownBlock ∧ some k_ ≠ (uo_ : Value).ownBlock) (.slice Ao71 t498.length co71) t498) ∧ Aside0 (Kd.R (Kd.int .i64) 3 w' w.heap.size (fun k_ => some k_ ≠ ((.slice Ao94 t510.length co94) : Value).ownBlock ∧ some k_ ≠ ((.slice Ao52 t484.length co52) : Value).ownBlock ∧ some k_ ≠ ((.slice Ao71 t498.length co71) : Value).ownBlock) uo_ lo_) ∧ Aside0 (w'.heap[gb479]? = some (.cells #[.int .i64 a0_0, .int .i64 a0_1, (.slice A0_2 l0_2.length c0_2)] 30 (0, 0))) ∧ Aside0 (w'.heap[gb480]? = some (.cells #[.int .i64 a1_0, .int .i64 a1_1, (.slice A1_2 l1_2.length c1_2)] 30 (0, 0))) ∧ Aside0 (w'.heap[gb481]? = some (.cells #[.int .i64 a3_0, .int .i64 a3_1, (.slice A3_2 l3_2.length c3_2)] 30 (0, 0))) ∧ Aside0 (w'.heap[gb488]? = some (.cells #[.int .i64 t482, .int .i64 t483, (.slice Ao52 t484.length co52)] 30 (0, 0))) ∧ Aside0 (w'.heap[gb502]? = some (.cells #[.int .i64 t496, .int .i64 t497, (.slice Ao71 t498.length co71)] 30 (0, 0))) ∧ Aside0 (w'.heap[gb528]? = some (.cells #[.int .i64 x529000_1, .int .i64 x529001_1, u529002] 30 (0, 0))) ∧ Aside0 (Below w.heap.size w w') ∧ Aside0 ((u529002 = uo_ ∧ x529002_1 = lo_) ∨ (u529002 = .slice A0_2 l0_2.length c0_2 ∧ x529002_1 = l0_2 ∧ x32_1 = 0)))
  case atStart => exact ⟨(0), (a0_0), (a0_1), (l0_2), (.slice A0_2 l0_2.length c0_2), (.slice none 0 0), ([] : List Int), zn66, H', ⟨Nat.le_refl _⟩, ⟨by (with_reducible repeat (first | apply Kd.R_alloc | apply Kd.R_drewN | apply Kd.R_drew)); exact Kd.R_mono (Kd.R_far (p := ⟨gb528, 2, none⟩) (Kd.R_far (p := ⟨gb528, 1, none⟩) (Kd.R_far (p := ⟨gb528, 0, none⟩) (Kd.R_types HO512.out BK528.out (by decide)) (fun _ hk => hk.2) (.int .i64 a0_0)) (fun _ hk => hk.2) (.int .i64 a0_1)) (fun _ hk => hk.2) (.slice A0_2 l0_2.length c0_2)) (fun _ hk => ⟨hk.1.1.1.1.1.2, ⟨hk.1.1.1.2, (by simp [Value.ownBlock])⟩⟩)⟩, ⟨by (with_reducible repeat (first | apply Kd.R_alloc | apply Kd.R_drewN | apply Kd.R_drew)); exact Kd.R_mono (Kd.R_far (p := ⟨gb528, 2, none⟩) (Kd.R_far (p := ⟨gb528, 1, none⟩) (Kd.R_far (p := ⟨gb528, 0, none⟩) (Kd.R_types HO486.out BK528.out (by decide)) (fun _ hk => hk.2) (.int .i64 a0_0)) (fun _ hk => hk.2) (.int .i64 a0_1)) (fun _ hk => hk.2) (.slice A0_2 l0_2.length c0_2)) (fun _ hk => ⟨hk.1.1.2, ⟨hk.1.1.1.1.2, (by simp [Value.ownBlock])⟩⟩)⟩, ⟨by (with_reducible repeat (first | apply Kd.R_alloc | apply Kd.R_drewN | apply Kd.R_drew)); exact Kd.R_mono (Kd.R_far (p := ⟨gb528, 2, none⟩) (Kd.R_far (p := ⟨gb528, 1, none⟩) (Kd.R_far (p := ⟨gb528, 0, none⟩) (Kd.R_types HO500.out BK528.out (by decide)) (fun _ hk => hk.2) (.int .i64 a0_0)) (fun _ hk => hk.2) (.int .i64 a0_1)) (fun _ hk => hk.2) (.slice A0_2 l0_2.length c0_2)) (fun _ hk => ⟨hk.1.1.2, ⟨hk.1.1.1.1.1.2, (by simp [Value.ownBlock])⟩⟩)⟩, ⟨Kd.R_nil _ _ _ _ _⟩, ⟨by (with_reducible repeat (first | refine blk_drewN ?_ _ | refine blk_drew ?_ | refine blk_alloc ?_ _)); refine blk_far ?_ NB479_528.out _; (with_reducible repeat (first | refine blk_drewN ?_ _ | refine blk_drew ?_ | refine blk_alloc ?_ _)); refine blk_far ?_ NB479_528.out _; (with_reducible repeat (first | refine blk_drewN ?_ _ | refine blk_drew ?_ | refine blk_alloc ?_ _)); refine blk_far ?_ NB479_528.out _; first | exact BK479.out | ((with_reducible repeat (first | refine blk_drewN ?_ _ | refine blk_drew ?_ | refine blk_alloc ?_ _)); exact BK479.out)⟩, ⟨by (with_reducible repeat (first | refine blk_drewN ?_ _ | refine blk_drew ?_ | refine blk_alloc ?_ _)); refine blk_far ?_ NB480_528.out _; (with_reducible repeat (first | refine blk_drewN ?_ _ | refine blk_drew ?_ | refine blk_alloc ?_ _)); refine blk_far ?_ NB480_528.out _; (with_reducible repeat (first | refine blk_drewN ?_ _ | refine blk_drew ?_ | refine blk_alloc ?_ _)); refine blk_far ?_ NB480_528.out _; first | exact BK480.out | ((with_reducible repeat (first | refine blk_drewN ?_ _ | refine blk_drew ?_ | refine blk_alloc ?_ _)); exact BK480.out)⟩, ⟨by (with_reducible repeat (first | refine blk_drewN ?_ _ | refine blk_drew ?_ | refine blk_alloc ?_ _)); refine blk_far ?_ NB481_528.out _; (with_reducible repeat (first | refine blk_drewN ?_ _ | refine blk_drew ?_ | refine blk_alloc ?_ _)); refine blk_far ?_ NB481_528.out _; (with_reducible repeat (first | refine blk_drewN ?_ _ | refine blk_drew ?_ | refine blk_alloc ?_ _)); refine blk_far ?_ NB481_528.out _; first | exact BK481.out | ((with_reducible repeat (first | refine blk_drewN ?_ _ | refine blk_drew ?_ | refine blk_alloc ?_ _)); exact BK481.out)⟩, ⟨by (with_reducible repeat (first | refine blk_drewN ?_ _ | refine blk_drew ?_ | refine blk_alloc ?_ _)); refine blk_far ?_ NB488_528.out _; (with_reducible repeat (first | refine blk_drewN ?_ _ | refine blk_drew ?_ | refine blk_alloc ?_ _)); refine blk_far ?_ NB488_528.out _; (with_reducible repeat (first | refine blk_drewN ?_ _ | refine blk_drew ?_ | refine blk_alloc ?_ _)); refine blk_far ?_ NB488_528.out _; first | exact BK488.out | ((with_reducible repeat (first | refine blk_drewN ?_ _ | refine blk_drew ?_ | refine blk_alloc ?_ _)); exact BK488.out)⟩, ⟨by (with_reducible repeat (first | refine blk_drewN ?_ _ | refine blk_drew ?_ | refine blk_alloc ?_ _)); refine blk_far ?_ NB502_528.out _; (with_reducible repeat (first | refine blk_drewN ?_ _ | refine blk_drew ?_ | refine blk_alloc ?_ _)); refine blk_far ?_ NB502_528.out _; (with_reducible repeat (first | refine blk_drewN ?_ _ | refine blk_drew ?_ | refine blk_alloc ?_ _)); refine blk_far ?_ NB502_528.out _; first | exact BK502.out | ((with_reducible repeat (first | refine blk_drewN ?_ _ | refine blk_drew ?_ | refine blk_alloc ?_ _)); exact BK502.out)⟩, ⟨by (with_reducible repeat (first | refine blk_drewN ?_ _ | refine blk_drew ?_ | refine blk_alloc ?_ _)); refine blk_put (cs := #[.int .i64 a0_0, .int .i64 a0_1, .slice none 0 0]) ?_ 2 _ rfl; (with_reducible repeat (first | refine blk_drewN ?_ _ | refine blk_drew ?_ | refine blk_alloc ?_ _)); refine blk_put (cs := #[.int .i64 a0_0, .int .i64 0, .slice none 0 0]) ?_ 1 _ rfl; (with_reducible repeat (first | refine blk_drewN ?_ _ | refine blk_drew ?_ | refine blk_alloc ?_ _)); refine blk_put (cs := #[.int .i64 0, .int .i64 0, .slice none 0 0]) ?_ 0 _ rfl; first | exact BK528.out | ((with_reducible repeat (first | refine blk_drewN ?_ _ | refine blk_drew ?_ | refine blk_alloc ?_ _)); exact BK528.out)⟩, ⟨by repeat (first | (with_reducible first | exact HB.out | apply below_alloc | apply pw_below_drewN | apply below_drew1 | refine below_set ?_ GE479.out | refine below_set ?_ GE480.out | refine below_set ?_ GE481.out | refine below_set ?_ GE488.out | refine below_set ?_ GE495.out | refine below_set ?_ GE502.out | refine below_set ?_ GE509.out | refine below_set ?_ GE528.out) | exact HB.out)⟩, ⟨Or.inr ⟨rfl, rfl, rfl⟩⟩⟩
  case round => as_aux_lemma =>
   clear H'
   try clear c1; try clear c2; try clear p2; try clear c3; try clear c9; try clear c10; try clear c11; try clear c24; try clear c25; try clear c26; try clear c99; try clear c100; try clear c101; try clear c102; try clear c103; try clear c104; try clear c105; try clear c108; try clear c109; try clear c110; try clear c111; try clear c112; try clear c113; try clear c114; try clear hcz106_0; try clear hcz106_1; try clear hcz106_2; try clear hcz115_0; try clear hcz115_1; try clear hcz115_2; try clear hfz106_0; try clear hfz106_1; try clear hfz106_2; try clear hfz115_0; try clear hfz115_1; try clear hfz115_2
   obtain ⟨x32_1, x529000_1, x529001_1, x529002_1, u529002, uo_, lo_, rfl, HA, HK1, HO_23, HO_489002, HO_503002, HO_529002, BK479, BK480, BK481, BK488, BK502, BK528, HB, NOW⟩ := hrel
   cases gk with
   | zero => exact absurd HA.out (by simp [laws_FnBoardsTurnedOfAll.l0])
   | succ k1 =>
    have H := HA.out
    clear HA
    simp only [laws_FnBoardsTurnedOfAll.l0] at H
    by_cases c116 : x32_1 < 4
    ·rw [if_pos c116] at H
     have c116b0 : decide (x32_1 < 4) = true := decide_eq_true c116
     clear c116
     (first | rw [c116b0] | (simp only [i64_w, i32_w]; rw [c116b0]) | skip)
     replace H := Option.bind_eq_some_iff.mp H
     obtain ⟨⟨t529, t530, t531, t534⟩, A1170, H⟩ := H
     replace H : (if t534 = true then (laws_FnBoardsTurnedOfAll.l0 k1 a2 a4 a5 a6 t510 t518 (wrap64 (x32_1 + 1)) a0_0 a0_1 l0_2 a1_0 a1_1 l1_2 a3_0 a3_1 l3_2 t482 t483 t484 t496 t497 t498 t529 t530 t531) else (none)) = some r := H
     have A117 := Aside0.mk A1170
     clear A1170
     by_cases c118 : t534 = true
     rotate_left
     ·replace c118 := Bool.eq_false_iff.mpr c118
      subst c118
      have H1 : (none) = some r := by rw [if_neg (show ¬ (false = true) by decide)] at H; exact H
      clear H
      have H := H1
      clear H1
      exact absurd H (by simp)
     subst c118
     rw [if_pos rfl] at H
     have H' := Aside0.mk H
     clear H
     have hnb119 := NB528_479.out
     have hnc119 := NB479_528.out
     have hnb120 := NB528_480.out
     have hnc120 := NB480_528.out
     have hnb121 := NB528_481.out
     have hnc121 := NB481_528.out
     have hnb122 := NB528_488.out
     have hnc122 := NB488_528.out
     have hnb123 := NB528_502.out
     have hnc123 := NB502_528.out
     have hcz124_0 : wr.cell? ⟨gb528, 0, none⟩ = some (.int .i64 x529000_1) := (blk_cell BK528.out 0).trans rfl
     have hcz124_1 : wr.cell? ⟨gb528, 1, none⟩ = some (.int .i64 x529001_1) := (blk_cell BK528.out 1).trans rfl
     have hcz124_2 : wr.cell? ⟨gb528, 2, none⟩ = some (u529002) := (blk_cell BK528.out 2).trans rfl
     have hfz124_0 := blk_frozen BK528.out 0
     have hfz124_1 := blk_frozen BK528.out 1
     have hfz124_2 := blk_frozen BK528.out 2
     obtain ⟨Ao125, co125, eo125, hn1_, hn2_⟩ : ∃ A c, u529002 = .slice A x529002_1.length c ∧ x529002_1.length ≤ c ∧ Kd.C (Kd.int .i64) wr A x529002_1.length x529002_1 := by
      rcases NOW.out with ⟨h1_, h2_⟩ | ⟨h1_, h2_, _⟩
      · subst h1_ h2_; obtain ⟨A, c, e_⟩ := Kd.R_slice HO_529002.out; subst e_; exact ⟨A, c, rfl, (Kd.R_reads' HO_529002.out).2.1, (Kd.R_reads' HO_529002.out).2.2⟩
      · rw [h1_, h2_]; exact ⟨A0_2, c0_2, rfl, HC0_2.out, Kd.C_below HR0_2.out HB.out⟩
     subst eo125
     go_wp2_with (first | ((with_reducible refine gate_callee (f := 15) rfl ?_); refine goesL_ (some 197) rfl rfl Try.func15 (by kernel_rfl) rfl #[.agg #[.int .i64 x529000_1, .int .i64 x529001_1, .slice Ao125 x529002_1.length co125]] rfl zn3 ?_; (with_reducible refine (impl_TurnBoard.calls k1 x529000_1 x529001_1 _ _ x529002_1 t529 t530 t531 true _ ?side1 ?side2 A117.out).mono ?_); (case side1 => repeat (first | exact hn2_ | (with_reducible refine Kd.C_alloc ?_ _) | (with_reducible refine Kd.C_drewN ?_ _) | (with_reducible refine Kd.C_drew ?_))); (case side2 => exact hn1_); rintro e w126 ⟨v532, rfl, ho0, hb⟩; refine ⟨_, rfl, ?_⟩; have n0_ := Aside0.mk (Kd.R_elder' zn38 (Kd.R_base ho0) hb); have n1_ := Aside0.mk (Kd.R_elder' zn17 (Kd.R_base ho0) hb); have n2_ := Aside0.mk (Kd.R_elder' zn16 (Kd.R_base ho0) hb); have n3_ := Aside0.mk (Kd.R_elder' zn37 (Kd.R_base ho0) hb); have n4_ := Aside0.mk (Kd.R_lower (Kd.R_new' (Kd.R_new' (Kd.R_new' (Kd.R_new' ho0 (Kd.R_lt zn38)) (Kd.R_lt zn17)) (Kd.R_lt zn16)) (Kd.R_lt zn37)) (below_size zn9)); have n5_ := Aside0.mk (blk_below (g := gb479) (o := .cells #[.int .i64 a0_0, .int .i64 a0_1, .slice A0_2 l0_2.length c0_2] 30 (0, 0)) zn4 hb); have n6_ := Aside0.mk (blk_below (g := gb480) (o := .cells #[.int .i64 a1_0, .int .i64 a1_1, .slice A1_2 l1_2.length c1_2] 30 (0, 0)) zn1 hb); have n7_ := Aside0.mk (blk_below (g := gb481) (o := .cells #[.int .i64 a3_0, .int .i64 a3_1, .slice A3_2 l3_2.length c3_2] 30 (0, 0)) zn2 hb); have n8_ := Aside0.mk (blk_below (g := gb488) (o := .cells #[.int .i64 t482, .int .i64 t483, .slice Ao52 t484.length co52] 30 (0, 0)) zn7 hb); have n9_ := Aside0.mk (blk_below (g := gb502) (o := .cells #[.int .i64 t496, .int .i64 t497, .slice Ao71 t498.length co71] 30 (0, 0)) zn8 hb); have n10_ := Aside0.mk (blk_below (g := gb528) (o := .cells #[.int .i64 x529000_1, .int .i64 x529001_1, .slice Ao125 x529002_1.length co125] 30 (0, 0)) zn28 hb); have n11_ := Aside0.mk (below_step zn9 hb); clear HO_23; clear HO_489002; clear HO_503002; clear HO_529002; clear BK479; clear BK480; clear BK481; clear BK488; clear BK502; clear BK528; clear HB; have HO_23 := n0_; have HO_489002 := n1_; have HO_503002 := n2_; have HO_529002 := n3_; have HO533 := n4_; have BK479 := n5_; have BK480 := n6_; have BK481 := n7_; have BK488 := n8_; have BK502 := n9_; have BK528 := n10_; have HB := n11_; clear n0_ n1_ n2_ n3_ n4_ n5_ n6_ n7_ n8_ n9_ n10_ n11_; (try clear hb); (try clear hb2); (try clear hk); (try clear hi); (try clear ho0); (try clear hna_); (try clear hnb_)) | ((with_reducible refine gate_dst (N := 33) rfl ?_); (try (refine gate_guard (by rfl) ?_; dsimp only)); refine box_event ?hg (N := 33) ?hd (cs := #[.int .i64 0, .int .i64 0, .slice none 0 0]) (t := 30) ?hr ?_; (case hd => rfl); (case hg => rfl); (case hr => first | (go_simp; done) | (go_simp; rfl)); intro gb535 hg w127 hbox hb; have n0_ := Aside0.mk (Kd.R_below zn38 hb); have n1_ := Aside0.mk (Kd.R_below zn17 hb); have n2_ := Aside0.mk (Kd.R_below zn16 hb); have n3_ := Aside0.mk (Kd.R_below zn37 hb); have n4_ := Aside0.mk (Kd.R_below (by first | exact HO533.out | ((with_reducible repeat (first | apply Kd.R_alloc | apply Kd.R_drewN | apply Kd.R_drew)); exact HO533.out)) hb); have n5_ := Aside0.mk (blk_below (g := gb479) (o := .cells #[.int .i64 a0_0, .int .i64 a0_1, .slice A0_2 l0_2.length c0_2] 30 (0, 0)) zn4 hb); have n6_ := Aside0.mk (blk_below (g := gb480) (o := .cells #[.int .i64 a1_0, .int .i64 a1_1, .slice A1_2 l1_2.length c1_2] 30 (0, 0)) zn1 hb); have n7_ := Aside0.mk (blk_below (g := gb481) (o := .cells #[.int .i64 a3_0, .int .i64 a3_1, .slice A3_2 l3_2.length c3_2] 30 (0, 0)) zn2 hb); have n8_ := Aside0.mk (blk_below (g := gb488) (o := .cells #[.int .i64 t482, .int .i64 t483, .slice Ao52 t484.length co52] 30 (0, 0)) zn7 hb); have n9_ := Aside0.mk (blk_below (g := gb502) (o := .cells #[.int .i64 t496, .int .i64 t497, .slice Ao71 t498.length co71] 30 (0, 0)) zn8 hb); have n10_ := Aside0.mk (blk_below (g := gb528) (o := .cells #[.int .i64 x529000_1, .int .i64 x529001_1, .slice Ao125 x529002_1.length co125] 30 (0, 0)) zn28 hb); have n11_ := Aside0.mk (below_step zn9 hb); have n12_ := Aside0.mk (hbox); have n13_ := Aside0.mk ((by rw [hg]; exact (below_size zn9) : w.heap.size ≤ gb535)); have n14_ := Aside0.mk ((by rw [hg]; exact (below_size zn9) : w.heap.size ≤ gb535)); have n15_ := Aside0.mk ((zn70 : gb479 ≠ gb535)); have n16_ := Aside0.mk ((zn72 : gb535 ≠ gb479)); have n17_ := Aside0.mk ((zn67 : gb480 ≠ gb535)); have n18_ := Aside0.mk ((zn68 : gb535 ≠ gb480)); have n19_ := Aside0.mk ((zn69 : gb481 ≠ gb535)); have n20_ := Aside0.mk ((zn71 : gb535 ≠ gb481)); have n21_ := Aside0.mk ((zn73 : gb488 ≠ gb535)); have n22_ := Aside0.mk ((zn74 : gb535 ≠ gb488)); have n23_ := Aside0.mk ((zn75 : gb502 ≠ gb535)); have n24_ := Aside0.mk ((zn76 : gb535 ≠ gb502)); have n25_ := Aside0.mk ((by rw [hg]; exact Nat.ne_of_lt (blk_lt (g := gb528) (o := .cells #[.int .i64 x529000_1, .int .i64 x529001_1, .slice Ao125 x529002_1.length co125] 30 (0, 0)) zn28) : gb528 ≠ gb535)); have n26_ := Aside0.mk ((by rw [hg]; exact Nat.ne_of_gt (blk_lt (g := gb528) (o := .cells #[.int .i64 x529000_1, .int .i64 x529001_1, .slice Ao125 x529002_1.length co125] 30 (0, 0)) zn28) : gb535 ≠ gb528)); clear HO_23; clear HO_489002; clear HO_503002; clear HO_529002; clear HO533; clear BK479; clear BK480; clear BK481; clear BK488; clear BK502; clear BK528; clear HB; have HO_23 := n0_; have HO_489002 := n1_; have HO_503002 := n2_; have HO_529002 := n3_; have HO533 := n4_; have BK479 := n5_; have BK480 := n6_; have BK481 := n7_; have BK488 := n8_; have BK502 := n9_; have BK528 := n10_; have HB := n11_; have BK535 := n12_; have GW535 := n13_; have GE535 := n14_; have NB479_535 := n15_; have NB535_479 := n16_; have NB480_535 := n17_; have NB535_480 := n18_; have NB481_535 := n19_; have NB535_481 := n20_; have NB488_535 := n21_; have NB535_488 := n22_; have NB502_535 := n23_; have NB535_502 := n24_; have NB528_535 := n25_; have NB535_528 := n26_; clear n0_ n1_ n2_ n3_ n4_ n5_ n6_ n7_ n8_ n9_ n10_ n11_ n12_ n13_ n14_ n15_ n16_ n17_ n18_ n19_ n20_ n21_ n22_ n23_ n24_ n25_ n26_; clear hb hbox hg; have hnb128 := NB535_479.out; have hnc128 := NB479_535.out; have hnb129 := NB535_480.out; have hnc129 := NB480_535.out; have hnb130 := NB535_481.out; have hnc130 := NB481_535.out; have hnb131 := NB535_488.out; have hnc131 := NB488_535.out; have hnb132 := NB535_502.out; have hnc132 := NB502_535.out; have hnb133 := NB535_528.out; have hnc133 := NB528_535.out; have hcz134_0 : w127.cell? ⟨gb535, 0, none⟩ = some (.int .i64 0) := (blk_cell BK535.out 0).trans rfl; have hcz134_1 : w127.cell? ⟨gb535, 1, none⟩ = some (.int .i64 0) := (blk_cell BK535.out 1).trans rfl; have hcz134_2 : w127.cell? ⟨gb535, 2, none⟩ = some (.slice none 0 0) := (blk_cell BK535.out 2).trans rfl; have hfz134_0 := blk_frozen BK535.out 0; have hfz134_1 := blk_frozen BK535.out 1; have hfz134_2 := blk_frozen BK535.out 2; obtain ⟨Ao135, co135, eo135⟩ := Kd.R_slice HO533.out; subst eo135; have hcz136_0 : w127.cell? ⟨gb528, 0, none⟩ = some (.int .i64 x529000_1) := (blk_cell BK528.out 0).trans rfl; have hcz136_1 : w127.cell? ⟨gb528, 1, none⟩ = some (.int .i64 x529001_1) := (blk_cell BK528.out 1).trans rfl; have hcz136_2 : w127.cell? ⟨gb528, 2, none⟩ = some (.slice Ao125 x529002_1.length co125) := (blk_cell BK528.out 2).trans rfl; have hfz136_0 := blk_frozen BK528.out 0; have hfz136_1 := blk_frozen BK528.out 1; have hfz136_2 := blk_frozen BK528.out 2))
     go_roundg k1
     case measure => have := HK1.out; omega
     case rel => exact ⟨(wrap64 (x32_1 + 1)), (t529), (t530), (t531), (.slice Ao135 t531.length co135), (.slice Ao135 t531.length co135), (t531), zn66, H', ⟨by have := HK1.out; omega⟩, ⟨by (with_reducible repeat (first | apply Kd.R_alloc | apply Kd.R_drewN | apply Kd.R_drew)); exact Kd.R_mono (Kd.R_far (p := ⟨gb528, 2, none⟩) (Kd.R_far (p := ⟨gb528, 1, none⟩) (Kd.R_far (p := ⟨gb528, 0, none⟩) (Kd.R_far (p := ⟨gb535, 2, none⟩) (Kd.R_far (p := ⟨gb535, 1, none⟩) (Kd.R_far (p := ⟨gb535, 0, none⟩) (Kd.R_types (Kd.R_types HO_23.out BK535.out (by decide)) BK528.out (by decide)) (fun _ hk => hk.1.2) (.int .i64 t529)) (fun _ hk => hk.1.2) (.int .i64 t530)) (fun _ hk => hk.1.2) (.slice Ao135 t531.length co135)) (fun _ hk => hk.2) (.int .i64 t529)) (fun _ hk => hk.2) (.int .i64 t530)) (fun _ hk => hk.2) (.slice Ao135 t531.length co135)) (fun _ hk => ⟨hk.1.1.1.1, ⟨hk.1.1.1.2.1, hk.1.1.2⟩⟩)⟩, ⟨by (with_reducible repeat (first | apply Kd.R_alloc | apply Kd.R_drewN | apply Kd.R_drew)); exact Kd.R_mono (Kd.R_far (p := ⟨gb528, 2, none⟩) (Kd.R_far (p := ⟨gb528, 1, none⟩) (Kd.R_far (p := ⟨gb528, 0, none⟩) (Kd.R_far (p := ⟨gb535, 2, none⟩) (Kd.R_far (p := ⟨gb535, 1, none⟩) (Kd.R_far (p := ⟨gb535, 0, none⟩) (Kd.R_types (Kd.R_types HO_489002.out BK535.out (by decide)) BK528.out (by decide)) (fun _ hk => hk.1.2) (.int .i64 t529)) (fun _ hk => hk.1.2) (.int .i64 t530)) (fun _ hk => hk.1.2) (.slice Ao135 t531.length co135)) (fun _ hk => hk.2) (.int .i64 t529)) (fun _ hk => hk.2) (.int .i64 t530)) (fun _ hk => hk.2) (.slice Ao135 t531.length co135)) (fun _ hk => ⟨hk.1.1.1.1, ⟨hk.1.1.1.2.1, hk.1.1.2⟩⟩)⟩, ⟨by (with_reducible repeat (first | apply Kd.R_alloc | apply Kd.R_drewN | apply Kd.R_drew)); exact Kd.R_mono (Kd.R_far (p := ⟨gb528, 2, none⟩) (Kd.R_far (p := ⟨gb528, 1, none⟩) (Kd.R_far (p := ⟨gb528, 0, none⟩) (Kd.R_far (p := ⟨gb535, 2, none⟩) (Kd.R_far (p := ⟨gb535, 1, none⟩) (Kd.R_far (p := ⟨gb535, 0, none⟩) (Kd.R_types (Kd.R_types HO_503002.out BK535.out (by decide)) BK528.out (by decide)) (fun _ hk => hk.1.2) (.int .i64 t529)) (fun _ hk => hk.1.2) (.int .i64 t530)) (fun _ hk => hk.1.2) (.slice Ao135 t531.length co135)) (fun _ hk => hk.2) (.int .i64 t529)) (fun _ hk => hk.2) (.int .i64 t530)) (fun _ hk => hk.2) (.slice Ao135 t531.length co135)) (fun _ hk => ⟨hk.1.1.1.1, ⟨hk.1.1.1.2.1, hk.1.1.2⟩⟩)⟩, ⟨by (with_reducible repeat (first | apply Kd.R_alloc | apply Kd.R_drewN | apply Kd.R_drew)); exact Kd.R_mono (Kd.R_far (p := ⟨gb528, 2, none⟩) (Kd.R_far (p := ⟨gb528, 1, none⟩) (Kd.R_far (p := ⟨gb528, 0, none⟩) (Kd.R_far (p := ⟨gb535, 2, none⟩) (Kd.R_far (p := ⟨gb535, 1, none⟩) (Kd.R_far (p := ⟨gb535, 0, none⟩) (Kd.R_types (Kd.R_types HO533.out BK535.out (by decide)) BK528.out (by decide)) (fun _ hk => hk.1.2) (.int .i64 t529)) (fun _ hk => hk.1.2) (.int .i64 t530)) (fun _ hk => hk.1.2) (.slice Ao135 t531.length co135)) (fun _ hk => hk.2) (.int .i64 t529)) (fun _ hk => hk.2) (.int .i64 t530)) (fun _ hk => hk.2) (.slice Ao135 t531.length co135)) (fun _ hk => ⟨hk.1.1.1.1.1.2, ⟨hk.1.1.1.1.2, hk.1.1.1.2⟩⟩)⟩, ⟨by (with_reducible repeat (first | refine blk_drewN ?_ _ | refine blk_drew ?_ | refine blk_alloc ?_ _)); refine blk_far ?_ NB479_528.out _; (with_reducible repeat (first | refine blk_drewN ?_ _ | refine blk_drew ?_ | refine blk_alloc ?_ _)); refine blk_far ?_ NB479_528.out _; (with_reducible repeat (first | refine blk_drewN ?_ _ | refine blk_drew ?_ | refine blk_alloc ?_ _)); refine blk_far ?_ NB479_528.out _; (with_reducible repeat (first | refine blk_drewN ?_ _ | refine blk_drew ?_ | refine blk_alloc ?_ _)); refine blk_far ?_ NB479_535.out _; (with_reducible repeat (first | refine blk_drewN ?_ _ | refine blk_drew ?_ | refine blk_alloc ?_ _)); refine blk_far ?_ NB479_535.out _; (with_reducible repeat (first | refine blk_drewN ?_ _ | refine blk_drew ?_ | refine blk_alloc ?_ _)); refine blk_far ?_ NB479_535.out _; first | exact BK479.out | ((with_reducible repeat (first | refine blk_drewN ?_ _ | refine blk_drew ?_ | refine blk_alloc ?_ _)); exact BK479.out)⟩, ⟨by (with_reducible repeat (first | refine blk_drewN ?_ _ | refine blk_drew ?_ | refine blk_alloc ?_ _)); refine blk_far ?_ NB480_528.out _; (with_reducible repeat (first | refine blk_drewN ?_ _ | refine blk_drew ?_ | refine blk_alloc ?_ _)); refine blk_far ?_ NB480_528.out _; (with_reducible repeat (first | refine blk_drewN ?_ _ | refine blk_drew ?_ | refine blk_alloc ?_ _)); refine blk_far ?_ NB480_528.out _; (with_reducible repeat (first | refine blk_drewN ?_ _ | refine blk_drew ?_ | refine blk_alloc ?_ _)); refine blk_far ?_ NB480_535.out _; (with_reducible repeat (first | refine blk_drewN ?_ _ | refine blk_drew ?_ | refine blk_alloc ?_ _)); refine blk_far ?_ NB480_535.out _; (with_reducible repeat (first | refine blk_drewN ?_ _ | refine blk_drew ?_ | refine blk_alloc ?_ _)); refine blk_far ?_ NB480_535.out _; first | exact BK480.out | ((with_reducible repeat (first | refine blk_drewN ?_ _ | refine blk_drew ?_ | refine blk_alloc ?_ _)); exact BK480.out)⟩, ⟨by (with_reducible repeat (first | refine blk_drewN ?_ _ | refine blk_drew ?_ | refine blk_alloc ?_ _)); refine blk_far ?_ NB481_528.out _; (with_reducible repeat (first | refine blk_drewN ?_ _ | refine blk_drew ?_ | refine blk_alloc ?_ _)); refine blk_far ?_ NB481_528.out _; (with_reducible repeat (first | refine blk_drewN ?_ _ | refine blk_drew ?_ | refine blk_alloc ?_ _)); refine blk_far ?_ NB481_528.out _; (with_reducible repeat (first | refine blk_drewN ?_ _ | refine blk_drew ?_ | refine blk_alloc ?_ _)); refine blk_far ?_ NB481_535.out _; (with_reducible repeat (first | refine blk_drewN ?_ _ | refine blk_drew ?_ | refine blk_alloc ?_ _)); refine blk_far ?_ NB481_535.out _; (with_reducible repeat (first | refine blk_drewN ?_ _ | refine blk_drew ?_ | refine blk_alloc ?_ _)); refine blk_far ?_ NB481_535.out _; first | exact BK481.out | ((with_reducible repeat (first | refine blk_drewN ?_ _ | refine blk_drew ?_ | refine blk_alloc ?_ _)); exact BK481.out)⟩, ⟨by (with_reducible repeat (first | refine blk_drewN ?_ _ | refine blk_drew ?_ | refine blk_alloc ?_ _)); refine blk_far ?_ NB488_528.out _; (with_reducible repeat (first | refine blk_drewN ?_ _ | refine blk_drew ?_ | refine blk_alloc ?_ _)); refine blk_far ?_ NB488_528.out _; (with_reducible repeat (first | refine blk_drewN ?_ _ | refine blk_drew ?_ | refine blk_alloc ?_ _)); refine blk_far ?_ NB488_528.out _; (with_reducible repeat (first | refine blk_drewN ?_ _ | refine blk_drew ?_ | refine blk_alloc ?_ _)); refine blk_far ?_ NB488_535.out _; (with_reducible repeat (first | refine blk_drewN ?_ _ | refine blk_drew ?_ | refine blk_alloc ?_ _)); refine blk_far ?_ NB488_535.out _; (with_reducible repeat (first | refine blk_drewN ?_ _ | refine blk_drew ?_ | refine blk_alloc ?_ _)); refine blk_far ?_ NB488_535.out _; first | exact BK488.out | ((with_reducible repeat (first | refine blk_drewN ?_ _ | refine blk_drew ?_ | refine blk_alloc ?_ _)); exact BK488.out)⟩, ⟨by (with_reducible repeat (first | refine blk_drewN ?_ _ | refine blk_drew ?_ | refine blk_alloc ?_ _)); refine blk_far ?_ NB502_528.out _; (with_reducible repeat (first | refine blk_drewN ?_ _ | refine blk_drew ?_ | refine blk_alloc ?_ _)); refine blk_far ?_ NB502_528.out _; (with_reducible repeat (first | refine blk_drewN ?_ _ | refine blk_drew ?_ | refine blk_alloc ?_ _)); refine blk_far ?_ NB502_528.out _; (with_reducible repeat (first | refine blk_drewN ?_ _ | refine blk_drew ?_ | refine blk_alloc ?_ _)); refine blk_far ?_ NB502_535.out _; (with_reducible repeat (first | refine blk_drewN ?_ _ | refine blk_drew ?_ | refine blk_alloc ?_ _)); refine blk_far ?_ NB502_535.out _; (with_reducible repeat (first | refine blk_drewN ?_ _ | refine blk_drew ?_ | refine blk_alloc ?_ _)); refine blk_far ?_ NB502_535.out _; first | exact BK502.out | ((with_reducible repeat (first | refine blk_drewN ?_ _ | refine blk_drew ?_ | refine blk_alloc ?_ _)); exact BK502.out)⟩, ⟨by (with_reducible repeat (first | refine blk_drewN ?_ _ | refine blk_drew ?_ | refine blk_alloc ?_ _)); refine blk_put (cs := #[.int .i64 t529, .int .i64 t530, .slice Ao125 x529002_1.length co125]) ?_ 2 _ rfl; (with_reducible repeat (first | refine blk_drewN ?_ _ | refine blk_drew ?_ | refine blk_alloc ?_ _)); refine blk_put (cs := #[.int .i64 t529, .int .i64 x529001_1, .slice Ao125 x529002_1.length co125]) ?_ 1 _ rfl; (with_reducible repeat (first | refine blk_drewN ?_ _ | refine blk_drew ?_ | refine blk_alloc ?_ _)); refine blk_put (cs := #[.int .i64 x529000_1, .int .i64 x529001_1, .slice Ao125 x529002_1.length co125]) ?_ 0 _ rfl; (with_reducible repeat (first | refine blk_drewN ?_ _ | refine blk_drew ?_ | refine blk_alloc ?_ _)); refine blk_far ?_ NB528_535.out _; (with_reducible repeat (first | refine blk_drewN ?_ _ | refine blk_drew ?_ | refine blk_alloc ?_ _)); refine blk_far ?_ NB528_535.out _; (with_reducible repeat (first | refine blk_drewN ?_ _ | refine blk_drew ?_ | refine blk_alloc ?_ _)); refine blk_far ?_ NB528_535.out _; first | exact BK528.out | ((with_reducible repeat (first | refine blk_drewN ?_ _ | refine blk_drew ?_ | refine blk_alloc ?_ _)); exact BK528.out)⟩, ⟨by repeat (first | (with_reducible first | exact HB.out | apply below_alloc | apply pw_below_drewN | apply below_drew1 | refine below_set ?_ GE479.out | refine below_set ?_ GE480.out | refine below_set ?_ GE481.out | refine below_set ?_ GE488.out | refine below_set ?_ GE502.out | refine below_set ?_ GE528.out | refine below_set ?_ GE535.out) | exact HB.out)⟩, ⟨Or.inl ⟨rfl, rfl⟩⟩⟩
    obtain ⟨hn1_, hn2_⟩ : u529002 = uo_ ∧ x529002_1 = lo_ := by
     rcases NOW.out with h_ | ⟨_, _, h_⟩
     · exact h_
     · rw [h_] at c116; exact absurd (by decide) c116
    subst hn1_ hn2_
    clear NOW
    rw [if_neg c116] at H
    have c116b0 : decide (x32_1 < 4) = false := decide_eq_false c116
    clear c116
    (first | rw [c116b0] | (simp only [i64_w, i32_w]; rw [c116b0]) | skip)
    replace H := Option.bind_eq_some_iff.mp H
    obtain ⟨⟨t536, t537, t538, t541⟩, A1370, H⟩ := H
    try dsimp only at H
    have A137 := Aside0.mk A1370
    clear A1370
    replace H := Option.bind_eq_some_iff.mp H
    obtain ⟨t543, A1380, H⟩ := H
    try dsimp only at H
    have A138 := Aside0.mk A1380
    clear A1380
    by_cases c139 : t543 = true
    rotate_left
    ·replace c139 := Bool.eq_false_iff.mpr c139
     subst c139
     have H1 : (none) = some r := by rw [if_neg (show ¬ (false = true) by decide)] at H; exact H
     clear H
     have H := H1
     clear H1
     exact absurd H (by simp)
    subst c139
    rw [if_pos rfl] at H
    by_cases c140 : t541 = true
    rotate_left
    ·replace c140 := Bool.eq_false_iff.mpr c140
     subst c140
     have H1 : (none) = some r := by rw [if_neg (show ¬ (false = true) by decide)] at H; exact H
     clear H
     have H := H1
     clear H1
     exact absurd H (by simp)
    subst c140
    rw [if_pos rfl] at H
    replace H := Option.bind_eq_some_iff.mp H
    obtain ⟨t544, A1410, H⟩ := H
    try dsimp only at H
    have A141 := Aside0.mk A1410
    clear A1410
    by_cases c142 : t544 = true
    rotate_left
    ·replace c142 := Bool.eq_false_iff.mpr c142
     subst c142
     have H1 : (none) = some r := by rw [if_neg (show ¬ (false = true) by decide)] at H; exact H
     clear H
     have H := H1
     clear H1
     exact absurd H (by simp)
    subst c142
    rw [if_pos rfl] at H
    by_cases c143 : (t510.length : Int) = t518
    rotate_left
    ·rw [if_neg c143] at H
     exact absurd H (by simp)
    rw [if_pos c143] at H
    have c143b0 : ((t510.length : Int) == t518) = true := beq_iff_eq.mpr c143
    have c143b1 : ((t510.length : Int) != t518) = false := bne_eq_false_iff_eq.mpr c143
    clear c143
    by_cases c144 : (wrap64 (t518 + (l0_2.length : Int))) = (wrap64 (a0_0 * a0_1))
    rotate_left
    ·rw [if_neg c144] at H
     exact absurd H (by simp)
    rw [if_pos c144] at H
    have c144b0 : ((wrap64 (t518 + (l0_2.length : Int))) == (wrap64 (a0_0 * a0_1))) = true := beq_iff_eq.mpr c144
    have c144b1 : ((wrap64 (t518 + (l0_2.length : Int))) != (wrap64 (a0_0 * a0_1))) = false := bne_eq_false_iff_eq.mpr c144
    clear c144
    replace H := Option.bind_eq_some_iff.mp H
    obtain ⟨t545, A1450, H⟩ := H
    replace H : (if t545 = true then (laws_FnBoardsTurnedOfAll.l1 k1 a2 a4 a5 a6 t510 (t510.length : Int) 0 a0_0 a0_1 l0_2 a1_0 a1_1 l1_2 a3_0 a3_1 l3_2 t482 t483 t484 t496 t497 t498) else (none)) = some r := H
    have A145 := Aside0.mk A1450
    clear A1450
    by_cases c146 : t545 = true
    rotate_left
    ·replace c146 := Bool.eq_false_iff.mpr c146
     subst c146
     have H1 : (none) = some r := by rw [if_neg (show ¬ (false = true) by decide)] at H; exact H
     clear H
     have H := H1
     clear H1
     exact absurd H (by simp)
    subst c146
    rw [if_pos rfl] at H
    have H' := Aside0.mk H
    clear H
    have hnb147 := NB502_479.out
    have hnc147 := NB479_502.out
    have hnb148 := NB502_480.out
    have hnc148 := NB480_502.out
    have hnb149 := NB502_481.out
    have hnc149 := NB481_502.out
    have hnb150 := NB502_488.out
    have hnc150 := NB488_502.out
    have hnb151 := NB502_528.out
    have hnc151 := NB528_502.out
    have hcz152_0 : wr.cell? ⟨gb502, 0, none⟩ = some (.int .i64 t496) := (blk_cell BK502.out 0).trans rfl
    have hcz152_1 : wr.cell? ⟨gb502, 1, none⟩ = some (.int .i64 t497) := (blk_cell BK502.out 1).trans rfl
    have hcz152_2 : wr.cell? ⟨gb502, 2, none⟩ = some (.slice Ao71 t498.length co71) := (blk_cell BK502.out 2).trans rfl
    have hfz152_0 := blk_frozen BK502.out 0
    have hfz152_1 := blk_frozen BK502.out 1
    have hfz152_2 := blk_frozen BK502.out 2
    go_wp2_with (first | ((with_reducible refine gate_callee (f := 17) rfl ?_); refine goesL_ (some 205) rfl rfl Try.func17 (by kernel_rfl) rfl #[.agg #[.int .i64 t496, .int .i64 t497, .slice Ao71 t498.length co71]] rfl zn3 ?_; (with_reducible refine (impl_MirrorBoard.calls k1 t496 t497 _ _ t498 t536 t537 t538 true _ ?side1 ?side2 A137.out).mono ?_); (case side1 => exact zn65); (case side2 => exact (Kd.R_reads' HO_503002.out).2.1); rintro e w153 ⟨v539, rfl, ho0, hb⟩; refine ⟨_, rfl, ?_⟩; have n0_ := Aside0.mk (Kd.R_elder' zn38 (Kd.R_base ho0) hb); have n1_ := Aside0.mk (Kd.R_elder' zn17 (Kd.R_base ho0) hb); have n2_ := Aside0.mk (Kd.R_elder' zn16 (Kd.R_base ho0) hb); have n3_ := Aside0.mk (Kd.R_elder' zn37 (Kd.R_base ho0) hb); have n4_ := Aside0.mk (Kd.R_lower (Kd.R_new' (Kd.R_new' (Kd.R_new' (Kd.R_new' ho0 (Kd.R_lt zn38)) (Kd.R_lt zn17)) (Kd.R_lt zn16)) (Kd.R_lt zn37)) (below_size zn9)); have n5_ := Aside0.mk (blk_below (g := gb479) (o := .cells #[.int .i64 a0_0, .int .i64 a0_1, .slice A0_2 l0_2.length c0_2] 30 (0, 0)) zn4 hb); have n6_ := Aside0.mk (blk_below (g := gb480) (o := .cells #[.int .i64 a1_0, .int .i64 a1_1, .slice A1_2 l1_2.length c1_2] 30 (0, 0)) zn1 hb); have n7_ := Aside0.mk (blk_below (g := gb481) (o := .cells #[.int .i64 a3_0, .int .i64 a3_1, .slice A3_2 l3_2.length c3_2] 30 (0, 0)) zn2 hb); have n8_ := Aside0.mk (blk_below (g := gb488) (o := .cells #[.int .i64 t482, .int .i64 t483, .slice Ao52 t484.length co52] 30 (0, 0)) zn7 hb); have n9_ := Aside0.mk (blk_below (g := gb502) (o := .cells #[.int .i64 t496, .int .i64 t497, .slice Ao71 t498.length co71] 30 (0, 0)) zn8 hb); have n10_ := Aside0.mk (blk_below (g := gb528) (o := .cells #[.int .i64 x529000_1, .int .i64 x529001_1, u529002] 30 (0, 0)) zn28 hb); have n11_ := Aside0.mk (below_step zn9 hb); clear HO_23; clear HO_489002; clear HO_503002; clear HO_529002; clear BK479; clear BK480; clear BK481; clear BK488; clear BK502; clear BK528; clear HB; have HO_23 := n0_; have HO_489002 := n1_; have HO_503002 := n2_; have HO_529002 := n3_; have HO540 := n4_; have BK479 := n5_; have BK480 := n6_; have BK481 := n7_; have BK488 := n8_; have BK502 := n9_; have BK528 := n10_; have HB := n11_; clear n0_ n1_ n2_ n3_ n4_ n5_ n6_ n7_ n8_ n9_ n10_ n11_; (try clear hb); (try clear hb2); (try clear hk); (try clear hi); (try clear ho0); (try clear hna_); (try clear hnb_)) | ((with_reducible refine gate_dst (N := 35) rfl ?_); (try (refine gate_guard (by rfl) ?_; dsimp only)); refine box_event ?hg (N := 35) ?hd (cs := #[.int .i64 0, .int .i64 0, .slice none 0 0]) (t := 30) ?hr ?_; (case hd => rfl); (case hg => rfl); (case hr => first | (go_simp; done) | (go_simp; rfl)); intro gb542 hg w154 hbox hb; have n0_ := Aside0.mk (Kd.R_below zn38 hb); have n1_ := Aside0.mk (Kd.R_below zn17 hb); have n2_ := Aside0.mk (Kd.R_below zn16 hb); have n3_ := Aside0.mk (Kd.R_below zn37 hb); have n4_ := Aside0.mk (Kd.R_below (by first | exact HO540.out | ((with_reducible repeat (first | apply Kd.R_alloc | apply Kd.R_drewN | apply Kd.R_drew)); exact HO540.out)) hb); have n5_ := Aside0.mk (blk_below (g := gb479) (o := .cells #[.int .i64 a0_0, .int .i64 a0_1, .slice A0_2 l0_2.length c0_2] 30 (0, 0)) zn4 hb); have n6_ := Aside0.mk (blk_below (g := gb480) (o := .cells #[.int .i64 a1_0, .int .i64 a1_1, .slice A1_2 l1_2.length c1_2] 30 (0, 0)) zn1 hb); have n7_ := Aside0.mk (blk_below (g := gb481) (o := .cells #[.int .i64 a3_0, .int .i64 a3_1, .slice A3_2 l3_2.length c3_2] 30 (0, 0)) zn2 hb); have n8_ := Aside0.mk (blk_below (g := gb488) (o := .cells #[.int .i64 t482, .int .i64 t483, .slice Ao52 t484.length co52] 30 (0, 0)) zn7 hb); have n9_ := Aside0.mk (blk_below (g := gb502) (o := .cells #[.int .i64 t496, .int .i64 t497, .slice Ao71 t498.length co71] 30 (0, 0)) zn8 hb); have n10_ := Aside0.mk (blk_below (g := gb528) (o := .cells #[.int .i64 x529000_1, .int .i64 x529001_1, u529002] 30 (0, 0)) zn28 hb); have n11_ := Aside0.mk (below_step zn9 hb); have n12_ := Aside0.mk (hbox); have n13_ := Aside0.mk ((by rw [hg]; exact (below_size zn9) : w.heap.size ≤ gb542)); have n14_ := Aside0.mk ((by rw [hg]; exact (below_size zn9) : w.heap.size ≤ gb542)); have n15_ := Aside0.mk ((zn70 : gb479 ≠ gb542)); have n16_ := Aside0.mk ((zn72 : gb542 ≠ gb479)); have n17_ := Aside0.mk ((zn67 : gb480 ≠ gb542)); have n18_ := Aside0.mk ((zn68 : gb542 ≠ gb480)); have n19_ := Aside0.mk ((zn69 : gb481 ≠ gb542)); have n20_ := Aside0.mk ((zn71 : gb542 ≠ gb481)); have n21_ := Aside0.mk ((zn73 : gb488 ≠ gb542)); have n22_ := Aside0.mk ((zn74 : gb542 ≠ gb488)); have n23_ := Aside0.mk ((zn75 : gb502 ≠ gb542)); have n24_ := Aside0.mk ((zn76 : gb542 ≠ gb502)); have n25_ := Aside0.mk ((by rw [hg]; exact Nat.ne_of_lt (blk_lt (g := gb528) (o := .cells #[.int .i64 x529000_1, .int .i64 x529001_1, u529002] 30 (0, 0)) zn28) : gb528 ≠ gb542)); have n26_ := Aside0.mk ((by rw [hg]; exact Nat.ne_of_gt (blk_lt (g := gb528) (o := .cells #[.int .i64 x529000_1, .int .i64 x529001_1, u529002] 30 (0, 0)) zn28) : gb542 ≠ gb528)); clear HO_23; clear HO_489002; clear HO_503002; clear HO_529002; clear HO540; clear BK479; clear BK480; clear BK481; clear BK488; clear BK502; clear BK528; clear HB; have HO_23 := n0_; have HO_489002 := n1_; have HO_503002 := n2_; have HO_529002 := n3_; have HO540 := n4_; have BK479 := n5_; have BK480 := n6_; have BK481 := n7_; have BK488 := n8_; have BK502 := n9_; have BK528 := n10_; have HB := n11_; have BK542 := n12_; have GW542 := n13_; have GE542 := n14_; have NB479_542 := n15_; have NB542_479 := n16_; have NB480_542 := n17_; have NB542_480 := n18_; have NB481_542 := n19_; have NB542_481 := n20_; have NB488_542 := n21_; have NB542_488 := n22_; have NB502_542 := n23_; have NB542_502 := n24_; have NB528_542 := n25_; have NB542_528 := n26_; clear n0_ n1_ n2_ n3_ n4_ n5_ n6_ n7_ n8_ n9_ n10_ n11_ n12_ n13_ n14_ n15_ n16_ n17_ n18_ n19_ n20_ n21_ n22_ n23_ n24_ n25_ n26_; clear hb hbox hg; have hnb155 := NB542_479.out; have hnc155 := NB479_542.out; have hnb156 := NB542_480.out; have hnc156 := NB480_542.out; have hnb157 := NB542_481.out; have hnc157 := NB481_542.out; have hnb158 := NB542_488.out; have hnc158 := NB488_542.out; have hnb159 := NB542_502.out; have hnc159 := NB502_542.out; have hnb160 := NB542_528.out; have hnc160 := NB528_542.out; have hcz161_0 : w154.cell? ⟨gb542, 0, none⟩ = some (.int .i64 0) := (blk_cell BK542.out 0).trans rfl; have hcz161_1 : w154.cell? ⟨gb542, 1, none⟩ = some (.int .i64 0) := (blk_cell BK542.out 1).trans rfl; have hcz161_2 : w154.cell? ⟨gb542, 2, none⟩ = some (.slice none 0 0) := (blk_cell BK542.out 2).trans rfl; have hfz161_0 := blk_frozen BK542.out 0; have hfz161_1 := blk_frozen BK542.out 1; have hfz161_2 := blk_frozen BK542.out 2; obtain ⟨Ao162, co162, eo162⟩ := Kd.R_slice HO540.out; subst eo162; have hnb163 := NB528_479.out; have hnc163 := NB479_528.out; have hnb164 := NB528_480.out; have hnc164 := NB480_528.out; have hnb165 := NB528_481.out; have hnc165 := NB481_528.out; have hnb166 := NB528_488.out; have hnc166 := NB488_528.out; have hcz167_0 : w154.cell? ⟨gb528, 0, none⟩ = some (.int .i64 x529000_1) := (blk_cell BK528.out 0).trans rfl; have hcz167_1 : w154.cell? ⟨gb528, 1, none⟩ = some (.int .i64 x529001_1) := (blk_cell BK528.out 1).trans rfl; have hcz167_2 : w154.cell? ⟨gb528, 2, none⟩ = some (u529002) := (blk_cell BK528.out 2).trans rfl; have hfz167_0 := blk_frozen BK528.out 0; have hfz167_1 := blk_frozen BK528.out 1; have hfz167_2 := blk_frozen BK528.out 2; have hnb168 := NB479_480.out; have hnc168 := NB480_479.out; have hnb169 := NB479_481.out; have hnc169 := NB481_479.out; have hnb170 := NB479_488.out; have hnc170 := NB488_479.out; have hcz171_0 : w154.cell? ⟨gb479, 0, none⟩ = some (.int .i64 a0_0) := (blk_cell BK479.out 0).trans rfl; have hcz171_1 : w154.cell? ⟨gb479, 1, none⟩ = some (.int .i64 a0_1) := (blk_cell BK479.out 1).trans rfl; have hcz171_2 : w154.cell? ⟨gb479, 2, none⟩ = some (.slice A0_2 l0_2.length c0_2) := (blk_cell BK479.out 2).trans rfl; have hfz171_0 := blk_frozen BK479.out 0; have hfz171_1 := blk_frozen BK479.out 1; have hfz171_2 := blk_frozen BK479.out 2; obtain ⟨Ao172, co172, eo172⟩ := Kd.R_slice HO_529002.out; subst eo172) | ((with_reducible refine gate_callee (f := 23) rfl ?_); refine goesL_ (some 210) rfl rfl Try.func23 (by kernel_rfl) rfl #[.agg #[.int .i64 x529000_1, .int .i64 x529001_1, .slice Ao172 x529002_1.length co172], .agg #[.int .i64 a0_0, .int .i64 a0_1, .slice A0_2 l0_2.length c0_2]] rfl zn3 ?_; (with_reducible refine (laws_yBoard.calls k1 x529000_1 x529001_1 _ _ x529002_1 a0_0 a0_1 _ _ l0_2 true _ ?side1 ?side2 ?side3 ?side4 A138.out).mono ?_); (case side1 => refine (Kd.R_reads' (e := 3) (base := w.heap.size) (ok := fun k_ => ((some k_ ≠ (.slice Ao94 t510.length co94 : Value).ownBlock ∧ (some k_ ≠ (.slice Ao52 t484.length co52 : Value).ownBlock ∧ some k_ ≠ (.slice Ao71 t498.length co71 : Value).ownBlock)) ∧ some k_ ≠ (.slice Ao162 t538.length co162 : Value).ownBlock)) (n := x529002_1.length) (c := co172) ?_).2.2; exact zn46); (case side2 => exact (Kd.R_reads' HO_529002.out).2.1); (case side3 => exact Kd.C_below HR0_2.out zn25); (case side4 => exact HC0_2.out); rintro e w173 ⟨rfl, hb⟩; refine ⟨_, rfl, ?_⟩; have n0_ := Aside0.mk (Kd.R_below (by (with_reducible repeat (first | apply Kd.R_alloc | apply Kd.R_drewN | apply Kd.R_drew)); exact (Kd.R_mono (Kd.R_far (p := ⟨gb542, 2, none⟩) (Kd.R_far (p := ⟨gb542, 1, none⟩) (Kd.R_far (p := ⟨gb542, 0, none⟩) (Kd.R_types HO_23.out BK542.out (by decide)) (fun _ hk => hk.2) (.int .i64 t536)) (fun _ hk => hk.2) (.int .i64 t537)) (fun _ hk => hk.2) (.slice Ao162 t538.length co162)) (fun _ h_ => h_.1))) hb); have n1_ := Aside0.mk (Kd.R_below (by (with_reducible repeat (first | apply Kd.R_alloc | apply Kd.R_drewN | apply Kd.R_drew)); exact (Kd.R_mono (Kd.R_far (p := ⟨gb542, 2, none⟩) (Kd.R_far (p := ⟨gb542, 1, none⟩) (Kd.R_far (p := ⟨gb542, 0, none⟩) (Kd.R_types HO_489002.out BK542.out (by decide)) (fun _ hk => hk.2) (.int .i64 t536)) (fun _ hk => hk.2) (.int .i64 t537)) (fun _ hk => hk.2) (.slice Ao162 t538.length co162)) (fun _ h_ => h_.1))) hb); have n2_ := Aside0.mk (Kd.R_below (by (with_reducible repeat (first | apply Kd.R_alloc | apply Kd.R_drewN | apply Kd.R_drew)); exact (Kd.R_mono (Kd.R_far (p := ⟨gb542, 2, none⟩) (Kd.R_far (p := ⟨gb542, 1, none⟩) (Kd.R_far (p := ⟨gb542, 0, none⟩) (Kd.R_types HO_503002.out BK542.out (by decide)) (fun _ hk => hk.2) (.int .i64 t536)) (fun _ hk => hk.2) (.int .i64 t537)) (fun _ hk => hk.2) (.slice Ao162 t538.length co162)) (fun _ h_ => h_.1))) hb); have n3_ := Aside0.mk (Kd.R_below zn46 hb); have n4_ := Aside0.mk (Kd.R_below (by (with_reducible repeat (first | apply Kd.R_alloc | apply Kd.R_drewN | apply Kd.R_drew)); exact (Kd.R_mono (Kd.R_far (p := ⟨gb542, 2, none⟩) (Kd.R_far (p := ⟨gb542, 1, none⟩) (Kd.R_far (p := ⟨gb542, 0, none⟩) (Kd.R_types HO540.out BK542.out (by decide)) (fun _ hk => hk.2) (.int .i64 t536)) (fun _ hk => hk.2) (.int .i64 t537)) (fun _ hk => hk.2) (.slice Ao162 t538.length co162)) (fun _ h_ => h_.1))) hb); have n5_ := Aside0.mk (blk_below (g := gb479) (o := .cells #[.int .i64 a0_0, .int .i64 a0_1, .slice A0_2 l0_2.length c0_2] 30 (0, 0)) (by (with_reducible repeat (first | refine blk_drewN ?_ _ | refine blk_drew ?_ | refine blk_alloc ?_ _)); refine blk_far ?_ NB479_542.out _; (with_reducible repeat (first | refine blk_drewN ?_ _ | refine blk_drew ?_ | refine blk_alloc ?_ _)); refine blk_far ?_ NB479_542.out _; (with_reducible repeat (first | refine blk_drewN ?_ _ | refine blk_drew ?_ | refine blk_alloc ?_ _)); refine blk_far ?_ NB479_542.out _; first | exact BK479.out | ((with_reducible repeat (first | refine blk_drewN ?_ _ | refine blk_drew ?_ | refine blk_alloc ?_ _)); exact BK479.out)) hb); have n6_ := Aside0.mk (blk_below (g := gb480) (o := .cells #[.int .i64 a1_0, .int .i64 a1_1, .slice A1_2 l1_2.length c1_2] 30 (0, 0)) (by (with_reducible repeat (first | refine blk_drewN ?_ _ | refine blk_drew ?_ | refine blk_alloc ?_ _)); refine blk_far ?_ NB480_542.out _; (with_reducible repeat (first | refine blk_drewN ?_ _ | refine blk_drew ?_ | refine blk_alloc ?_ _)); refine blk_far ?_ NB480_542.out _; (with_reducible repeat (first | refine blk_drewN ?_ _ | refine blk_drew ?_ | refine blk_alloc ?_ _)); refine blk_far ?_ NB480_542.out _; first | exact BK480.out | ((with_reducible repeat (first | refine blk_drewN ?_ _ | refine blk_drew ?_ | refine blk_alloc ?_ _)); exact BK480.out)) hb); have n7_ := Aside0.mk (blk_below (g := gb481) (o := .cells #[.int .i64 a3_0, .int .i64 a3_1, .slice A3_2 l3_2.length c3_2] 30 (0, 0)) (by (with_reducible repeat (first | refine blk_drewN ?_ _ | refine blk_drew ?_ | refine blk_alloc ?_ _)); refine blk_far ?_ NB481_542.out _; (with_reducible repeat (first | refine blk_drewN ?_ _ | refine blk_drew ?_ | refine blk_alloc ?_ _)); refine blk_far ?_ NB481_542.out _; (with_reducible repeat (first | refine blk_drewN ?_ _ | refine blk_drew ?_ | refine blk_alloc ?_ _)); refine blk_far ?_ NB481_542.out _; first | exact BK481.out | ((with_reducible repeat (first | refine blk_drewN ?_ _ | refine blk_drew ?_ | refine blk_alloc ?_ _)); exact BK481.out)) hb); have n8_ := Aside0.mk (blk_below (g := gb488) (o := .cells #[.int .i64 t482, .int .i64 t483, .slice Ao52 t484.length co52] 30 (0, 0)) (by (with_reducible repeat (first | refine blk_drewN ?_ _ | refine blk_drew ?_ | refine blk_alloc ?_ _)); refine blk_far ?_ NB488_542.out _; (with_reducible repeat (first | refine blk_drewN ?_ _ | refine blk_drew ?_ | refine blk_alloc ?_ _)); refine blk_far ?_ NB488_542.out _; (with_reducible repeat (first | refine blk_drewN ?_ _ | refine blk_drew ?_ | refine blk_alloc ?_ _)); refine blk_far ?_ NB488_542.out _; first | exact BK488.out | ((with_reducible repeat (first | refine blk_drewN ?_ _ | refine blk_drew ?_ | refine blk_alloc ?_ _)); exact BK488.out)) hb); have n9_ := Aside0.mk (blk_below (g := gb502) (o := .cells #[.int .i64 t496, .int .i64 t497, .slice Ao71 t498.length co71] 30 (0, 0)) (by (with_reducible repeat (first | refine blk_drewN ?_ _ | refine blk_drew ?_ | refine blk_alloc ?_ _)); refine blk_far ?_ NB502_542.out _; (with_reducible repeat (first | refine blk_drewN ?_ _ | refine blk_drew ?_ | refine blk_alloc ?_ _)); refine blk_far ?_ NB502_542.out _; (with_reducible repeat (first | refine blk_drewN ?_ _ | refine blk_drew ?_ | refine blk_alloc ?_ _)); refine blk_far ?_ NB502_542.out _; first | exact BK502.out | ((with_reducible repeat (first | refine blk_drewN ?_ _ | refine blk_drew ?_ | refine blk_alloc ?_ _)); exact BK502.out)) hb); have n10_ := Aside0.mk (blk_below (g := gb528) (o := .cells #[.int .i64 x529000_1, .int .i64 x529001_1, .slice Ao172 x529002_1.length co172] 30 (0, 0)) (by (with_reducible repeat (first | refine blk_drewN ?_ _ | refine blk_drew ?_ | refine blk_alloc ?_ _)); refine blk_far ?_ NB528_542.out _; (with_reducible repeat (first | refine blk_drewN ?_ _ | refine blk_drew ?_ | refine blk_alloc ?_ _)); refine blk_far ?_ NB528_542.out _; (with_reducible repeat (first | refine blk_drewN ?_ _ | refine blk_drew ?_ | refine blk_alloc ?_ _)); refine blk_far ?_ NB528_542.out _; first | exact BK528.out | ((with_reducible repeat (first | refine blk_drewN ?_ _ | refine blk_drew ?_ | refine blk_alloc ?_ _)); exact BK528.out)) hb); have n11_ := Aside0.mk (blk_below (g := gb542) (o := .cells #[.int .i64 t536, .int .i64 t537, .slice Ao162 t538.length co162] 30 (0, 0)) (by (with_reducible repeat (first | refine blk_drewN ?_ _ | refine blk_drew ?_ | refine blk_alloc ?_ _)); refine blk_put (cs := #[.int .i64 t536, .int .i64 t537, .slice none 0 0]) ?_ 2 _ rfl; (with_reducible repeat (first | refine blk_drewN ?_ _ | refine blk_drew ?_ | refine blk_alloc ?_ _)); refine blk_put (cs := #[.int .i64 t536, .int .i64 0, .slice none 0 0]) ?_ 1 _ rfl; (with_reducible repeat (first | refine blk_drewN ?_ _ | refine blk_drew ?_ | refine blk_alloc ?_ _)); refine blk_put (cs := #[.int .i64 0, .int .i64 0, .slice none 0 0]) ?_ 0 _ rfl; first | exact BK542.out | ((with_reducible repeat (first | refine blk_drewN ?_ _ | refine blk_drew ?_ | refine blk_alloc ?_ _)); exact BK542.out)) hb); have n12_ := Aside0.mk (below_step zn25 hb); clear HO_23; clear HO_489002; clear HO_503002; clear HO_529002; clear HO540; clear BK479; clear BK480; clear BK481; clear BK488; clear BK502; clear BK528; clear BK542; clear HB; have HO_23 := n0_; have HO_489002 := n1_; have HO_503002 := n2_; have HO_529002 := n3_; have HO540 := n4_; have BK479 := n5_; have BK480 := n6_; have BK481 := n7_; have BK488 := n8_; have BK502 := n9_; have BK528 := n10_; have BK542 := n11_; have HB := n12_; clear n0_ n1_ n2_ n3_ n4_ n5_ n6_ n7_ n8_ n9_ n10_ n11_ n12_; (try clear hb); (try clear hb2); (try clear hk); (try clear hi); (try clear hna_); (try clear hnb_); have hcz174_0 : w173.cell? ⟨gb542, 0, none⟩ = some (.int .i64 t536) := (blk_cell BK542.out 0).trans rfl; have hcz174_1 : w173.cell? ⟨gb542, 1, none⟩ = some (.int .i64 t537) := (blk_cell BK542.out 1).trans rfl; have hcz174_2 : w173.cell? ⟨gb542, 2, none⟩ = some (.slice Ao162 t538.length co162) := (blk_cell BK542.out 2).trans rfl; have hfz174_0 := blk_frozen BK542.out 0; have hfz174_1 := blk_frozen BK542.out 1; have hfz174_2 := blk_frozen BK542.out 2; have hcz175_0 : w173.cell? ⟨gb479, 0, none⟩ = some (.int .i64 a0_0) := (blk_cell BK479.out 0).trans rfl; have hcz175_1 : w173.cell? ⟨gb479, 1, none⟩ = some (.int .i64 a0_1) := (blk_cell BK479.out 1).trans rfl; have hcz175_2 : w173.cell? ⟨gb479, 2, none⟩ = some (.slice A0_2 l0_2.length c0_2) := (blk_cell BK479.out 2).trans rfl; have hfz175_0 := blk_frozen BK479.out 0; have hfz175_1 := blk_frozen BK479.out 1; have hfz175_2 := blk_frozen BK479.out 2) | (go_at_call 23; (with_reducible refine (laws_yBoard.calls k1 t536 t537 _ _ t538 a0_0 a0_1 _ _ l0_2 true _ ?side1 ?side2 ?side3 ?side4 A141.out).mono ?_); (case side1 => repeat (first | exact (Kd.R_reads' HO540.out).2.2 | (with_reducible refine Kd.C_alloc ?_ _) | (with_reducible refine Kd.C_drewN ?_ _) | (with_reducible refine Kd.C_drew ?_))); (case side2 => exact (Kd.R_reads' HO540.out).2.1); (case side3 => exact zn14); (case side4 => exact HC0_2.out); rintro e w176 ⟨rfl, hb⟩; have n0_ := Aside0.mk (Kd.R_below zn38 hb); have n1_ := Aside0.mk (Kd.R_below zn17 hb); have n2_ := Aside0.mk (Kd.R_below zn16 hb); have n3_ := Aside0.mk (Kd.R_below zn37 hb); have n4_ := Aside0.mk (Kd.R_below (by first | exact HO540.out | ((with_reducible repeat (first | apply Kd.R_alloc | apply Kd.R_drewN | apply Kd.R_drew)); exact HO540.out)) hb); have n5_ := Aside0.mk (blk_below (g := gb479) (o := .cells #[.int .i64 a0_0, .int .i64 a0_1, .slice A0_2 l0_2.length c0_2] 30 (0, 0)) zn4 hb); have n6_ := Aside0.mk (blk_below (g := gb480) (o := .cells #[.int .i64 a1_0, .int .i64 a1_1, .slice A1_2 l1_2.length c1_2] 30 (0, 0)) zn1 hb); have n7_ := Aside0.mk (blk_below (g := gb481) (o := .cells #[.int .i64 a3_0, .int .i64 a3_1, .slice A3_2 l3_2.length c3_2] 30 (0, 0)) zn2 hb); have n8_ := Aside0.mk (blk_below (g := gb488) (o := .cells #[.int .i64 t482, .int .i64 t483, .slice Ao52 t484.length co52] 30 (0, 0)) zn7 hb); have n9_ := Aside0.mk (blk_below (g := gb502) (o := .cells #[.int .i64 t496, .int .i64 t497, .slice Ao71 t498.length co71] 30 (0, 0)) zn8 hb); have n10_ := Aside0.mk (blk_below (g := gb528) (o := .cells #[.int .i64 x529000_1, .int .i64 x529001_1, .slice Ao172 x529002_1.length co172] 30 (0, 0)) zn28 hb); have n11_ := Aside0.mk (blk_below (g := gb542) (o := .cells #[.int .i64 t536, .int .i64 t537, .slice Ao162 t538.length co162] 30 (0, 0)) (by first | exact BK542.out | ((with_reducible repeat (first | refine blk_drewN ?_ _ | refine blk_drew ?_ | refine blk_alloc ?_ _)); exact BK542.out)) hb); have n12_ := Aside0.mk (below_step zn25 hb); clear HO_23; clear HO_489002; clear HO_503002; clear HO_529002; clear HO540; clear BK479; clear BK480; clear BK481; clear BK488; clear BK502; clear BK528; clear BK542; clear HB; have HO_23 := n0_; have HO_489002 := n1_; have HO_503002 := n2_; have HO_529002 := n3_; have HO540 := n4_; have BK479 := n5_; have BK480 := n6_; have BK481 := n7_; have BK488 := n8_; have BK502 := n9_; have BK528 := n10_; have BK542 := n11_; have HB := n12_; clear n0_ n1_ n2_ n3_ n4_ n5_ n6_ n7_ n8_ n9_ n10_ n11_ n12_; (try clear hb); (try clear hb2); (try clear hk); (try clear hi); (try clear hna_); (try clear hnb_); have hcz177_0 : w176.cell? ⟨gb479, 0, none⟩ = some (.int .i64 a0_0) := (blk_cell BK479.out 0).trans rfl; have hcz177_1 : w176.cell? ⟨gb479, 1, none⟩ = some (.int .i64 a0_1) := (blk_cell BK479.out 1).trans rfl; have hcz177_2 : w176.cell? ⟨gb479, 2, none⟩ = some (.slice A0_2 l0_2.length c0_2) := (blk_cell BK479.out 2).trans rfl; have hfz177_0 := blk_frozen BK479.out 0; have hfz177_1 := blk_frozen BK479.out 1; have hfz177_2 := blk_frozen BK479.out 2) | (go_at_call 27; (with_reducible refine (laws_yRises.calls k1 _ _ t510 true _ ?side1 ?side2 A145.out).mono ?_); (case side1 => repeat (first | exact (Kd.R_reads' HO_23.out).2.2 | (with_reducible refine Kd.C_alloc ?_ _) | (with_reducible refine Kd.C_drewN ?_ _) | (with_reducible refine Kd.C_drew ?_))); (case side2 => exact (Kd.R_reads' HO_23.out).2.1); rintro e w' ⟨rfl, ⟨nd, rfl⟩⟩))
    go_loopg [248] k1 (fun kq v248 w' => ∃ (x248_2 : Int), v248 = .int .i64 x248_2 ∧ Aside0 (laws_FnBoardsTurnedOfAll.l1 kq a2 a4 a5 a6 t510 (t510.length : Int) x248_2 a0_0 a0_1 l0_2 a1_0 a1_1 l1_2 a3_0 a3_1 l3_2 t482 t483 t484 t496 t497 t498 = some r) ∧ Aside0 (kq ≤ k1) ∧ Aside0 (Kd.R (Kd.int .i64) 3 w' w.heap.size (fun k_ => some k_ ≠ ((.slice Ao52 t484.length co52) : Value).ownBlock ∧ some k_ ≠ ((.slice Ao71 t498.length co71) : Value).ownBlock) (.slice Ao94 t510.length co94) t510) ∧ Aside0 (Kd.R (Kd.int .i64) 3 w' w.heap.size (fun k_ => some k_ ≠ ((.slice Ao94 t510.length co94) : Value).ownBlock ∧ some k_ ≠ ((.slice Ao71 t498.length co71) : Value).ownBlock) (.slice Ao52 t484.length co52) t484) ∧ Aside0 (Kd.R (Kd.int .i64) 3 w' w.heap.size (fun k_ => some k_ ≠ ((.slice Ao94 t510.length co94) : Value).ownBlock ∧ some k_ ≠ ((.slice Ao52 t484.length co52) : Value).ownBlock) (.slice Ao71 t498.length co71) t498) ∧ Aside0 (w'.heap[gb479]? = some (.cells #[.int .i64 a0_0, .int .i64 a0_1, (.slice A0_2 l0_2.length c0_2)] 30 (0, 0))) ∧ Aside0 (w'.heap[gb480]? = some (.cells #[.int .i64 a1_0, .int .i64 a1_1, (.slice A1_2 l1_2.length c1_2)] 30 (0, 0))) ∧ Aside0 (w'.heap[gb481]? = some (.cells #[.int .i64 a3_0, .int .i64 a3_1, (.slice A3_2 l3_2.length c3_2)] 30 (0, 0))) ∧ Aside0 (w'.heap[gb488]? = some (.cells #[.int .i64 t482, .int .i64 t483, (.slice Ao52 t484.length co52)] 30 (0, 0))) ∧ Aside0 (w'.heap[gb502]? = some (.cells #[.int .i64 t496, .int .i64 t497, (.slice Ao71 t498.length co71)] 30 (0, 0))) ∧ Aside0 (Below w.heap.size w w'))
    case atStart => exact ⟨(0), zn66, H', ⟨Nat.le_refl _⟩, ⟨by (with_reducible repeat (first | apply Kd.R_alloc | apply Kd.R_drewN | apply Kd.R_drew)); exact Kd.R_mono HO_23.out (fun _ hk => ⟨hk.1.1, hk.1.2.1⟩)⟩, ⟨by (with_reducible repeat (first | apply Kd.R_alloc | apply Kd.R_drewN | apply Kd.R_drew)); exact Kd.R_mono HO_489002.out (fun _ hk => ⟨hk.1.1, hk.1.2.1⟩)⟩, ⟨by (with_reducible repeat (first | apply Kd.R_alloc | apply Kd.R_drewN | apply Kd.R_drew)); exact Kd.R_mono HO_503002.out (fun _ hk => ⟨hk.1.1, hk.1.2.1⟩)⟩, ⟨zn4⟩, ⟨zn1⟩, ⟨zn2⟩, ⟨zn7⟩, ⟨zn8⟩, ⟨zn25⟩⟩
    case round => as_aux_lemma =>
     clear H'
     try clear c1; try clear c2; try clear p2; try clear c3; try clear p6; try clear c9; try clear c10; try clear c11; try clear c12; try clear c13; try clear c14; try clear c15; try clear c16; try clear c17; try clear c23; try clear c24; try clear c25; try clear c26; try clear p64; try clear c99; try clear c100; try clear c101; try clear c102; try clear c103; try clear c104; try clear c105; try clear c108; try clear c109; try clear c110; try clear c111; try clear c112; try clear c113; try clear c114; try clear c116; try clear c116b0; try clear c118; try clear c119; try clear c120; try clear c121; try clear c122
     try clear c123; try clear c128; try clear c129; try clear c130; try clear c131; try clear c132; try clear c133; try clear c139; try clear c140; try clear c142; try clear c143; try clear c143b0; try clear c143b1; try clear c144; try clear c144b0; try clear c144b1; try clear c146; try clear c147; try clear c148; try clear c149; try clear c150; try clear c151; try clear c155; try clear c156; try clear c157; try clear c158; try clear c159; try clear c160; try clear c163; try clear c164; try clear c165; try clear c166; try clear c168; try clear c169; try clear c170; try clear hcz106_0; try clear hcz106_1
     try clear hcz106_2; try clear hcz115_0; try clear hcz115_1; try clear hcz115_2; try clear hcz124_0; try clear hcz124_1; try clear hcz124_2; try clear hcz134_0; try clear hcz134_1; try clear hcz134_2; try clear hcz136_0; try clear hcz136_1; try clear hcz136_2; try clear hcz152_0; try clear hcz152_1; try clear hcz152_2; try clear hcz161_0; try clear hcz161_1; try clear hcz161_2; try clear hcz167_0; try clear hcz167_1; try clear hcz167_2; try clear hcz171_0; try clear hcz171_1; try clear hcz171_2; try clear hcz174_0; try clear hcz174_1; try clear hcz174_2; try clear hcz175_0; try clear hcz175_1; try clear hcz175_2
     try clear hcz177_0; try clear hcz177_1; try clear hcz177_2; try clear hfz106_0; try clear hfz106_1; try clear hfz106_2; try clear hfz115_0; try clear hfz115_1; try clear hfz115_2; try clear hfz124_0; try clear hfz124_1; try clear hfz124_2; try clear hfz134_0; try clear hfz134_1; try clear hfz134_2; try clear hfz136_0; try clear hfz136_1; try clear hfz136_2; try clear hfz152_0; try clear hfz152_1; try clear hfz152_2; try clear hfz161_0; try clear hfz161_1; try clear hfz161_2; try clear hfz167_0; try clear hfz167_1; try clear hfz167_2; try clear hfz171_0; try clear hfz171_1; try clear hfz171_2; try clear hfz174_0
     try clear hfz174_1; try clear hfz174_2; try clear hfz175_0; try clear hfz175_1; try clear hfz175_2; try clear hfz177_0; try clear hfz177_1; try clear hfz177_2; try clear p2
     obtain ⟨x248_2, rfl, HA, HK2, HO_246, HO_489002, HO_503002, BK479, BK480, BK481, BK488, BK502, HB⟩ := hrel
     cases gk with
     | zero => exact absurd HA.out (by simp [laws_FnBoardsTurnedOfAll.l1])
     | succ k2 =>
      have H := HA.out
      clear HA
      simp only [laws_FnBoardsTurnedOfAll.l1] at H
      by_cases c178 : x248_2 < (t510.length : Int)
      rotate_left
      ·rw [if_neg c178] at H
       have c178b0 : decide (x248_2 < (t510.length : Int)) = false := decide_eq_false c178
       clear c178
       have H' := Aside0.mk H
       clear H
       go_wp2
       go_meet
       case rel => exact ⟨_, H', ⟨by have := HK1.out; have := HK2.out; first | omega | exact Nat.le_refl _⟩, ⟨zn1⟩, ⟨zn2⟩, ⟨zn11⟩⟩
      rw [if_pos c178] at H
      have c178b0 : decide (x248_2 < (t510.length : Int)) = true := decide_eq_true c178
      clear c178
      by_cases c179 : 0 ≤ x248_2
      rotate_left
      ·rw [if_neg c179] at H
       exact absurd H (by simp)
      rw [if_pos c179] at H
      have c179b0 : decide (0 ≤ x248_2) = true := decide_eq_true c179
      clear c179
      by_cases c180 : x248_2 < (t510.length : Int)
      rotate_left
      ·rw [if_neg c180] at H
       exact absurd H (by simp)
      rw [if_pos c180] at H
      have c180b0 : decide (x248_2 < (t510.length : Int)) = true := decide_eq_true c180
      clear c180
      replace H := Option.bind_eq_some_iff.mp H
      obtain ⟨⟨t547, t548⟩, A1810, H⟩ := H
      try dsimp only at H
      have A181 := Aside0.mk A1810
      clear A1810
      replace H := Option.bind_eq_some_iff.mp H
      obtain ⟨⟨t549, t550⟩, A1820, H⟩ := H
      try dsimp only at H
      have A182 := Aside0.mk A1820
      clear A1820
      replace H := Option.bind_eq_some_iff.mp H
      obtain ⟨⟨t551, t552⟩, A1830, H⟩ := H
      try dsimp only at H
      have A183 := Aside0.mk A1830
      clear A1830
      replace H := Option.bind_eq_some_iff.mp H
      obtain ⟨⟨t553, t554⟩, A1840, H⟩ := H
      try dsimp only at H
      have A184 := Aside0.mk A1840
      clear A1840
      replace H := Option.bind_eq_some_iff.mp H
      obtain ⟨⟨t555, t556⟩, A1850, H⟩ := H
      try dsimp only at H
      have A185 := Aside0.mk A1850
      clear A1850
      replace H := Option.bind_eq_some_iff.mp H
      obtain ⟨⟨t557, t558⟩, A1860, H⟩ := H
      try dsimp only at H
      have A186 := Aside0.mk A1860
      clear A1860
      replace H := Option.bind_eq_some_iff.mp H
      obtain ⟨⟨t559, t560⟩, A1870, H⟩ := H
      try dsimp only at H
      have A187 := Aside0.mk A1870
      clear A1870
      by_cases c188 : t548 = true
      rotate_left
      ·replace c188 := Bool.eq_false_iff.mpr c188
       subst c188
       have H1 : (none) = some r := by rw [if_neg (show ¬ (false = true) by decide)] at H; exact H
       clear H
       have H := H1
       clear H1
       exact absurd H (by simp)
      subst c188
      rw [if_pos rfl] at H
      by_cases c189 : t547 = true
      rotate_left
      ·replace c189 := Bool.eq_false_iff.mpr c189
       subst c189
       have H1 : (none) = some r := by rw [if_neg (show ¬ (false = true) by decide)] at H; exact H
       clear H
       have H := H1
       clear H1
       exact absurd H (by simp)
      subst c189
      rw [if_pos rfl] at H
      by_cases c190 : t550 = true
      rotate_left
      ·replace c190 := Bool.eq_false_iff.mpr c190
       subst c190
       have H1 : (none) = some r := by rw [if_neg (show ¬ (false = true) by decide)] at H; exact H
       clear H
       have H := H1
       clear H1
       exact absurd H (by simp)
      subst c190
      rw [if_pos rfl] at H
      by_cases c191 : t552 = true
      rotate_left
      ·replace c191 := Bool.eq_false_iff.mpr c191
       subst c191
       have H1 : (none) = some r := by rw [if_neg (show ¬ (false = true) by decide)] at H; exact H
       clear H
       have H := H1
       clear H1
       exact absurd H (by simp)
      subst c191
      rw [if_pos rfl] at H
      by_cases c192 : t551 = true
      rotate_left
      ·replace c192 := Bool.eq_false_iff.mpr c192
       subst c192
       have H1 : (none) = some r := by rw [if_neg (show ¬ (false = true) by decide)] at H; exact H
       clear H
       have H := H1
       clear H1
       exact absurd H (by simp)
      subst c192
      rw [if_pos rfl] at H
      by_cases c193 : t554 = true
      rotate_left
      ·replace c193 := Bool.eq_false_iff.mpr c193
       subst c193
       have H1 : (none) = some r := by rw [if_neg (show ¬ (false = true) by decide)] at H; exact H
       clear H
       have H := H1
       clear H1
       exact absurd H (by simp)
      subst c193
      rw [if_pos rfl] at H
      by_cases c194 : t556 = true
      rotate_left
      ·replace c194 := Bool.eq_false_iff.mpr c194
       subst c194
       have H1 : (none) = some r := by rw [if_neg (show ¬ (false = true) by decide)] at H; exact H
       clear H
       have H := H1
       clear H1
       exact absurd H (by simp)
      subst c194
      rw [if_pos rfl] at H
      by_cases c195 : t555 = true
      rotate_left
      ·replace c195 := Bool.eq_false_iff.mpr c195
       subst c195
       have H1 : (none) = some r := by rw [if_neg (show ¬ (false = true) by decide)] at H; exact H
       clear H
       have H := H1
       clear H1
       exact absurd H (by simp)
      subst c195
      rw [if_pos rfl] at H
      by_cases c196 : t558 = true
      rotate_left
      ·replace c196 := Bool.eq_false_iff.mpr c196
       subst c196
       have H1 : (none) = some r := by rw [if_neg (show ¬ (false = true) by decide)] at H; exact H
       clear H
       have H := H1
       clear H1
       exact absurd H (by simp)
      subst c196
      rw [if_pos rfl] at H
      by_cases c197 : t560 = true
      rotate_left
      ·replace c197 := Bool.eq_false_iff.mpr c197
       subst c197
       have H1 : (none) = some r := by rw [if_neg (show ¬ (false = true) by decide)] at H; exact H
       clear H
       have H := H1
       clear H1
       exact absurd H (by simp)
      subst c197
      rw [if_pos rfl] at H
      by_cases c198 : t559 = (rd t510 x248_2)
      rotate_left
      ·rw [if_neg c198] at H
       exact absurd H (by simp)
      rw [if_pos c198] at H
      have c198b0 : (t559 == (rd t510 x248_2)) = true := beq_iff_eq.mpr c198
      have c198b1 : (t559 != (rd t510 x248_2)) = false := bne_eq_false_iff_eq.mpr c198
      clear c198
      have H' := Aside0.mk H
      clear H
      have p546 : 0 ≤ (x248_2 : Int) := of_decide_eq_true (by first | (with_reducible assumption) | assumption)
      have q546 : x248_2 < (t510.length : Int) := of_decide_eq_true (by first | (with_reducible assumption) | assumption)
      obtain ⟨ad546, e546, hx546_0⟩ := Kd.at_int (Kd.R_reads' HO_246.out).2.2 x248_2 p546 q546
      cases e546
      replace p546 := eq_true p546
      replace q546 := eq_true q546
      have hnb199 := NB479_480.out
      have hnc199 := NB480_479.out
      have hnb200 := NB479_481.out
      have hnc200 := NB481_479.out
      have hnb201 := NB479_488.out
      have hnc201 := NB488_479.out
      have hnb202 := NB479_502.out
      have hnc202 := NB502_479.out
      have hcz203_0 : wr.cell? ⟨gb479, 0, none⟩ = some (.int .i64 a0_0) := (blk_cell BK479.out 0).trans rfl
      have hcz203_1 : wr.cell? ⟨gb479, 1, none⟩ = some (.int .i64 a0_1) := (blk_cell BK479.out 1).trans rfl
      have hcz203_2 : wr.cell? ⟨gb479, 2, none⟩ = some (.slice A0_2 l0_2.length c0_2) := (blk_cell BK479.out 2).trans rfl
      have hfz203_0 := blk_frozen BK479.out 0
      have hfz203_1 := blk_frozen BK479.out 1
      have hfz203_2 := blk_frozen BK479.out 2
      go_wp2_with (first | ((with_reducible refine gate_callee (f := 28) rfl ?_); refine goesL_ (some 255) rfl rfl Try.func28 (by kernel_rfl) rfl #[.agg #[.int .i64 a0_0, .int .i64 a0_1, .slice A0_2 l0_2.length c0_2], .int .i64 (rd t510 x248_2)] rfl zn3 ?_; (with_reducible refine (impl_HasCell.calls k2 a0_0 a0_1 _ _ l0_2 (rd t510 x248_2) true true _ ?side1 ?side2 A181.out).mono ?_); (case side1 => exact zn14); (case side2 => exact HC0_2.out); rintro e w204 ⟨rfl, hb⟩; refine ⟨_, rfl, ?_⟩; have n0_ := Aside0.mk (Kd.R_below zn32 hb); have n1_ := Aside0.mk (Kd.R_below zn17 hb); have n2_ := Aside0.mk (Kd.R_below zn16 hb); have n3_ := Aside0.mk (blk_below (g := gb479) (o := .cells #[.int .i64 a0_0, .int .i64 a0_1, .slice A0_2 l0_2.length c0_2] 30 (0, 0)) zn4 hb); have n4_ := Aside0.mk (blk_below (g := gb480) (o := .cells #[.int .i64 a1_0, .int .i64 a1_1, .slice A1_2 l1_2.length c1_2] 30 (0, 0)) zn1 hb); have n5_ := Aside0.mk (blk_below (g := gb481) (o := .cells #[.int .i64 a3_0, .int .i64 a3_1, .slice A3_2 l3_2.length c3_2] 30 (0, 0)) zn2 hb); have n6_ := Aside0.mk (blk_below (g := gb488) (o := .cells #[.int .i64 t482, .int .i64 t483, .slice Ao52 t484.length co52] 30 (0, 0)) zn7 hb); have n7_ := Aside0.mk (blk_below (g := gb502) (o := .cells #[.int .i64 t496, .int .i64 t497, .slice Ao71 t498.length co71] 30 (0, 0)) zn8 hb); have n8_ := Aside0.mk (below_step zn11 hb); clear HO_246; clear HO_489002; clear HO_503002; clear BK479; clear BK480; clear BK481; clear BK488; clear BK502; clear HB; have HO_246 := n0_; have HO_489002 := n1_; have HO_503002 := n2_; have BK479 := n3_; have BK480 := n4_; have BK481 := n5_; have BK488 := n6_; have BK502 := n7_; have HB := n8_; clear n0_ n1_ n2_ n3_ n4_ n5_ n6_ n7_ n8_; (try clear hb); (try clear hb2); (try clear hk); (try clear hi); (try clear hna_); (try clear hnb_); have hcz205_0 : w204.cell? ⟨gb479, 0, none⟩ = some (.int .i64 a0_0) := (blk_cell BK479.out 0).trans rfl; have hcz205_1 : w204.cell? ⟨gb479, 1, none⟩ = some (.int .i64 a0_1) := (blk_cell BK479.out 1).trans rfl; have hcz205_2 : w204.cell? ⟨gb479, 2, none⟩ = some (.slice A0_2 l0_2.length c0_2) := (blk_cell BK479.out 2).trans rfl; have hfz205_0 := blk_frozen BK479.out 0; have hfz205_1 := blk_frozen BK479.out 1; have hfz205_2 := blk_frozen BK479.out 2) | ((with_reducible refine gate_callee (f := 29) rfl ?_); refine goesL_ (some 261) rfl rfl Try.func29 (by kernel_rfl) rfl #[.agg #[.int .i64 a0_0, .int .i64 a0_1, .slice A0_2 l0_2.length c0_2], .int .i64 (rd t510 x248_2)] rfl zn3 ?_; (with_reducible refine (impl_TurnCell.calls k2 a0_0 a0_1 _ _ l0_2 (rd t510 x248_2) t549 true _ ?side1 ?side2 A182.out).mono ?_); (case side1 => exact zn14); (case side2 => exact HC0_2.out); rintro e w206 ⟨rfl, hb⟩; refine ⟨_, rfl, ?_⟩; have n0_ := Aside0.mk (Kd.R_below zn32 hb); have n1_ := Aside0.mk (Kd.R_below zn17 hb); have n2_ := Aside0.mk (Kd.R_below zn16 hb); have n3_ := Aside0.mk (blk_below (g := gb479) (o := .cells #[.int .i64 a0_0, .int .i64 a0_1, .slice A0_2 l0_2.length c0_2] 30 (0, 0)) zn4 hb); have n4_ := Aside0.mk (blk_below (g := gb480) (o := .cells #[.int .i64 a1_0, .int .i64 a1_1, .slice A1_2 l1_2.length c1_2] 30 (0, 0)) zn1 hb); have n5_ := Aside0.mk (blk_below (g := gb481) (o := .cells #[.int .i64 a3_0, .int .i64 a3_1, .slice A3_2 l3_2.length c3_2] 30 (0, 0)) zn2 hb); have n6_ := Aside0.mk (blk_below (g := gb488) (o := .cells #[.int .i64 t482, .int .i64 t483, .slice Ao52 t484.length co52] 30 (0, 0)) zn7 hb); have n7_ := Aside0.mk (blk_below (g := gb502) (o := .cells #[.int .i64 t496, .int .i64 t497, .slice Ao71 t498.length co71] 30 (0, 0)) zn8 hb); have n8_ := Aside0.mk (below_step zn11 hb); clear HO_246; clear HO_489002; clear HO_503002; clear BK479; clear BK480; clear BK481; clear BK488; clear BK502; clear HB; have HO_246 := n0_; have HO_489002 := n1_; have HO_503002 := n2_; have BK479 := n3_; have BK480 := n4_; have BK481 := n5_; have BK488 := n6_; have BK502 := n7_; have HB := n8_; clear n0_ n1_ n2_ n3_ n4_ n5_ n6_ n7_ n8_; (try clear hb); (try clear hb2); (try clear hk); (try clear hi); (try clear hna_); (try clear hnb_); have hnb207 := NB488_480.out; have hnc207 := NB480_488.out; have hnb208 := NB488_481.out; have hnc208 := NB481_488.out; have hnb209 := NB488_502.out; have hnc209 := NB502_488.out; have hcz210_0 : w206.cell? ⟨gb488, 0, none⟩ = some (.int .i64 t482) := (blk_cell BK488.out 0).trans rfl; have hcz210_1 : w206.cell? ⟨gb488, 1, none⟩ = some (.int .i64 t483) := (blk_cell BK488.out 1).trans rfl; have hcz210_2 : w206.cell? ⟨gb488, 2, none⟩ = some (.slice Ao52 t484.length co52) := (blk_cell BK488.out 2).trans rfl; have hfz210_0 := blk_frozen BK488.out 0; have hfz210_1 := blk_frozen BK488.out 1; have hfz210_2 := blk_frozen BK488.out 2) | ((with_reducible refine gate_callee (f := 28) rfl ?_); refine goesL_ (some 267) rfl rfl Try.func28 (by kernel_rfl) rfl #[.agg #[.int .i64 t482, .int .i64 t483, .slice Ao52 t484.length co52], .int .i64 t549] rfl zn3 ?_; (with_reducible refine (impl_HasCell.calls k2 t482 t483 _ _ t484 t549 true true _ ?side1 ?side2 A183.out).mono ?_); (case side1 => repeat (first | exact (Kd.R_reads' HO_489002.out).2.2 | (with_reducible refine Kd.C_alloc ?_ _) | (with_reducible refine Kd.C_drewN ?_ _) | (with_reducible refine Kd.C_drew ?_))); (case side2 => exact (Kd.R_reads' HO_489002.out).2.1); rintro e w211 ⟨rfl, hb⟩; refine ⟨_, rfl, ?_⟩; have n0_ := Aside0.mk (Kd.R_below zn32 hb); have n1_ := Aside0.mk (Kd.R_below zn17 hb); have n2_ := Aside0.mk (Kd.R_below zn16 hb); have n3_ := Aside0.mk (blk_below (g := gb479) (o := .cells #[.int .i64 a0_0, .int .i64 a0_1, .slice A0_2 l0_2.length c0_2] 30 (0, 0)) zn4 hb); have n4_ := Aside0.mk (blk_below (g := gb480) (o := .cells #[.int .i64 a1_0, .int .i64 a1_1, .slice A1_2 l1_2.length c1_2] 30 (0, 0)) zn1 hb); have n5_ := Aside0.mk (blk_below (g := gb481) (o := .cells #[.int .i64 a3_0, .int .i64 a3_1, .slice A3_2 l3_2.length c3_2] 30 (0, 0)) zn2 hb); have n6_ := Aside0.mk (blk_below (g := gb488) (o := .cells #[.int .i64 t482, .int .i64 t483, .slice Ao52 t484.length co52] 30 (0, 0)) zn7 hb); have n7_ := Aside0.mk (blk_below (g := gb502) (o := .cells #[.int .i64 t496, .int .i64 t497, .slice Ao71 t498.length co71] 30 (0, 0)) zn8 hb); have n8_ := Aside0.mk (below_step zn11 hb); clear HO_246; clear HO_489002; clear HO_503002; clear BK479; clear BK480; clear BK481; clear BK488; clear BK502; clear HB; have HO_246 := n0_; have HO_489002 := n1_; have HO_503002 := n2_; have BK479 := n3_; have BK480 := n4_; have BK481 := n5_; have BK488 := n6_; have BK502 := n7_; have HB := n8_; clear n0_ n1_ n2_ n3_ n4_ n5_ n6_ n7_ n8_; (try clear hb); (try clear hb2); (try clear hk); (try clear hi); (try clear hna_); (try clear hnb_); have hcz212_0 : w211.cell? ⟨gb479, 0, none⟩ = some (.int .i64 a0_0) := (blk_cell BK479.out 0).trans rfl; have hcz212_1 : w211.cell? ⟨gb479, 1, none⟩ = some (.int .i64 a0_1) := (blk_cell BK479.out 1).trans rfl; have hcz212_2 : w211.cell? ⟨gb479, 2, none⟩ = some (.slice A0_2 l0_2.length c0_2) := (blk_cell BK479.out 2).trans rfl; have hfz212_0 := blk_frozen BK479.out 0; have hfz212_1 := blk_frozen BK479.out 1; have hfz212_2 := blk_frozen BK479.out 2) | ((with_reducible refine gate_callee (f := 30) rfl ?_); refine goesL_ (some 273) rfl rfl Try.func30 (by kernel_rfl) rfl #[.agg #[.int .i64 a0_0, .int .i64 a0_1, .slice A0_2 l0_2.length c0_2], .int .i64 (rd t510 x248_2)] rfl zn3 ?_; (with_reducible refine (impl_MirrorCell.calls k2 a0_0 a0_1 _ _ l0_2 (rd t510 x248_2) t553 true _ ?side1 ?side2 A184.out).mono ?_); (case side1 => exact zn14); (case side2 => exact HC0_2.out); rintro e w213 ⟨rfl, hb⟩; refine ⟨_, rfl, ?_⟩; have n0_ := Aside0.mk (Kd.R_below zn32 hb); have n1_ := Aside0.mk (Kd.R_below zn17 hb); have n2_ := Aside0.mk (Kd.R_below zn16 hb); have n3_ := Aside0.mk (blk_below (g := gb479) (o := .cells #[.int .i64 a0_0, .int .i64 a0_1, .slice A0_2 l0_2.length c0_2] 30 (0, 0)) zn4 hb); have n4_ := Aside0.mk (blk_below (g := gb480) (o := .cells #[.int .i64 a1_0, .int .i64 a1_1, .slice A1_2 l1_2.length c1_2] 30 (0, 0)) zn1 hb); have n5_ := Aside0.mk (blk_below (g := gb481) (o := .cells #[.int .i64 a3_0, .int .i64 a3_1, .slice A3_2 l3_2.length c3_2] 30 (0, 0)) zn2 hb); have n6_ := Aside0.mk (blk_below (g := gb488) (o := .cells #[.int .i64 t482, .int .i64 t483, .slice Ao52 t484.length co52] 30 (0, 0)) zn7 hb); have n7_ := Aside0.mk (blk_below (g := gb502) (o := .cells #[.int .i64 t496, .int .i64 t497, .slice Ao71 t498.length co71] 30 (0, 0)) zn8 hb); have n8_ := Aside0.mk (below_step zn11 hb); clear HO_246; clear HO_489002; clear HO_503002; clear BK479; clear BK480; clear BK481; clear BK488; clear BK502; clear HB; have HO_246 := n0_; have HO_489002 := n1_; have HO_503002 := n2_; have BK479 := n3_; have BK480 := n4_; have BK481 := n5_; have BK488 := n6_; have BK502 := n7_; have HB := n8_; clear n0_ n1_ n2_ n3_ n4_ n5_ n6_ n7_ n8_; (try clear hb); (try clear hb2); (try clear hk); (try clear hi); (try clear hna_); (try clear hnb_); have hnb214 := NB502_480.out; have hnc214 := NB480_502.out; have hnb215 := NB502_481.out; have hnc215 := NB481_502.out; have hcz216_0 : w213.cell? ⟨gb502, 0, none⟩ = some (.int .i64 t496) := (blk_cell BK502.out 0).trans rfl; have hcz216_1 : w213.cell? ⟨gb502, 1, none⟩ = some (.int .i64 t497) := (blk_cell BK502.out 1).trans rfl; have hcz216_2 : w213.cell? ⟨gb502, 2, none⟩ = some (.slice Ao71 t498.length co71) := (blk_cell BK502.out 2).trans rfl; have hfz216_0 := blk_frozen BK502.out 0; have hfz216_1 := blk_frozen BK502.out 1; have hfz216_2 := blk_frozen BK502.out 2) | ((with_reducible refine gate_callee (f := 28) rfl ?_); refine goesL_ (some 279) rfl rfl Try.func28 (by kernel_rfl) rfl #[.agg #[.int .i64 t496, .int .i64 t497, .slice Ao71 t498.length co71], .int .i64 t553] rfl zn3 ?_; (with_reducible refine (impl_HasCell.calls k2 t496 t497 _ _ t498 t553 true true _ ?side1 ?side2 A185.out).mono ?_); (case side1 => exact zn65); (case side2 => exact (Kd.R_reads' HO_503002.out).2.1); rintro e w217 ⟨rfl, hb⟩; refine ⟨_, rfl, ?_⟩; have n0_ := Aside0.mk (Kd.R_below zn32 hb); have n1_ := Aside0.mk (Kd.R_below zn17 hb); have n2_ := Aside0.mk (Kd.R_below zn16 hb); have n3_ := Aside0.mk (blk_below (g := gb479) (o := .cells #[.int .i64 a0_0, .int .i64 a0_1, .slice A0_2 l0_2.length c0_2] 30 (0, 0)) zn4 hb); have n4_ := Aside0.mk (blk_below (g := gb480) (o := .cells #[.int .i64 a1_0, .int .i64 a1_1, .slice A1_2 l1_2.length c1_2] 30 (0, 0)) zn1 hb); have n5_ := Aside0.mk (blk_below (g := gb481) (o := .cells #[.int .i64 a3_0, .int .i64 a3_1, .slice A3_2 l3_2.length c3_2] 30 (0, 0)) zn2 hb); have n6_ := Aside0.mk (blk_below (g := gb488) (o := .cells #[.int .i64 t482, .int .i64 t483, .slice Ao52 t484.length co52] 30 (0, 0)) zn7 hb); have n7_ := Aside0.mk (blk_below (g := gb502) (o := .cells #[.int .i64 t496, .int .i64 t497, .slice Ao71 t498.length co71] 30 (0, 0)) zn8 hb); have n8_ := Aside0.mk (below_step zn11 hb); clear HO_246; clear HO_489002; clear HO_503002; clear BK479; clear BK480; clear BK481; clear BK488; clear BK502; clear HB; have HO_246 := n0_; have HO_489002 := n1_; have HO_503002 := n2_; have BK479 := n3_; have BK480 := n4_; have BK481 := n5_; have BK488 := n6_; have BK502 := n7_; have HB := n8_; clear n0_ n1_ n2_ n3_ n4_ n5_ n6_ n7_ n8_; (try clear hb); (try clear hb2); (try clear hk); (try clear hi); (try clear hna_); (try clear hnb_); have hcz218_0 : w217.cell? ⟨gb479, 0, none⟩ = some (.int .i64 a0_0) := (blk_cell BK479.out 0).trans rfl; have hcz218_1 : w217.cell? ⟨gb479, 1, none⟩ = some (.int .i64 a0_1) := (blk_cell BK479.out 1).trans rfl; have hcz218_2 : w217.cell? ⟨gb479, 2, none⟩ = some (.slice A0_2 l0_2.length c0_2) := (blk_cell BK479.out 2).trans rfl; have hfz218_0 := blk_frozen BK479.out 0; have hfz218_1 := blk_frozen BK479.out 1; have hfz218_2 := blk_frozen BK479.out 2) | ((with_reducible refine gate_callee (f := 31) rfl ?_); refine goesL_ (some 285) rfl rfl Try.func31 (by kernel_rfl) rfl #[.agg #[.int .i64 a0_0, .int .i64 a0_1, .slice A0_2 l0_2.length c0_2], .int .i64 (rd t510 x248_2)] rfl zn3 ?_; (with_reducible refine (impl_NameOf.calls k2 a0_0 a0_1 _ _ l0_2 (rd t510 x248_2) t557 true _ ?side1 ?side2 A186.out).mono ?_); (case side1 => exact zn14); (case side2 => exact HC0_2.out); rintro e w219 ⟨rfl, hb⟩; refine ⟨_, rfl, ?_⟩; have n0_ := Aside0.mk (Kd.R_below zn32 hb); have n1_ := Aside0.mk (Kd.R_below zn17 hb); have n2_ := Aside0.mk (Kd.R_below zn16 hb); have n3_ := Aside0.mk (blk_below (g := gb479) (o := .cells #[.int .i64 a0_0, .int .i64 a0_1, .slice A0_2 l0_2.length c0_2] 30 (0, 0)) zn4 hb); have n4_ := Aside0.mk (blk_below (g := gb480) (o := .cells #[.int .i64 a1_0, .int .i64 a1_1, .slice A1_2 l1_2.length c1_2] 30 (0, 0)) zn1 hb); have n5_ := Aside0.mk (blk_below (g := gb481) (o := .cells #[.int .i64 a3_0, .int .i64 a3_1, .slice A3_2 l3_2.length c3_2] 30 (0, 0)) zn2 hb); have n6_ := Aside0.mk (blk_below (g := gb488) (o := .cells #[.int .i64 t482, .int .i64 t483, .slice Ao52 t484.length co52] 30 (0, 0)) zn7 hb); have n7_ := Aside0.mk (blk_below (g := gb502) (o := .cells #[.int .i64 t496, .int .i64 t497, .slice Ao71 t498.length co71] 30 (0, 0)) zn8 hb); have n8_ := Aside0.mk (below_step zn11 hb); clear HO_246; clear HO_489002; clear HO_503002; clear BK479; clear BK480; clear BK481; clear BK488; clear BK502; clear HB; have HO_246 := n0_; have HO_489002 := n1_; have HO_503002 := n2_; have BK479 := n3_; have BK480 := n4_; have BK481 := n5_; have BK488 := n6_; have BK502 := n7_; have HB := n8_; clear n0_ n1_ n2_ n3_ n4_ n5_ n6_ n7_ n8_; (try clear hb); (try clear hb2); (try clear hk); (try clear hi); (try clear hna_); (try clear hnb_); have hcz220_0 : w219.cell? ⟨gb479, 0, none⟩ = some (.int .i64 a0_0) := (blk_cell BK479.out 0).trans rfl; have hcz220_1 : w219.cell? ⟨gb479, 1, none⟩ = some (.int .i64 a0_1) := (blk_cell BK479.out 1).trans rfl; have hcz220_2 : w219.cell? ⟨gb479, 2, none⟩ = some (.slice A0_2 l0_2.length c0_2) := (blk_cell BK479.out 2).trans rfl; have hfz220_0 := blk_frozen BK479.out 0; have hfz220_1 := blk_frozen BK479.out 1; have hfz220_2 := blk_frozen BK479.out 2) | ((with_reducible refine gate_callee (f := 32) rfl ?_); refine goesL_ (some 291) rfl rfl Try.func32 (by kernel_rfl) rfl #[.agg #[.int .i64 a0_0, .int .i64 a0_1, .slice A0_2 l0_2.length c0_2], .string t557] rfl zn3 ?_; (with_reducible refine (impl_CellOfName.calls k2 a0_0 a0_1 _ _ l0_2 t557 t559 true _ ?side1 ?side2 A187.out).mono ?_); (case side1 => exact zn14); (case side2 => exact HC0_2.out); rintro e w221 ⟨rfl, hb⟩; refine ⟨_, rfl, ?_⟩; have n0_ := Aside0.mk (Kd.R_below zn32 hb); have n1_ := Aside0.mk (Kd.R_below zn17 hb); have n2_ := Aside0.mk (Kd.R_below zn16 hb); have n3_ := Aside0.mk (blk_below (g := gb479) (o := .cells #[.int .i64 a0_0, .int .i64 a0_1, .slice A0_2 l0_2.length c0_2] 30 (0, 0)) zn4 hb); have n4_ := Aside0.mk (blk_below (g := gb480) (o := .cells #[.int .i64 a1_0, .int .i64 a1_1, .slice A1_2 l1_2.length c1_2] 30 (0, 0)) zn1 hb); have n5_ := Aside0.mk (blk_below (g := gb481) (o := .cells #[.int .i64 a3_0, .int .i64 a3_1, .slice A3_2 l3_2.length c3_2] 30 (0, 0)) zn2 hb); have n6_ := Aside0.mk (blk_below (g := gb488) (o := .cells #[.int .i64 t482, .int .i64 t483, .slice Ao52 t484.length co52] 30 (0, 0)) zn7 hb); have n7_ := Aside0.mk (blk_below (g := gb502) (o := .cells #[.int .i64 t496, .int .i64 t497, .slice Ao71 t498.length co71] 30 (0, 0)) zn8 hb); have n8_ := Aside0.mk (below_step zn11 hb); clear HO_246; clear HO_489002; clear HO_503002; clear BK479; clear BK480; clear BK481; clear BK488; clear BK502; clear HB; have HO_246 := n0_; have HO_489002 := n1_; have HO_503002 := n2_; have BK479 := n3_; have BK480 := n4_; have BK481 := n5_; have BK488 := n6_; have BK502 := n7_; have HB := n8_; clear n0_ n1_ n2_ n3_ n4_ n5_ n6_ n7_ n8_; (try clear hb); (try clear hb2); (try clear hk); (try clear hi); (try clear hna_); (try clear hnb_)))
      go_roundg k2
      case measure => have := HK1.out; have := HK2.out; omega
      case rel => exact ⟨(wrap64 (x248_2 + 1)), zn66, H', ⟨by have := HK1.out; have := HK2.out; omega⟩, ⟨zn32⟩, ⟨zn17⟩, ⟨zn16⟩, ⟨zn4⟩, ⟨zn1⟩, ⟨zn2⟩, ⟨zn7⟩, ⟨zn8⟩, ⟨zn11⟩⟩
 case rest => as_aux_lemma =>
  clear HC39
  try clear c1; try clear c2; try clear p2; try clear c3; try clear p5; try clear q5; try clear hx5; try clear p6; try clear c9; try clear c10; try clear c11; try clear c12; try clear c13; try clear c14; try clear c15; try clear c16; try clear c17; try clear c18; try clear c19; try clear c20; try clear c21; try clear c23; try clear c24; try clear c25; try clear c26; try clear c28; try clear c29; try clear c30; try clear c31; try clear c32; try clear p54; try clear q54; try clear hx54; try clear p64; try clear c99; try clear c100; try clear c101; try clear c102; try clear c103; try clear c104; try clear c105
  try clear c108; try clear c109; try clear c110; try clear c111; try clear c112; try clear c113; try clear c114; try clear c116; try clear c116b0; try clear c118; try clear c119; try clear c120; try clear c121; try clear c122; try clear c123; try clear c128; try clear c129; try clear c130; try clear c131; try clear c132; try clear c133; try clear c139; try clear c140; try clear c142; try clear c143; try clear c143b0; try clear c143b1; try clear c144; try clear c144b0; try clear c144b1; try clear c146; try clear c147; try clear c148; try clear c149; try clear c150; try clear c151; try clear c155
  try clear c156; try clear c157; try clear c158; try clear c159; try clear c160; try clear c163; try clear c164; try clear c165; try clear c166; try clear c168; try clear c169; try clear c170; try clear c178; try clear c178b0; try clear c179; try clear c179b0; try clear c180; try clear c180b0; try clear c188; try clear c189; try clear c190; try clear c191; try clear c192; try clear c193; try clear c194; try clear c195; try clear c196; try clear c197; try clear c198; try clear c198b0; try clear c198b1; try clear c199; try clear c200; try clear c201; try clear c202; try clear c207; try clear c208
  try clear c209; try clear c214; try clear c215; try clear hcz106_0; try clear hcz106_1; try clear hcz106_2; try clear hcz115_0; try clear hcz115_1; try clear hcz115_2; try clear hcz124_0; try clear hcz124_1; try clear hcz124_2; try clear hcz134_0; try clear hcz134_1; try clear hcz134_2; try clear hcz136_0; try clear hcz136_1; try clear hcz136_2; try clear hcz152_0; try clear hcz152_1; try clear hcz152_2; try clear hcz161_0; try clear hcz161_1; try clear hcz161_2; try clear hcz167_0; try clear hcz167_1; try clear hcz167_2; try clear hcz171_0; try clear hcz171_1; try clear hcz171_2; try clear hcz174_0
  try clear hcz174_1; try clear hcz174_2; try clear hcz175_0; try clear hcz175_1; try clear hcz175_2; try clear hcz177_0; try clear hcz177_1; try clear hcz177_2; try clear hcz203_0; try clear hcz203_1; try clear hcz203_2; try clear hcz205_0; try clear hcz205_1; try clear hcz205_2; try clear hcz210_0; try clear hcz210_1; try clear hcz210_2; try clear hcz212_0; try clear hcz212_1; try clear hcz212_2; try clear hcz216_0; try clear hcz216_1; try clear hcz216_2; try clear hcz218_0; try clear hcz218_1; try clear hcz218_2; try clear hcz220_0; try clear hcz220_1; try clear hcz220_2; try clear hfz106_0; try clear hfz106_1
  try clear hfz106_2; try clear hfz115_0; try clear hfz115_1; try clear hfz115_2; try clear hfz124_0; try clear hfz124_1; try clear hfz124_2; try clear hfz134_0; try clear hfz134_1; try clear hfz134_2; try clear hfz136_0; try clear hfz136_1; try clear hfz136_2; try clear hfz152_0; try clear hfz152_1; try clear hfz152_2; try clear hfz161_0; try clear hfz161_1; try clear hfz161_2; try clear hfz167_0; try clear hfz167_1; try clear hfz167_2; try clear hfz171_0; try clear hfz171_1; try clear hfz171_2; try clear hfz174_0; try clear hfz174_1; try clear hfz174_2; try clear hfz175_0; try clear hfz175_1; try clear hfz175_2
  try clear hfz177_0; try clear hfz177_1; try clear hfz177_2; try clear hfz203_0; try clear hfz203_1; try clear hfz203_2; try clear hfz205_0; try clear hfz205_1; try clear hfz205_2; try clear hfz210_0; try clear hfz210_1; try clear hfz210_2; try clear hfz212_0; try clear hfz212_1; try clear hfz212_2; try clear hfz216_0; try clear hfz216_1; try clear hfz216_2; try clear hfz218_0; try clear hfz218_1; try clear hfz218_2; try clear hfz220_0; try clear hfz220_1; try clear hfz220_2; try clear hx546_0; try clear p2; try clear p546; try clear p6; try clear p64; try clear q546
  obtain ⟨kq, HA, HJ38, BK480, BK481, HB⟩ := hcut
  cases kq with
  | zero => exact absurd HA.out (by simp [laws_FnBoardsTurnedOfAll.j2])
  | succ kj38 =>
   have H := HA.out
   clear HA
   simp only [laws_FnBoardsTurnedOfAll.j2] at H
   replace H := Option.bind_eq_some_iff.mp H
   obtain ⟨⟨t561, t562⟩, A2220, H⟩ := H
   try dsimp only at H
   have A222 := Aside0.mk A2220
   clear A2220
   replace H := Option.bind_eq_some_iff.mp H
   obtain ⟨⟨t563, t564⟩, A2230, H⟩ := H
   try dsimp only at H
   have A223 := Aside0.mk A2230
   clear A2230
   replace H := Option.bind_eq_some_iff.mp H
   obtain ⟨⟨t565, t566⟩, A2240, H⟩ := H
   try dsimp only at H
   have A224 := Aside0.mk A2240
   clear A2240
   replace H := Option.bind_eq_some_iff.mp H
   obtain ⟨⟨t567, t568⟩, A2250, H⟩ := H
   try dsimp only at H
   have A225 := Aside0.mk A2250
   clear A2250
   replace H := Option.bind_eq_some_iff.mp H
   obtain ⟨⟨t569, t570⟩, A2260, H⟩ := H
   try dsimp only at H
   have A226 := Aside0.mk A2260
   clear A2260
   replace H := Option.bind_eq_some_iff.mp H
   obtain ⟨⟨t571, t572⟩, A2270, H⟩ := H
   try dsimp only at H
   have A227 := Aside0.mk A2270
   clear A2270
   replace H := Option.bind_eq_some_iff.mp H
   obtain ⟨⟨t573, t574⟩, A2280, H⟩ := H
   try dsimp only at H
   have A228 := Aside0.mk A2280
   clear A2280
   replace H := Option.bind_eq_some_iff.mp H
   obtain ⟨⟨t575, t576⟩, A2290, H⟩ := H
   try dsimp only at H
   have A229 := Aside0.mk A2290
   clear A2290
   replace H := Option.bind_eq_some_iff.mp H
   obtain ⟨⟨t577, t578⟩, A2300, H⟩ := H
   try dsimp only at H
   have A230 := Aside0.mk A2300
   clear A2300
   replace H := Option.bind_eq_some_iff.mp H
   obtain ⟨⟨t579, t580⟩, A2310, H⟩ := H
   try dsimp only at H
   have A231 := Aside0.mk A2310
   clear A2310
   replace H := Option.bind_eq_some_iff.mp H
   obtain ⟨⟨t581, t582, t583, t586⟩, A2320, H⟩ := H
   try dsimp only at H
   have A232 := Aside0.mk A2320
   clear A2320
   replace H := Option.bind_eq_some_iff.mp H
   obtain ⟨⟨t588, t589, t590, t593⟩, A2330, H⟩ := H
   try dsimp only at H
   have A233 := Aside0.mk A2330
   clear A2330
   by_cases c234 : (t562 == t564) = true
   rotate_left
   ·rw [if_neg c234] at H
    exact absurd H (by simp)
   rw [if_pos c234] at H
   have c234b0 : (t562 == t564) = true := c234
   (try (have c234b1 : decide (t562 = t564) = true := by simpa using c234))
   (try (have c234b2 : (t562 == t564) = true := by simpa using c234))
   clear c234
   by_cases c235 : (t561 == t563) = true
   rotate_left
   ·rw [if_neg c235] at H
    exact absurd H (by simp)
   rw [if_pos c235] at H
   have c235b0 : (t561 == t563) = true := c235
   (try (have c235b1 : decide (t561 = t563) = true := by simpa using c235))
   (try (have c235b2 : (t561 == t563) = true := by simpa using c235))
   clear c235
   by_cases c236 : (t566 == t568) = true
   rotate_left
   ·rw [if_neg c236] at H
    exact absurd H (by simp)
   rw [if_pos c236] at H
   have c236b0 : (t566 == t568) = true := c236
   (try (have c236b1 : decide (t566 = t568) = true := by simpa using c236))
   (try (have c236b2 : (t566 == t568) = true := by simpa using c236))
   clear c236
   by_cases c237 : t565.toList = t567.toList
   rotate_left
   ·rw [if_neg c237] at H
    exact absurd H (by simp)
   rw [if_pos c237] at H
   have c237b0 : (t565.toList == t567.toList) = true := beq_iff_eq.mpr c237
   have c237b1 : (t565.toList != t567.toList) = false := bne_eq_false_iff_eq.mpr c237
   clear c237
   by_cases c238 : (t570 == t572) = true
   rotate_left
   ·rw [if_neg c238] at H
    exact absurd H (by simp)
   rw [if_pos c238] at H
   have c238b0 : (t570 == t572) = true := c238
   (try (have c238b1 : decide (t570 = t572) = true := by simpa using c238))
   (try (have c238b2 : (t570 == t572) = true := by simpa using c238))
   clear c238
   by_cases c239 : t569 = t571
   rotate_left
   ·rw [if_neg c239] at H
    exact absurd H (by simp)
   rw [if_pos c239] at H
   have c239b0 : (t569 == t571) = true := beq_iff_eq.mpr c239
   have c239b1 : (t569 != t571) = false := bne_eq_false_iff_eq.mpr c239
   clear c239
   by_cases c240 : (t574 == t576) = true
   rotate_left
   ·rw [if_neg c240] at H
    exact absurd H (by simp)
   rw [if_pos c240] at H
   have c240b0 : (t574 == t576) = true := c240
   (try (have c240b1 : decide (t574 = t576) = true := by simpa using c240))
   (try (have c240b2 : (t574 == t576) = true := by simpa using c240))
   clear c240
   by_cases c241 : t573 = t575
   rotate_left
   ·rw [if_neg c241] at H
    exact absurd H (by simp)
   rw [if_pos c241] at H
   have c241b0 : (t573 == t575) = true := beq_iff_eq.mpr c241
   have c241b1 : (t573 != t575) = false := bne_eq_false_iff_eq.mpr c241
   clear c241
   by_cases c242 : (t578 == t580) = true
   rotate_left
   ·rw [if_neg c242] at H
    exact absurd H (by simp)
   rw [if_pos c242] at H
   have c242b0 : (t578 == t580) = true := c242
   (try (have c242b1 : decide (t578 = t580) = true := by simpa using c242))
   (try (have c242b2 : (t578 == t580) = true := by simpa using c242))
   clear c242
   by_cases c243 : t577 = t579
   rotate_left
   ·rw [if_neg c243] at H
    exact absurd H (by simp)
   rw [if_pos c243] at H
   have c243b0 : (t577 == t579) = true := beq_iff_eq.mpr c243
   have c243b1 : (t577 != t579) = false := bne_eq_false_iff_eq.mpr c243
   clear c243
   by_cases c244 : (t586 == t593) = true
   rotate_left
   ·rw [if_neg c244] at H
    exact absurd H (by simp)
   rw [if_pos c244] at H
   have c244b0 : (t586 == t593) = true := c244
   (try (have c244b1 : decide (t586 = t593) = true := by simpa using c244))
   (try (have c244b2 : (t586 == t593) = true := by simpa using c244))
   clear c244
   replace H := Option.bind_eq_some_iff.mp H
   obtain ⟨t595, A2450, H⟩ := H
   try dsimp only at H
   have A245 := Aside0.mk A2450
   clear A2450
   by_cases c246 : t595 = true
   rotate_left
   ·replace c246 := Bool.eq_false_iff.mpr c246
    subst c246
    have H1 : (none) = some r := by rw [if_neg (show ¬ (false = true) by decide)] at H; exact H
    clear H
    have H := H1
    clear H1
    exact absurd H (by simp)
   subst c246
   rw [if_pos rfl] at H
   by_cases c247 : t562 = true
   ·subst c247
    have H1 : (if (t566 == t561) = true then (if (t570 == t566) = true then (some (t574 == t566)) else (none)) else (none)) = some r := by rw [if_pos rfl] at H; exact H
    clear H
    have H := H1
    clear H1
    by_cases c248 : (t566 == t561) = true
    rotate_left
    ·rw [if_neg c248] at H
     exact absurd H (by simp)
    rw [if_pos c248] at H
    have c248b0 : (t566 == t561) = true := c248
    (try (have c248b1 : decide (t566 = t561) = true := by simpa using c248))
    (try (have c248b2 : (t566 == t561) = true := by simpa using c248))
    clear c248
    by_cases c249 : (t570 == t566) = true
    rotate_left
    ·rw [if_neg c249] at H
     exact absurd H (by simp)
    rw [if_pos c249] at H
    have c249b0 : (t570 == t566) = true := c249
    (try (have c249b1 : decide (t570 = t566) = true := by simpa using c249))
    (try (have c249b2 : (t570 == t566) = true := by simpa using c249))
    clear c249
    obtain rfl := Option.some.inj H
    have hnb250 := NB480_481.out
    have hnc250 := NB481_480.out
    have hcz251_0 : wc.cell? ⟨gb480, 0, none⟩ = some (.int .i64 a1_0) := (blk_cell BK480.out 0).trans rfl
    have hcz251_1 : wc.cell? ⟨gb480, 1, none⟩ = some (.int .i64 a1_1) := (blk_cell BK480.out 1).trans rfl
    have hcz251_2 : wc.cell? ⟨gb480, 2, none⟩ = some (.slice A1_2 l1_2.length c1_2) := (blk_cell BK480.out 2).trans rfl
    have hfz251_0 := blk_frozen BK480.out 0
    have hfz251_1 := blk_frozen BK480.out 1
    have hfz251_2 := blk_frozen BK480.out 2
    go_wp2_with (first | ((with_reducible refine gate_callee (f := 28) rfl ?_); refine goesL_ (some 341) rfl rfl Try.func28 (by kernel_rfl) rfl #[.agg #[.int .i64 a1_0, .int .i64 a1_1, .slice A1_2 l1_2.length c1_2], .int .i64 a2] rfl zn3 ?_; (with_reducible refine (impl_HasCell.calls kj38 a1_0 a1_1 _ _ l1_2 a2 t561 true _ ?side1 ?side2 A222.out).mono ?_); (case side1 => exact zn10); (case side2 => exact HC1_2.out); rintro e w252 ⟨rfl, hb⟩; refine ⟨_, rfl, ?_⟩; have n0_ := Aside0.mk (blk_below (g := gb480) (o := .cells #[.int .i64 a1_0, .int .i64 a1_1, .slice A1_2 l1_2.length c1_2] 30 (0, 0)) zn1 hb); have n1_ := Aside0.mk (blk_below (g := gb481) (o := .cells #[.int .i64 a3_0, .int .i64 a3_1, .slice A3_2 l3_2.length c3_2] 30 (0, 0)) zn2 hb); have n2_ := Aside0.mk (below_step zn6 hb); clear BK480; clear BK481; clear HB; have BK480 := n0_; have BK481 := n1_; have HB := n2_; clear n0_ n1_ n2_; (try clear hb); (try clear hb2); (try clear hk); (try clear hi); (try clear hna_); (try clear hnb_); have hcz253_0 : w252.cell? ⟨gb480, 0, none⟩ = some (.int .i64 a1_0) := (blk_cell BK480.out 0).trans rfl; have hcz253_1 : w252.cell? ⟨gb480, 1, none⟩ = some (.int .i64 a1_1) := (blk_cell BK480.out 1).trans rfl; have hcz253_2 : w252.cell? ⟨gb480, 2, none⟩ = some (.slice A1_2 l1_2.length c1_2) := (blk_cell BK480.out 2).trans rfl; have hfz253_0 := blk_frozen BK480.out 0; have hfz253_1 := blk_frozen BK480.out 1; have hfz253_2 := blk_frozen BK480.out 2) | ((with_reducible refine gate_callee (f := 33) rfl ?_); refine goesL_ (some 347) rfl rfl Try.func33 (by kernel_rfl) rfl #[.agg #[.int .i64 a1_0, .int .i64 a1_1, .slice A1_2 l1_2.length c1_2], .int .i64 a2] rfl zn3 ?_; (with_reducible refine (spec_HasCell.calls kj38 a1_0 a1_1 _ _ l1_2 a2 t563 t564 _ ?side1 ?side2 A223.out).mono ?_); (case side1 => exact zn10); (case side2 => exact HC1_2.out); rintro e w254 ⟨rfl, hb⟩; refine ⟨_, rfl, ?_⟩; have n0_ := Aside0.mk (blk_below (g := gb480) (o := .cells #[.int .i64 a1_0, .int .i64 a1_1, .slice A1_2 l1_2.length c1_2] 30 (0, 0)) zn1 hb); have n1_ := Aside0.mk (blk_below (g := gb481) (o := .cells #[.int .i64 a3_0, .int .i64 a3_1, .slice A3_2 l3_2.length c3_2] 30 (0, 0)) zn2 hb); have n2_ := Aside0.mk (below_step zn6 hb); clear BK480; clear BK481; clear HB; have BK480 := n0_; have BK481 := n1_; have HB := n2_; clear n0_ n1_ n2_; (try clear hb); (try clear hb2); (try clear hk); (try clear hi); (try clear hna_); (try clear hnb_); have hcz255_0 : w254.cell? ⟨gb480, 0, none⟩ = some (.int .i64 a1_0) := (blk_cell BK480.out 0).trans rfl; have hcz255_1 : w254.cell? ⟨gb480, 1, none⟩ = some (.int .i64 a1_1) := (blk_cell BK480.out 1).trans rfl; have hcz255_2 : w254.cell? ⟨gb480, 2, none⟩ = some (.slice A1_2 l1_2.length c1_2) := (blk_cell BK480.out 2).trans rfl; have hfz255_0 := blk_frozen BK480.out 0; have hfz255_1 := blk_frozen BK480.out 1; have hfz255_2 := blk_frozen BK480.out 2) | ((with_reducible refine gate_callee (f := 31) rfl ?_); refine goesL_ (some 353) rfl rfl Try.func31 (by kernel_rfl) rfl #[.agg #[.int .i64 a1_0, .int .i64 a1_1, .slice A1_2 l1_2.length c1_2], .int .i64 a2] rfl zn3 ?_; (with_reducible refine (impl_NameOf.calls kj38 a1_0 a1_1 _ _ l1_2 a2 t565 t566 _ ?side1 ?side2 A224.out).mono ?_); (case side1 => exact zn10); (case side2 => exact HC1_2.out); rintro e w256 ⟨rfl, hb⟩; refine ⟨_, rfl, ?_⟩; have n0_ := Aside0.mk (blk_below (g := gb480) (o := .cells #[.int .i64 a1_0, .int .i64 a1_1, .slice A1_2 l1_2.length c1_2] 30 (0, 0)) zn1 hb); have n1_ := Aside0.mk (blk_below (g := gb481) (o := .cells #[.int .i64 a3_0, .int .i64 a3_1, .slice A3_2 l3_2.length c3_2] 30 (0, 0)) zn2 hb); have n2_ := Aside0.mk (below_step zn6 hb); clear BK480; clear BK481; clear HB; have BK480 := n0_; have BK481 := n1_; have HB := n2_; clear n0_ n1_ n2_; (try clear hb); (try clear hb2); (try clear hk); (try clear hi); (try clear hna_); (try clear hnb_); have hcz257_0 : w256.cell? ⟨gb480, 0, none⟩ = some (.int .i64 a1_0) := (blk_cell BK480.out 0).trans rfl; have hcz257_1 : w256.cell? ⟨gb480, 1, none⟩ = some (.int .i64 a1_1) := (blk_cell BK480.out 1).trans rfl; have hcz257_2 : w256.cell? ⟨gb480, 2, none⟩ = some (.slice A1_2 l1_2.length c1_2) := (blk_cell BK480.out 2).trans rfl; have hfz257_0 := blk_frozen BK480.out 0; have hfz257_1 := blk_frozen BK480.out 1; have hfz257_2 := blk_frozen BK480.out 2) | ((with_reducible refine gate_callee (f := 34) rfl ?_); refine goesL_ (some 359) rfl rfl Try.func34 (by kernel_rfl) rfl #[.agg #[.int .i64 a1_0, .int .i64 a1_1, .slice A1_2 l1_2.length c1_2], .int .i64 a2] rfl zn3 ?_; (with_reducible refine (spec_NameOf.calls kj38 a1_0 a1_1 _ _ l1_2 a2 t567 t568 _ ?side1 ?side2 A225.out).mono ?_); (case side1 => exact zn10); (case side2 => exact HC1_2.out); rintro e w258 ⟨rfl, hb⟩; refine ⟨_, rfl, ?_⟩; have n0_ := Aside0.mk (blk_below (g := gb480) (o := .cells #[.int .i64 a1_0, .int .i64 a1_1, .slice A1_2 l1_2.length c1_2] 30 (0, 0)) zn1 hb); have n1_ := Aside0.mk (blk_below (g := gb481) (o := .cells #[.int .i64 a3_0, .int .i64 a3_1, .slice A3_2 l3_2.length c3_2] 30 (0, 0)) zn2 hb); have n2_ := Aside0.mk (below_step zn6 hb); clear BK480; clear BK481; clear HB; have BK480 := n0_; have BK481 := n1_; have HB := n2_; clear n0_ n1_ n2_; (try clear hb); (try clear hb2); (try clear hk); (try clear hi); (try clear hna_); (try clear hnb_); have hcz259_0 : w258.cell? ⟨gb480, 0, none⟩ = some (.int .i64 a1_0) := (blk_cell BK480.out 0).trans rfl; have hcz259_1 : w258.cell? ⟨gb480, 1, none⟩ = some (.int .i64 a1_1) := (blk_cell BK480.out 1).trans rfl; have hcz259_2 : w258.cell? ⟨gb480, 2, none⟩ = some (.slice A1_2 l1_2.length c1_2) := (blk_cell BK480.out 2).trans rfl; have hfz259_0 := blk_frozen BK480.out 0; have hfz259_1 := blk_frozen BK480.out 1; have hfz259_2 := blk_frozen BK480.out 2) | ((with_reducible refine gate_callee (f := 29) rfl ?_); refine goesL_ (some 365) rfl rfl Try.func29 (by kernel_rfl) rfl #[.agg #[.int .i64 a1_0, .int .i64 a1_1, .slice A1_2 l1_2.length c1_2], .int .i64 a2] rfl zn3 ?_; (with_reducible refine (impl_TurnCell.calls kj38 a1_0 a1_1 _ _ l1_2 a2 t569 t570 _ ?side1 ?side2 A226.out).mono ?_); (case side1 => exact zn10); (case side2 => exact HC1_2.out); rintro e w260 ⟨rfl, hb⟩; refine ⟨_, rfl, ?_⟩; have n0_ := Aside0.mk (blk_below (g := gb480) (o := .cells #[.int .i64 a1_0, .int .i64 a1_1, .slice A1_2 l1_2.length c1_2] 30 (0, 0)) zn1 hb); have n1_ := Aside0.mk (blk_below (g := gb481) (o := .cells #[.int .i64 a3_0, .int .i64 a3_1, .slice A3_2 l3_2.length c3_2] 30 (0, 0)) zn2 hb); have n2_ := Aside0.mk (below_step zn6 hb); clear BK480; clear BK481; clear HB; have BK480 := n0_; have BK481 := n1_; have HB := n2_; clear n0_ n1_ n2_; (try clear hb); (try clear hb2); (try clear hk); (try clear hi); (try clear hna_); (try clear hnb_); have hcz261_0 : w260.cell? ⟨gb480, 0, none⟩ = some (.int .i64 a1_0) := (blk_cell BK480.out 0).trans rfl; have hcz261_1 : w260.cell? ⟨gb480, 1, none⟩ = some (.int .i64 a1_1) := (blk_cell BK480.out 1).trans rfl; have hcz261_2 : w260.cell? ⟨gb480, 2, none⟩ = some (.slice A1_2 l1_2.length c1_2) := (blk_cell BK480.out 2).trans rfl; have hfz261_0 := blk_frozen BK480.out 0; have hfz261_1 := blk_frozen BK480.out 1; have hfz261_2 := blk_frozen BK480.out 2) | ((with_reducible refine gate_callee (f := 35) rfl ?_); refine goesL_ (some 371) rfl rfl Try.func35 (by kernel_rfl) rfl #[.agg #[.int .i64 a1_0, .int .i64 a1_1, .slice A1_2 l1_2.length c1_2], .int .i64 a2] rfl zn3 ?_; (with_reducible refine (spec_TurnCell.calls kj38 a1_0 a1_1 _ _ l1_2 a2 t571 t572 _ ?side1 ?side2 A227.out).mono ?_); (case side1 => exact zn10); (case side2 => exact HC1_2.out); rintro e w262 ⟨rfl, hb⟩; refine ⟨_, rfl, ?_⟩; have n0_ := Aside0.mk (blk_below (g := gb480) (o := .cells #[.int .i64 a1_0, .int .i64 a1_1, .slice A1_2 l1_2.length c1_2] 30 (0, 0)) zn1 hb); have n1_ := Aside0.mk (blk_below (g := gb481) (o := .cells #[.int .i64 a3_0, .int .i64 a3_1, .slice A3_2 l3_2.length c3_2] 30 (0, 0)) zn2 hb); have n2_ := Aside0.mk (below_step zn6 hb); clear BK480; clear BK481; clear HB; have BK480 := n0_; have BK481 := n1_; have HB := n2_; clear n0_ n1_ n2_; (try clear hb); (try clear hb2); (try clear hk); (try clear hi); (try clear hna_); (try clear hnb_); have hcz263_0 : w262.cell? ⟨gb480, 0, none⟩ = some (.int .i64 a1_0) := (blk_cell BK480.out 0).trans rfl; have hcz263_1 : w262.cell? ⟨gb480, 1, none⟩ = some (.int .i64 a1_1) := (blk_cell BK480.out 1).trans rfl; have hcz263_2 : w262.cell? ⟨gb480, 2, none⟩ = some (.slice A1_2 l1_2.length c1_2) := (blk_cell BK480.out 2).trans rfl; have hfz263_0 := blk_frozen BK480.out 0; have hfz263_1 := blk_frozen BK480.out 1; have hfz263_2 := blk_frozen BK480.out 2) | ((with_reducible refine gate_callee (f := 30) rfl ?_); refine goesL_ (some 377) rfl rfl Try.func30 (by kernel_rfl) rfl #[.agg #[.int .i64 a1_0, .int .i64 a1_1, .slice A1_2 l1_2.length c1_2], .int .i64 a2] rfl zn3 ?_; (with_reducible refine (impl_MirrorCell.calls kj38 a1_0 a1_1 _ _ l1_2 a2 t573 t574 _ ?side1 ?side2 A228.out).mono ?_); (case side1 => exact zn10); (case side2 => exact HC1_2.out); rintro e w264 ⟨rfl, hb⟩; refine ⟨_, rfl, ?_⟩; have n0_ := Aside0.mk (blk_below (g := gb480) (o := .cells #[.int .i64 a1_0, .int .i64 a1_1, .slice A1_2 l1_2.length c1_2] 30 (0, 0)) zn1 hb); have n1_ := Aside0.mk (blk_below (g := gb481) (o := .cells #[.int .i64 a3_0, .int .i64 a3_1, .slice A3_2 l3_2.length c3_2] 30 (0, 0)) zn2 hb); have n2_ := Aside0.mk (below_step zn6 hb); clear BK480; clear BK481; clear HB; have BK480 := n0_; have BK481 := n1_; have HB := n2_; clear n0_ n1_ n2_; (try clear hb); (try clear hb2); (try clear hk); (try clear hi); (try clear hna_); (try clear hnb_); have hcz265_0 : w264.cell? ⟨gb480, 0, none⟩ = some (.int .i64 a1_0) := (blk_cell BK480.out 0).trans rfl; have hcz265_1 : w264.cell? ⟨gb480, 1, none⟩ = some (.int .i64 a1_1) := (blk_cell BK480.out 1).trans rfl; have hcz265_2 : w264.cell? ⟨gb480, 2, none⟩ = some (.slice A1_2 l1_2.length c1_2) := (blk_cell BK480.out 2).trans rfl; have hfz265_0 := blk_frozen BK480.out 0; have hfz265_1 := blk_frozen BK480.out 1; have hfz265_2 := blk_frozen BK480.out 2) | ((with_reducible refine gate_callee (f := 36) rfl ?_); refine goesL_ (some 383) rfl rfl Try.func36 (by kernel_rfl) rfl #[.agg #[.int .i64 a1_0, .int .i64 a1_1, .slice A1_2 l1_2.length c1_2], .int .i64 a2] rfl zn3 ?_; (with_reducible refine (spec_MirrorCell.calls kj38 a1_0 a1_1 _ _ l1_2 a2 t575 t576 _ ?side1 ?side2 A229.out).mono ?_); (case side1 => exact zn10); (case side2 => exact HC1_2.out); rintro e w266 ⟨rfl, hb⟩; refine ⟨_, rfl, ?_⟩; have n0_ := Aside0.mk (blk_below (g := gb480) (o := .cells #[.int .i64 a1_0, .int .i64 a1_1, .slice A1_2 l1_2.length c1_2] 30 (0, 0)) zn1 hb); have n1_ := Aside0.mk (blk_below (g := gb481) (o := .cells #[.int .i64 a3_0, .int .i64 a3_1, .slice A3_2 l3_2.length c3_2] 30 (0, 0)) zn2 hb); have n2_ := Aside0.mk (below_step zn6 hb); clear BK480; clear BK481; clear HB; have BK480 := n0_; have BK481 := n1_; have HB := n2_; clear n0_ n1_ n2_; (try clear hb); (try clear hb2); (try clear hk); (try clear hi); (try clear hna_); (try clear hnb_); have hcz267_0 : w266.cell? ⟨gb481, 0, none⟩ = some (.int .i64 a3_0) := (blk_cell BK481.out 0).trans rfl; have hcz267_1 : w266.cell? ⟨gb481, 1, none⟩ = some (.int .i64 a3_1) := (blk_cell BK481.out 1).trans rfl; have hcz267_2 : w266.cell? ⟨gb481, 2, none⟩ = some (.slice A3_2 l3_2.length c3_2) := (blk_cell BK481.out 2).trans rfl; have hfz267_0 := blk_frozen BK481.out 0; have hfz267_1 := blk_frozen BK481.out 1; have hfz267_2 := blk_frozen BK481.out 2) | ((with_reducible refine gate_callee (f := 32) rfl ?_); refine goesL_ (some 389) rfl rfl Try.func32 (by kernel_rfl) rfl #[.agg #[.int .i64 a3_0, .int .i64 a3_1, .slice A3_2 l3_2.length c3_2], .string a4] rfl zn3 ?_; (with_reducible refine (impl_CellOfName.calls kj38 a3_0 a3_1 _ _ l3_2 a4 t577 t578 _ ?side1 ?side2 A230.out).mono ?_); (case side1 => exact zn45); (case side2 => exact HC3_2.out); rintro e w268 ⟨rfl, hb⟩; refine ⟨_, rfl, ?_⟩; have n0_ := Aside0.mk (blk_below (g := gb480) (o := .cells #[.int .i64 a1_0, .int .i64 a1_1, .slice A1_2 l1_2.length c1_2] 30 (0, 0)) zn1 hb); have n1_ := Aside0.mk (blk_below (g := gb481) (o := .cells #[.int .i64 a3_0, .int .i64 a3_1, .slice A3_2 l3_2.length c3_2] 30 (0, 0)) zn2 hb); have n2_ := Aside0.mk (below_step zn6 hb); clear BK480; clear BK481; clear HB; have BK480 := n0_; have BK481 := n1_; have HB := n2_; clear n0_ n1_ n2_; (try clear hb); (try clear hb2); (try clear hk); (try clear hi); (try clear hna_); (try clear hnb_); have hcz269_0 : w268.cell? ⟨gb481, 0, none⟩ = some (.int .i64 a3_0) := (blk_cell BK481.out 0).trans rfl; have hcz269_1 : w268.cell? ⟨gb481, 1, none⟩ = some (.int .i64 a3_1) := (blk_cell BK481.out 1).trans rfl; have hcz269_2 : w268.cell? ⟨gb481, 2, none⟩ = some (.slice A3_2 l3_2.length c3_2) := (blk_cell BK481.out 2).trans rfl; have hfz269_0 := blk_frozen BK481.out 0; have hfz269_1 := blk_frozen BK481.out 1; have hfz269_2 := blk_frozen BK481.out 2) | ((with_reducible refine gate_callee (f := 37) rfl ?_); refine goesL_ (some 395) rfl rfl Try.func37 (by kernel_rfl) rfl #[.agg #[.int .i64 a3_0, .int .i64 a3_1, .slice A3_2 l3_2.length c3_2], .string a4] rfl zn3 ?_; (with_reducible refine (spec_CellOfName.calls kj38 a3_0 a3_1 _ _ l3_2 a4 t579 t580 _ ?side1 ?side2 A231.out).mono ?_); (case side1 => exact zn45); (case side2 => exact HC3_2.out); rintro e w270 ⟨rfl, hb⟩; refine ⟨_, rfl, ?_⟩; have n0_ := Aside0.mk (blk_below (g := gb480) (o := .cells #[.int .i64 a1_0, .int .i64 a1_1, .slice A1_2 l1_2.length c1_2] 30 (0, 0)) zn1 hb); have n1_ := Aside0.mk (blk_below (g := gb481) (o := .cells #[.int .i64 a3_0, .int .i64 a3_1, .slice A3_2 l3_2.length c3_2] 30 (0, 0)) zn2 hb); have n2_ := Aside0.mk (below_step zn6 hb); clear BK480; clear BK481; clear HB; have BK480 := n0_; have BK481 := n1_; have HB := n2_; clear n0_ n1_ n2_; (try clear hb); (try clear hb2); (try clear hk); (try clear hi); (try clear hna_); (try clear hnb_)) | ((with_reducible refine gate_callee (f := 38) rfl ?_); refine goesL_ (some 401) rfl rfl Try.func38 (by kernel_rfl) rfl #[.int .i64 a5, .int .i64 a6] rfl zn3 ?_; (with_reducible refine (impl_PlainBoard.calls a5 a6 t581 t582 t583 t586 _ A232.out).mono ?_); rintro e w271 ⟨v584, rfl, ho0, hb⟩; refine ⟨_, rfl, ?_⟩; have n0_ := Aside0.mk (Kd.R_lower ho0 (below_size zn6)); have n1_ := Aside0.mk (blk_below (g := gb480) (o := .cells #[.int .i64 a1_0, .int .i64 a1_1, .slice A1_2 l1_2.length c1_2] 30 (0, 0)) zn1 hb); have n2_ := Aside0.mk (blk_below (g := gb481) (o := .cells #[.int .i64 a3_0, .int .i64 a3_1, .slice A3_2 l3_2.length c3_2] 30 (0, 0)) zn2 hb); have n3_ := Aside0.mk (below_step zn6 hb); clear BK480; clear BK481; clear HB; have HO585 := n0_; have BK480 := n1_; have BK481 := n2_; have HB := n3_; clear n0_ n1_ n2_ n3_; (try clear hb); (try clear hb2); (try clear hk); (try clear hi); (try clear ho0); (try clear hna_); (try clear hnb_)) | ((with_reducible refine gate_dst (N := 73) rfl ?_); (try (refine gate_guard (by rfl) ?_; dsimp only)); refine box_event ?hg (N := 73) ?hd (cs := #[.int .i64 0, .int .i64 0, .slice none 0 0]) (t := 30) ?hr ?_; (case hd => rfl); (case hg => rfl); (case hr => first | (go_simp; done) | (go_simp; rfl)); intro gb587 hg w272 hbox hb; have n0_ := Aside0.mk (Kd.R_below zn63 hb); have n1_ := Aside0.mk (blk_below (g := gb480) (o := .cells #[.int .i64 a1_0, .int .i64 a1_1, .slice A1_2 l1_2.length c1_2] 30 (0, 0)) zn1 hb); have n2_ := Aside0.mk (blk_below (g := gb481) (o := .cells #[.int .i64 a3_0, .int .i64 a3_1, .slice A3_2 l3_2.length c3_2] 30 (0, 0)) zn2 hb); have n3_ := Aside0.mk (below_step zn6 hb); have n4_ := Aside0.mk (hbox); have n5_ := Aside0.mk ((by rw [hg]; exact (below_size zn6) : w.heap.size ≤ gb587)); have n6_ := Aside0.mk ((by rw [hg]; exact (below_size zn6) : w.heap.size ≤ gb587)); have n7_ := Aside0.mk ((zn67 : gb480 ≠ gb587)); have n8_ := Aside0.mk ((zn68 : gb587 ≠ gb480)); have n9_ := Aside0.mk ((zn69 : gb481 ≠ gb587)); have n10_ := Aside0.mk ((zn71 : gb587 ≠ gb481)); clear HO585; clear BK480; clear BK481; clear HB; have HO585 := n0_; have BK480 := n1_; have BK481 := n2_; have HB := n3_; have BK587 := n4_; have GW587 := n5_; have GE587 := n6_; have NB480_587 := n7_; have NB587_480 := n8_; have NB481_587 := n9_; have NB587_481 := n10_; clear n0_ n1_ n2_ n3_ n4_ n5_ n6_ n7_ n8_ n9_ n10_; clear hb hbox hg; have hnb273 := NB587_480.out; have hnc273 := NB480_587.out; have hnb274 := NB587_481.out; have hnc274 := NB481_587.out; have hcz275_0 : w272.cell? ⟨gb587, 0, none⟩ = some (.int .i64 0) := (blk_cell BK587.out 0).trans rfl; have hcz275_1 : w272.cell? ⟨gb587, 1, none⟩ = some (.int .i64 0) := (blk_cell BK587.out 1).trans rfl; have hcz275_2 : w272.cell? ⟨gb587, 2, none⟩ = some (.slice none 0 0) := (blk_cell BK587.out 2).trans rfl; have hfz275_0 := blk_frozen BK587.out 0; have hfz275_1 := blk_frozen BK587.out 1; have hfz275_2 := blk_frozen BK587.out 2; obtain ⟨Ao276, co276, eo276⟩ := Kd.R_slice HO585.out; subst eo276) | ((with_reducible refine gate_callee (f := 39) rfl ?_); refine goesL_ (some 407) rfl rfl Try.func39 (by kernel_rfl) rfl #[.int .i64 a5, .int .i64 a6] rfl zn3 ?_; (with_reducible refine (spec_PlainBoard.calls a5 a6 t588 t589 t590 t593 _ A233.out).mono ?_); rintro e w277 ⟨v591, rfl, ho0, hb⟩; refine ⟨_, rfl, ?_⟩; have n0_ := Aside0.mk (Kd.R_elder' zn52 (Kd.R_base ho0) hb); have n1_ := Aside0.mk (Kd.R_lower (Kd.R_new' ho0 (Kd.R_lt zn52)) (below_size zn12)); have n2_ := Aside0.mk (blk_below (g := gb480) (o := .cells #[.int .i64 a1_0, .int .i64 a1_1, .slice A1_2 l1_2.length c1_2] 30 (0, 0)) zn44 hb); have n3_ := Aside0.mk (blk_below (g := gb481) (o := .cells #[.int .i64 a3_0, .int .i64 a3_1, .slice A3_2 l3_2.length c3_2] 30 (0, 0)) zn42 hb); have n4_ := Aside0.mk (blk_below (g := gb587) (o := .cells #[.int .i64 t581, .int .i64 t582, .slice Ao276 t583.length co276] 30 (0, 0)) zn35 hb); have n5_ := Aside0.mk (below_step zn12 hb); clear HO585; clear BK480; clear BK481; clear BK587; clear HB; have HO585 := n0_; have HO592 := n1_; have BK480 := n2_; have BK481 := n3_; have BK587 := n4_; have HB := n5_; clear n0_ n1_ n2_ n3_ n4_ n5_; (try clear hb); (try clear hb2); (try clear hk); (try clear hi); (try clear ho0); (try clear hna_); (try clear hnb_)) | ((with_reducible refine gate_dst (N := 75) rfl ?_); (try (refine gate_guard (by rfl) ?_; dsimp only)); refine box_event ?hg (N := 75) ?hd (cs := #[.int .i64 0, .int .i64 0, .slice none 0 0]) (t := 30) ?hr ?_; (case hd => rfl); (case hg => rfl); (case hr => first | (go_simp; done) | (go_simp; rfl)); intro gb594 hg w278 hbox hb; have n0_ := Aside0.mk (Kd.R_below zn63 hb); have n1_ := Aside0.mk (Kd.R_below (by first | exact HO592.out | ((with_reducible repeat (first | apply Kd.R_alloc | apply Kd.R_drewN | apply Kd.R_drew)); exact HO592.out)) hb); have n2_ := Aside0.mk (blk_below (g := gb480) (o := .cells #[.int .i64 a1_0, .int .i64 a1_1, .slice A1_2 l1_2.length c1_2] 30 (0, 0)) zn1 hb); have n3_ := Aside0.mk (blk_below (g := gb481) (o := .cells #[.int .i64 a3_0, .int .i64 a3_1, .slice A3_2 l3_2.length c3_2] 30 (0, 0)) zn2 hb); have n4_ := Aside0.mk (blk_below (g := gb587) (o := .cells #[.int .i64 t581, .int .i64 t582, .slice Ao276 t583.length co276] 30 (0, 0)) zn39 hb); have n5_ := Aside0.mk (below_step zn12 hb); have n6_ := Aside0.mk (hbox); have n7_ := Aside0.mk ((by rw [hg]; exact (below_size zn12) : w.heap.size ≤ gb594)); have n8_ := Aside0.mk ((by rw [hg]; exact (below_size zn12) : w.heap.size ≤ gb594)); have n9_ := Aside0.mk ((zn67 : gb480 ≠ gb594)); have n10_ := Aside0.mk ((zn68 : gb594 ≠ gb480)); have n11_ := Aside0.mk ((zn69 : gb481 ≠ gb594)); have n12_ := Aside0.mk ((zn71 : gb594 ≠ gb481)); have n13_ := Aside0.mk ((by rw [hg]; exact Nat.ne_of_lt (blk_lt (g := gb587) (o := .cells #[.int .i64 t581, .int .i64 t582, .slice Ao276 t583.length co276] 30 (0, 0)) zn39) : gb587 ≠ gb594)); have n14_ := Aside0.mk ((by rw [hg]; exact Nat.ne_of_gt (blk_lt (g := gb587) (o := .cells #[.int .i64 t581, .int .i64 t582, .slice Ao276 t583.length co276] 30 (0, 0)) zn39) : gb594 ≠ gb587)); clear HO585; clear HO592; clear BK480; clear BK481; clear BK587; clear HB; have HO585 := n0_; have HO592 := n1_; have BK480 := n2_; have BK481 := n3_; have BK587 := n4_; have HB := n5_; have BK594 := n6_; have GW594 := n7_; have GE594 := n8_; have NB480_594 := n9_; have NB594_480 := n10_; have NB481_594 := n11_; have NB594_481 := n12_; have NB587_594 := n13_; have NB594_587 := n14_; clear n0_ n1_ n2_ n3_ n4_ n5_ n6_ n7_ n8_ n9_ n10_ n11_ n12_ n13_ n14_; clear hb hbox hg; have hnb279 := NB594_480.out; have hnc279 := NB480_594.out; have hnb280 := NB594_481.out; have hnc280 := NB481_594.out; have hnb281 := NB594_587.out; have hnc281 := NB587_594.out; have hcz282_0 : w278.cell? ⟨gb594, 0, none⟩ = some (.int .i64 0) := (blk_cell BK594.out 0).trans rfl; have hcz282_1 : w278.cell? ⟨gb594, 1, none⟩ = some (.int .i64 0) := (blk_cell BK594.out 1).trans rfl; have hcz282_2 : w278.cell? ⟨gb594, 2, none⟩ = some (.slice none 0 0) := (blk_cell BK594.out 2).trans rfl; have hfz282_0 := blk_frozen BK594.out 0; have hfz282_1 := blk_frozen BK594.out 1; have hfz282_2 := blk_frozen BK594.out 2; obtain ⟨Ao283, co283, eo283⟩ := Kd.R_slice HO592.out; subst eo283; have hcz284_0 : w278.cell? ⟨gb587, 0, none⟩ = some (.int .i64 t581) := (blk_cell BK587.out 0).trans rfl; have hcz284_1 : w278.cell? ⟨gb587, 1, none⟩ = some (.int .i64 t582) := (blk_cell BK587.out 1).trans rfl; have hcz284_2 : w278.cell? ⟨gb587, 2, none⟩ = some (.slice Ao276 t583.length co276) := (blk_cell BK587.out 2).trans rfl; have hfz284_0 := blk_frozen BK587.out 0; have hfz284_1 := blk_frozen BK587.out 1; have hfz284_2 := blk_frozen BK587.out 2) | (go_at_call 23; (with_reducible refine (laws_yBoard.calls kj38 t581 t582 _ _ t583 t588 t589 _ _ t590 true _ ?side1 ?side2 ?side3 ?side4 A245.out).mono ?_); (case side1 => refine (Kd.R_reads' (e := 3) (base := w.heap.size) (ok := fun k_ => (True ∧ some k_ ≠ (.slice Ao283 t590.length co283 : Value).ownBlock)) (n := t583.length) (c := co276) ?_).2.2; exact zn50); (case side2 => exact (Kd.R_reads' HO585.out).2.1); (case side3 => refine (Kd.R_reads' (e := 3) (base := w.heap.size) (ok := fun k_ => (True ∧ some k_ ≠ (.slice Ao276 t583.length co276 : Value).ownBlock)) (n := t590.length) (c := co283) ?_).2.2; exact zn48); (case side4 => exact (Kd.R_reads' HO592.out).2.1); rintro e w285 ⟨rfl, hb⟩; have n0_ := Aside0.mk (Kd.R_below zn50 hb); have n1_ := Aside0.mk (Kd.R_below zn48 hb); have n2_ := Aside0.mk (blk_below (g := gb480) (o := .cells #[.int .i64 a1_0, .int .i64 a1_1, .slice A1_2 l1_2.length c1_2] 30 (0, 0)) zn43 hb); have n3_ := Aside0.mk (blk_below (g := gb481) (o := .cells #[.int .i64 a3_0, .int .i64 a3_1, .slice A3_2 l3_2.length c3_2] 30 (0, 0)) zn41 hb); have n4_ := Aside0.mk (blk_below (g := gb587) (o := .cells #[.int .i64 t581, .int .i64 t582, .slice Ao276 t583.length co276] 30 (0, 0)) zn40 hb); have n5_ := Aside0.mk (blk_below (g := gb594) (o := .cells #[.int .i64 t588, .int .i64 t589, .slice Ao283 t590.length co283] 30 (0, 0)) zn34 hb); have n6_ := Aside0.mk (below_step zn31 hb); clear HO585; clear HO592; clear BK480; clear BK481; clear BK587; clear BK594; clear HB; have HO585 := n0_; have HO592 := n1_; have BK480 := n2_; have BK481 := n3_; have BK587 := n4_; have BK594 := n5_; have HB := n6_; clear n0_ n1_ n2_ n3_ n4_ n5_ n6_; (try clear hb); (try clear hb2); (try clear hk); (try clear hi); (try clear hna_); (try clear hnb_)))
    go_ret
    exact ⟨zn64, zn31⟩
   replace c247 := Bool.eq_false_iff.mpr c247
   subst c247
   have H1 : (if (t566 == false) = true then (if (t570 == t566) = true then (some (t574 == t566)) else (none)) else (none)) = some r := by rw [if_neg (show ¬ (false = true) by decide)] at H; exact H
   clear H
   have H := H1
   clear H1
   by_cases c286 : (t566 == false) = true
   rotate_left
   ·rw [if_neg c286] at H
    exact absurd H (by simp)
   rw [if_pos c286] at H
   have c286b0 : (t566 == false) = true := c286
   (try (have c286b1 : decide (t566 = false) = true := by simpa using c286))
   (try (have c286b2 : (t566 == false) = true := by simpa using c286))
   clear c286
   by_cases c287 : (t570 == t566) = true
   rotate_left
   ·rw [if_neg c287] at H
    exact absurd H (by simp)
   rw [if_pos c287] at H
   have c287b0 : (t570 == t566) = true := c287
   (try (have c287b1 : decide (t570 = t566) = true := by simpa using c287))
   (try (have c287b2 : (t570 == t566) = true := by simpa using c287))
   clear c287
   obtain rfl := Option.some.inj H
   have hnb288 := NB480_481.out
   have hnc288 := NB481_480.out
   have hcz289_0 : wc.cell? ⟨gb480, 0, none⟩ = some (.int .i64 a1_0) := (blk_cell BK480.out 0).trans rfl
   have hcz289_1 : wc.cell? ⟨gb480, 1, none⟩ = some (.int .i64 a1_1) := (blk_cell BK480.out 1).trans rfl
   have hcz289_2 : wc.cell? ⟨gb480, 2, none⟩ = some (.slice A1_2 l1_2.length c1_2) := (blk_cell BK480.out 2).trans rfl
   have hfz289_0 := blk_frozen BK480.out 0
   have hfz289_1 := blk_frozen BK480.out 1
   have hfz289_2 := blk_frozen BK480.out 2
   go_wp2_with (first | ((with_reducible refine gate_callee (f := 28) rfl ?_); refine goesL_ (some 341) rfl rfl Try.func28 (by kernel_rfl) rfl #[.agg #[.int .i64 a1_0, .int .i64 a1_1, .slice A1_2 l1_2.length c1_2], .int .i64 a2] rfl zn3 ?_; (with_reducible refine (impl_HasCell.calls kj38 a1_0 a1_1 _ _ l1_2 a2 t561 false _ ?side1 ?side2 A222.out).mono ?_); (case side1 => exact zn10); (case side2 => exact HC1_2.out); rintro e w290 ⟨rfl, hb⟩; refine ⟨_, rfl, ?_⟩; have n0_ := Aside0.mk (blk_below (g := gb480) (o := .cells #[.int .i64 a1_0, .int .i64 a1_1, .slice A1_2 l1_2.length c1_2] 30 (0, 0)) zn1 hb); have n1_ := Aside0.mk (blk_below (g := gb481) (o := .cells #[.int .i64 a3_0, .int .i64 a3_1, .slice A3_2 l3_2.length c3_2] 30 (0, 0)) zn2 hb); have n2_ := Aside0.mk (below_step zn6 hb); clear BK480; clear BK481; clear HB; have BK480 := n0_; have BK481 := n1_; have HB := n2_; clear n0_ n1_ n2_; (try clear hb); (try clear hb2); (try clear hk); (try clear hi); (try clear hna_); (try clear hnb_); have hcz291_0 : w290.cell? ⟨gb480, 0, none⟩ = some (.int .i64 a1_0) := (blk_cell BK480.out 0).trans rfl; have hcz291_1 : w290.cell? ⟨gb480, 1, none⟩ = some (.int .i64 a1_1) := (blk_cell BK480.out 1).trans rfl; have hcz291_2 : w290.cell? ⟨gb480, 2, none⟩ = some (.slice A1_2 l1_2.length c1_2) := (blk_cell BK480.out 2).trans rfl; have hfz291_0 := blk_frozen BK480.out 0; have hfz291_1 := blk_frozen BK480.out 1; have hfz291_2 := blk_frozen BK480.out 2) | ((with_reducible refine gate_callee (f := 33) rfl ?_); refine goesL_ (some 347) rfl rfl Try.func33 (by kernel_rfl) rfl #[.agg #[.int .i64 a1_0, .int .i64 a1_1, .slice A1_2 l1_2.length c1_2], .int .i64 a2] rfl zn3 ?_; (with_reducible refine (spec_HasCell.calls kj38 a1_0 a1_1 _ _ l1_2 a2 t563 t564 _ ?side1 ?side2 A223.out).mono ?_); (case side1 => exact zn10); (case side2 => exact HC1_2.out); rintro e w292 ⟨rfl, hb⟩; refine ⟨_, rfl, ?_⟩; have n0_ := Aside0.mk (blk_below (g := gb480) (o := .cells #[.int .i64 a1_0, .int .i64 a1_1, .slice A1_2 l1_2.length c1_2] 30 (0, 0)) zn1 hb); have n1_ := Aside0.mk (blk_below (g := gb481) (o := .cells #[.int .i64 a3_0, .int .i64 a3_1, .slice A3_2 l3_2.length c3_2] 30 (0, 0)) zn2 hb); have n2_ := Aside0.mk (below_step zn6 hb); clear BK480; clear BK481; clear HB; have BK480 := n0_; have BK481 := n1_; have HB := n2_; clear n0_ n1_ n2_; (try clear hb); (try clear hb2); (try clear hk); (try clear hi); (try clear hna_); (try clear hnb_); have hcz293_0 : w292.cell? ⟨gb480, 0, none⟩ = some (.int .i64 a1_0) := (blk_cell BK480.out 0).trans rfl; have hcz293_1 : w292.cell? ⟨gb480, 1, none⟩ = some (.int .i64 a1_1) := (blk_cell BK480.out 1).trans rfl; have hcz293_2 : w292.cell? ⟨gb480, 2, none⟩ = some (.slice A1_2 l1_2.length c1_2) := (blk_cell BK480.out 2).trans rfl; have hfz293_0 := blk_frozen BK480.out 0; have hfz293_1 := blk_frozen BK480.out 1; have hfz293_2 := blk_frozen BK480.out 2) | ((with_reducible refine gate_callee (f := 31) rfl ?_); refine goesL_ (some 353) rfl rfl Try.func31 (by kernel_rfl) rfl #[.agg #[.int .i64 a1_0, .int .i64 a1_1, .slice A1_2 l1_2.length c1_2], .int .i64 a2] rfl zn3 ?_; (with_reducible refine (impl_NameOf.calls kj38 a1_0 a1_1 _ _ l1_2 a2 t565 t566 _ ?side1 ?side2 A224.out).mono ?_); (case side1 => exact zn10); (case side2 => exact HC1_2.out); rintro e w294 ⟨rfl, hb⟩; refine ⟨_, rfl, ?_⟩; have n0_ := Aside0.mk (blk_below (g := gb480) (o := .cells #[.int .i64 a1_0, .int .i64 a1_1, .slice A1_2 l1_2.length c1_2] 30 (0, 0)) zn1 hb); have n1_ := Aside0.mk (blk_below (g := gb481) (o := .cells #[.int .i64 a3_0, .int .i64 a3_1, .slice A3_2 l3_2.length c3_2] 30 (0, 0)) zn2 hb); have n2_ := Aside0.mk (below_step zn6 hb); clear BK480; clear BK481; clear HB; have BK480 := n0_; have BK481 := n1_; have HB := n2_; clear n0_ n1_ n2_; (try clear hb); (try clear hb2); (try clear hk); (try clear hi); (try clear hna_); (try clear hnb_); have hcz295_0 : w294.cell? ⟨gb480, 0, none⟩ = some (.int .i64 a1_0) := (blk_cell BK480.out 0).trans rfl; have hcz295_1 : w294.cell? ⟨gb480, 1, none⟩ = some (.int .i64 a1_1) := (blk_cell BK480.out 1).trans rfl; have hcz295_2 : w294.cell? ⟨gb480, 2, none⟩ = some (.slice A1_2 l1_2.length c1_2) := (blk_cell BK480.out 2).trans rfl; have hfz295_0 := blk_frozen BK480.out 0; have hfz295_1 := blk_frozen BK480.out 1; have hfz295_2 := blk_frozen BK480.out 2) | ((with_reducible refine gate_callee (f := 34) rfl ?_); refine goesL_ (some 359) rfl rfl Try.func34 (by kernel_rfl) rfl #[.agg #[.int .i64 a1_0, .int .i64 a1_1, .slice A1_2 l1_2.length c1_2], .int .i64 a2] rfl zn3 ?_; (with_reducible refine (spec_NameOf.calls kj38 a1_0 a1_1 _ _ l1_2 a2 t567 t568 _ ?side1 ?side2 A225.out).mono ?_); (case side1 => exact zn10); (case side2 => exact HC1_2.out); rintro e w296 ⟨rfl, hb⟩; refine ⟨_, rfl, ?_⟩; have n0_ := Aside0.mk (blk_below (g := gb480) (o := .cells #[.int .i64 a1_0, .int .i64 a1_1, .slice A1_2 l1_2.length c1_2] 30 (0, 0)) zn1 hb); have n1_ := Aside0.mk (blk_below (g := gb481) (o := .cells #[.int .i64 a3_0, .int .i64 a3_1, .slice A3_2 l3_2.length c3_2] 30 (0, 0)) zn2 hb); have n2_ := Aside0.mk (below_step zn6 hb); clear BK480; clear BK481; clear HB; have BK480 := n0_; have BK481 := n1_; have HB := n2_; clear n0_ n1_ n2_; (try clear hb); (try clear hb2); (try clear hk); (try clear hi); (try clear hna_); (try clear hnb_); have hcz297_0 : w296.cell? ⟨gb480, 0, none⟩ = some (.int .i64 a1_0) := (blk_cell BK480.out 0).trans rfl; have hcz297_1 : w296.cell? ⟨gb480, 1, none⟩ = some (.int .i64 a1_1) := (blk_cell BK480.out 1).trans rfl; have hcz297_2 : w296.cell? ⟨gb480, 2, none⟩ = some (.slice A1_2 l1_2.length c1_2) := (blk_cell BK480.out 2).trans rfl; have hfz297_0 := blk_frozen BK480.out 0; have hfz297_1 := blk_frozen BK480.out 1; have hfz297_2 := blk_frozen BK480.out 2) | ((with_reducible refine gate_callee (f := 29) rfl ?_); refine goesL_ (some 365) rfl rfl Try.func29 (by kernel_rfl) rfl #[.agg #[.int .i64 a1_0, .int .i64 a1_1, .slice A1_2 l1_2.length c1_2], .int .i64 a2] rfl zn3 ?_; (with_reducible refine (impl_TurnCell.calls kj38 a1_0 a1_1 _ _ l1_2 a2 t569 t570 _ ?side1 ?side2 A226.out).mono ?_); (case side1 => exact zn10); (case side2 => exact HC1_2.out); rintro e w298 ⟨rfl, hb⟩; refine ⟨_, rfl, ?_⟩; have n0_ := Aside0.mk (blk_below (g := gb480) (o := .cells #[.int .i64 a1_0, .int .i64 a1_1, .slice A1_2 l1_2.length c1_2] 30 (0, 0)) zn1 hb); have n1_ := Aside0.mk (blk_below (g := gb481) (o := .cells #[.int .i64 a3_0, .int .i64 a3_1, .slice A3_2 l3_2.length c3_2] 30 (0, 0)) zn2 hb); have n2_ := Aside0.mk (below_step zn6 hb); clear BK480; clear BK481; clear HB; have BK480 := n0_; have BK481 := n1_; have HB := n2_; clear n0_ n1_ n2_; (try clear hb); (try clear hb2); (try clear hk); (try clear hi); (try clear hna_); (try clear hnb_); have hcz299_0 : w298.cell? ⟨gb480, 0, none⟩ = some (.int .i64 a1_0) := (blk_cell BK480.out 0).trans rfl; have hcz299_1 : w298.cell? ⟨gb480, 1, none⟩ = some (.int .i64 a1_1) := (blk_cell BK480.out 1).trans rfl; have hcz299_2 : w298.cell? ⟨gb480, 2, none⟩ = some (.slice A1_2 l1_2.length c1_2) := (blk_cell BK480.out 2).trans rfl; have hfz299_0 := blk_frozen BK480.out 0; have hfz299_1 := blk_frozen BK480.out 1; have hfz299_2 := blk_frozen BK480.out 2) | ((with_reducible refine gate_callee (f := 35) rfl ?_); refine goesL_ (some 371) rfl rfl Try.func35 (by kernel_rfl) rfl #[.agg #[.int .i64 a1_0, .int .i64 a1_1, .slice A1_2 l1_2.length c1_2], .int .i64 a2] rfl zn3 ?_; (with_reducible refine (spec_TurnCell.calls kj38 a1_0 a1_1 _ _ l1_2 a2 t571 t572 _ ?side1 ?side2 A227.out).mono ?_); (case side1 => exact zn10); (case side2 => exact HC1_2.out); rintro e w300 ⟨rfl, hb⟩; refine ⟨_, rfl, ?_⟩; have n0_ := Aside0.mk (blk_below (g := gb480) (o := .cells #[.int .i64 a1_0, .int .i64 a1_1, .slice A1_2 l1_2.length c1_2] 30 (0, 0)) zn1 hb); have n1_ := Aside0.mk (blk_below (g := gb481) (o := .cells #[.int .i64 a3_0, .int .i64 a3_1, .slice A3_2 l3_2.length c3_2] 30 (0, 0)) zn2 hb); have n2_ := Aside0.mk (below_step zn6 hb); clear BK480; clear BK481; clear HB; have BK480 := n0_; have BK481 := n1_; have HB := n2_; clear n0_ n1_ n2_; (try clear hb); (try clear hb2); (try clear hk); (try clear hi); (try clear hna_); (try clear hnb_); have hcz301_0 : w300.cell? ⟨gb480, 0, none⟩ = some (.int .i64 a1_0) := (blk_cell BK480.out 0).trans rfl; have hcz301_1 : w300.cell? ⟨gb480, 1, none⟩ = some (.int .i64 a1_1) := (blk_cell BK480.out 1).trans rfl; have hcz301_2 : w300.cell? ⟨gb480, 2, none⟩ = some (.slice A1_2 l1_2.length c1_2) := (blk_cell BK480.out 2).trans rfl; have hfz301_0 := blk_frozen BK480.out 0; have hfz301_1 := blk_frozen BK480.out 1; have hfz301_2 := blk_frozen BK480.out 2) | ((with_reducible refine gate_callee (f := 30) rfl ?_); refine goesL_ (some 377) rfl rfl Try.func30 (by kernel_rfl) rfl #[.agg #[.int .i64 a1_0, .int .i64 a1_1, .slice A1_2 l1_2.length c1_2], .int .i64 a2] rfl zn3 ?_; (with_reducible refine (impl_MirrorCell.calls kj38 a1_0 a1_1 _ _ l1_2 a2 t573 t574 _ ?side1 ?side2 A228.out).mono ?_); (case side1 => exact zn10); (case side2 => exact HC1_2.out); rintro e w302 ⟨rfl, hb⟩; refine ⟨_, rfl, ?_⟩; have n0_ := Aside0.mk (blk_below (g := gb480) (o := .cells #[.int .i64 a1_0, .int .i64 a1_1, .slice A1_2 l1_2.length c1_2] 30 (0, 0)) zn1 hb); have n1_ := Aside0.mk (blk_below (g := gb481) (o := .cells #[.int .i64 a3_0, .int .i64 a3_1, .slice A3_2 l3_2.length c3_2] 30 (0, 0)) zn2 hb); have n2_ := Aside0.mk (below_step zn6 hb); clear BK480; clear BK481; clear HB; have BK480 := n0_; have BK481 := n1_; have HB := n2_; clear n0_ n1_ n2_; (try clear hb); (try clear hb2); (try clear hk); (try clear hi); (try clear hna_); (try clear hnb_); have hcz303_0 : w302.cell? ⟨gb480, 0, none⟩ = some (.int .i64 a1_0) := (blk_cell BK480.out 0).trans rfl; have hcz303_1 : w302.cell? ⟨gb480, 1, none⟩ = some (.int .i64 a1_1) := (blk_cell BK480.out 1).trans rfl; have hcz303_2 : w302.cell? ⟨gb480, 2, none⟩ = some (.slice A1_2 l1_2.length c1_2) := (blk_cell BK480.out 2).trans rfl; have hfz303_0 := blk_frozen BK480.out 0; have hfz303_1 := blk_frozen BK480.out 1; have hfz303_2 := blk_frozen BK480.out 2) | ((with_reducible refine gate_callee (f := 36) rfl ?_); refine goesL_ (some 383) rfl rfl Try.func36 (by kernel_rfl) rfl #[.agg #[.int .i64 a1_0, .int .i64 a1_1, .slice A1_2 l1_2.length c1_2], .int .i64 a2] rfl zn3 ?_; (with_reducible refine (spec_MirrorCell.calls kj38 a1_0 a1_1 _ _ l1_2 a2 t575 t576 _ ?side1 ?side2 A229.out).mono ?_); (case side1 => exact zn10); (case side2 => exact HC1_2.out); rintro e w304 ⟨rfl, hb⟩; refine ⟨_, rfl, ?_⟩; have n0_ := Aside0.mk (blk_below (g := gb480) (o := .cells #[.int .i64 a1_0, .int .i64 a1_1, .slice A1_2 l1_2.length c1_2] 30 (0, 0)) zn1 hb); have n1_ := Aside0.mk (blk_below (g := gb481) (o := .cells #[.int .i64 a3_0, .int .i64 a3_1, .slice A3_2 l3_2.length c3_2] 30 (0, 0)) zn2 hb); have n2_ := Aside0.mk (below_step zn6 hb); clear BK480; clear BK481; clear HB; have BK480 := n0_; have BK481 := n1_; have HB := n2_; clear n0_ n1_ n2_; (try clear hb); (try clear hb2); (try clear hk); (try clear hi); (try clear hna_); (try clear hnb_); have hcz305_0 : w304.cell? ⟨gb481, 0, none⟩ = some (.int .i64 a3_0) := (blk_cell BK481.out 0).trans rfl; have hcz305_1 : w304.cell? ⟨gb481, 1, none⟩ = some (.int .i64 a3_1) := (blk_cell BK481.out 1).trans rfl; have hcz305_2 : w304.cell? ⟨gb481, 2, none⟩ = some (.slice A3_2 l3_2.length c3_2) := (blk_cell BK481.out 2).trans rfl; have hfz305_0 := blk_frozen BK481.out 0; have hfz305_1 := blk_frozen BK481.out 1; have hfz305_2 := blk_frozen BK481.out 2) | ((with_reducible refine gate_callee (f := 32) rfl ?_); refine goesL_ (some 389) rfl rfl Try.func32 (by kernel_rfl) rfl #[.agg #[.int .i64 a3_0, .int .i64 a3_1, .slice A3_2 l3_2.length c3_2], .string a4] rfl zn3 ?_; (with_reducible refine (impl_CellOfName.calls kj38 a3_0 a3_1 _ _ l3_2 a4 t577 t578 _ ?side1 ?side2 A230.out).mono ?_); (case side1 => exact zn45); (case side2 => exact HC3_2.out); rintro e w306 ⟨rfl, hb⟩; refine ⟨_, rfl, ?_⟩; have n0_ := Aside0.mk (blk_below (g := gb480) (o := .cells #[.int .i64 a1_0, .int .i64 a1_1, .slice A1_2 l1_2.length c1_2] 30 (0, 0)) zn1 hb); have n1_ := Aside0.mk (blk_below (g := gb481) (o := .cells #[.int .i64 a3_0, .int .i64 a3_1, .slice A3_2 l3_2.length c3_2] 30 (0, 0)) zn2 hb); have n2_ := Aside0.mk (below_step zn6 hb); clear BK480; clear BK481; clear HB; have BK480 := n0_; have BK481 := n1_; have HB := n2_; clear n0_ n1_ n2_; (try clear hb); (try clear hb2); (try clear hk); (try clear hi); (try clear hna_); (try clear hnb_); have hcz307_0 : w306.cell? ⟨gb481, 0, none⟩ = some (.int .i64 a3_0) := (blk_cell BK481.out 0).trans rfl; have hcz307_1 : w306.cell? ⟨gb481, 1, none⟩ = some (.int .i64 a3_1) := (blk_cell BK481.out 1).trans rfl; have hcz307_2 : w306.cell? ⟨gb481, 2, none⟩ = some (.slice A3_2 l3_2.length c3_2) := (blk_cell BK481.out 2).trans rfl; have hfz307_0 := blk_frozen BK481.out 0; have hfz307_1 := blk_frozen BK481.out 1; have hfz307_2 := blk_frozen BK481.out 2) | ((with_reducible refine gate_callee (f := 37) rfl ?_); refine goesL_ (some 395) rfl rfl Try.func37 (by kernel_rfl) rfl #[.agg #[.int .i64 a3_0, .int .i64 a3_1, .slice A3_2 l3_2.length c3_2], .string a4] rfl zn3 ?_; (with_reducible refine (spec_CellOfName.calls kj38 a3_0 a3_1 _ _ l3_2 a4 t579 t580 _ ?side1 ?side2 A231.out).mono ?_); (case side1 => exact zn45); (case side2 => exact HC3_2.out); rintro e w308 ⟨rfl, hb⟩; refine ⟨_, rfl, ?_⟩; have n0_ := Aside0.mk (blk_below (g := gb480) (o := .cells #[.int .i64 a1_0, .int .i64 a1_1, .slice A1_2 l1_2.length c1_2] 30 (0, 0)) zn1 hb); have n1_ := Aside0.mk (blk_below (g := gb481) (o := .cells #[.int .i64 a3_0, .int .i64 a3_1, .slice A3_2 l3_2.length c3_2] 30 (0, 0)) zn2 hb); have n2_ := Aside0.mk (below_step zn6 hb); clear BK480; clear BK481; clear HB; have BK480 := n0_; have BK481 := n1_; have HB := n2_; clear n0_ n1_ n2_; (try clear hb); (try clear hb2); (try clear hk); (try clear hi); (try clear hna_); (try clear hnb_)) | ((with_reducible refine gate_callee (f := 38) rfl ?_); refine goesL_ (some 401) rfl rfl Try.func38 (by kernel_rfl) rfl #[.int .i64 a5, .int .i64 a6] rfl zn3 ?_; (with_reducible refine (impl_PlainBoard.calls a5 a6 t581 t582 t583 t586 _ A232.out).mono ?_); rintro e w309 ⟨v584, rfl, ho0, hb⟩; refine ⟨_, rfl, ?_⟩; have n0_ := Aside0.mk (Kd.R_lower ho0 (below_size zn6)); have n1_ := Aside0.mk (blk_below (g := gb480) (o := .cells #[.int .i64 a1_0, .int .i64 a1_1, .slice A1_2 l1_2.length c1_2] 30 (0, 0)) zn1 hb); have n2_ := Aside0.mk (blk_below (g := gb481) (o := .cells #[.int .i64 a3_0, .int .i64 a3_1, .slice A3_2 l3_2.length c3_2] 30 (0, 0)) zn2 hb); have n3_ := Aside0.mk (below_step zn6 hb); clear BK480; clear BK481; clear HB; have HO585 := n0_; have BK480 := n1_; have BK481 := n2_; have HB := n3_; clear n0_ n1_ n2_ n3_; (try clear hb); (try clear hb2); (try clear hk); (try clear hi); (try clear ho0); (try clear hna_); (try clear hnb_)) | ((with_reducible refine gate_dst (N := 73) rfl ?_); (try (refine gate_guard (by rfl) ?_; dsimp only)); refine box_event ?hg (N := 73) ?hd (cs := #[.int .i64 0, .int .i64 0, .slice none 0 0]) (t := 30) ?hr ?_; (case hd => rfl); (case hg => rfl); (case hr => first | (go_simp; done) | (go_simp; rfl)); intro gb587 hg w310 hbox hb; have n0_ := Aside0.mk (Kd.R_below zn63 hb); have n1_ := Aside0.mk (blk_below (g := gb480) (o := .cells #[.int .i64 a1_0, .int .i64 a1_1, .slice A1_2 l1_2.length c1_2] 30 (0, 0)) zn1 hb); have n2_ := Aside0.mk (blk_below (g := gb481) (o := .cells #[.int .i64 a3_0, .int .i64 a3_1, .slice A3_2 l3_2.length c3_2] 30 (0, 0)) zn2 hb); have n3_ := Aside0.mk (below_step zn6 hb); have n4_ := Aside0.mk (hbox); have n5_ := Aside0.mk ((by rw [hg]; exact (below_size zn6) : w.heap.size ≤ gb587)); have n6_ := Aside0.mk ((by rw [hg]; exact (below_size zn6) : w.heap.size ≤ gb587)); have n7_ := Aside0.mk ((zn67 : gb480 ≠ gb587)); have n8_ := Aside0.mk ((zn68 : gb587 ≠ gb480)); have n9_ := Aside0.mk ((zn69 : gb481 ≠ gb587)); have n10_ := Aside0.mk ((zn71 : gb587 ≠ gb481)); clear HO585; clear BK480; clear BK481; clear HB; have HO585 := n0_; have BK480 := n1_; have BK481 := n2_; have HB := n3_; have BK587 := n4_; have GW587 := n5_; have GE587 := n6_; have NB480_587 := n7_; have NB587_480 := n8_; have NB481_587 := n9_; have NB587_481 := n10_; clear n0_ n1_ n2_ n3_ n4_ n5_ n6_ n7_ n8_ n9_ n10_; clear hb hbox hg; have hnb311 := NB587_480.out; have hnc311 := NB480_587.out; have hnb312 := NB587_481.out; have hnc312 := NB481_587.out; have hcz313_0 : w310.cell? ⟨gb587, 0, none⟩ = some (.int .i64 0) := (blk_cell BK587.out 0).trans rfl; have hcz313_1 : w310.cell? ⟨gb587, 1, none⟩ = some (.int .i64 0) := (blk_cell BK587.out 1).trans rfl; have hcz313_2 : w310.cell? ⟨gb587, 2, none⟩ = some (.slice none 0 0) := (blk_cell BK587.out 2).trans rfl; have hfz313_0 := blk_frozen BK587.out 0; have hfz313_1 := blk_frozen BK587.out 1; have hfz313_2 := blk_frozen BK587.out 2; obtain ⟨Ao314, co314, eo314⟩ := Kd.R_slice HO585.out; subst eo314) | ((with_reducible refine gate_callee (f := 39) rfl ?_); refine goesL_ (some 407) rfl rfl Try.func39 (by kernel_rfl) rfl #[.int .i64 a5, .int .i64 a6] rfl zn3 ?_; (with_reducible refine (spec_PlainBoard.calls a5 a6 t588 t589 t590 t593 _ A233.out).mono ?_); rintro e w315 ⟨v591, rfl, ho0, hb⟩; refine ⟨_, rfl, ?_⟩; have n0_ := Aside0.mk (Kd.R_elder' zn51 (Kd.R_base ho0) hb); have n1_ := Aside0.mk (Kd.R_lower (Kd.R_new' ho0 (Kd.R_lt zn51)) (below_size zn12)); have n2_ := Aside0.mk (blk_below (g := gb480) (o := .cells #[.int .i64 a1_0, .int .i64 a1_1, .slice A1_2 l1_2.length c1_2] 30 (0, 0)) zn44 hb); have n3_ := Aside0.mk (blk_below (g := gb481) (o := .cells #[.int .i64 a3_0, .int .i64 a3_1, .slice A3_2 l3_2.length c3_2] 30 (0, 0)) zn42 hb); have n4_ := Aside0.mk (blk_below (g := gb587) (o := .cells #[.int .i64 t581, .int .i64 t582, .slice Ao314 t583.length co314] 30 (0, 0)) zn35 hb); have n5_ := Aside0.mk (below_step zn12 hb); clear HO585; clear BK480; clear BK481; clear BK587; clear HB; have HO585 := n0_; have HO592 := n1_; have BK480 := n2_; have BK481 := n3_; have BK587 := n4_; have HB := n5_; clear n0_ n1_ n2_ n3_ n4_ n5_; (try clear hb); (try clear hb2); (try clear hk); (try clear hi); (try clear ho0); (try clear hna_); (try clear hnb_)) | ((with_reducible refine gate_dst (N := 75) rfl ?_); (try (refine gate_guard (by rfl) ?_; dsimp only)); refine box_event ?hg (N := 75) ?hd (cs := #[.int .i64 0, .int .i64 0, .slice none 0 0]) (t := 30) ?hr ?_; (case hd => rfl); (case hg => rfl); (case hr => first | (go_simp; done) | (go_simp; rfl)); intro gb594 hg w316 hbox hb; have n0_ := Aside0.mk (Kd.R_below zn63 hb); have n1_ := Aside0.mk (Kd.R_below (by first | exact HO592.out | ((with_reducible repeat (first | apply Kd.R_alloc | apply Kd.R_drewN | apply Kd.R_drew)); exact HO592.out)) hb); have n2_ := Aside0.mk (blk_below (g := gb480) (o := .cells #[.int .i64 a1_0, .int .i64 a1_1, .slice A1_2 l1_2.length c1_2] 30 (0, 0)) zn1 hb); have n3_ := Aside0.mk (blk_below (g := gb481) (o := .cells #[.int .i64 a3_0, .int .i64 a3_1, .slice A3_2 l3_2.length c3_2] 30 (0, 0)) zn2 hb); have n4_ := Aside0.mk (blk_below (g := gb587) (o := .cells #[.int .i64 t581, .int .i64 t582, .slice Ao314 t583.length co314] 30 (0, 0)) zn39 hb); have n5_ := Aside0.mk (below_step zn12 hb); have n6_ := Aside0.mk (hbox); have n7_ := Aside0.mk ((by rw [hg]; exact (below_size zn12) : w.heap.size ≤ gb594)); have n8_ := Aside0.mk ((by rw [hg]; exact (below_size zn12) : w.heap.size ≤ gb594)); have n9_ := Aside0.mk ((zn67 : gb480 ≠ gb594)); have n10_ := Aside0.mk ((zn68 : gb594 ≠ gb480)); have n11_ := Aside0.mk ((zn69 : gb481 ≠ gb594)); have n12_ := Aside0.mk ((zn71 : gb594 ≠ gb481)); have n13_ := Aside0.mk ((by rw [hg]; exact Nat.ne_of_lt (blk_lt (g := gb587) (o := .cells #[.int .i64 t581, .int .i64 t582, .slice Ao314 t583.length co314] 30 (0, 0)) zn39) : gb587 ≠ gb594)); have n14_ := Aside0.mk ((by rw [hg]; exact Nat.ne_of_gt (blk_lt (g := gb587) (o := .cells #[.int .i64 t581, .int .i64 t582, .slice Ao314 t583.length co314] 30 (0, 0)) zn39) : gb594 ≠ gb587)); clear HO585; clear HO592; clear BK480; clear BK481; clear BK587; clear HB; have HO585 := n0_; have HO592 := n1_; have BK480 := n2_; have BK481 := n3_; have BK587 := n4_; have HB := n5_; have BK594 := n6_; have GW594 := n7_; have GE594 := n8_; have NB480_594 := n9_; have NB594_480 := n10_; have NB481_594 := n11_; have NB594_481 := n12_; have NB587_594 := n13_; have NB594_587 := n14_; clear n0_ n1_ n2_ n3_ n4_ n5_ n6_ n7_ n8_ n9_ n10_ n11_ n12_ n13_ n14_; clear hb hbox hg; have hnb317 := NB594_480.out; have hnc317 := NB480_594.out; have hnb318 := NB594_481.out; have hnc318 := NB481_594.out; have hnb319 := NB594_587.out; have hnc319 := NB587_594.out; have hcz320_0 : w316.cell? ⟨gb594, 0, none⟩ = some (.int .i64 0) := (blk_cell BK594.out 0).trans rfl; have hcz320_1 : w316.cell? ⟨gb594, 1, none⟩ = some (.int .i64 0) := (blk_cell BK594.out 1).trans rfl; have hcz320_2 : w316.cell? ⟨gb594, 2, none⟩ = some (.slice none 0 0) := (blk_cell BK594.out 2).trans rfl; have hfz320_0 := blk_frozen BK594.out 0; have hfz320_1 := blk_frozen BK594.out 1; have hfz320_2 := blk_frozen BK594.out 2; obtain ⟨Ao321, co321, eo321⟩ := Kd.R_slice HO592.out; subst eo321; have hcz322_0 : w316.cell? ⟨gb587, 0, none⟩ = some (.int .i64 t581) := (blk_cell BK587.out 0).trans rfl; have hcz322_1 : w316.cell? ⟨gb587, 1, none⟩ = some (.int .i64 t582) := (blk_cell BK587.out 1).trans rfl; have hcz322_2 : w316.cell? ⟨gb587, 2, none⟩ = some (.slice Ao314 t583.length co314) := (blk_cell BK587.out 2).trans rfl; have hfz322_0 := blk_frozen BK587.out 0; have hfz322_1 := blk_frozen BK587.out 1; have hfz322_2 := blk_frozen BK587.out 2) | (go_at_call 23; (with_reducible refine (laws_yBoard.calls kj38 t581 t582 _ _ t583 t588 t589 _ _ t590 true _ ?side1 ?side2 ?side3 ?side4 A245.out).mono ?_); (case side1 => refine (Kd.R_reads' (e := 3) (base := w.heap.size) (ok := fun k_ => (True ∧ some k_ ≠ (.slice Ao321 t590.length co321 : Value).ownBlock)) (n := t583.length) (c := co314) ?_).2.2; exact zn49); (case side2 => exact (Kd.R_reads' HO585.out).2.1); (case side3 => refine (Kd.R_reads' (e := 3) (base := w.heap.size) (ok := fun k_ => (True ∧ some k_ ≠ (.slice Ao314 t583.length co314 : Value).ownBlock)) (n := t590.length) (c := co321) ?_).2.2; exact zn47); (case side4 => exact (Kd.R_reads' HO592.out).2.1); rintro e w323 ⟨rfl, hb⟩; have n0_ := Aside0.mk (Kd.R_below zn49 hb); have n1_ := Aside0.mk (Kd.R_below zn47 hb); have n2_ := Aside0.mk (blk_below (g := gb480) (o := .cells #[.int .i64 a1_0, .int .i64 a1_1, .slice A1_2 l1_2.length c1_2] 30 (0, 0)) zn43 hb); have n3_ := Aside0.mk (blk_below (g := gb481) (o := .cells #[.int .i64 a3_0, .int .i64 a3_1, .slice A3_2 l3_2.length c3_2] 30 (0, 0)) zn41 hb); have n4_ := Aside0.mk (blk_below (g := gb587) (o := .cells #[.int .i64 t581, .int .i64 t582, .slice Ao314 t583.length co314] 30 (0, 0)) zn40 hb); have n5_ := Aside0.mk (blk_below (g := gb594) (o := .cells #[.int .i64 t588, .int .i64 t589, .slice Ao321 t590.length co321] 30 (0, 0)) zn34 hb); have n6_ := Aside0.mk (below_step zn31 hb); clear HO585; clear HO592; clear BK480; clear BK481; clear BK587; clear BK594; clear HB; have HO585 := n0_; have HO592 := n1_; have BK480 := n2_; have BK481 := n3_; have BK587 := n4_; have BK594 := n5_; have HB := n6_; clear n0_ n1_ n2_ n3_ n4_ n5_ n6_; (try clear hb); (try clear hb2); (try clear hk); (try clear hi); (try clear hna_); (try clear hnb_)))
   go_ret
   exact ⟨zn64, zn31⟩

end Go.Proofs.Ytmfbhhicioepjaa.Q

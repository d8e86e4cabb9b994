/- DeadEnds: the program and the reference tell the same list of cells, so the law's function answers true for all arguments. -/
import Derived.Test.YtekajjhjjnfdpaaStateFnExactDeadEnds
import Derived.Test.YtekajjhjjnfdpaaHNear
import Derived.Test.YtekajjhjjnfdpaaQ18
namespace Go.Proofs.Ytekajjhjjnfdpaa.Pure
open Go.RowKit Go.IntWalk Go.Proofs.Ytekajjhjjnfdpaa.Q Go.Proofs.Ytekajjhjjnfdpaa.H Go.Proofs.YtekajjhjjnfdpaaW.PrintWords Go.Proofs.YtekajjhjjnfdpaaW.PrintMore
set_option linter.unusedVariables false
set_option linter.unusedSimpArgs false
def deadM (W H : Int) (L : List Int) (A B : Int) (cs : List Int) : List Int := cs.filter fun c => decide (((leapsM W H L A B c).length : Int) ≤ 1)
theorem specDead_loop {W H : Int} {L : List Int} (g : BoardM W H L) (hl : L.length ≤ 1048576) (A B : Int) (rest pre acc : List Int) (hr : ∀ x ∈ rest, hasB W H L x = true) (hp : (pre ++ rest).length ≤ 64) (ha : acc.length ≤ pre.length) :
    Ev (fun k => spec_DeadEnds.l0 k acc (pre ++ rest) ((pre ++ rest).length : Int) (pre.length : Int) W H L A B) (acc ++ deadM W H L A B rest, true) := by
  induction rest generalizing pre acc with
  | nil =>
    refine Ev.step (fun k => by rw [spec_DeadEnds.l0]) ?_
    simp only [List.append_nil, nlt_end, if_false, deadM, List.filter_nil]
    exact Ev.now _
  | cons c r ih =>
    refine Ev.step (fun k => by rw [spec_DeadEnds.l0]) ?_
    have h0 : (0 : Int) ≤ (pre.length : Int) := by omega
    have h5 : pre.length ≤ 64 := by simp at hp; omega
    have h6 : acc.length < 17592186044416 := by omega
    simp only [lt_mid pre c r, h0, if_true, rd_mid, w_succ (show pre.length ≤ 4611686018427387904 by omega)]
    refine Ev.bind (boLeaps_ev g hl A B c (has_range (hr c (by simp)))) ?_
    by_cases hx : ((leapsM W H L A B c).length : Int) ≤ 1
    · simp only [hx, h6, if_true]
      have := ih (pre ++ [c]) (acc ++ [c]) (fun y hy => hr y (by simp [hy])) (by simpa using hp) (by simp; omega)
      have e : deadM W H L A B (c :: r) = c :: deadM W H L A B r := by simp only [deadM, List.filter_cons, hx, decide_true, if_true]
      rw [e]
      simpa using this
    · simp only [hx, if_false]
      have := ih (pre ++ [c]) acc (fun y hy => hr y (by simp [hy])) (by simpa using hp) (by simp; omega)
      have e : deadM W H L A B (c :: r) = deadM W H L A B r := by simp only [deadM, List.filter_cons, hx, decide_false, Bool.false_eq_true, if_false]
      rw [e]
      simpa using this
theorem implDead_loop {W H : Int} {L : List Int} (g : BoardM W H L) (hl : L.length ≤ 1048576) (A B : Int) (rest pre acc : List Int) (hr : ∀ x ∈ rest, hasB W H L x = true) (hp : (pre ++ rest).length ≤ 64) (ha : acc.length ≤ pre.length) :
    Ev (fun k => impl_DeadEnds.l0 k acc (pre ++ rest) ((pre ++ rest).length : Int) (pre.length : Int) W H L A B (cellsM W H L) (nearM W H L A B)) (acc ++ deadM W H L A B rest, true) := by
  induction rest generalizing pre acc with
  | nil =>
    refine Ev.step (fun k => by rw [impl_DeadEnds.l0]) ?_
    simp only [List.append_nil, nlt_end, if_false, deadM, List.filter_nil]
    exact Ev.now _
  | cons c r ih =>
    refine Ev.step (fun k => by rw [impl_DeadEnds.l0]) ?_
    have h0 : (0 : Int) ≤ (pre.length : Int) := by omega
    have h5 : pre.length ≤ 64 := by simp at hp; omega
    have h6 : acc.length < 17592186044416 := by omega
    have hn := near_in (A := A) (B := B) g (hr c (by simp))
    simp only [lt_mid pre c r, h0, if_true, rd_mid, w_succ (show pre.length ≤ 4611686018427387904 by omega), hn.1, hn.2, near_at (hr c (by simp)), h6]
    by_cases hx : ((leapsM W H L A B c).length : Int) ≤ 1
    · simp only [hx, if_true]
      have := ih (pre ++ [c]) (acc ++ [c]) (fun y hy => hr y (by simp [hy])) (by simpa using hp) (by simp; omega)
      have e : deadM W H L A B (c :: r) = c :: deadM W H L A B r := by simp only [deadM, List.filter_cons, hx, decide_true, if_true]
      rw [e]
      simpa using this
    · simp only [hx, if_false]
      have := ih (pre ++ [c]) acc (fun y hy => hr y (by simp [hy])) (by simpa using hp) (by simp; omega)
      have e : deadM W H L A B (c :: r) = deadM W H L A B r := by simp only [deadM, List.filter_cons, hx, decide_false, Bool.false_eq_true, if_false]
      rw [e]
      simpa using this
theorem deadEnds_both (W H : Int) (L : List Int) (A B : Int) (hl : L.length ≤ 1048576) : ∃ (r : List Int) (b : Bool), r.length ≤ 1048576 ∧ Ev (fun k => spec_DeadEnds.f k W H L A B) (r, b) ∧ Ev (fun k => impl_DeadEnds.f k W H L A B) (r, b) := by
  by_cases t : Two W H L A B
  · have hc := cellsM_length t.1
    refine ⟨deadM W H L A B (cellsM W H L), true, Nat.le_trans (List.length_filter_le _ _) (by omega), ?_, ?_⟩
    · unfold spec_DeadEnds.f
      refine Ev.bind (two_yes t hl) ?_
      simp only [if_true]
      refine Ev.bind (boCells_ev t.1 hl) ?_
      have := specDead_loop t.1 hl A B (cellsM W H L) [] [] (fun x hx => mem_cellsM.1 hx) (by simpa using hc) (by simp)
      simpa using this
    · unfold impl_DeadEnds.f
      refine Ev.bind (graphOf_two t hl) ?_
      simp only [if_true]
      have := implDead_loop t.1 hl A B (cellsM W H L) [] [] (fun x hx => mem_cellsM.1 hx) (by simpa using hc) (by simp)
      simpa using this
  · refine ⟨[], false, by simp, ?_, ?_⟩
    · unfold spec_DeadEnds.f
      refine Ev.bind (two_no t hl) ?_
      simp only [Bool.false_eq_true, if_false]
      exact Ev.now _
    · unfold impl_DeadEnds.f
      refine Ev.bind (graphOf_not t hl) ?_
      simp only [Bool.false_eq_true, if_false]
      exact Ev.now _
theorem FnExactDeadEnds : FnExactDeadEndsSaid := by
  intro a0_0 a0_1 l0_2 a1_0 a1_1 _ _ hlen_l0_2 _ _ _
  by_cases hb_l0_2 : 1048576 < l0_2.length
  · refine ⟨0, ?_⟩
    simp [laws_FnExactDeadEnds.f, szBoard_big a0_0 a0_1 l0_2 hb_l0_2 hlen_l0_2]
  have hs_l0_2 : l0_2.length ≤ 1048576 := by omega
  obtain ⟨r, b, hr, hs, hi⟩ := deadEnds_both a0_0 a0_1 l0_2 a1_0 a1_1 hs_l0_2
  refine Ev.rounds ?_
  have n0 : ¬ (1048576 - (l0_2.length : Int) < 0) := by omega
  have n1 : ¬ (1 + (l0_2.length : Int) < 0) := by omega
  have nr : ¬ (1 + (r.length : Int) < 0) := by omega
  unfold laws_FnExactDeadEnds.f
  repeat (first
    | exact Ev.now _
    | refine Ev.bind (toBoard_ev _ _ _ (by assumption)) ?_
    | refine Ev.bind (eqBoard_ev _ _ _ (by assumption)) ?_
    | refine Ev.bind (markBoard_ev _ _ _ (by assumption)) ?_
    | refine Ev.bind (toIntS_ev _ (by assumption)) ?_
    | refine Ev.bind (eqIntS_ev _ (by assumption)) ?_
    | refine Ev.bind (markIntS_ev _ (by assumption)) ?_
    | refine Ev.bind (heldIntS_ev _ (by assumption)) ?_
    | refine Ev.bind hs ?_
    | refine Ev.bind hi ?_
    | simp only [Option.bind_some, if_true, if_false, bne_self_eq_false, Bool.false_eq_true, ne_eq, not_true_eq_false, not_false_eq_true, szBoard_fit _ _ _ hs_l0_2, laws_toLeaper.f, n0, n1, nr]
    | (refine Ev.step (fun k => by rw [laws_FnExactDeadEnds.j0]) ?_)
    | (refine Ev.step (fun k => by rw [laws_FnExactDeadEnds.j1]) ?_)
    | (refine Ev.step (fun k => by rw [laws_FnExactDeadEnds.j2]) ?_))
end Go.Proofs.Ytekajjhjjnfdpaa.Pure

/- ArePeaceful: the program and the reference tell the same, so the law's function answers true for all arguments. -/
import Derived.Test.YtekajjhjjnfdpaaStateFnExactArePeaceful
import Derived.Test.YtekajjhjjnfdpaaHSet
import Derived.Test.YtekajjhjjnfdpaaHNear
import Derived.Test.YtekajjhjjnfdpaaQ12
import Derived.Test.YtekajjhjjnfdpaaQ13
namespace Go.Proofs.Ytekajjhjjnfdpaa.Pure
open Go.RowKit Go.IntWalk Go.Proofs.Ytekajjhjjnfdpaa.Q Go.Proofs.Ytekajjhjjnfdpaa.H Go.Proofs.YtekajjhjjnfdpaaW.PrintWords Go.Proofs.YtekajjhjjnfdpaaW.PrintMore
set_option linter.unusedVariables false
set_option linter.unusedSimpArgs false
def peaceR (W A B : Int) : List Int → List Int → Bool
  | _, [] => true
  | pre, c :: r => if pre.any (isB W A B c) then false else peaceR W A B (pre ++ [c]) r
theorem take_pre {pre r : List Int} {c : Int} : (pre ++ c :: r).take ((pre.length : Int)).toNat = pre := by simp
theorem guPeace_l1 {W H : Int} {L : List Int} (g : BoardM W H L) (A B : Int) (s : List Int) (c : Int) (hc : hasB W H L c = true) (i : Nat) (hi : i ≤ 64) (R : Bool) (rest pre : List Int) (hr : ∀ x ∈ rest, hasB W H L x = true) (hp : (pre ++ rest).length ≤ 64)
    (hR : Ev (fun k => spec_guPeace.l0 k s s (s.length : Int) ((i + 1 : Nat) : Int) W H L A B) R) :
    Ev (fun k => spec_guPeace.l1 k s c s (s.length : Int) (i : Int) (pre ++ rest) ((pre ++ rest).length : Int) (pre.length : Int) W H L A B) (if rest.any (isB W A B c) then false else R) := by
  induction rest generalizing pre with
  | nil =>
    refine Ev.step (fun k => by rw [spec_guPeace.l1]) ?_
    simp only [List.append_nil, nlt_end, if_false, w_succ (show i ≤ 4611686018427387904 by omega), List.any_nil, Bool.false_eq_true]
    exact hR
  | cons x r ih =>
    refine Ev.step (fun k => by rw [spec_guPeace.l1]) ?_
    have h0 : (0 : Int) ≤ (pre.length : Int) := by omega
    have h5 : pre.length ≤ 64 := by simp at hp; omega
    simp only [lt_mid pre x r, h0, if_true, rd_mid, boIs_eq g A B c x (has_range hc) (has_range (hr x (by simp))), Option.bind_some, w_succ (show pre.length ≤ 4611686018427387904 by omega), List.any_cons]
    rcases Bool.eq_false_or_eq_true (isB W A B c x) with hx | hx
    · simp only [hx, if_true, Bool.true_or]; exact Ev.now _
    · simp only [hx, Bool.false_eq_true, if_false, Bool.false_or]
      have := ih (pre ++ [x]) (fun y hy => hr y (by simp [hy])) (by simpa using hp)
      simpa using this
theorem guPeace_l0 {W H : Int} {L : List Int} (g : BoardM W H L) (A B : Int) (rest pre : List Int) (hr : ∀ x ∈ pre ++ rest, hasB W H L x = true) (hp : (pre ++ rest).length ≤ 64) :
    Ev (fun k => spec_guPeace.l0 k (pre ++ rest) (pre ++ rest) ((pre ++ rest).length : Int) (pre.length : Int) W H L A B) (peaceR W A B pre rest) := by
  induction rest generalizing pre with
  | nil =>
    refine Ev.step (fun k => by rw [spec_guPeace.l0]) ?_
    simp only [List.append_nil, nlt_end, if_false, peaceR]
    exact Ev.now _
  | cons c r ih =>
    refine Ev.step (fun k => by rw [spec_guPeace.l0]) ?_
    have h0 : (0 : Int) ≤ (pre.length : Int) := by omega
    have h5 : pre.length ≤ 64 := by simp at hp; omega
    have h6 : (pre.length : Int) ≤ ((pre ++ c :: r).length : Int) := by simp; omega
    simp only [lt_mid pre c r, h0, h6, if_true, rd_mid, take_pre, peaceR]
    have := ih (pre ++ [c]) (by simpa using hr) (by simpa using hp)
    have := guPeace_l1 g A B (pre ++ c :: r) c (hr c (by simp)) pre.length h5 (peaceR W A B (pre ++ [c]) r) pre [] (fun x hx => hr x (by simp [hx])) (by simpa using h5) (by simpa using this)
    simpa using this
theorem peaceful_l1 {W H : Int} {L : List Int} (g : BoardM W H L) (A B : Int) (s : List Int) (c : Int) (hc : hasB W H L c = true) (i : Nat) (hi : i ≤ 64) (R : Bool) (rest pre : List Int) (hr : ∀ x ∈ rest, hasB W H L x = true) (hp : (pre ++ rest).length ≤ 64)
    (hR : Ev (fun k => impl_graph_peaceful.l0 k s s (s.length : Int) ((i + 1 : Nat) : Int) W H L A B (cellsM W H L) (nearM W H L A B)) R) :
    Ev (fun k => impl_graph_peaceful.l1 k s c s (s.length : Int) (i : Int) (pre ++ rest) ((pre ++ rest).length : Int) (pre.length : Int) W H L A B (cellsM W H L) (nearM W H L A B)) (if rest.any (isB W A B c) then false else R) := by
  induction rest generalizing pre with
  | nil =>
    refine Ev.step (fun k => by rw [impl_graph_peaceful.l1]) ?_
    simp only [List.append_nil, nlt_end, if_false, w_succ (show i ≤ 4611686018427387904 by omega), List.any_nil, Bool.false_eq_true]
    exact hR
  | cons x r ih =>
    refine Ev.step (fun k => by rw [impl_graph_peaceful.l1]) ?_
    have h0 : (0 : Int) ≤ (pre.length : Int) := by omega
    have h5 : pre.length ≤ 64 := by simp at hp; omega
    simp only [lt_mid pre x r, h0, if_true, rd_mid, w_succ (show pre.length ≤ 4611686018427387904 by omega), List.any_cons]
    refine Ev.bind (leaps_ev g c x hc (hr x (by simp))) ?_
    rcases Bool.eq_false_or_eq_true (isB W A B c x) with hx | hx
    · simp only [hx, if_true, Bool.true_or]; exact Ev.now _
    · simp only [hx, Bool.false_eq_true, if_false, Bool.false_or]
      have := ih (pre ++ [x]) (fun y hy => hr y (by simp [hy])) (by simpa using hp)
      simpa using this
theorem peaceful_l0 {W H : Int} {L : List Int} (g : BoardM W H L) (A B : Int) (rest pre : List Int) (hr : ∀ x ∈ pre ++ rest, hasB W H L x = true) (hp : (pre ++ rest).length ≤ 64) :
    Ev (fun k => impl_graph_peaceful.l0 k (pre ++ rest) (pre ++ rest) ((pre ++ rest).length : Int) (pre.length : Int) W H L A B (cellsM W H L) (nearM W H L A B)) (peaceR W A B pre rest) := by
  induction rest generalizing pre with
  | nil =>
    refine Ev.step (fun k => by rw [impl_graph_peaceful.l0]) ?_
    simp only [List.append_nil, nlt_end, if_false, peaceR]
    exact Ev.now _
  | cons c r ih =>
    refine Ev.step (fun k => by rw [impl_graph_peaceful.l0]) ?_
    have h0 : (0 : Int) ≤ (pre.length : Int) := by omega
    have h5 : pre.length ≤ 64 := by simp at hp; omega
    have h6 : (pre.length : Int) ≤ ((pre ++ c :: r).length : Int) := by simp; omega
    simp only [lt_mid pre c r, h0, h6, if_true, rd_mid, take_pre, peaceR]
    have := ih (pre ++ [c]) (by simpa using hr) (by simpa using hp)
    have := peaceful_l1 g A B (pre ++ c :: r) c (hr c (by simp)) pre.length h5 (peaceR W A B (pre ++ [c]) r) pre [] (fun x hx => hr x (by simp [hx])) (by simpa using h5) (by simpa using this)
    simpa using this
theorem guPeace_ev {W H : Int} {L : List Int} (g : BoardM W H L) (A B : Int) (s : List Int) (h : SetM W H L s) : Ev (fun k => spec_guPeace.f k W H L A B s) (peaceR W A B [] s) := by
  unfold spec_guPeace.f
  simpa using guPeace_l0 g A B s [] (by simpa using h.1) (by simpa using setM_small g h)
theorem peaceful_ev {W H : Int} {L : List Int} (g : BoardM W H L) (A B : Int) (s : List Int) (h : SetM W H L s) : Ev (fun k => impl_graph_peaceful.f k W H L A B (cellsM W H L) (nearM W H L A B) s) (peaceR W A B [] s) := by
  unfold impl_graph_peaceful.f
  simpa using peaceful_l0 g A B s [] (by simpa using h.1) (by simpa using setM_small g h)
theorem arePeaceful_both (W H : Int) (L : List Int) (A B : Int) (s : List Int) (hl : L.length ≤ 1048576) (hs : s.length ≤ 1048576) : ∃ (r b : Bool), Ev (fun k => spec_ArePeaceful.f k W H L A B s) (r, b) ∧ Ev (fun k => impl_ArePeaceful.f k W H L A B s) (r, b) := by
  by_cases t : Two W H L A B ∧ SetM W H L s
  · refine ⟨peaceR W A B [] s, true, ?_, ?_⟩
    · unfold spec_ArePeaceful.f
      refine Ev.bind (guAsked_yes t.1 hl s hs t.2) ?_
      simp only [if_true]
      exact Ev.bind (guPeace_ev t.1.1 A B s t.2) (Ev.now _)
    · unfold impl_ArePeaceful.f
      refine Ev.bind (setGraph_yes t.1 hl s hs t.2) ?_
      simp only [if_true]
      exact Ev.bind (peaceful_ev t.1.1 A B s t.2) (Ev.now _)
  · refine ⟨false, false, ?_, ?_⟩
    · unfold spec_ArePeaceful.f
      refine Ev.bind (guAsked_no hl s hs t) ?_
      simp only [Bool.false_eq_true, if_false]
      exact Ev.now _
    · unfold impl_ArePeaceful.f
      refine Ev.bind (setGraph_no hl s hs t) ?_
      simp only [Bool.false_eq_true, if_false]
      exact Ev.now _
theorem FnExactArePeaceful : FnExactArePeacefulSaid := by
  intro a0_0 a0_1 l0_2 a1_0 a1_1 l2 _ _ hlen_l0_2 _ _ _ hlen_l2 _
  by_cases hb_l2 : (l2.length : Int) > 1048576
  · refine ⟨0, ?_⟩
    simp [laws_FnExactArePeaceful.f, hb_l2]
  have hs_l2 : l2.length ≤ 1048576 := by omega
  by_cases hb_l0_2 : 1048576 < l0_2.length
  · refine ⟨0, ?_⟩
    simp [laws_FnExactArePeaceful.f, szBoard_big a0_0 a0_1 l0_2 hb_l0_2 hlen_l0_2, hb_l2]
  have hs_l0_2 : l0_2.length ≤ 1048576 := by omega
  obtain ⟨r, b, hs, hi⟩ := arePeaceful_both a0_0 a0_1 l0_2 a1_0 a1_1 l2 hs_l0_2 hs_l2
  refine Ev.rounds ?_
  have n0 : ¬ (1048576 - (l0_2.length : Int) < 0) := by omega
  have n1 : ¬ (1 + (l0_2.length : Int) < 0) := by omega
  have n2 : ¬ (1 + (l2.length : Int) < 0) := by omega
  unfold laws_FnExactArePeaceful.f
  repeat (first
    | exact Ev.now _
    | refine Ev.bind (toBoard_ev _ _ _ (by assumption)) ?_
    | refine Ev.bind (eqBoard_ev _ _ _ (by assumption)) ?_
    | refine Ev.bind (markBoard_ev _ _ _ (by assumption)) ?_
    | refine Ev.bind (toIntS_ev _ (by assumption)) ?_
    | refine Ev.bind (eqIntS_ev _ (by assumption)) ?_
    | refine Ev.bind (markIntS_ev _ (by assumption)) ?_
    | refine Ev.bind (heldIntS_ev _ (by assumption)) ?_
    | refine Ev.bind hs ?_
    | refine Ev.bind hi ?_
    | simp only [Option.bind_some, if_true, if_false, bne_self_eq_false, Bool.false_eq_true, ne_eq, not_true_eq_false, not_false_eq_true, hb_l2, szBoard_fit _ _ _ hs_l0_2, laws_toLeaper.f, n0, n1, n2]
    | (refine Ev.step (fun k => by rw [laws_FnExactArePeaceful.j0]) ?_))
end Go.Proofs.Ytekajjhjjnfdpaa.Pure

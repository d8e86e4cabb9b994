/- TurnsOfPath: the program and the reference count the same turns, so the law's function answers true for all arguments. -/
import Derived.Test.YthoklbeenjppbaaStateFnExactTurnsOfPath
import Derived.Test.YthoklbeenjppbaaHPath
import Derived.Test.YthoklbeenjppbaaQ23
import Derived.Test.YthoklbeenjppbaaQ24
import Derived.Test.YthoklbeenjppbaaQ25
import Derived.Test.YthoklbeenjppbaaQ26
namespace Go.Proofs.Ythoklbeenjppbaa.Pure
open Go.RowKit Go.IntWalk Go.Proofs.Ythoklbeenjppbaa.Q Go.Proofs.Ythoklbeenjppbaa.H Go.Proofs.YthoklbeenjppbaaW.PrintWords Go.Proofs.YthoklbeenjppbaaW.PrintMore
set_option linter.unusedVariables false
set_option linter.unusedSimpArgs false
theorem sign_same (n : Int) : impl_sign.f n = spec_l1Sign.f n := rfl
theorem turns_same : ∀ (k : Nat) (s : List Int) (a b c i W H : Int) (L : List Int), impl_TurnsOfPath.l0 k s a b c i W H L = spec_TurnsOfPath.l0 k s a b c i W H L := by
  intro k
  induction k with
  | zero => intro s a b c i W H L; rfl
  | succ k ih =>
    intro s a b c i W H L
    rw [impl_TurnsOfPath.l0, spec_TurnsOfPath.l0]
    by_cases c1 : i < (s.length : Int)
    case neg => simp only [c1, if_false]
    by_cases c2 : 0 ≤ wrap64 (i - 2)
    case neg => simp only [c1, c2, if_true, if_false]
    by_cases c3 : wrap64 (i - 2) < (s.length : Int)
    case neg => simp only [c1, c2, c3, if_true, if_false]
    by_cases c0 : W = 0
    · have e1 : ∀ x, impl_Board_at.f W H L x = none := fun x => by unfold impl_Board_at.f; rw [if_pos c0]
      have e2 : ∀ x y z, spec_crCross.f W H L x y z = none := fun x y z => by unfold spec_crCross.f; rw [if_pos c0]
      simp only [c1, c2, c3, if_true, e1, e2, Option.bind_none, ite_self]
    · have e1 : ∀ x, impl_Board_at.f W H L x = some (Int.tmod x W, wrap64 (Int.tdiv x W)) := fun x => by unfold impl_Board_at.f; rw [if_neg c0]
      have e2 : ∀ x y z, spec_crCross.f W H L x y z = impl_turn.f (Int.tmod x W) (wrap64 (Int.tdiv x W)) (Int.tmod y W) (wrap64 (Int.tdiv y W)) (Int.tmod z W) (wrap64 (Int.tdiv z W)) := fun x y z => by unfold spec_crCross.f impl_turn.f; rw [if_neg c0]
      simp only [c1, c2, c3, if_true, e1, e2, Option.bind_some, sign_same, ih]
theorem turns_ev {W H : Int} {L : List Int} (g : BoardM W H L) (s : List Int) (hp : s.length ≤ 64) : ∀ (n i : Nat) (a b c : Int), n + i = max s.length i → 2 ≤ i → ∃ r : Int × Int × Int × Bool, Ev (fun k => spec_TurnsOfPath.l0 k s a b c (i : Int) W H L) r := by
  have b1 := g.1
  have n0 : ¬ W = 0 := by omega
  intro n
  induction n with
  | zero =>
    intro i a b c h1 h2
    refine ⟨(a, b, c, true), Ev.step (fun k => by rw [spec_TurnsOfPath.l0]) ?_⟩
    have c1 : ¬ ((i : Int) < (s.length : Int)) := by omega
    simp only [c1, if_false]
    exact Ev.now _
  | succ n ih =>
    intro i a b c h1 h2
    have c1 : (i : Int) < (s.length : Int) := by omega
    have w1 : wrap64 ((i : Int) - 2) = (i : Int) - 2 := wrap64_in _ (by omega)
    have w2 : wrap64 ((i : Int) - 1) = (i : Int) - 1 := wrap64_in _ (by omega)
    have c2 : 0 ≤ (i : Int) - 2 := by omega
    have c3 : (i : Int) - 2 < (s.length : Int) := by omega
    have c4 : 0 ≤ (i : Int) - 1 := by omega
    have c5 : (i : Int) - 1 < (s.length : Int) := by omega
    have c6 : (0 : Int) ≤ (i : Int) := by omega
    have ws := w_succ (show i ≤ 4611686018427387904 by omega)
    obtain ⟨t, ht⟩ : ∃ t, spec_crCross.f W H L (rd s ((i : Int) - 2)) (rd s ((i : Int) - 1)) (rd s (i : Int)) = some t := by
      unfold spec_crCross.f
      rw [if_neg n0]
      exact ⟨_, rfl⟩
    obtain ⟨u, hu⟩ : ∃ u, spec_l1Sign.f t = some u := by
      unfold spec_l1Sign.f
      split
      · exact ⟨_, rfl⟩
      · split <;> exact ⟨_, rfl⟩
    by_cases d1 : u = 1
    · obtain ⟨r, hr⟩ := ih (i + 1) (wrap64 (a + 1)) b c (by omega) (by omega)
      refine ⟨r, Ev.step (fun k => by rw [spec_TurnsOfPath.l0]) ?_⟩
      simp only [c1, w1, w2, c2, c3, c4, c5, c6, if_true, ht, hu, Option.bind_some, d1, ws]
      exact hr
    · by_cases d2 : u = 0
      · obtain ⟨r, hr⟩ := ih (i + 1) a (wrap64 (b + 1)) c (by omega) (by omega)
        have d3 : ¬ (0 : Int) = 1 := by omega
        refine ⟨r, Ev.step (fun k => by rw [spec_TurnsOfPath.l0]) ?_⟩
        simp only [c1, w1, w2, c2, c3, c4, c5, c6, if_true, ht, hu, Option.bind_some, d2, d3, if_false, ws]
        exact hr
      · obtain ⟨r, hr⟩ := ih (i + 1) a b (wrap64 (c + 1)) (by omega) (by omega)
        refine ⟨r, Ev.step (fun k => by rw [spec_TurnsOfPath.l0]) ?_⟩
        simp only [c1, w1, w2, c2, c3, c4, c5, c6, if_true, ht, hu, Option.bind_some, d1, d2, if_false, ws]
        exact hr
theorem turnsOfPath_both (W H : Int) (L : List Int) (A B : Int) (s : List Int) (hl : L.length ≤ 1048576) (hs : s.length ≤ 1048576) : ∃ (r : Int) (b : Int × Int × Bool), Ev (fun k => spec_TurnsOfPath.f k W H L A B s) (r, b) ∧ Ev (fun k => impl_TurnsOfPath.f k W H L A B s) (r, b) := by
  have noS : ∀ b : Bool, b = false → True := fun _ _ => trivial
  by_cases t : Two W H L A B
  · have p0 := boPath_ev t.1 hl A B s
    have p1 := isPath_ev t.1 hl A B s
    rcases Bool.eq_false_or_eq_true (pathB W H L A B s) with hx | hx
    · have hw := pathB_has hx
      rw [hx] at p0 p1
      obtain ⟨⟨r, b⟩, hr⟩ := turns_ev t.1 s hw.2.1 (max s.length 2 - 2) 2 0 0 0 (by omega) (by omega)
      refine ⟨r, b, ?_, ?_⟩
      · unfold spec_TurnsOfPath.f
        refine Ev.bind (a := true) ?_ ?_
        · unfold spec_crPath.f
          refine Ev.bind (two_yes t hl) ?_
          simp only [if_true]
          exact Ev.bind p0 (Ev.now _)
        · simp only [if_true]
          exact hr
      · unfold impl_TurnsOfPath.f
        refine Ev.bind (graphOf_two t hl) ?_
        simp only [if_true]
        refine Ev.bind p1 ?_
        simp only [if_true, turns_same]
        exact hr
    · rw [hx] at p0 p1
      refine ⟨0, (0, 0, false), ?_, ?_⟩
      · unfold spec_TurnsOfPath.f
        refine Ev.bind (a := false) ?_ ?_
        · unfold spec_crPath.f
          refine Ev.bind (two_yes t hl) ?_
          simp only [if_true]
          exact Ev.bind p0 (Ev.now _)
        · simp only [Bool.false_eq_true, if_false]
          exact Ev.now _
      · unfold impl_TurnsOfPath.f
        refine Ev.bind (graphOf_two t hl) ?_
        simp only [if_true]
        refine Ev.bind p1 ?_
        simp only [Bool.false_eq_true, if_false]
        exact Ev.now _
  · refine ⟨0, (0, 0, false), ?_, ?_⟩
    · unfold spec_TurnsOfPath.f
      refine Ev.bind (a := false) ?_ ?_
      · unfold spec_crPath.f
        refine Ev.bind (two_no t hl) ?_
        simp only [Bool.false_eq_true, if_false]
        exact Ev.now _
      · simp only [Bool.false_eq_true, if_false]
        exact Ev.now _
    · unfold impl_TurnsOfPath.f
      refine Ev.bind (graphOf_not t hl) ?_
      simp only [Bool.false_eq_true, if_false]
      exact Ev.now _
theorem FnExactTurnsOfPath : FnExactTurnsOfPathSaid := by
  intro a0_0 a0_1 l0_2 a1_0 a1_1 l2 _ _ hlen_l0_2 _ _ _ hlen_l2 _
  by_cases hb_l2 : (l2.length : Int) > 1048576
  · refine ⟨0, ?_⟩
    simp [laws_FnExactTurnsOfPath.f, hb_l2]
  have hs_l2 : l2.length ≤ 1048576 := by omega
  by_cases hb_l0_2 : 1048576 < l0_2.length
  · refine ⟨0, ?_⟩
    simp [laws_FnExactTurnsOfPath.f, szBoard_big a0_0 a0_1 l0_2 hb_l0_2 hlen_l0_2, hb_l2]
  have hs_l0_2 : l0_2.length ≤ 1048576 := by omega
  obtain ⟨r, b, hs, hi⟩ := turnsOfPath_both a0_0 a0_1 l0_2 a1_0 a1_1 l2 hs_l0_2 hs_l2
  refine rounds_of ?_
  have n0 : ¬ (1048576 - (l0_2.length : Int) < 0) := by omega
  have n1 : ¬ (1 + (l0_2.length : Int) < 0) := by omega
  have n2 : ¬ (1 + (l2.length : Int) < 0) := by omega
  have n12 : ¬ (1 + (l0_2.length : Int) + (l2.length : Int) < 0) := by omega
  unfold laws_FnExactTurnsOfPath.f
  repeat (first
    | exact Ev.now _
    | refine Ev.bind (toBoard_ev _ _ _ (by assumption)) ?_
    | refine Ev.bind (eqBoard_ev _ _ _ (by assumption)) ?_
    | refine Ev.bind (markBoard_ev _ _ _ (by assumption)) ?_
    | refine Ev.bind (toIntS_ev _ (by assumption)) ?_
    | refine Ev.bind (eqIntS_ev _ (by assumption)) ?_
    | refine Ev.bind (markIntS_ev _ (by assumption)) ?_
    | refine Ev.bind (heldIntS_ev _ (by assumption)) ?_
    | refine Ev.bind (markIntS_any _ _ (by assumption) (by omega)) ?_
    | refine Ev.bind hs ?_
    | refine Ev.bind hi ?_
    | simp only [Option.bind_some, if_true, if_false, bne_self_eq_false, Bool.false_eq_true, ne_eq, not_true_eq_false, not_false_eq_true, hb_l2, szBoard_fit _ _ _ hs_l0_2, laws_toLeaper.f, n0, n1, n2, n12]
    | (refine Ev.step (fun k => by rw [laws_FnExactTurnsOfPath.j0]) ?_))
end Go.Proofs.Ythoklbeenjppbaa.Pure

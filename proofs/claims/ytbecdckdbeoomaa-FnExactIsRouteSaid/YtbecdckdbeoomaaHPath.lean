/- Paths and walks: the reference's tests and the program's are the same; the conditions (a board that is one, lengths) stand in each theorem. -/
import Derived.Test.YtbecdckdbeoomaaHNear
import Derived.Test.YtbecdckdbeoomaaQ7
import Derived.Test.YtbecdckdbeoomaaQ8
import Derived.Test.YtbecdckdbeoomaaQ14
import Derived.Test.YtbecdckdbeoomaaQ15
namespace Go.Proofs.Ytbecdckdbeoomaa.H
open Go.RowKit Go.IntWalk Go.Proofs.Ytbecdckdbeoomaa.Q Go.Proofs.YtbecdckdbeoomaaW.PrintWords Go.Proofs.YtbecdckdbeoomaaW.PrintMore
set_option linter.unusedVariables false
set_option linter.unusedSimpArgs false
def pathR (W H : Int) (L : List Int) (A B : Int) : Int → List Int → Bool
  | _, [] => true
  | y, x :: r => hasB W H L x && isB W A B y x && pathR W H L A B x r
def pathB (W H : Int) (L : List Int) (A B : Int) : List Int → Bool
  | [] => false
  | x :: r => decide (r.length ≤ 63) && hasB W H L x && pathR W H L A B x r
def norepR : List Int → List Int → Bool
  | _, [] => true
  | pre, c :: r => !pre.contains c && norepR (pre ++ [c]) r
def walkB (W H : Int) (L : List Int) (A B : Int) (s : List Int) : Bool := pathB W H L A B s && norepR [] s
theorem pathR_has {W H : Int} {L : List Int} {A B : Int} (r : List Int) : ∀ y, pathR W H L A B y r = true → ∀ x ∈ r, hasB W H L x = true := by
  induction r with
  | nil => intro y _ x hx; cases hx
  | cons z r ih =>
    intro y h x hx
    simp only [pathR, Bool.and_eq_true] at h
    rcases List.mem_cons.1 hx with rfl | hx
    · exact h.1.1
    · exact ih z h.2 x hx
theorem pathB_has {W H : Int} {L : List Int} {A B : Int} {s : List Int} (h : pathB W H L A B s = true) : 1 ≤ s.length ∧ s.length ≤ 64 ∧ ∀ x ∈ s, hasB W H L x = true := by
  cases s with
  | nil => simp [pathB] at h
  | cons x r =>
    simp only [pathB, Bool.and_eq_true, decide_eq_true_eq] at h
    refine ⟨by simp, by simp; omega, ?_⟩
    intro z hz
    rcases List.mem_cons.1 hz with rfl | hz
    · exact h.1.2
    · exact pathR_has r x h.2 z hz
theorem walkB_has {W H : Int} {L : List Int} {A B : Int} {s : List Int} (h : walkB W H L A B s = true) : 1 ≤ s.length ∧ s.length ≤ 64 ∧ ∀ x ∈ s, hasB W H L x = true := by
  simp only [walkB, Bool.and_eq_true] at h
  exact pathB_has h.1
theorem boPath_loop {W H : Int} {L : List Int} (g : BoardM W H L) (hl : L.length ≤ 1048576) (A B : Int) (rest q : List Int) (y : Int) (hy : hasB W H L y = true) (hp : (q ++ y :: rest).length ≤ 64) :
    Ev (fun k => spec_boPath.l0 k (q ++ y :: rest) (q ++ y :: rest) ((q ++ y :: rest).length : Int) ((q.length + 1 : Nat) : Int) W H L A B) (pathR W H L A B y rest) := by
  induction rest generalizing q y with
  | nil =>
    refine Ev.step (fun k => by rw [spec_boPath.l0]) ?_
    have h1 : ¬ (((q.length + 1 : Nat) : Int) < ((q ++ [y]).length : Int)) := by simp
    simp only [h1, if_false, pathR]
    exact Ev.now _
  | cons x r ih =>
    refine Ev.step (fun k => by rw [spec_boPath.l0]) ?_
    have hq : q.length + 1 ≤ 63 := by simp at hp; omega
    have h1 : (((q.length + 1 : Nat) : Int) < ((q ++ y :: x :: r).length : Int)) := by simp; omega
    have h2 : (0 : Int) ≤ ((q.length + 1 : Nat) : Int) := by omega
    have h3 : ((q.length + 1 : Nat) : Int) > 0 := by omega
    have h4 : wrap64 (((q.length + 1 : Nat) : Int) - 1) = (q.length : Int) := by rw [wrap64_in _ (by omega)]; omega
    have h5 : (0 : Int) ≤ (q.length : Int) := by omega
    have e : q ++ y :: x :: r = (q ++ [y]) ++ x :: r := by simp
    have e2 : rd (q ++ y :: x :: r) ((q.length + 1 : Nat) : Int) = x := by
      have := rd_mid (q ++ [y]) x r
      rw [e]; simpa using this
    simp only [h1, h2, h3, h4, h5, e2, if_true, lt_mid q y (x :: r), rd_mid q y (x :: r), w_succ (show q.length + 1 ≤ 4611686018427387904 by omega), pathR]
    refine Ev.bind (boHas_ev g x hl) ?_
    rcases Bool.eq_false_or_eq_true (hasB W H L x) with hx | hx
    · simp only [hx, if_true, boIs_eq g A B y x (has_range hy) (has_range hx), Option.bind_some, Bool.true_and]
      rcases Bool.eq_false_or_eq_true (isB W A B y x) with hi | hi
      · simp only [hi, if_true, Bool.true_and]
        have := ih (q ++ [y]) x hx (by simpa using hp)
        simpa using this
      · simp only [hi, Bool.false_eq_true, if_false, Bool.false_and]
        exact Ev.now _
    · simp only [hx, Bool.false_eq_true, if_false, Bool.false_and]
      exact Ev.now _
theorem boPath_ev {W H : Int} {L : List Int} (g : BoardM W H L) (hl : L.length ≤ 1048576) (A B : Int) (s : List Int) : Ev (fun k => spec_boPath.f k W H L A B s) (pathB W H L A B s) := by
  simp only [spec_boPath.f, l1In_eq, Option.bind_some]
  cases s with
  | nil =>
    have : (decide ((1 : Int) ≤ (([] : List Int).length : Int)) && decide ((([] : List Int).length : Int) ≤ 64)) = false := by simp
    simp only [this, Bool.false_eq_true, if_false, pathB]
    exact Ev.now _
  | cons x r =>
    by_cases h : r.length ≤ 63
    · have h1 : (decide ((1 : Int) ≤ ((x :: r).length : Int)) && decide (((x :: r).length : Int) ≤ 64)) = true := by simp; omega
      simp only [h1, if_true, pathB, h, decide_true, Bool.true_and]
      refine Ev.step (fun k => by rw [spec_boPath.l0]) ?_
      have h2 : (0 : Int) < ((x :: r).length : Int) := by simp only [List.length_cons]; omega
      have h3 : (0 : Int) ≤ 0 := by omega
      have h4 : ¬ ((0 : Int) > 0) := by omega
      have e : rd (x :: r) 0 = x := rfl
      have e1 : wrap64 (0 + 1) = 1 := wrap64_in _ (by omega)
      simp only [h2, h3, h4, e, e1, if_true, if_false]
      refine Ev.bind (boHas_ev g x hl) ?_
      rcases Bool.eq_false_or_eq_true (hasB W H L x) with hx | hx
      · simp only [hx, if_true, Bool.true_and]
        have := boPath_loop g hl A B r [] x hx (by simp; omega)
        simpa using this
      · simp only [hx, Bool.false_eq_true, if_false, Bool.false_and]
        exact Ev.now _
    · have h1 : (decide ((1 : Int) ≤ ((x :: r).length : Int)) && decide (((x :: r).length : Int) ≤ 64)) = false := by simp; omega
      simp only [h1, Bool.false_eq_true, if_false, pathB, h, decide_false, Bool.false_and]
      exact Ev.now _
theorem isPath_loop {W H : Int} {L : List Int} (g : BoardM W H L) (hl : L.length ≤ 1048576) (A B : Int) (rest q : List Int) (y : Int) (hy : hasB W H L y = true) (hp : (q ++ y :: rest).length ≤ 64) :
    Ev (fun k => impl_graph_isPath.l0 k (q ++ y :: rest) (q ++ y :: rest) ((q ++ y :: rest).length : Int) ((q.length + 1 : Nat) : Int) W H L A B (cellsM W H L) (nearM W H L A B)) (pathR W H L A B y rest) := by
  induction rest generalizing q y with
  | nil =>
    refine Ev.step (fun k => by rw [impl_graph_isPath.l0]) ?_
    have h1 : ¬ (((q.length + 1 : Nat) : Int) < ((q ++ [y]).length : Int)) := by simp
    simp only [h1, if_false, pathR]
    exact Ev.now _
  | cons x r ih =>
    refine Ev.step (fun k => by rw [impl_graph_isPath.l0]) ?_
    have hq : q.length + 1 ≤ 63 := by simp at hp; omega
    have h1 : (((q.length + 1 : Nat) : Int) < ((q ++ y :: x :: r).length : Int)) := by simp; omega
    have h2 : (0 : Int) ≤ ((q.length + 1 : Nat) : Int) := by omega
    have h3 : ((q.length + 1 : Nat) : Int) > 0 := by omega
    have h4 : wrap64 (((q.length + 1 : Nat) : Int) - 1) = (q.length : Int) := by rw [wrap64_in _ (by omega)]; omega
    have h5 : (0 : Int) ≤ (q.length : Int) := by omega
    have e : q ++ y :: x :: r = (q ++ [y]) ++ x :: r := by simp
    have e2 : rd (q ++ y :: x :: r) ((q.length + 1 : Nat) : Int) = x := by
      have := rd_mid (q ++ [y]) x r
      rw [e]; simpa using this
    simp only [h1, h2, h3, h4, h5, e2, if_true, lt_mid q y (x :: r), rd_mid q y (x :: r), w_succ (show q.length + 1 ≤ 4611686018427387904 by omega), pathR]
    refine Ev.bind (has_ev g x hl) ?_
    rcases Bool.eq_false_or_eq_true (hasB W H L x) with hx | hx
    · simp only [hx, if_true, Bool.true_and]
      refine Ev.bind (leaps_ev g y x hy hx) ?_
      rcases Bool.eq_false_or_eq_true (isB W A B y x) with hi | hi
      · simp only [hi, if_true, Bool.true_and]
        have := ih (q ++ [y]) x hx (by simpa using hp)
        simpa using this
      · simp only [hi, Bool.false_eq_true, if_false, Bool.false_and]
        exact Ev.now _
    · simp only [hx, Bool.false_eq_true, if_false, Bool.false_and]
      exact Ev.now _
theorem isPath_no {W H : Int} {L : List Int} {A B : Int} {s : List Int} {cs : List Int} {nr : List (List Int)} : Ev (fun k => impl_graph_isPath.j0 k s true W H L A B cs nr) false := by
  refine Ev.step (fun k => by rw [impl_graph_isPath.j0]) ?_
  simp only [if_true]
  exact Ev.now _
theorem isPath_ev {W H : Int} {L : List Int} (g : BoardM W H L) (hl : L.length ≤ 1048576) (A B : Int) (s : List Int) : Ev (fun k => impl_graph_isPath.f k W H L A B (cellsM W H L) (nearM W H L A B) s) (pathB W H L A B s) := by
  unfold impl_graph_isPath.f
  cases s with
  | nil =>
    have : ((([] : List Int).length : Int) < 1) := by simp
    simp only [this, if_true, pathB]
    exact isPath_no
  | cons x r =>
    have h0 : ¬ (((x :: r).length : Int) < 1) := by simp; omega
    simp only [h0, if_false]
    by_cases h : r.length ≤ 63
    · have h1 : decide (((x :: r).length : Int) > 64) = false := by simp; omega
      simp only [h1, pathB, h, decide_true, Bool.true_and]
      refine Ev.step (fun k => by rw [impl_graph_isPath.j0]) ?_
      simp only [Bool.false_eq_true, if_false]
      refine Ev.step (fun k => by rw [impl_graph_isPath.l0]) ?_
      have h2 : (0 : Int) < ((x :: r).length : Int) := by simp only [List.length_cons]; omega
      have h3 : (0 : Int) ≤ 0 := by omega
      have h4 : ¬ ((0 : Int) > 0) := by omega
      have e : rd (x :: r) 0 = x := rfl
      have e1 : wrap64 (0 + 1) = 1 := wrap64_in _ (by omega)
      simp only [h2, h3, h4, e, e1, if_true, if_false]
      refine Ev.bind (has_ev g x hl) ?_
      rcases Bool.eq_false_or_eq_true (hasB W H L x) with hx | hx
      · simp only [hx, if_true, Bool.true_and]
        have := isPath_loop g hl A B r [] x hx (by simp; omega)
        simpa using this
      · simp only [hx, Bool.false_eq_true, if_false, Bool.false_and]
        exact Ev.now _
    · have h1 : decide (((x :: r).length : Int) > 64) = true := by simp; omega
      simp only [h1, pathB, h, decide_false, Bool.false_and]
      exact isPath_no
theorem take_mid (pre : List Int) (c : Int) (r : List Int) : (pre ++ c :: r).take ((pre.length : Int)).toNat = pre := by simp
theorem toWalk_loop (rest pre : List Int) (hp : (pre ++ rest).length ≤ 64) : Ev (fun k => spec_toWalk.l0 k (pre ++ rest) (pre ++ rest) ((pre ++ rest).length : Int) (pre.length : Int)) (norepR pre rest) := by
  induction rest generalizing pre with
  | nil =>
    refine Ev.step (fun k => by rw [spec_toWalk.l0]) ?_
    simp only [List.append_nil, nlt_end, if_false, norepR]
    exact Ev.now _
  | cons c r ih =>
    refine Ev.step (fun k => by rw [spec_toWalk.l0]) ?_
    have h0 : (0 : Int) ≤ (pre.length : Int) := by omega
    have h5 : pre.length ≤ 64 := by simp at hp; omega
    have h6 : (pre.length : Int) ≤ ((pre ++ c :: r).length : Int) := by simp; omega
    simp only [lt_mid pre c r, h0, h6, if_true, rd_mid, take_mid, norepR, w_succ (show pre.length ≤ 4611686018427387904 by omega)]
    refine Ev.bind (l1Has_ev pre c (by omega)) ?_
    rcases Bool.eq_false_or_eq_true (pre.contains c) with hx | hx
    · simp only [hx, if_true, Bool.not_true, Bool.false_and]
      exact Ev.now _
    · simp only [hx, Bool.false_eq_true, if_false, Bool.not_false, Bool.true_and]
      have := ih (pre ++ [c]) (by simpa using hp)
      simpa using this
theorem isWalk_loop (rest pre : List Int) (hp : (pre ++ rest).length ≤ 64) : Ev (fun k => impl_graph_isWalk.l0 k (pre ++ rest) (pre ++ rest) ((pre ++ rest).length : Int) (pre.length : Int)) (norepR pre rest) := by
  induction rest generalizing pre with
  | nil =>
    refine Ev.step (fun k => by rw [impl_graph_isWalk.l0]) ?_
    simp only [List.append_nil, nlt_end, if_false, norepR]
    exact Ev.now _
  | cons c r ih =>
    refine Ev.step (fun k => by rw [impl_graph_isWalk.l0]) ?_
    have h0 : (0 : Int) ≤ (pre.length : Int) := by omega
    have h5 : pre.length ≤ 64 := by simp at hp; omega
    have h6 : (pre.length : Int) ≤ ((pre ++ c :: r).length : Int) := by simp; omega
    simp only [lt_mid pre c r, h0, h6, if_true, rd_mid, take_mid, norepR, w_succ (show pre.length ≤ 4611686018427387904 by omega)]
    refine Ev.bind (contains_ev pre c (by omega)) ?_
    rcases Bool.eq_false_or_eq_true (pre.contains c) with hx | hx
    · simp only [hx, if_true, Bool.not_true, Bool.false_and]
      exact Ev.now _
    · simp only [hx, Bool.false_eq_true, if_false, Bool.not_false, Bool.true_and]
      have := ih (pre ++ [c]) (by simpa using hp)
      simpa using this
theorem toWalk_ev {W H : Int} {L : List Int} (g : BoardM W H L) (hl : L.length ≤ 1048576) (A B : Int) (s : List Int) : Ev (fun k => spec_toWalk.f k W H L A B s) (walkB W H L A B s) := by
  unfold spec_toWalk.f walkB
  refine Ev.bind (boPath_ev g hl A B s) ?_
  rcases Bool.eq_false_or_eq_true (pathB W H L A B s) with hx | hx
  · simp only [hx, if_true, Bool.true_and]
    have := toWalk_loop s [] (by simpa using (pathB_has hx).2.1)
    simpa using this
  · simp only [hx, Bool.false_eq_true, if_false, Bool.false_and]
    exact Ev.now _
theorem isWalk_ev {W H : Int} {L : List Int} (g : BoardM W H L) (hl : L.length ≤ 1048576) (A B : Int) (s : List Int) : Ev (fun k => impl_graph_isWalk.f k W H L A B (cellsM W H L) (nearM W H L A B) s) (walkB W H L A B s) := by
  unfold impl_graph_isWalk.f walkB
  refine Ev.bind (isPath_ev g hl A B s) ?_
  rcases Bool.eq_false_or_eq_true (pathB W H L A B s) with hx | hx
  · simp only [hx, if_true, Bool.true_and]
    have := isWalk_loop s [] (by simpa using (pathB_has hx).2.1)
    simpa using this
  · simp only [hx, Bool.false_eq_true, if_false, Bool.false_and]
    exact Ev.now _
end Go.Proofs.Ytbecdckdbeoomaa.H

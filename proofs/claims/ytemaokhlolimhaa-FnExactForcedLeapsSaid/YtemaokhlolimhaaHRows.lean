/- Rows of rows, told alike, numbered and found as numbered: the law's own functions over them. -/
import Derived.Test.YtemaokhlolimhaaHBase
import Derived.Test.YtemaokhlolimhaaHMark
import Derived.Test.YtemaokhlolimhaaQ6
import Derived.Test.YtemaokhlolimhaaQ7
namespace Go.Proofs.Ytemaokhlolimhaa.H
open Go.RowKit Go.IntWalk Go.Proofs.Ytemaokhlolimhaa.Q Go.Proofs.YtemaokhlolimhaaW.PrintWords Go.Proofs.YtemaokhlolimhaaW.PrintMore
set_option linter.unusedVariables false
set_option linter.unusedSimpArgs false
/-- A row of no more than 4096 rows with no more than 64 elements each. -/
def Small (l : List (List Int)) : Prop := l.length ≤ 4096 ∧ ∀ x ∈ l, x.length ≤ 64
theorem row_at (pre : List (List Int)) (p : List Int) (r : List (List Int)) : rd_L1 (pre ++ p :: r) (pre.length : Int) = p := by
  unfold rd_L1
  rw [List.getD_eq_getElem?_getD, Int.toNat_natCast, List.getElem?_append_right (Nat.le_refl _), Nat.sub_self]
  rfl
theorem eqSS_loop (rest : List (List Int)) : ∀ pre : List (List Int), Small (pre ++ rest) → Ev (fun k => laws_eqIntSS.l0 k (pre ++ rest) (pre ++ rest) (pre.length : Int)) true := by
  induction rest with
  | nil =>
    intro pre h
    refine Ev.step (fun k => by rw [laws_eqIntSS.l0]) ?_
    simp only [List.append_nil, nlt_end, if_false]
    exact Ev.now _
  | cons x r ih =>
    intro pre h
    refine Ev.step (fun k => by rw [laws_eqIntSS.l0]) ?_
    have h0 : (0 : Int) ≤ (pre.length : Int) := by omega
    have h5 : pre.length ≤ 4096 := by have := h.1; simp at this; omega
    have hx : x.length ≤ 1048576 := Nat.le_trans (h.2 x (by simp)) (by omega)
    simp only [lt_mid pre x r, h0, if_true, row_at, w_succ (show pre.length ≤ 4611686018427387904 by omega)]
    refine Ev.bind (eqIntS_ev x hx) ?_
    simp only [if_true]
    have := ih (pre ++ [x]) (by simpa using h)
    simpa using this
theorem eqSS_ev (l : List (List Int)) (h : Small l) : Ev (fun k => laws_eqIntSS.f k l l) true := by
  simp only [laws_eqIntSS.f, if_true]
  simpa using eqSS_loop l [] (by simpa using h)
theorem markL_eq (l : List Int) : ∀ n : Int, 0 ≤ n → n + (l.length : Int) ≤ 1000000 → markL l n = (n + (l.length : Int), marks n l) := by
  induction l with
  | nil => intro n h0 h1; simp [markL, marks]
  | cons x r ih =>
    intro n h0 h1
    simp only [List.length_cons] at h1
    have e : wrap64 (n + 1) = n + 1 := wrap64_in _ (by omega)
    rw [markL, e, ih (n + 1) (by omega) (by omega)]
    simp only [marks, List.length_cons]
    rw [show n + 1 + (r.length : Int) = n + ((r.length + 1 : Nat) : Int) by omega]
theorem markLL_small (l : List (List Int)) : ∀ n : Int, 0 ≤ n → n + 64 * (l.length : Int) ≤ 1000000 → (∀ x ∈ l, x.length ≤ 64) →
    n ≤ (markLL l n).1 ∧ ∀ pre : List (List Int), pre.length + l.length ≤ 4096 → Ev (fun k => laws_heldIntSS.l0 k (pre ++ (markLL l n).2) n (pre.length : Int)) (markLL l n).1 := by
  induction l with
  | nil =>
    intro n h0 h1 h2
    refine ⟨by simp [markLL], fun pre hp => ?_⟩
    refine Ev.step (fun k => by rw [laws_heldIntSS.l0]) ?_
    simp only [markLL, List.append_nil, nlt_end, if_false]
    exact Ev.now _
  | cons x r ih =>
    intro n h0 h1 h2
    simp only [List.length_cons] at h1
    have hx := h2 x (by simp)
    have e := markL_eq x n h0 (by omega)
    obtain ⟨i1, i2⟩ := ih (n + (x.length : Int)) (by omega) (by omega) (fun y hy => h2 y (by simp [hy]))
    have e2 : markLL (x :: r) n = ((markLL r (n + (x.length : Int))).1, marks n x :: (markLL r (n + (x.length : Int))).2) := by
      rw [markLL, e]
    rw [e2]
    refine ⟨by show n ≤ (markLL r (n + (x.length : Int))).1; omega, fun pre hp => ?_⟩
    simp only [List.length_cons] at hp
    have j2 := i2 (pre ++ [marks n x]) (by simp; omega)
    refine Ev.step (fun k => by rw [laws_heldIntSS.l0]) ?_
    have h3 : (0 : Int) ≤ (pre.length : Int) := by omega
    simp only [lt_mid pre, h3, if_true, row_at, w_succ (show pre.length ≤ 4611686018427387904 by omega)]
    have held : Ev (fun k => laws_heldIntS.f k (marks n x) n) (n + (x.length : Int)) := by
      unfold laws_heldIntS.f
      simpa using heldIntS_loop x [] n (by omega) (by simp; omega)
    refine Ev.bind held ?_
    have h4 : ¬ n + (x.length : Int) < 0 := by omega
    simp only [h4, if_false]
    simpa using j2
theorem held_ev (l : List (List Int)) (h : Small l) : Ev (fun k => laws_heldIntSS.f k (markLL l 1).2 1) (markLL l 1).1 := by
  unfold laws_heldIntSS.f
  have h1 := h.1
  simpa using (markLL_small l 1 (by omega) (by omega) h.2).2 [] (by simpa using h.1)
theorem mark_some (l : List (List Int)) (h : Small l) : laws_markIntSS.f l 1 = some ((markLL l 1).1, (markLL l 1).2) := by
  unfold laws_markIntSS.f
  rw [if_pos ⟨Nat.le_trans h.1 (by omega), fun x hx => Nat.le_trans (h.2 x hx) (by omega)⟩]
end Go.Proofs.Ytemaokhlolimhaa.H

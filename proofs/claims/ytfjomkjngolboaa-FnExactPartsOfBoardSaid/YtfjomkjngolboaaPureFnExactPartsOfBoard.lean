/- PartsOfBoard: the program and the reference find the same parts in the same order, so the law's function answers true for all arguments. -/
import Derived.Test.YtfjomkjngolboaaStateFnExactPartsOfBoard
import Derived.Test.YtfjomkjngolboaaHParts
import Derived.Test.YtfjomkjngolboaaHMark
import Derived.Test.YtfjomkjngolboaaQ8
import Derived.Test.YtfjomkjngolboaaQ9
import Derived.Test.YtfjomkjngolboaaQ4
import Derived.Test.YtfjomkjngolboaaQ10
namespace Go.Proofs.Ytfjomkjngolboaa.Pure
open Go.RowKit Go.IntWalk Go.Proofs.Ytfjomkjngolboaa.Q Go.Proofs.Ytfjomkjngolboaa.H Go.Proofs.YtfjomkjngolboaaW.PrintWords Go.Proofs.YtfjomkjngolboaaW.PrintMore
set_option linter.unusedVariables false
set_option linter.unusedSimpArgs false
/-- A row of no more than 64 rows with no more than 64 elements each. -/
def Small (l : List (List Int)) : Prop := l.length ≤ 64 ∧ ∀ x ∈ l, x.length ≤ 64
theorem row_at (pre : List (List Int)) (p : List Int) (r : List (List Int)) : rd_L1 (pre ++ p :: r) (pre.length : Int) = p := by
  unfold rd_L1
  rw [List.getD_eq_getElem?_getD, Int.toNat_natCast, List.getElem?_append_right (Nat.le_refl _), Nat.sub_self]
  rfl
theorem eqSS_loop (rest : List (List Int)) : ∀ pre : List (List Int), Small (pre ++ rest) → Ev (fun k => laws_eqIntSS.l0 k (pre ++ rest) (pre ++ rest) (pre.length : Int)) true := by
  induction rest with
  | nil =>
    intro pre h
    refine Ev.step (fun k => by rw [laws_eqIntSS.l0]) ?_
    simp only [List.append_nil, nlt_end, if_false]
    exact Ev.now _
  | cons x r ih =>
    intro pre h
    refine Ev.step (fun k => by rw [laws_eqIntSS.l0]) ?_
    have h0 : (0 : Int) ≤ (pre.length : Int) := by omega
    have h5 : pre.length ≤ 64 := by have := h.1; simp at this; omega
    have hx : x.length ≤ 1048576 := Nat.le_trans (h.2 x (by simp)) (by omega)
    simp only [lt_mid pre x r, h0, if_true, row_at, w_succ (show pre.length ≤ 4611686018427387904 by omega)]
    refine Ev.bind (eqIntS_ev x hx) ?_
    simp only [if_true]
    have := ih (pre ++ [x]) (by simpa using h)
    simpa using this
theorem eqSS_ev (l : List (List Int)) (h : Small l) : Ev (fun k => laws_eqIntSS.f k l l) true := by
  simp only [laws_eqIntSS.f, if_true]
  simpa using eqSS_loop l [] (by simpa using h)
theorem markL_eq (l : List Int) : ∀ n : Int, 0 ≤ n → n + (l.length : Int) ≤ 1000000 → markL l n = (n + (l.length : Int), marks n l) := by
  induction l with
  | nil => intro n h0 h1; simp [markL, marks]
  | cons x r ih =>
    intro n h0 h1
    simp only [List.length_cons] at h1
    have e : wrap64 (n + 1) = n + 1 := wrap64_in _ (by omega)
    rw [markL, e, ih (n + 1) (by omega) (by omega)]
    simp only [marks, List.length_cons]
    rw [show n + 1 + (r.length : Int) = n + ((r.length + 1 : Nat) : Int) by omega]
theorem markLL_small (l : List (List Int)) : ∀ n : Int, 0 ≤ n → n + 64 * (l.length : Int) ≤ 1000000 → (∀ x ∈ l, x.length ≤ 64) →
    n ≤ (markLL l n).1 ∧ ∀ pre : List (List Int), pre.length + l.length ≤ 64 → Ev (fun k => laws_heldIntSS.l0 k (pre ++ (markLL l n).2) n (pre.length : Int)) (markLL l n).1 := by
  induction l with
  | nil =>
    intro n h0 h1 h2
    refine ⟨by simp [markLL], fun pre hp => ?_⟩
    refine Ev.step (fun k => by rw [laws_heldIntSS.l0]) ?_
    simp only [markLL, List.append_nil, nlt_end, if_false]
    exact Ev.now _
  | cons x r ih =>
    intro n h0 h1 h2
    simp only [List.length_cons] at h1
    have hx := h2 x (by simp)
    have e := markL_eq x n h0 (by omega)
    obtain ⟨i1, i2⟩ := ih (n + (x.length : Int)) (by omega) (by omega) (fun y hy => h2 y (by simp [hy]))
    have e2 : markLL (x :: r) n = ((markLL r (n + (x.length : Int))).1, marks n x :: (markLL r (n + (x.length : Int))).2) := by
      rw [markLL, e]
    rw [e2]
    refine ⟨by show n ≤ (markLL r (n + (x.length : Int))).1; omega, fun pre hp => ?_⟩
    simp only [List.length_cons] at hp
    have j2 := i2 (pre ++ [marks n x]) (by simp; omega)
    refine Ev.step (fun k => by rw [laws_heldIntSS.l0]) ?_
    have h3 : (0 : Int) ≤ (pre.length : Int) := by omega
    simp only [lt_mid pre, h3, if_true, row_at, w_succ (show pre.length ≤ 4611686018427387904 by omega)]
    have held : Ev (fun k => laws_heldIntS.f k (marks n x) n) (n + (x.length : Int)) := by
      unfold laws_heldIntS.f
      simpa using heldIntS_loop x [] n (by omega) (by simp; omega)
    refine Ev.bind held ?_
    have h4 : ¬ n + (x.length : Int) < 0 := by omega
    simp only [h4, if_false]
    simpa using j2
theorem held_ev (l : List (List Int)) (h : Small l) : Ev (fun k => laws_heldIntSS.f k (markLL l 1).2 1) (markLL l 1).1 := by
  unfold laws_heldIntSS.f
  have h1 := h.1
  simpa using (markLL_small l 1 (by omega) (by omega) h.2).2 [] (by simpa using h.1)
theorem mark_some (l : List (List Int)) (h : Small l) : laws_markIntSS.f l 1 = some ((markLL l 1).1, (markLL l 1).2) := by
  unfold laws_markIntSS.f
  rw [if_pos ⟨Nat.le_trans h.1 (by omega), fun x hx => Nat.le_trans (h.2 x hx) (by omega)⟩]
theorem partsR_rows (far : Int → List Int) (m : Nat) (cs : List Int) (hf : ∀ c ∈ cs, (far c).length ≤ m) : ∀ s out, (∀ x ∈ out, x.length ≤ m) → ∀ x ∈ partsR far cs s out, x.length ≤ m := by
  induction cs with
  | nil => intro s out ho; exact ho
  | cons c r ih =>
    intro s out ho
    rw [partsR]
    split
    · exact ih (fun d hd => hf d (by simp [hd])) s out ho
    · refine ih (fun d hd => hf d (by simp [hd])) _ _ (fun x hx => ?_)
      rcases List.mem_append.1 hx with hx | hx
      · exact ho x hx
      · obtain rfl : x = _ := by simpa using hx
        have := pRow_small (far c) 0 s []
        have := hf c (by simp)
        simp at *
        omega
theorem partsOfBoard_both (W H : Int) (L : List Int) (A B : Int) (hl : L.length ≤ 1048576) : ∃ (r : List (List Int)) (b : Bool), Small r ∧ Ev (fun k => spec_PartsOfBoard.f k W H L A B) (r, b) ∧ Ev (fun k => impl_PartsOfBoard.f k W H L A B) (r, b) := by
  by_cases t : Two W H L A B
  · have g := t.1
    have ha := g.area
    refine ⟨partsR (farM W H L A B) (cellsM W H L) (List.replicate (W * H).toNat false) [], true, ⟨?_, ?_⟩, ?_, ?_⟩
    · have h1 := partsR_length (farM W H L A B) (cellsM W H L) (List.replicate (W * H).toNat false) []
      have h2 := cellsM_length g
      simp at h1
      omega
    · refine partsR_rows _ 64 _ (fun c hc => ?_) _ _ (by simp)
      have hcr := has_range (mem_cellsM.1 hc)
      have := (farG_keep (nb := leapsM W H L A B) (n := (W * H).toNat) (by omega) (fun c _ d hd => leapsM_in g c d hd) (c := c) (by omega)).1
      unfold farM
      omega
    · unfold spec_PartsOfBoard.f
      refine Ev.bind (two_yes t hl) ?_
      simp only [if_true]
      refine Ev.bind (faParts_ev g hl) ?_
      exact Ev.now _
    · unfold impl_PartsOfBoard.f
      refine Ev.bind (graphOf_two t hl) ?_
      simp only [if_true]
      refine Ev.bind (parts_ev g) ?_
      exact Ev.now _
  · refine ⟨[], false, ⟨by simp, by simp⟩, ?_, ?_⟩
    · unfold spec_PartsOfBoard.f
      refine Ev.bind (two_no t hl) ?_
      simp only [Bool.false_eq_true, if_false]
      exact Ev.now _
    · unfold impl_PartsOfBoard.f
      refine Ev.bind (graphOf_not t hl) ?_
      simp only [Bool.false_eq_true, if_false]
      exact Ev.now _
theorem FnExactPartsOfBoard : FnExactPartsOfBoardSaid := by
  intro a0_0 a0_1 l0_2 a1_0 a1_1 _ _ hlen_l0_2 _ _ _
  by_cases hb_l0_2 : 1048576 < l0_2.length
  · refine ⟨0, ?_⟩
    simp [laws_FnExactPartsOfBoard.f, szBoard_big a0_0 a0_1 l0_2 hb_l0_2 hlen_l0_2]
  have hs_l0_2 : l0_2.length ≤ 1048576 := by omega
  obtain ⟨r, b, hr, hs, hi⟩ := partsOfBoard_both a0_0 a0_1 l0_2 a1_0 a1_1 hs_l0_2
  refine rounds_of ?_
  have n0 : ¬ (1048576 - (l0_2.length : Int) < 0) := by omega
  have n1 : ¬ (1 + (l0_2.length : Int) < 0) := by omega
  have n2 : ¬ ((markLL r 1).1 < 0) := by
    have h1 := hr.1
    have := (markLL_small r 1 (by omega) (by omega) hr.2).1
    omega
  unfold laws_FnExactPartsOfBoard.f
  repeat (first
    | exact Ev.now _
    | refine Ev.bind (toBoard_ev _ _ _ (by assumption)) ?_
    | refine Ev.bind (eqBoard_ev _ _ _ (by assumption)) ?_
    | refine Ev.bind (markBoard_ev _ _ _ (by assumption)) ?_
    | refine Ev.bind (eqSS_ev _ (by assumption)) ?_
    | refine Ev.bind (held_ev _ (by assumption)) ?_
    | refine Ev.bind hs ?_
    | refine Ev.bind hi ?_
    | simp only [Option.bind_some, if_true, if_false, bne_self_eq_false, Bool.false_eq_true, ne_eq, not_true_eq_false, not_false_eq_true, szBoard_fit _ _ _ hs_l0_2, laws_toLeaper.f, mark_some r hr, n0, n1, n2]
    | (refine Ev.step (fun k => by rw [laws_FnExactPartsOfBoard.j0]) ?_)
    | (refine Ev.step (fun k => by rw [laws_FnExactPartsOfBoard.j1]) ?_)
    | (refine Ev.step (fun k => by rw [laws_FnExactPartsOfBoard.j2]) ?_))
end Go.Proofs.Ytfjomkjngolboaa.Pure

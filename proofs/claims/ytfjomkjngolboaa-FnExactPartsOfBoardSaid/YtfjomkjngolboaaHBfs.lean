/- Distances by a queue, as plain Lean: what the loop keeps (lengths, bounds, how many cells wait), for any neighbours within the cells. -/
import Derived.Test.YtfjomkjngolboaaHBase
namespace Go.Proofs.Ytfjomkjngolboaa.H
open Go.RowKit Go.IntWalk Go.Proofs.YtfjomkjngolboaaW.PrintWords
set_option linter.unusedVariables false
set_option linter.unusedSimpArgs false
def negs (o : List Int) : Nat := o.countP fun x => decide (x < 0)
def bIn (h : Int) : List Int → List Int → List Int → List Int × List Int
  | [], o, q => (o, q)
  | d :: r, o, q => if rd o d < 0 then bIn h r (o.set d.toNat (wrap64 (rd o h + 1))) (q ++ [d]) else bIn h r o q
def bfs (nb : Int → List Int) : Nat → List Int → List Int → List Int
  | 0, o, _ => o
  | _ + 1, o, [] => o
  | f + 1, o, h :: q => bfs nb f (bIn h (nb h) o q).1 (bIn h (nb h) o q).2
structure BI (n : Nat) (o q : List Int) : Prop where
  len : o.length = n
  val : ∀ i : Nat, i < n → -1 ≤ rd o (i : Int) ∧ rd o (i : Int) + negs o ≤ n
  que : ∀ h ∈ q, (0 ≤ h ∧ h < n) ∧ 0 ≤ rd o h
  siz : q.length + negs o ≤ n
theorem rd_cell {o : List Int} {d : Int} (hd : 0 ≤ d ∧ d < (o.length : Int)) : ∃ h : d.toNat < o.length, rd o d = o[d.toNat] := by
  have h : d.toNat < o.length := by omega
  refine ⟨h, ?_⟩
  unfold rd
  rw [List.getD_eq_getElem?_getD, List.getElem?_eq_getElem h]
  rfl
theorem rd_put (o : List Int) (d v e : Int) (hd : 0 ≤ d ∧ d < (o.length : Int)) (he : 0 ≤ e) : rd (o.set d.toNat v) e = if e = d then v else rd o e := by
  unfold rd
  rw [List.getD_eq_getElem?_getD, List.getElem?_set]
  by_cases h : e = d
  · subst h
    rw [if_pos rfl, if_pos rfl, if_pos (by omega)]
    rfl
  · have h1 : ¬ d.toNat = e.toNat := by omega
    rw [if_neg h, if_neg h1, ← List.getD_eq_getElem?_getD]
theorem negs_put {o : List Int} {d v : Int} (hd : 0 ≤ d ∧ d < (o.length : Int)) (h : rd o d < 0) (hv : 0 ≤ v) : negs (o.set d.toNat v) + 1 = negs o := by
  obtain ⟨hl, e⟩ := rd_cell hd
  rw [e] at h
  have hpos : 1 ≤ negs o := by
    unfold negs
    exact List.countP_pos_iff.2 ⟨o[d.toNat], List.getElem_mem hl, by simpa using h⟩
  unfold negs at hpos ⊢
  rw [List.countP_set hl]
  have h1 : decide (o[d.toNat] < 0) = true := by simpa using h
  have h2 : decide (v < 0) = false := by simpa using hv
  simp only [h1, h2, if_true, Bool.false_eq_true, if_false]
  omega
theorem BI.put {n : Nat} {o q : List Int} {h d : Int} (b : BI n o (h :: q)) (hn : n ≤ 1000) (hd : 0 ≤ d ∧ d < (n : Int)) (hneg : rd o d < 0) :
    BI n (o.set d.toNat (wrap64 (rd o h + 1))) (h :: (q ++ [d])) ∧ (q ++ [d]).length + negs (o.set d.toNat (wrap64 (rd o h + 1))) = q.length + negs o ∧ wrap64 (rd o h + 1) = rd o h + 1 := by
  obtain ⟨hh, hh0⟩ := b.que h (by simp)
  have hv := b.val h.toNat (by omega)
  rw [show ((h.toNat : Nat) : Int) = h by omega] at hv
  have e : wrap64 (rd o h + 1) = rd o h + 1 := wrap64_in _ (by omega)
  have hd' : 0 ≤ d ∧ d < (o.length : Int) := by rw [b.len]; exact hd
  have hc := negs_put hd' hneg (show 0 ≤ rd o h + 1 by omega)
  rw [e]
  refine ⟨⟨by simpa using b.len, fun i hi => ?_, fun x hx => ?_, ?_⟩, by simp; omega, rfl⟩
  · rw [rd_put o d _ _ hd' (by omega)]
    have := b.val i hi
    split <;> omega
  · have hx' : x = d ∨ x ∈ h :: q := by
      simp only [List.mem_cons, List.mem_append, List.mem_singleton] at hx ⊢
      rcases hx with hx | hx | hx | hx
      · exact .inr (.inl hx)
      · exact .inr (.inr hx)
      · exact .inl hx
      · cases hx
    rcases hx' with rfl | hx'
    · refine ⟨hd, ?_⟩
      rw [rd_put o x _ _ hd' hd.1, if_pos rfl]; omega
    · obtain ⟨a, c⟩ := b.que x hx'
      refine ⟨a, ?_⟩
      rw [rd_put o d _ _ hd' a.1]
      split <;> omega
  · have := b.siz
    simp at this ⊢
    omega
theorem bIn_keep {n : Nat} {h : Int} (hn : n ≤ 1000) (ds : List Int) (hd : ∀ d ∈ ds, 0 ≤ d ∧ d < (n : Int)) : ∀ o q, BI n o (h :: q) → BI n (bIn h ds o q).1 (h :: (bIn h ds o q).2) ∧ (bIn h ds o q).2.length + negs (bIn h ds o q).1 = q.length + negs o := by
  induction ds with
  | nil => intro o q b; exact ⟨b, rfl⟩
  | cons d r ih =>
    intro o q b
    rw [bIn]
    split
    · rename_i c
      obtain ⟨b1, b2, _⟩ := b.put hn (hd d (by simp)) c
      obtain ⟨c1, c2⟩ := ih (fun x hx => hd x (by simp [hx])) _ _ b1
      exact ⟨c1, by omega⟩
    · exact ih (fun x hx => hd x (by simp [hx])) o q b
theorem BI.pop {n : Nat} {o q : List Int} {h : Int} (b : BI n o (h :: q)) : BI n o q :=
  ⟨b.len, b.val, fun x hx => b.que x (by simp [hx]), by have := b.siz; simp at this; omega⟩
theorem bfs_keep {nb : Int → List Int} {n : Nat} (hn : n ≤ 1000) (hnb : ∀ c, 0 ≤ c ∧ c < (n : Int) → ∀ d ∈ nb c, 0 ≤ d ∧ d < (n : Int)) : ∀ f o q, BI n o q → BI n (bfs nb f o q) [] := by
  have none_ : ∀ o q, BI n o q → BI n o [] := fun o q b => ⟨b.len, b.val, fun x hx => (by cases hx), (by have := b.siz; simp; omega)⟩
  intro f
  induction f with
  | zero => intro o q b; exact none_ o q b
  | succ f ih =>
    intro o q b
    cases q with
    | nil => exact none_ o _ b
    | cons h q => exact ih _ _ (bIn_keep hn (nb h) (hnb h (b.que h (by simp)).1) o q b).1.pop
/-- Where the queue starts. -/
def start (n : Nat) (c : Int) : List Int := (List.replicate n (-1)).set c.toNat 0
theorem start_rd {n : Nat} {c e : Int} (hc : 0 ≤ c ∧ c < (n : Int)) (he : 0 ≤ e ∧ e < (n : Int)) : rd (start n c) e = if e = c then 0 else -1 := by
  unfold start
  rw [rd_put _ c 0 e (by simpa using hc) he.1]
  split
  · rfl
  · unfold rd
    rw [List.getD_eq_getElem?_getD, List.getElem?_replicate, if_pos (by omega)]
    rfl
theorem start_ok {n : Nat} {c : Int} (hc : 0 ≤ c ∧ c < (n : Int)) : BI n (start n c) [c] := by
  have hrep : rd (List.replicate n (-1)) c < 0 := by
    unfold rd
    rw [List.getD_eq_getElem?_getD, List.getElem?_replicate, if_pos (by omega)]
    decide
  have hneg : negs (List.replicate n (-1 : Int)) = n := by
    unfold negs
    rw [List.countP_replicate]
    simp
  have hc2 := negs_put (o := List.replicate n (-1)) (d := c) (v := 0) (by simpa using hc) hrep (by omega)
  have hns : negs (start n c) + 1 = n := by unfold start; omega
  refine ⟨by simp [start], fun i hi => ?_, fun h hh => ?_, by simp; omega⟩
  · rw [start_rd hc (by omega)]
    split <;> omega
  · obtain rfl : h = c := by simpa using hh
    refine ⟨hc, ?_⟩
    rw [start_rd hc hc, if_pos rfl]
    omega
theorem bIn_grow {n : Nat} {h : Int} (hn : n ≤ 1000) (e : Int) (he : 0 ≤ e ∧ e < (n : Int)) (ds : List Int) (hd : ∀ d ∈ ds, 0 ≤ d ∧ d < (n : Int)) : ∀ o q, BI n o (h :: q) → 0 ≤ rd o e → rd (bIn h ds o q).1 e = rd o e := by
  induction ds with
  | nil => intro o q b h0; rfl
  | cons d r ih =>
    intro o q b h0
    rw [bIn]
    split
    · rename_i c
      obtain ⟨b1, _, _⟩ := b.put hn (hd d (by simp)) c
      have hne : ¬ e = d := fun e' => by subst e'; omega
      have hk : rd (o.set d.toNat (wrap64 (rd o h + 1))) e = rd o e := by
        rw [rd_put o d _ e (by rw [b.len]; exact hd d (by simp)) he.1, if_neg hne]
      rw [ih (fun x hx => hd x (by simp [hx])) _ _ b1 (by rw [hk]; exact h0), hk]
    · exact ih (fun x hx => hd x (by simp [hx])) o q b h0
theorem bfs_grow {nb : Int → List Int} {n : Nat} (hn : n ≤ 1000) (hnb : ∀ c, 0 ≤ c ∧ c < (n : Int) → ∀ d ∈ nb c, 0 ≤ d ∧ d < (n : Int)) (e : Int) (he : 0 ≤ e ∧ e < (n : Int)) : ∀ f o q, BI n o q → 0 ≤ rd o e → rd (bfs nb f o q) e = rd o e := by
  intro f
  induction f with
  | zero => intro o q b h0; rfl
  | succ f ih =>
    intro o q b h0
    cases q with
    | nil => rfl
    | cons h q =>
      have hr := hnb h (b.que h (by simp)).1
      have h1 := bIn_grow hn e he (nb h) hr o q b h0
      rw [bfs, ih _ _ (bIn_keep hn (nb h) hr o q b).1.pop (by rw [h1]; exact h0), h1]
def farG (nb : Int → List Int) (n : Nat) (c : Int) : List Int := bfs nb (n + 1) (start n c) [c]
theorem farG_keep {nb : Int → List Int} {n : Nat} (hn : n ≤ 1000) (hnb : ∀ c, 0 ≤ c ∧ c < (n : Int) → ∀ d ∈ nb c, 0 ≤ d ∧ d < (n : Int)) {c : Int} (hc : 0 ≤ c ∧ c < (n : Int)) : (farG nb n c).length = n ∧ ∀ i : Nat, i < n → -1 ≤ rd (farG nb n c) (i : Int) ∧ rd (farG nb n c) (i : Int) ≤ n := by
  have b := bfs_keep hn hnb (n + 1) _ _ (start_ok hc)
  refine ⟨b.len, fun i hi => ?_⟩
  have := b.val i hi
  exact ⟨this.1, by unfold farG; omega⟩
theorem farG_self {nb : Int → List Int} {n : Nat} (hn : n ≤ 1000) (hnb : ∀ c, 0 ≤ c ∧ c < (n : Int) → ∀ d ∈ nb c, 0 ≤ d ∧ d < (n : Int)) {c : Int} (hc : 0 ≤ c ∧ c < (n : Int)) : rd (farG nb n c) c = 0 := by
  have h0 : rd (start n c) c = 0 := by rw [start_rd hc hc, if_pos rfl]
  unfold farG
  rw [bfs_grow hn hnb c hc _ _ _ (start_ok hc) (by omega), h0]
end Go.Proofs.Ytfjomkjngolboaa.H

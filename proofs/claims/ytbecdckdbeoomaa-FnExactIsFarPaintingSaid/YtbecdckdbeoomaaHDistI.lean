/- What the distances by a queue are: each cell but the first one that is reached has a neighbour one nearer, and no neighbour of a reached cell is more than one farther; the conditions (neighbours within the cells, a board that is one) stand in each theorem. -/
import Derived.Test.YtbecdckdbeoomaaHFarI
namespace Go.Proofs.Ytbecdckdbeoomaa.H
open Go.RowKit Go.IntWalk Go.Proofs.YtbecdckdbeoomaaW.PrintWords
set_option linter.unusedVariables false
set_option linter.unusedSimpArgs false
structure DI (nb : Int → List Int) (n : Nat) (c : Int) (o q : List Int) : Prop where
  pre : ∀ e : Int, 0 ≤ e → e < n → 0 ≤ rd o e → (e = c ∧ rd o e = 0) ∨ ∃ p : Int, (0 ≤ p ∧ p < n) ∧ 0 ≤ rd o p ∧ e ∈ nb p ∧ rd o e = rd o p + 1
  done : ∀ p : Int, 0 ≤ p → p < n → 0 ≤ rd o p → p ∈ q ∨ ∀ e ∈ nb p, 0 ≤ rd o e ∧ rd o e ≤ rd o p + 1
  ord : q.Pairwise (fun x y => rd o x ≤ rd o y)
  top : ∀ h r, q = h :: r → ∀ e : Int, 0 ≤ e → e < n → rd o e ≤ rd o h + 1
theorem DI.put {nb : Int → List Int} {n : Nat} {c h d : Int} {o q : List Int} (hnb : ∀ c, 0 ≤ c ∧ c < (n : Int) → ∀ d ∈ nb c, 0 ≤ d ∧ d < (n : Int)) (b : BI n o (h :: q)) (i : DI nb n c o (h :: q)) (hd : d ∈ nb h) (hneg : rd o d < 0) :
    DI nb n c (o.set d.toNat (rd o h + 1)) (h :: (q ++ [d])) := by
  obtain ⟨hh, hh0⟩ := b.que h (by simp)
  have hdr := hnb h hh d hd
  have hdo : 0 ≤ d ∧ d < (o.length : Int) := by rw [b.len]; exact hdr
  have key : ∀ e : Int, 0 ≤ e → rd (o.set d.toNat (rd o h + 1)) e = if e = d then rd o h + 1 else rd o e := fun e he => rd_put o d _ e hdo he
  have same : ∀ e : Int, 0 ≤ e → 0 ≤ rd o e → rd (o.set d.toNat (rd o h + 1)) e = rd o e := fun e he h0 => by
    rw [key e he, if_neg (fun h => by subst h; omega)]
  refine ⟨fun e he0 hen h0 => ?_, fun p hp0 hpn h0 => ?_, ?_, fun h' r hr e he0 hen => ?_⟩
  · rw [key e he0] at h0 ⊢
    by_cases hed : e = d
    · rw [if_pos hed]
      refine .inr ⟨h, hh, ?_, by rw [hed]; exact hd, ?_⟩
      · rw [same h hh.1 hh0]; exact hh0
      · rw [same h hh.1 hh0]
    · rw [if_neg hed] at h0 ⊢
      rcases i.pre e he0 hen h0 with h1 | ⟨p, h1, h2, h3, h4⟩
      · exact .inl h1
      · exact .inr ⟨p, h1, by rw [same p h1.1 h2]; exact h2, h3, by rw [same p h1.1 h2]; exact h4⟩
  · by_cases hpd : p = d
    · exact .inl (by simp [hpd])
    · rw [key p hp0, if_neg hpd] at h0 ⊢
      rcases i.done p hp0 hpn h0 with h1 | h1
      · refine .inl ?_
        rcases List.mem_cons.1 h1 with h1 | h1
        · simp [h1]
        · simp [h1]
      · refine .inr fun e he => ?_
        have h2 := h1 e he
        rw [same e (hnb p ⟨hp0, hpn⟩ e he).1 h2.1]
        exact h2
  · have h1 : (h :: q).Pairwise (fun x y => rd (o.set d.toNat (rd o h + 1)) x ≤ rd (o.set d.toNat (rd o h + 1)) y) := by
      refine i.ord.imp_of_mem fun {x y} hx hy hxy => ?_
      obtain ⟨x1, x2⟩ := b.que x hx
      obtain ⟨y1, y2⟩ := b.que y hy
      rw [same x x1.1 x2, same y y1.1 y2]; exact hxy
    rw [← List.cons_append, List.pairwise_append]
    refine ⟨h1, by simp, fun x hx y hy => ?_⟩
    obtain rfl : y = d := by simpa using hy
    obtain ⟨x1, x2⟩ := b.que x hx
    rw [same x x1.1 x2, key y hdr.1, if_pos rfl]
    exact i.top h q rfl x x1.1 x1.2
  · obtain ⟨rfl, -⟩ := List.cons.inj hr
    rw [same h hh.1 hh0, key e he0]
    have := i.top h q rfl e he0 hen
    split <;> omega
theorem bIn_dist {nb : Int → List Int} {n : Nat} {c h : Int} (hn : n ≤ 1000) (hnb : ∀ c, 0 ≤ c ∧ c < (n : Int) → ∀ d ∈ nb c, 0 ≤ d ∧ d < (n : Int)) (ds : List Int) (hds : ∀ d ∈ ds, d ∈ nb h) : ∀ o q, BI n o (h :: q) → DI nb n c o (h :: q) →
    DI nb n c (bIn h ds o q).1 (h :: (bIn h ds o q).2) ∧ (∀ e ∈ ds, 0 ≤ rd (bIn h ds o q).1 e ∧ rd (bIn h ds o q).1 e ≤ rd (bIn h ds o q).1 h + 1) := by
  induction ds with
  | nil => intro o q b i; exact ⟨i, fun e he => by cases he⟩
  | cons d r ih =>
    intro o q b i
    obtain ⟨hh, hh0⟩ := b.que h (by simp)
    have hdn := hnb h hh d (hds d (by simp))
    have hrn : ∀ x ∈ r, 0 ≤ x ∧ x < (n : Int) := fun x hx => hnb h hh x (hds x (by simp [hx]))
    rw [bIn]
    split
    · rename_i neg
      obtain ⟨b1, _, e1⟩ := b.put hn hdn neg
      rw [e1] at b1 ⊢
      have i1 := i.put hnb b (hds d (by simp)) neg
      obtain ⟨j1, j2⟩ := ih (fun x hx => hds x (by simp [hx])) _ _ b1 i1
      refine ⟨j1, fun e he => ?_⟩
      rcases List.mem_cons.1 he with rfl | he
      · have hdo : 0 ≤ e ∧ e < (o.length : Int) := by rw [b.len]; exact hdn
        have k1 : rd (o.set e.toNat (rd o h + 1)) e = rd o h + 1 := by rw [rd_put o e _ e hdo hdn.1, if_pos rfl]
        have k2 : rd (o.set e.toNat (rd o h + 1)) h = rd o h := by rw [rd_put o e _ h hdo hh.1, if_neg (fun h' => by subst h'; omega)]
        rw [bIn_grow hn e hdn r hrn _ _ b1 (by omega), bIn_grow hn h hh r hrn _ _ b1 (by omega), k1, k2]
        omega
      · exact j2 e he
    · rename_i pos
      obtain ⟨j1, j2⟩ := ih (fun x hx => hds x (by simp [hx])) o q b i
      refine ⟨j1, fun e he => ?_⟩
      rcases List.mem_cons.1 he with rfl | he
      · rw [bIn_grow hn e hdn r hrn _ _ b (by omega), bIn_grow hn h hh r hrn _ _ b (by omega)]
        exact ⟨by omega, i.top h q rfl e hdn.1 hdn.2⟩
      · exact j2 e he
theorem DI.pop {nb : Int → List Int} {n : Nat} {c h : Int} {o q : List Int} (i : DI nb n c o (h :: q)) (hc : ∀ e ∈ nb h, 0 ≤ rd o e ∧ rd o e ≤ rd o h + 1) : DI nb n c o q := by
  refine ⟨i.pre, fun p hp0 hpn h0 => ?_, (List.pairwise_cons.1 i.ord).2, fun h' r hr e he0 hen => ?_⟩
  · rcases i.done p hp0 hpn h0 with h1 | h1
    · rcases List.mem_cons.1 h1 with rfl | h1
      · exact .inr hc
      · exact .inl h1
    · exact .inr h1
  · have h1 := i.top h q rfl e he0 hen
    have h2 := (List.pairwise_cons.1 i.ord).1 h' (by simp [hr])
    omega
theorem bfs_dist {nb : Int → List Int} {n : Nat} {c : Int} (hn : n ≤ 1000) (hnb : ∀ c, 0 ≤ c ∧ c < (n : Int) → ∀ d ∈ nb c, 0 ≤ d ∧ d < (n : Int)) : ∀ f o q, BI n o q → DI nb n c o q → q.length + negs o ≤ f → DI nb n c (bfs nb (f + 1) o q) [] := by
  intro f
  induction f with
  | zero =>
    intro o q b i hm
    obtain rfl : q = [] := List.eq_nil_of_length_eq_zero (by omega)
    exact i
  | succ f ih =>
    intro o q b i hm
    cases q with
    | nil => exact i
    | cons h q =>
      have hr := hnb h (b.que h (by simp)).1
      obtain ⟨b1, b2⟩ := bIn_keep hn (nb h) hr o q b
      obtain ⟨i1, i2⟩ := bIn_dist hn hnb (nb h) (fun d hd => hd) o q b i
      rw [bfs]
      exact ih _ _ b1.pop (i1.pop i2) (by simp at hm; omega)
theorem start_dist {nb : Int → List Int} {n : Nat} {c : Int} (hc : 0 ≤ c ∧ c < (n : Int)) : DI nb n c (start n c) [c] := by
  refine ⟨fun e he0 hen h0 => ?_, fun p hp0 hpn h0 => ?_, by simp, fun h r hr e he0 hen => ?_⟩
  · rw [start_rd hc ⟨he0, hen⟩] at h0 ⊢
    split at h0
    · rename_i h; exact .inl ⟨h, by rw [if_pos h]⟩
    · omega
  · rw [start_rd hc ⟨hp0, hpn⟩] at h0
    split at h0
    · rename_i h; exact .inl (by simp [h])
    · omega
  · obtain ⟨rfl, -⟩ := List.cons.inj hr
    rw [start_rd hc ⟨he0, hen⟩, start_rd hc hc, if_pos rfl]
    split <;> omega
section
variable {W H : Int} {L : List Int} {A B : Int}
theorem farM_di (g : BoardM W H L) {c : Int} (hc : 0 ≤ c ∧ c < W * H) : DI (leapsM W H L A B) (W * H).toNat c (farM W H L A B c) [] := by
  have ha := g.area
  have hc' : 0 ≤ c ∧ c < ((W * H).toNat : Int) := by omega
  exact bfs_dist (by omega) (fun c _ d hd => leapsM_in g c d hd) (W * H).toNat _ _ (start_ok hc') (start_dist hc') (start_ok hc').siz
/-- A reached cell is the first one, or has a neighbour one nearer. -/
theorem far_pre (g : BoardM W H L) {c : Int} (hc : 0 ≤ c ∧ c < W * H) (e : Int) (he : 0 ≤ e ∧ e < W * H) (h : 0 ≤ rd (farM W H L A B c) e) :
    (e = c ∧ rd (farM W H L A B c) e = 0) ∨ ∃ p : Int, (0 ≤ p ∧ p < W * H) ∧ 0 ≤ rd (farM W H L A B c) p ∧ e ∈ leapsM W H L A B p ∧ rd (farM W H L A B c) e = rd (farM W H L A B c) p + 1 := by
  have ha := g.area
  rcases (farM_di (A := A) (B := B) g hc).pre e he.1 (by omega) h with h1 | ⟨p, h1, h2⟩
  · exact .inl h1
  · exact .inr ⟨p, by omega, h2⟩
/-- No neighbour of a reached cell is more than one farther. -/
theorem far_step (g : BoardM W H L) {c : Int} (hc : 0 ≤ c ∧ c < W * H) (p : Int) (hp : 0 ≤ p ∧ p < W * H) (h : 0 ≤ rd (farM W H L A B c) p) (e : Int) (he : e ∈ leapsM W H L A B p) :
    0 ≤ rd (farM W H L A B c) e ∧ rd (farM W H L A B c) e ≤ rd (farM W H L A B c) p + 1 := by
  have ha := g.area
  rcases (farM_di (A := A) (B := B) g hc).done p hp.1 (by omega) h with h1 | h1
  · cases h1
  · exact h1 e he
theorem far_has (g : BoardM W H L) {c : Int} (hc : hasB W H L c = true) (e : Int) (he : 0 ≤ e ∧ e < W * H) (h : 0 ≤ rd (farM W H L A B c) e) : hasB W H L e = true := by
  rcases far_pre (A := A) (B := B) g (has_range hc) e he h with ⟨rfl, _⟩ | ⟨p, _, _, h3, _⟩
  · exact hc
  · exact leapsM_has h3
theorem isB_flip (W A B x y : Int) : isB W A B x y = isB W A B y x := by
  unfold isB
  rw [show (x % W - y % W).natAbs = (y % W - x % W).natAbs by omega, show (x / W - y / W).natAbs = (y / W - x / W).natAbs by omega]
theorem leapsM_flip {x y : Int} (hx : hasB W H L x = true) (h : y ∈ leapsM W H L A B x) : x ∈ leapsM W H L A B y := by
  simp only [leapsM, List.mem_filter, mem_cellsM] at h ⊢
  exact ⟨hx, by rw [isB_flip]; exact h.2⟩
/-- A reached cell that is not the first one has a neighbour one nearer. -/
theorem far_back (g : BoardM W H L) {c : Int} (hc : hasB W H L c = true) (e : Int) (he : 0 ≤ e ∧ e < W * H) (h : 0 < rd (farM W H L A B c) e) : ∃ p ∈ leapsM W H L A B e, rd (farM W H L A B c) p = rd (farM W H L A B c) e - 1 := by
  rcases far_pre (A := A) (B := B) g (has_range hc) e he (by omega) with ⟨_, h1⟩ | ⟨p, h1, h2, h3, h4⟩
  · omega
  · exact ⟨p, leapsM_flip (far_has g hc p h1 h2) h3, by omega⟩
theorem far_zero (g : BoardM W H L) {c : Int} (hc : 0 ≤ c ∧ c < W * H) (e : Int) (he : 0 ≤ e ∧ e < W * H) (h : rd (farM W H L A B c) e = 0) : e = c := by
  rcases far_pre (A := A) (B := B) g hc e he (by omega) with ⟨h1, _⟩ | ⟨p, h1, h2, h3, h4⟩
  · exact h1
  · omega
end
end Go.Proofs.Ytbecdckdbeoomaa.H

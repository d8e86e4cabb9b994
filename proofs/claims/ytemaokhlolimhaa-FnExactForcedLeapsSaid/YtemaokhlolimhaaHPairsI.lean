/- All leaps as pairs of cells, the lesser first: what the program lists; and that leaps go both ways. -/
import Derived.Test.YtemaokhlolimhaaHTwoI
import Derived.Test.YtemaokhlolimhaaQ6
namespace Go.Proofs.Ytemaokhlolimhaa.H
open Go.RowKit Go.IntWalk Go.Proofs.Ytemaokhlolimhaa.Q Go.Proofs.YtemaokhlolimhaaW.PrintWords Go.Proofs.YtemaokhlolimhaaW.PrintMore
set_option linter.unusedVariables false
set_option linter.unusedSimpArgs false
def pairRow (c : Int) (ds : List Int) : List (List Int) := (ds.filter fun d => decide (c < d)).map fun d => [c, d]
def pairsM (W H : Int) (L : List Int) (A B : Int) (cs : List Int) : List (List Int) := cs.flatMap fun c => pairRow c (leapsM W H L A B c)
theorem isB_symm (W A B x y : Int) : isB W A B x y = isB W A B y x := by
  unfold isB
  have h1 : ((x % W - y % W).natAbs : Int) = ((y % W - x % W).natAbs : Int) := by omega
  have h2 : ((x / W - y / W).natAbs : Int) = ((y / W - x / W).natAbs : Int) := by omega
  rw [h1, h2]
theorem isB_self {A B : Int} (l : Leap A B) (W x : Int) : isB W A B x x = false := by
  unfold isB
  obtain ⟨l1, l2, l3, l4⟩ := l
  have h1 : ((x % W - x % W).natAbs : Int) = 0 := by omega
  have h2 : ((x / W - x / W).natAbs : Int) = 0 := by omega
  rw [h1, h2]
  have h3 : ¬ (0 : Int) = B := by omega
  simp [h3]
theorem pairRow_length (c : Int) (ds : List Int) : (pairRow c ds).length ≤ ds.length := by
  unfold pairRow
  rw [List.length_map]
  exact List.length_filter_le _ _
section
variable {W H : Int} {L : List Int} {A B : Int}
theorem pairs_l1 (cs : List Int) (c : Int) (i : Nat) (hi : i ≤ 64) (R : List (List Int)) (rest pre : List Int) (hp : (pre ++ rest).length ≤ 64) : ∀ acc : List (List Int), acc.length ≤ 100000 + pre.length →
    Ev (fun k => impl_graph_pairs.l0 k (acc ++ pairRow c rest) cs (cs.length : Int) ((i + 1 : Nat) : Int) W H L A B (cellsM W H L) (nearM W H L A B)) R →
    Ev (fun k => impl_graph_pairs.l1 k acc c cs (cs.length : Int) (i : Int) (pre ++ rest) ((pre ++ rest).length : Int) (pre.length : Int) W H L A B (cellsM W H L) (nearM W H L A B)) R := by
  induction rest generalizing pre with
  | nil =>
    intro acc ha hR
    refine Ev.step (fun k => by rw [impl_graph_pairs.l1]) ?_
    simp only [List.append_nil, nlt_end, if_false, w_succ (show i ≤ 4611686018427387904 by omega)]
    simpa [pairRow] using hR
  | cons d r ih =>
    intro acc ha hR
    refine Ev.step (fun k => by rw [impl_graph_pairs.l1]) ?_
    have h0 : (0 : Int) ≤ (pre.length : Int) := by omega
    have h5 : pre.length ≤ 64 := by simp at hp; omega
    have h6 : acc.length < 5864062014805 := by omega
    simp only [lt_mid pre d r, h0, if_true, rd_mid, w_succ (show pre.length ≤ 4611686018427387904 by omega)]
    by_cases c1 : c < d
    · simp only [c1, h6, if_true]
      have := ih (pre ++ [d]) (by simpa using hp) (acc ++ [[c, d]]) (by simp; omega) (by simpa [pairRow, c1] using hR)
      simpa using this
    · simp only [c1, if_false]
      have := ih (pre ++ [d]) (by simpa using hp) acc (by simp; omega) (by simpa [pairRow, c1] using hR)
      simpa using this
theorem pairs_l0 (g : BoardM W H L) (rest pre : List Int) (hr : ∀ c ∈ rest, hasB W H L c = true) (hp : (pre ++ rest).length ≤ 64) : ∀ acc : List (List Int), acc.length ≤ 64 * pre.length →
    Ev (fun k => impl_graph_pairs.l0 k acc (pre ++ rest) ((pre ++ rest).length : Int) (pre.length : Int) W H L A B (cellsM W H L) (nearM W H L A B)) (acc ++ pairsM W H L A B rest) := by
  induction rest generalizing pre with
  | nil =>
    intro acc ha
    refine Ev.step (fun k => by rw [impl_graph_pairs.l0]) ?_
    simp only [List.append_nil, nlt_end, if_false, pairsM, List.flatMap_nil]
    exact Ev.now _
  | cons c r ih =>
    intro acc ha
    refine Ev.step (fun k => by rw [impl_graph_pairs.l0]) ?_
    have h0 : (0 : Int) ≤ (pre.length : Int) := by omega
    have h5 : pre.length ≤ 64 := by simp at hp; omega
    have hh := hr c (by simp)
    have hn := near_in (A := A) (B := B) g hh
    simp only [lt_mid pre c r, h0, if_true, rd_mid, hn.1, hn.2, near_at hh]
    have hl := leapsM_length g A B c
    have hpl := pairRow_length c (leapsM W H L A B c)
    have := ih (pre ++ [c]) (fun x hx => hr x (by simp [hx])) (by simpa using hp) (acc ++ pairRow c (leapsM W H L A B c)) (by simp; omega)
    have := pairs_l1 (W := W) (H := H) (L := L) (A := A) (B := B) (pre ++ c :: r) c pre.length h5 (acc ++ pairsM W H L A B (c :: r)) (leapsM W H L A B c) [] (by simpa using hl) acc (by simp; omega) (by
      have e : pairsM W H L A B (c :: r) = pairRow c (leapsM W H L A B c) ++ pairsM W H L A B r := by unfold pairsM; rw [List.flatMap_cons]
      rw [e]
      simpa using this)
    simpa using this
theorem pairs_ev (g : BoardM W H L) : Ev (fun k => impl_graph_pairs.f k W H L A B (cellsM W H L) (nearM W H L A B)) (pairsM W H L A B (cellsM W H L)) := by
  unfold impl_graph_pairs.f
  have := pairs_l0 (A := A) (B := B) g (cellsM W H L) [] (fun c hc => mem_cellsM.1 hc) (by simpa using cellsM_length g) [] (by simp)
  simpa using this
theorem mem_pairsM (p : List Int) : p ∈ pairsM W H L A B (cellsM W H L) ↔ ∃ c d : Int, p = [c, d] ∧ hasB W H L c = true ∧ hasB W H L d = true ∧ isB W A B c d = true ∧ c < d := by
  unfold pairsM pairRow
  simp only [List.mem_flatMap, List.mem_map, List.mem_filter, mem_cellsM, leapsM, decide_eq_true_eq]
  constructor
  · rintro ⟨c, hc, d, ⟨⟨hd, hi⟩, hl⟩, rfl⟩
    exact ⟨c, d, rfl, hc, hd, hi, hl⟩
  · rintro ⟨c, d, rfl, hc, hd, hi, hl⟩
    exact ⟨c, hc, d, ⟨⟨hd, hi⟩, hl⟩, rfl⟩
theorem pairsM_length (g : BoardM W H L) : (pairsM W H L A B (cellsM W H L)).length ≤ 4096 := by
  have key : ∀ cs : List Int, (pairsM W H L A B cs).length ≤ 64 * cs.length := by
    intro cs
    induction cs with
    | nil => simp [pairsM]
    | cons c r ih =>
      have e : pairsM W H L A B (c :: r) = pairRow c (leapsM W H L A B c) ++ pairsM W H L A B r := by unfold pairsM; rw [List.flatMap_cons]
      rw [e, List.length_append]
      have h1 := pairRow_length c (leapsM W H L A B c)
      have h2 := leapsM_length g A B c
      simp only [List.length_cons]
      omega
  have := key (cellsM W H L)
  have := cellsM_length g
  omega
end
end Go.Proofs.Ytemaokhlolimhaa.H

/- Boards that go around: the rows of neighbours, and the distances, told alike by the reference and the program. -/
import Derived.Test.YtekajjhjjnfdpaaHAround
import Derived.Test.YtekajjhjjnfdpaaQ40
import Derived.Test.YtekajjhjjnfdpaaQ41
import Derived.Test.YtekajjhjjnfdpaaQ43
import Derived.Test.YtekajjhjjnfdpaaQ44
namespace Go.Proofs.Ytekajjhjjnfdpaa.H
open Go.RowKit Go.IntWalk Go.Proofs.Ytekajjhjjnfdpaa.Q Go.Proofs.YtekajjhjjnfdpaaW.PrintWords Go.Proofs.YtekajjhjjnfdpaaW.PrintMore
set_option linter.unusedVariables false
set_option linter.unusedSimpArgs false
def insL (n : Int) : List Int → List Int
  | [] => [n]
  | x :: r => if x < n then x :: insL n r else n :: x :: r
theorem mem_insL (n : Int) (l : List Int) (y : Int) : y ∈ insL n l ↔ y = n ∨ y ∈ l := by
  induction l with
  | nil => simp [insL]
  | cons x r ih =>
    rw [insL]
    split
    · simp only [List.mem_cons, ih]
      constructor
      · rintro (h | h | h)
        · exact .inr (.inl h)
        · exact .inl h
        · exact .inr (.inr h)
      · rintro (h | h | h)
        · exact .inr (.inl h)
        · exact .inl h
        · exact .inr (.inr h)
    · simp
theorem insL_length (n : Int) (l : List Int) : (insL n l).length = l.length + 1 := by
  induction l with
  | nil => rfl
  | cons x r ih => rw [insL]; split <;> simp [ih]
theorem insL_sorted (n : Int) (l : List Int) (h : l.Pairwise (· < ·)) (hn : ¬ n ∈ l) : (insL n l).Pairwise (· < ·) := by
  induction l with
  | nil => simp [insL]
  | cons x r ih =>
    obtain ⟨h1, h2⟩ := List.pairwise_cons.1 h
    rw [insL]
    split
    · rename_i c
      refine List.pairwise_cons.2 ⟨fun y hy => ?_, ih h2 (fun hm => hn (by simp [hm]))⟩
      rcases (mem_insL n r y).1 hy with rfl | hy
      · exact c
      · exact h1 y hy
    · rename_i c
      have hx : x ≠ n := fun e => hn (by simp [e])
      refine List.pairwise_cons.2 ⟨fun y hy => ?_, h⟩
      rcases List.mem_cons.1 hy with rfl | hy
      · omega
      · have := h1 y hy; omega
theorem put_loop (n : Int) (rest pre : List Int) (hp : (pre ++ rest).length ≤ 1000) (hn : ¬ n ∈ rest) :
    Ev (fun k => spec_l1Put.l0 k (pre ++ rest) n (pre.length : Int)) (pre ++ insL n rest) := by
  have fin : ∀ (rest : List Int), (pre ++ rest).length ≤ 1000 → True := fun _ _ => trivial
  induction rest generalizing pre with
  | nil =>
    refine Ev.step (fun k => by rw [spec_l1Put.l0]) ?_
    have h0 : (0 : Int) ≤ (pre.length : Int) := by omega
    have h1 : (pre.length : Int) ≤ (pre.length : Int) := Int.le_refl _
    have e1 : ((pre.length : Int)).toNat = pre.length := by omega
    have h5 : pre.length ≤ 1000 := by simpa using hp
    have c1 : ([] : List Int).length + pre.length < 17592186044416 := by simp; omega
    have c2 : pre.length < 17592186044416 := by omega
    have c3 : (pre ++ [n]).length + ([] : List Int).length < 17592186044416 := by simp; omega
    simp only [List.append_nil, nlt_end, if_false, h0, h1, if_true, e1, List.take_length, List.drop_length, Option.bind_some, List.nil_append, c1, c2, c3, insL]
    exact Ev.now _
  | cons x r ih =>
    refine Ev.step (fun k => by rw [spec_l1Put.l0]) ?_
    have h0 : (0 : Int) ≤ (pre.length : Int) := by omega
    have h5 : pre.length + r.length + 1 ≤ 1000 := by simp at hp; omega
    have hx : ¬ x = n := fun e => hn (by simp [e])
    simp only [lt_mid pre x r, h0, if_true, rd_mid, w_succ (show pre.length ≤ 4611686018427387904 by omega)]
    by_cases c : x < n
    · simp only [c, if_true]
      have := ih (pre ++ [x]) (by simpa using hp) (fun hm => hn (by simp [hm])) (fun _ _ => trivial)
      rw [insL, if_pos c]
      simpa using this
    · have e1 : (pre ++ x :: r).take ((pre.length : Int)).toNat = pre := by simp
      have e2 : (pre ++ x :: r).drop ((pre.length : Int)).toNat = x :: r := by simp
      have h1 : (pre.length : Int) ≤ ((pre ++ x :: r).length : Int) := by simp; omega
      have c1 : ([] : List Int).length + pre.length < 17592186044416 := by simp; omega
      have c2 : pre.length < 17592186044416 := by omega
      have c3 : (pre ++ [n]).length + (x :: r).length < 17592186044416 := by simp; omega
      rw [insL, if_neg c]
      simp only [c, hx, if_false, h1, if_true, e1, e2, Option.bind_some, List.nil_append, c1, c2, c3, List.append_assoc, List.singleton_append]
      have c3' : (pre ++ [n]).length + (x :: r).length < 17592186044416 := c3
      simpa using Ev.now _
theorem l1Put_ev (n : Int) (l : List Int) (hl : l.length ≤ 1000) (hn : ¬ n ∈ l) : Ev (fun k => spec_l1Put.f k l n) (insL n l) := by
  unfold spec_l1Put.f
  simpa using put_loop n l [] (by simpa using hl) hn
section
variable {W H : Int} {ax ay : Bool} {A B : Int}
def toS (W H : Int) (ax ay : Bool) (c : Int) (s : List Int) : Option Int := arTo W H ax ay c (rd s 0) (rd s 1)
def foldS (W H : Int) (ax ay : Bool) (c : Int) : List (List Int) → List Int → List Int
  | [], acc => acc
  | s :: r, acc => match toS W H ax ay c s with
    | none => foldS W H ax ay c r acc
    | some t => if t = c ∨ t ∈ acc then foldS W H ax ay c r acc else foldS W H ax ay c r (insL t acc)
def foldI (W H : Int) (ax ay : Bool) (c : Int) : List (List Int) → List Int → List Int
  | [], acc => acc
  | s :: r, acc => match toS W H ax ay c s with
    | none => foldI W H ax ay c r acc
    | some t => if t = c ∨ t ∈ acc then foldI W H ax ay c r acc else foldI W H ax ay c r (acc ++ [t])
theorem foldS_spec (c : Int) (ss : List (List Int)) : ∀ acc, acc.Pairwise (· < ·) → (foldS W H ax ay c ss acc).Pairwise (· < ·) ∧ ∀ y, y ∈ foldS W H ax ay c ss acc ↔ y ∈ acc ∨ ∃ s ∈ ss, toS W H ax ay c s = some y ∧ y ≠ c := by
  induction ss with
  | nil => intro acc h; exact ⟨h, fun y => by simp [foldS]⟩
  | cons s r ih =>
    intro acc h
    rw [foldS]
    cases ht : toS W H ax ay c s with
    | none =>
      obtain ⟨h1, h2⟩ := ih acc h
      refine ⟨h1, fun y => ?_⟩
      simp only [h2, List.mem_cons, exists_eq_or_imp, ht, reduceCtorEq, false_and, false_or]
    | some t =>
      simp only
      by_cases ct : t = c ∨ t ∈ acc
      · rw [if_pos ct]
        obtain ⟨h1, h2⟩ := ih acc h
        refine ⟨h1, fun y => ?_⟩
        simp only [h2, List.mem_cons, exists_eq_or_imp, ht, Option.some.injEq]
        constructor
        · rintro (h | h)
          · exact .inl h
          · exact .inr (.inr h)
        · rintro (h | ⟨rfl, h⟩ | h)
          · exact .inl h
          · rcases ct with ct | ct
            · exact absurd ct h
            · exact .inl ct
          · exact .inr h
      · rw [if_neg ct]
        have hnot : ¬ t ∈ acc := fun h => ct (.inr h)
        have hne : t ≠ c := fun h => ct (.inl h)
        obtain ⟨h1, h2⟩ := ih (insL t acc) (insL_sorted t acc h hnot)
        refine ⟨h1, fun y => ?_⟩
        simp only [h2, mem_insL, List.mem_cons, exists_eq_or_imp, ht, Option.some.injEq]
        constructor
        · rintro ((rfl | h) | h)
          · exact .inr (.inl ⟨rfl, hne⟩)
          · exact .inl h
          · exact .inr (.inr h)
        · rintro (h | ⟨rfl, h⟩ | h)
          · exact .inl (.inr h)
          · exact .inl (.inl rfl)
          · exact .inr h
theorem foldI_spec (c : Int) (ss : List (List Int)) : ∀ acc, acc.Nodup → (foldI W H ax ay c ss acc).Nodup ∧ ∀ y, y ∈ foldI W H ax ay c ss acc ↔ y ∈ acc ∨ ∃ s ∈ ss, toS W H ax ay c s = some y ∧ y ≠ c := by
  induction ss with
  | nil => intro acc h; exact ⟨h, fun y => by simp [foldI]⟩
  | cons s r ih =>
    intro acc h
    rw [foldI]
    cases ht : toS W H ax ay c s with
    | none =>
      obtain ⟨h1, h2⟩ := ih acc h
      refine ⟨h1, fun y => ?_⟩
      simp only [h2, List.mem_cons, exists_eq_or_imp, ht, reduceCtorEq, false_and, false_or]
    | some t =>
      simp only
      by_cases ct : t = c ∨ t ∈ acc
      · rw [if_pos ct]
        obtain ⟨h1, h2⟩ := ih acc h
        refine ⟨h1, fun y => ?_⟩
        simp only [h2, List.mem_cons, exists_eq_or_imp, ht, Option.some.injEq]
        constructor
        · rintro (h | h)
          · exact .inl h
          · exact .inr (.inr h)
        · rintro (h | ⟨rfl, h⟩ | h)
          · exact .inl h
          · rcases ct with ct | ct
            · exact absurd ct h
            · exact .inl ct
          · exact .inr h
      · rw [if_neg ct]
        have hnot : ¬ t ∈ acc := fun h => ct (.inr h)
        have hne : t ≠ c := fun h => ct (.inl h)
        obtain ⟨h1, h2⟩ := ih (acc ++ [t]) (by
          rw [List.nodup_append]
          refine ⟨h, by simp, fun a ha b hb => ?_⟩
          obtain rfl : b = t := by simpa using hb
          exact fun e => hnot (e ▸ ha))
        refine ⟨h1, fun y => ?_⟩
        simp only [h2, List.mem_append, List.mem_cons, List.not_mem_nil, or_false, exists_eq_or_imp, ht, Option.some.injEq]
        constructor
        · rintro ((h | rfl) | h)
          · exact .inl h
          · exact .inr (.inl ⟨rfl, hne⟩)
          · exact .inr (.inr h)
        · rintro (h | ⟨rfl, h⟩ | h)
          · exact .inl (.inl h)
          · exact .inl (.inr rfl)
          · exact .inr h
def rowA (W H : Int) (ax ay : Bool) (A B c : Int) : List Int := foldS W H ax ay c (bstepsM A B) []
theorem rowA_sort (l : Leap A B) (c : Int) : sortL (foldI W H ax ay c (stepsM A B) []) = rowA W H ax ay A B c := by
  obtain ⟨h1, h2⟩ := foldI_spec (W := W) (H := H) (ax := ax) (ay := ay) c (stepsM A B) [] (by simp)
  obtain ⟨h3, h4⟩ := foldS_spec (W := W) (H := H) (ax := ax) (ay := ay) c (bstepsM A B) [] (by simp)
  refine sort_key h1 h3 fun y => ?_
  unfold rowA
  rw [h2, h4]
  simp only [mem_bstepsM l]
theorem rowA_in (g : Ring W H) (c : Int) : ∀ d ∈ rowA W H ax ay A B c, 0 ≤ d ∧ d < W * H := by
  obtain ⟨_, h4⟩ := foldS_spec (W := W) (H := H) (ax := ax) (ay := ay) c (bstepsM A B) [] (by simp)
  intro d hd
  rcases (h4 d).1 hd with h | ⟨s, _, h, _⟩
  · cases h
  · exact arTo_in g h
theorem foldS_length (c : Int) (ss : List (List Int)) : ∀ acc, (foldS W H ax ay c ss acc).length ≤ acc.length + ss.length := by
  induction ss with
  | nil => intro acc; simp [foldS]
  | cons s r ih =>
    intro acc
    rw [foldS]
    split
    · have := ih acc; simp; omega
    · rename_i t _
      split
      · have := ih acc; simp; omega
      · have := ih (insL t acc); rw [insL_length] at this; simp; omega
theorem rowA_length (l : Leap A B) (c : Int) : (rowA W H ax ay A B c).length ≤ 121 := by
  have h := foldS_length (W := W) (H := H) (ax := ax) (ay := ay) c (bstepsM A B) []
  have h2 := bstepsM_small l
  unfold rowA
  simp at h
  omega
theorem arLeaps_loop (g : Ring W H) (c : Int) (hc : 0 ≤ c ∧ c < W * H) (rest pre : List (List Int)) (hr : ∀ s ∈ rest, ∃ x y : Int, (-5 ≤ x ∧ x ≤ 5) ∧ (-5 ≤ y ∧ y ≤ 5) ∧ s = [x, y]) (hp : (pre ++ rest).length ≤ 121) : ∀ acc : List Int, acc.length ≤ pre.length →
    Ev (fun k => spec_arLeaps.l0 k c acc (pre ++ rest) ((pre ++ rest).length : Int) (pre.length : Int) W H ax ay) (foldS W H ax ay c rest acc) := by
  induction rest generalizing pre with
  | nil =>
    intro acc ha
    refine Ev.step (fun k => by rw [spec_arLeaps.l0]) ?_
    simp only [List.append_nil, nlt_end, if_false, foldS]
    exact Ev.now _
  | cons s r ih =>
    intro acc ha
    obtain ⟨x, y, hx, hy, rfl⟩ := hr s (by simp)
    refine Ev.step (fun k => by rw [spec_arLeaps.l0]) ?_
    have h0 : (0 : Int) ≤ (pre.length : Int) := by omega
    have h5 : pre.length ≤ 121 := by simp at hp; omega
    have e : rd_L1 (pre ++ [x, y] :: r) (pre.length : Int) = [x, y] := by simp [rd_L1]
    have e0 : rd [x, y] 0 = x := rfl
    have e1 : rd [x, y] 1 = y := rfl
    have l0 : (0 : Int) < (([x, y] : List Int).length : Int) := by simp
    have l1 : (1 : Int) < (([x, y] : List Int).length : Int) := by simp
    have back : ∀ acc' : List Int, acc'.length ≤ pre.length + 1 → Ev (fun k => spec_arLeaps.l0 k c acc' (pre ++ [x, y] :: r) ((pre ++ [x, y] :: r).length : Int) ((pre.length + 1 : Nat) : Int) W H ax ay) (foldS W H ax ay c r acc') := fun acc' ha' => by
      have := ih (pre ++ [[x, y]]) (fun s hs => hr s (by simp [hs])) (by simpa using hp) acc' (by simpa using ha')
      simpa using this
    simp only [lt_mid pre [x, y] r, h0, if_true, e, e0, e1, l0, l1, w_succ (show pre.length ≤ 4611686018427387904 by omega)]
    refine Ev.bind (arStep_ev g c x y hc hx hy) ?_
    have et : toS W H ax ay c [x, y] = arTo W H ax ay c x y := rfl
    rw [foldS, et]
    cases ht : arTo W H ax ay c x y with
    | none =>
      have hm : ¬ ((-1 : Int) ≥ 0) := by omega
      simp only [Option.getD_none, hm, if_false]
      exact back acc (by omega)
    | some t =>
      have htr := arTo_in g ht
      have hm : t ≥ 0 := htr.1
      simp only [Option.getD_some, hm, if_true]
      by_cases ct : t = c
      · have : (t = c ∨ t ∈ acc) := .inl ct
        simp only [ct, if_true, true_or]
        exact back acc (by omega)
      · simp only [ct, if_false, false_or]
        refine Ev.bind (l1Has_ev acc t (by omega)) ?_
        by_cases hin : t ∈ acc
        · have hc1 : acc.contains t = true := by simpa using hin
          simp only [hc1, hin, if_true]
          exact back acc (by omega)
        · have hc1 : acc.contains t = false := by simpa using hin
          simp only [hc1, hin, Bool.false_eq_true, if_false]
          refine Ev.bind (l1Put_ev t acc (by omega) hin) ?_
          exact back (insL t acc) (by rw [insL_length]; omega)
theorem arLeaps_ev (g : Ring W H) (l : Leap A B) (c : Int) (hc : 0 ≤ c ∧ c < W * H) : Ev (fun k => spec_arLeaps.f k W H ax ay A B c) (rowA W H ax ay A B c) := by
  unfold spec_arLeaps.f
  refine Ev.bind (boSteps_ev l) ?_
  have := arLeaps_loop (ax := ax) (ay := ay) g c hc (bstepsM A B) [] (fun s hs => by
    obtain ⟨x, y, hx, hy, e, _⟩ := (mem_stepsM A B s).1 ((mem_bstepsM l s).1 hs)
    exact ⟨x, y, hx, hy, e⟩) (by simpa using bstepsM_small l) [] (by simp)
  simpa [rowA] using this
/-! ### The program's rows -/
theorem around_l1 (g : Ring W H) (c : Nat) (hc : (c : Int) < W * H) (n : Int) (R : List (List Int)) (rest pre : List (List Int)) (hr : ∀ s ∈ rest, ∃ x y : Int, (-5 ≤ x ∧ x ≤ 5) ∧ (-5 ≤ y ∧ y ≤ 5) ∧ s = [x, y]) (hp : (pre ++ rest).length ≤ 121) : ∀ N : List (List Int), (N.length : Int) = W * H → (rd_L1 N (c : Int)).length ≤ pre.length →
    Ev (fun k => impl_Around_near.l0 k (N.set ((c : Int)).toNat (sortL (foldI W H ax ay (c : Int) rest (rd_L1 N (c : Int))))) n ((c + 1 : Nat) : Int) W H ax ay A B) R →
    Ev (fun k => impl_Around_near.l1 k N (c : Int) n (c : Int) (pre ++ rest) ((pre ++ rest).length : Int) (pre.length : Int) W H ax ay A B) R := by
  have ha := g.area
  have hc0 : (0 : Int) ≤ (c : Int) := by omega
  induction rest generalizing pre with
  | nil =>
    intro N hN hrow hR
    refine Ev.step (fun k => by rw [impl_Around_near.l1]) ?_
    have h1 : (c : Int) < (N.length : Int) := by omega
    have h2 : (rd_L1 N (c : Int)).length < 4611686018427387904 := by simp at hp; omega
    simp only [List.append_nil, nlt_end, if_false, hc0, h1, h2, if_true, w_succ (show c ≤ 4611686018427387904 by omega)]
    simpa [foldI] using hR
  | cons s r ih =>
    intro N hN hrow hR
    obtain ⟨x, y, hx, hy, rfl⟩ := hr s (by simp)
    refine Ev.step (fun k => by rw [impl_Around_near.l1]) ?_
    have h0 : (0 : Int) ≤ (pre.length : Int) := by omega
    have h5 : pre.length ≤ 121 := by simp at hp; omega
    have h1 : (c : Int) < (N.length : Int) := by omega
    have e : rd_L1 (pre ++ [x, y] :: r) (pre.length : Int) = [x, y] := by simp [rd_L1]
    have e0 : rd [x, y] 0 = x := rfl
    have e1 : rd [x, y] 1 = y := rfl
    have l0 : (0 : Int) < (([x, y] : List Int).length : Int) := by simp
    have l1 : (1 : Int) < (([x, y] : List Int).length : Int) := by simp
    have h6 : (rd_L1 N (c : Int)).length < 17592186044416 := by omega
    have back : ∀ N' : List (List Int), (N'.length : Int) = W * H → (rd_L1 N' (c : Int)).length ≤ pre.length + 1 →
        Ev (fun k => impl_Around_near.l0 k (N'.set ((c : Int)).toNat (sortL (foldI W H ax ay (c : Int) r (rd_L1 N' (c : Int))))) n ((c + 1 : Nat) : Int) W H ax ay A B) R →
        Ev (fun k => impl_Around_near.l1 k N' (c : Int) n (c : Int) (pre ++ [x, y] :: r) ((pre ++ [x, y] :: r).length : Int) ((pre.length + 1 : Nat) : Int) W H ax ay A B) R := fun N' hN' hrow' hR' => by
      have := ih (pre ++ [[x, y]]) (fun s hs => hr s (by simp [hs])) (by simpa using hp) N' hN' (by simpa using hrow') hR'
      simpa using this
    obtain ⟨v, hv, hvt⟩ := aroundStep_eq (ax := ax) (ay := ay) g (c : Int) x y ⟨hc0, hc⟩ hx hy
    simp only [lt_mid pre [x, y] r, h0, if_true, e, e0, e1, l0, l1, w_succ (show pre.length ≤ 4611686018427387904 by omega), hv, Option.bind_some]
    have et : toS W H ax ay (c : Int) [x, y] = arTo W H ax ay (c : Int) x y := rfl
    rw [foldI, et] at hR
    cases ht : arTo W H ax ay (c : Int) x y with
    | none =>
      rw [ht] at hR
      simp only [Option.isSome_none, Bool.false_eq_true, if_false]
      exact back N hN (by omega) hR
    | some t =>
      rw [ht] at hR
      obtain rfl := hvt t ht
      simp only [Option.isSome_some, if_true]
      by_cases ct : v = (c : Int)
      · simp only [ct, if_true, true_or] at hR ⊢
        exact back N hN (by omega) hR
      · simp only [ct, if_false, false_or, hc0, h1, if_true] at hR ⊢
        refine Ev.bind (contains_ev (rd_L1 N (c : Int)) v (by omega)) ?_
        by_cases hin : v ∈ rd_L1 N (c : Int)
        · have hc1 : (rd_L1 N (c : Int)).contains v = true := by simpa using hin
          simp only [hc1, if_true]
          rw [if_pos hin] at hR
          exact back N hN (by omega) hR
        · have hc1 : (rd_L1 N (c : Int)).contains v = false := by simpa using hin
          simp only [hc1, Bool.false_eq_true, if_false, h6, if_true]
          rw [if_neg hin] at hR
          refine back _ (by simpa using hN) (by rw [rd_L1_set N (c : Int) _ ⟨hc0, h1⟩]; simp; omega) ?_
          rw [rd_L1_set N (c : Int) _ ⟨hc0, h1⟩, List.set_set]
          exact hR
def rowsA (W H : Int) (ax ay : Bool) (A B : Int) : List (List Int) := (List.range (W * H).toNat).map fun (i : Nat) => rowA W H ax ay A B (i : Int)
theorem rowsA_get (c : Int) (hc : 0 ≤ c ∧ c < W * H) : rd_L1 (rowsA W H ax ay A B) c = rowA W H ax ay A B c := by
  unfold rd_L1 rowsA
  rw [List.getD_eq_getElem?_getD, List.getElem?_map, List.getElem?_range (by omega)]
  have : ((c.toNat : Nat) : Int) = c := by omega
  simp [this]
theorem rowsA_length : (rowsA W H ax ay A B).length = (W * H).toNat := by simp [rowsA]
theorem around_l0 (g : Ring W H) (l : Leap A B) : ∀ (m c : Nat), m + c = (W * H).toNat →
    Ev (fun k => impl_Around_near.l0 k ((rowsA W H ax ay A B).take c ++ List.replicate m []) ((W * H).toNat : Int) (c : Int) W H ax ay A B) (rowsA W H ax ay A B) := by
  have ha := g.area
  intro m
  induction m with
  | zero =>
    intro c h1
    refine Ev.step (fun k => by rw [impl_Around_near.l0]) ?_
    have h3 : ¬ ((c : Int) < ((W * H).toNat : Int)) := by omega
    have e : (rowsA W H ax ay A B).take c = rowsA W H ax ay A B := List.take_of_length_le (by rw [rowsA_length]; omega)
    simp only [h3, if_false, e, List.replicate_zero, List.append_nil]
    exact Ev.now _
  | succ m ih =>
    intro c h1
    refine Ev.step (fun k => by rw [impl_Around_near.l0]) ?_
    have h3 : (c : Int) < ((W * H).toNat : Int) := by omega
    have hcl : c < (rowsA W H ax ay A B).length := by rw [rowsA_length]; omega
    simp only [h3, if_true]
    refine Ev.bind (steps_ev A B) ?_
    have hlen : ((rowsA W H ax ay A B).take c).length = c := by rw [List.length_take]; omega
    have hrow : rd_L1 ((rowsA W H ax ay A B).take c ++ List.replicate (m + 1) []) (c : Int) = [] := by
      unfold rd_L1
      rw [List.getD_eq_getElem?_getD, Int.toNat_natCast, List.getElem?_append_right (by omega), hlen, Nat.sub_self]
      rfl
    have := around_l1 (ax := ax) (ay := ay) (A := A) (B := B) g c (by omega) ((W * H).toNat : Int) (rowsA W H ax ay A B) (stepsM A B) [] (fun s hs => by
      obtain ⟨x, y, hx, hy, e, _⟩ := (mem_stepsM A B s).1 hs
      exact ⟨x, y, hx, hy, e⟩) (by simpa using stepsM_length A B) ((rowsA W H ax ay A B).take c ++ List.replicate (m + 1) []) (by rw [List.length_append, hlen, List.length_replicate]; omega) (by rw [hrow]; simp) (by
      rw [hrow, rowA_sort l, Int.toNat_natCast]
      have e : ((rowsA W H ax ay A B).take c ++ List.replicate (m + 1) []).set c (rowA W H ax ay A B (c : Int)) = (rowsA W H ax ay A B).take (c + 1) ++ List.replicate m [] := by
        rw [List.set_append_right _ _ (by omega), hlen, Nat.sub_self, List.replicate_succ, List.set_cons_zero, List.take_succ_eq_append_getElem hcl, List.append_assoc]
        congr 1
        have : (rowsA W H ax ay A B)[c] = rowA W H ax ay A B (c : Int) := by simp [rowsA]
        rw [this]
        rfl
      rw [e]
      exact ih (c + 1) (by omega))
    simpa using this
theorem around_ev (g : Ring W H) (l : Leap A B) : Ev (fun k => impl_Around_near.f k W H ax ay A B) (rowsA W H ax ay A B) := by
  have ha := g.area
  unfold impl_Around_near.f
  have h1 : 0 ≤ W * H := by omega
  have h2 : (W * H).toNat ≤ 11728124029610 := by omega
  simp only [g.wrapArea, h1, h2, if_true, Option.bind_some, List.length_replicate]
  have := around_l0 (ax := ax) (ay := ay) g l (W * H).toNat 0 (by omega)
  simpa using this
end
end Go.Proofs.Ytekajjhjjnfdpaa.H

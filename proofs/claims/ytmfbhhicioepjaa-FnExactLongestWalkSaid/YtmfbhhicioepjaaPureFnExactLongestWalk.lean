/- LongestWalk: the program's search with marks and the reference's search by lists tell the same walk, so the law's function answers true for all arguments. -/
import Derived.Test.YtmfbhhicioepjaaStateFnExactLongestWalk
import Derived.Test.YtmfbhhicioepjaaHNear
import Derived.Test.YtmfbhhicioepjaaHLongest
import Derived.Test.YtmfbhhicioepjaaQ3
import Derived.Test.YtmfbhhicioepjaaQ4
import Derived.Test.YtmfbhhicioepjaaQ7
namespace Go.Proofs.Ytmfbhhicioepjaa.Pure
open Go.RowKit Go.IntWalk Go.Proofs.Ytmfbhhicioepjaa.Q Go.Proofs.Ytmfbhhicioepjaa.H Go.Proofs.YtmfbhhicioepjaaW.PrintWords Go.Proofs.YtmfbhhicioepjaaW.PrintMore
set_option linter.unusedVariables false
set_option linter.unusedSimpArgs false
/-! ### The longer one of two walks; the best walk -/
def longer (a b : List Int) : List Int := if a.length < b.length then b else a
theorem longer_assoc (a b c : List Int) : longer (longer a b) c = longer a (longer b c) := by
  unfold longer
  by_cases h1 : a.length < b.length <;> by_cases h2 : b.length < c.length <;> by_cases h3 : a.length < c.length <;> simp [h1, h2, h3] <;> omega
theorem longer_le {a b : List Int} {n : Nat} (ha : a.length ≤ n) (hb : b.length ≤ n) : (longer a b).length ≤ n := by unfold longer; split <;> assumption
theorem longer_full {a b : List Int} {n : Nat} (ha : a.length = n) (hb : b.length ≤ n) : longer a b = a := by unfold longer; rw [if_neg (by omega)]
def stepB (path : List Int) (X : Int → List Int) (best : List Int) (d : Int) : List Int := if d ∈ path then best else longer best (X d)
def bestM (nx : Int → List Int) : Nat → List Int → List Int
  | 0, path => path
  | n + 1, path => (nx (rd path ((path.length : Int) - 1))).foldl (stepB path fun d => bestM nx n (path ++ [d])) path
theorem fold_longer (path : List Int) (X : Int → List Int) (ds : List Int) : ∀ out b, ds.foldl (stepB path X) (longer out b) = longer out (ds.foldl (stepB path X) b) := by
  induction ds with
  | nil => intro out b; rfl
  | cons d r ih =>
    intro out b
    rw [List.foldl_cons, List.foldl_cons]
    unfold stepB at ih ⊢
    by_cases h : d ∈ path
    · simp only [h, if_true]; exact ih out b
    · simp only [h, if_false, longer_assoc]; exact ih out _
theorem fold_full (path : List Int) (X : Int → List Int) (n : Nat) (ds : List Int) (hX : ∀ d ∈ ds, ¬ d ∈ path → (X d).length ≤ n) : ∀ acc : List Int, acc.length = n → ds.foldl (stepB path X) acc = acc := by
  induction ds with
  | nil => intro acc _; rfl
  | cons d r ih =>
    intro acc ha
    rw [List.foldl_cons]
    have e : stepB path X acc d = acc := by
      unfold stepB
      by_cases h : d ∈ path
      · rw [if_pos h]
      · rw [if_neg h]; exact longer_full ha (hX d (by simp) h)
    rw [e]
    exact ih (fun y hy => hX y (by simp [hy])) acc ha
theorem fold_le (path : List Int) (X : Int → List Int) (n : Nat) (ds : List Int) (hX : ∀ d ∈ ds, ¬ d ∈ path → (X d).length ≤ n) : ∀ acc : List Int, acc.length ≤ n → (ds.foldl (stepB path X) acc).length ≤ n := by
  induction ds with
  | nil => intro acc h; exact h
  | cons d r ih =>
    intro acc ha
    rw [List.foldl_cons]
    refine ih (fun y hy => hX y (by simp [hy])) _ ?_
    unfold stepB
    by_cases h : d ∈ path
    · rw [if_pos h]; exact ha
    · rw [if_neg h]; exact longer_le ha (hX d (by simp) h)
theorem bestM_le (nx : Int → List Int) : ∀ n path, (bestM nx n path).length ≤ path.length + n := by
  intro n
  induction n with
  | zero => intro path; simp [bestM]
  | succ n ih =>
    intro path
    rw [bestM]
    refine fold_le _ _ _ _ (fun d _ _ => ?_) _ (by omega)
    have := ih (path ++ [d])
    simp at this ⊢; omega
theorem nodup_le {l m : List Int} (hl : l.Nodup) (h : ∀ x ∈ l, x ∈ m) : l.length ≤ m.length := by
  induction l generalizing m with
  | nil => simp
  | cons x r ih =>
    obtain ⟨h1, h2⟩ := List.nodup_cons.1 hl
    have hx := h x (by simp)
    have h3 := ih (m := m.erase x) h2 (fun y hy => (List.mem_erase_of_ne (by rintro rfl; exact h1 hy)).2 (h y (by simp [hy])))
    rw [List.length_erase_of_mem hx] at h3
    have := List.length_pos_of_mem hx
    simp; omega
section
variable {W H : Int} {L : List Int} {A B : Int}
/-- A walk so far: present cells, each once, at least one. -/
def PathOk (W H : Int) (L path : List Int) : Prop := 0 < path.length ∧ path.Nodup ∧ ∀ x ∈ path, hasB W H L x = true
theorem PathOk.le {path : List Int} (h : PathOk W H L path) : path.length ≤ (cellsM W H L).length := nodup_le h.2.1 (fun x hx => mem_cellsM.2 (h.2.2 x hx))
theorem PathOk.more {path : List Int} (h : PathOk W H L path) {d : Int} (hd : hasB W H L d = true) (hn : ¬ d ∈ path) : PathOk W H L (path ++ [d]) := by
  refine ⟨by simp, ?_, fun x hx => ?_⟩
  · rw [List.nodup_append]
    refine ⟨h.2.1, by simp, fun a ha b hb => ?_⟩
    obtain rfl : b = d := by simpa using hb
    rintro rfl
    exact hn ha
  · rcases List.mem_append.1 hx with hx | hx
    · exact h.2.2 x hx
    · obtain rfl : x = d := by simpa using hx
      exact hd
theorem PathOk.last {path : List Int} (h : PathOk W H L path) : hasB W H L (rd path ((path.length : Int) - 1)) = true := by
  have h0 := h.1
  have e : (path.length : Int) - 1 = ((path.length - 1 : Nat) : Int) := by omega
  rw [e, rd_nat path (path.length - 1) (by omega)]
  exact h.2.2 _ (List.getElem_mem _)
theorem PathOk.all {path : List Int} (h : PathOk W H L path) (hf : path.length = (cellsM W H L).length) {d : Int} (hd : hasB W H L d = true) : d ∈ path := by
  by_cases hn : d ∈ path
  · exact hn
  · have := (h.more hd hn).le
    simp at this; omega
/-! ### The reference -/
theorem l1Own_eq (l : List Int) (hl : l.length ≤ 1000) : spec_l1Own.f l = some l := by
  unfold spec_l1Own.f
  simp only [Option.bind_some, List.length_nil, Nat.zero_add, List.nil_append]
  rw [if_pos (by omega)]
theorem specLong_loop (path : List Int) (hp : path.length ≤ 100) (X : Int → List Int) (hX : ∀ d, hasB W H L d = true → ¬ d ∈ path → Ev (fun k => spec_toLongest.f k W H L A B (path ++ [d])) (X d)) (rest : List Int) : ∀ (pre acc : List Int), (∀ x ∈ rest, hasB W H L x = true) → (pre ++ rest).length ≤ 64 →
    Ev (fun k => spec_toLongest.l0 k path acc (pre ++ rest) ((pre ++ rest).length : Int) (pre.length : Int) W H L A B) (rest.foldl (stepB path X) acc) := by
  induction rest with
  | nil =>
    intro pre acc _ _
    refine Ev.step (fun k => by rw [spec_toLongest.l0]) ?_
    simp only [List.append_nil, nlt_end, if_false, List.foldl_nil]
    exact Ev.now _
  | cons d r ih =>
    intro pre acc hr hl
    refine Ev.step (fun k => by rw [spec_toLongest.l0]) ?_
    have h4 : (0 : Int) ≤ (pre.length : Int) := by omega
    have h5 : pre.length ≤ 64 := by simp at hl; omega
    simp only [lt_mid pre d r, h4, if_true, rd_mid, w_succ (show pre.length ≤ 4611686018427387904 by omega)]
    refine Ev.bind (l1Has_ev path d (by omega)) ?_
    have ih' := fun acc => ih (pre ++ [d]) acc (fun y hy => hr y (by simp [hy])) (by simpa using hl)
    rw [List.foldl_cons]
    by_cases hd : d ∈ path
    · have e : path.contains d = true := by simpa using hd
      have e2 : stepB path X acc d = acc := by unfold stepB; rw [if_pos hd]
      simp only [e, if_true, e2]
      simpa using ih' acc
    · have e : path.contains d = false := by simpa using hd
      have e2 : stepB path X acc d = longer acc (X d) := by unfold stepB; rw [if_neg hd]
      have h6 : path.length + ([d] : List Int).length < 17592186044416 := by simp; omega
      simp only [e, Bool.false_eq_true, if_false, l1Own_eq path (by omega), Option.bind_some, h6, if_true, e2]
      refine Ev.bind (hX d (hr d (by simp)) hd) ?_
      by_cases c : ((X d).length : Int) > (acc.length : Int)
      · have e3 : longer acc (X d) = X d := by unfold longer; rw [if_pos (by omega)]
        simp only [c, if_true, e3]
        simpa using ih' (X d)
      · have e3 : longer acc (X d) = acc := by unfold longer; rw [if_neg (by omega)]
        simp only [c, if_false, e3]
        simpa using ih' acc
theorem specLong_ev (g : BoardM W H L) (hl : L.length ≤ 1048576) : ∀ (n : Nat) (path : List Int), PathOk W H L path → n + path.length = (cellsM W H L).length → Ev (fun k => spec_toLongest.f k W H L A B path) (bestM (leapsM W H L A B) n path) := by
  have hc := cellsM_length g
  intro n
  induction n with
  | zero =>
    intro path ok hn
    have hlast := ok.last
    have h0 := ok.1
    refine Ev.step (fun k => by rw [spec_toLongest.f]) ?_
    have e1 : wrap64 ((path.length : Int) - 1) = (path.length : Int) - 1 := wrap64_in _ (by omega)
    have h1 : (0 : Int) ≤ (path.length : Int) - 1 := by omega
    have h2 : (path.length : Int) - 1 < (path.length : Int) := by omega
    simp only [l1Own_eq path (by omega), Option.bind_some, e1, h1, h2, if_true]
    refine Ev.bind (boLeaps_ev g hl A B _ (has_range hlast)) ?_
    have hm : ∀ x ∈ leapsM W H L A B (rd path ((path.length : Int) - 1)), hasB W H L x = true := fun x hx => mem_cellsM.1 (List.mem_filter.1 hx).1
    have h3 := specLong_loop (A := A) (B := B) path (by omega) (fun _ => []) (fun d hd hnd => absurd (ok.all (by omega) hd) hnd) (leapsM W H L A B (rd path ((path.length : Int) - 1))) [] path hm (by simpa using leapsM_length g A B _)
    have e2 : (leapsM W H L A B (rd path ((path.length : Int) - 1))).foldl (stepB path fun _ => []) path = path := fold_full path _ path.length _ (fun d hd hnd => absurd (ok.all (by omega) (hm d hd)) hnd) path rfl
    rw [e2] at h3
    simpa [bestM] using h3
  | succ n ih =>
    intro path ok hn
    have hlast := ok.last
    have h0 := ok.1
    refine Ev.step (fun k => by rw [spec_toLongest.f]) ?_
    have e1 : wrap64 ((path.length : Int) - 1) = (path.length : Int) - 1 := wrap64_in _ (by omega)
    have h1 : (0 : Int) ≤ (path.length : Int) - 1 := by omega
    have h2 : (path.length : Int) - 1 < (path.length : Int) := by omega
    simp only [l1Own_eq path (by omega), Option.bind_some, e1, h1, h2, if_true]
    refine Ev.bind (boLeaps_ev g hl A B _ (has_range hlast)) ?_
    have hm : ∀ x ∈ leapsM W H L A B (rd path ((path.length : Int) - 1)), hasB W H L x = true := fun x hx => mem_cellsM.1 (List.mem_filter.1 hx).1
    have h3 := specLong_loop (A := A) (B := B) path (by omega) (fun d => bestM (leapsM W H L A B) n (path ++ [d])) (fun d hd hnd => ih (path ++ [d]) (ok.more hd hnd) (by simp; omega)) (leapsM W H L A B (rd path ((path.length : Int) - 1))) [] path hm (by simpa using leapsM_length g A B _)
    rw [bestM]
    simpa using h3
/-! ### The program -/
def SeenOk (W H : Int) (seen : List Bool) (path : List Int) : Prop := (seen.length : Int) = W * H ∧ ∀ c, 0 ≤ c → c < W * H → rdOf false seen c = decide (c ∈ path)
theorem rdOf_set (seen : List Bool) (d c : Int) (v : Bool) (hd : 0 ≤ d ∧ d < (seen.length : Int)) (hc : 0 ≤ c ∧ c < (seen.length : Int)) : rdOf false (seen.set d.toNat v) c = if c = d then v else rdOf false seen c := by
  unfold rdOf
  rw [List.getD_eq_getElem?_getD, List.getD_eq_getElem?_getD]
  by_cases h : c = d
  · subst h
    rw [if_pos rfl, List.getElem?_set_self (by omega)]
    rfl
  · rw [if_neg h, List.getElem?_set_ne (by omega)]
theorem SeenOk.more {seen : List Bool} {path : List Int} (h : SeenOk W H seen path) {d : Int} (hd : 0 ≤ d ∧ d < W * H) : SeenOk W H (seen.set d.toNat true) (path ++ [d]) := by
  refine ⟨by rw [List.length_set]; exact h.1, fun c c0 c1 => ?_⟩
  rw [rdOf_set seen d c true (by have := h.1; omega) (by have := h.1; omega)]
  by_cases e : c = d
  · simp [e]
  · rw [if_neg e, h.2 c c0 c1]; simp [e]
theorem set_back (seen : List Bool) (d : Int) (h0 : 0 ≤ d) (h1 : d < (seen.length : Int)) (hf : rdOf false seen d = false) : (seen.set d.toNat true).set d.toNat false = seen := by
  rw [List.set_set]
  refine List.ext_getElem? (fun i => ?_)
  by_cases e : i = d.toNat
  · subst e
    rw [List.getElem?_set_self (by omega)]
    unfold rdOf at hf
    rw [List.getD_eq_getElem?_getD, List.getElem?_eq_getElem (by omega)] at hf
    rw [List.getElem?_eq_getElem (by omega)]
    simpa using hf.symm
  · rw [List.getElem?_set_ne (by omega)]
theorem fullF_eq (cells path out : List Int) (hp : path.length ≤ 1000) : fullF cells path out = some (decide ((longer out path).length = cells.length), longer out path) := by
  unfold fullF longer
  by_cases h : out.length < path.length
  · have h2 : path.length < 17592186044416 := by omega
    simp only [h, h2, if_true]
  · simp only [h, if_false]
theorem implLong_loop (g : BoardM W H L) (path : List Int) (hp : path.length ≤ 100) (seen : List Bool) (hs : SeenOk W H seen path) (X : Int → List Int) (hXl : ∀ d, hasB W H L d = true → ¬ d ∈ path → (X d).length ≤ (cellsM W H L).length)
    (hX : ∀ d acc, hasB W H L d = true → ¬ d ∈ path → acc.length ≤ (cellsM W H L).length → Ev (fun k => impl_graph_walks.f k (nearM W H L A B) (cellsM W H L) (path ++ [d]) (seen.set d.toNat true) acc) (decide ((longer acc (X d)).length = (cellsM W H L).length), seen.set d.toNat true, longer acc (X d))) (rest : List Int) :
    ∀ (pre acc : List Int), (∀ x ∈ rest, hasB W H L x = true) → (pre ++ rest).length ≤ 64 → acc.length ≤ (cellsM W H L).length → acc.length ≠ (cellsM W H L).length →
    Ev (fun k => impl_graph_walks.l0 k (nearM W H L A B) (cellsM W H L) path seen acc (pre ++ rest) (pre.length : Int)) (decide ((rest.foldl (stepB path X) acc).length = (cellsM W H L).length), seen, rest.foldl (stepB path X) acc) := by
  induction rest with
  | nil =>
    intro pre acc _ _ _ hne
    refine Ev.step (fun k => by rw [impl_graph_walks.l0]) ?_
    simp only [List.append_nil, nlt_end, if_false, List.foldl_nil, hne, decide_false]
    exact Ev.now _
  | cons d r ih =>
    intro pre acc hr hl ha hne
    refine Ev.step (fun k => by rw [impl_graph_walks.l0]) ?_
    have h4 : (0 : Int) ≤ (pre.length : Int) := by omega
    have h5 : pre.length ≤ 64 := by simp at hl; omega
    have hdr := has_range (hr d (by simp))
    have hds : d < (seen.length : Int) := by have := hs.1; omega
    simp only [lt_mid pre d r, h4, if_true, rd_mid, w_succ (show pre.length ≤ 4611686018427387904 by omega), hdr.1, hds, hs.2 d hdr.1 hdr.2, decide_eq_true_eq]
    have ih' := fun acc => ih (pre ++ [d]) acc (fun y hy => hr y (by simp [hy])) (by simpa using hl)
    rw [List.foldl_cons]
    by_cases hd : d ∈ path
    · have e2 : stepB path X acc d = acc := by unfold stepB; rw [if_pos hd]
      simp only [hd, if_true, e2]
      simpa using ih' acc ha hne
    · have e2 : stepB path X acc d = longer acc (X d) := by unfold stepB; rw [if_neg hd]
      have h6 : path.length < 17592186044415 := by omega
      simp only [hd, if_false, h6, if_true, e2]
      refine Ev.bind (hX d acc (hr d (by simp)) hd ha) ?_
      have hsl : d < ((seen.set d.toNat true).length : Int) := by rw [List.length_set]; exact hds
      have hback : (seen.set d.toNat true).set d.toNat false = seen := set_back seen d hdr.1 hds (by rw [hs.2 d hdr.1 hdr.2]; simpa using hd)
      have hle := longer_le ha (hXl d (hr d (by simp)) hd)
      simp only [hsl, if_true, hback, decide_eq_true_eq]
      by_cases c : (longer acc (X d)).length = (cellsM W H L).length
      · have e3 := fold_full path X _ r (fun y hy hyn => hXl y (hr y (by simp [hy])) hyn) _ c
        simp only [c, if_true, e3, decide_true]
        exact Ev.now _
      · simp only [c, if_false]
        simpa using ih' _ hle c
theorem implLong_ev (g : BoardM W H L) : ∀ (n : Nat) (path : List Int) (seen : List Bool) (out : List Int), PathOk W H L path → n + path.length = (cellsM W H L).length → SeenOk W H seen path → out.length ≤ (cellsM W H L).length →
    Ev (fun k => impl_graph_walks.f k (nearM W H L A B) (cellsM W H L) path seen out) (decide ((longer out (bestM (leapsM W H L A B) n path)).length = (cellsM W H L).length), seen, longer out (bestM (leapsM W H L A B) n path)) := by
  have hc := cellsM_length g
  intro n
  induction n with
  | zero =>
    intro path seen out ok hn hs ho
    refine Ev.step (fun k => by rw [impl_graph_walks.f]) ?_
    have hf : (longer out path).length = (cellsM W H L).length := by unfold longer; split <;> omega
    simp only [fullF_eq _ path out (by omega), Option.bind_some, hf, decide_true, if_true, bestM]
    exact Ev.now _
  | succ n ih =>
    intro path seen out ok hn hs ho
    have hlast := ok.last
    have h0 := ok.1
    have hm : ∀ x ∈ leapsM W H L A B (rd path ((path.length : Int) - 1)), hasB W H L x = true := fun x hx => mem_cellsM.1 (List.mem_filter.1 hx).1
    have hXl : ∀ d, hasB W H L d = true → ¬ d ∈ path → (bestM (leapsM W H L A B) n (path ++ [d])).length ≤ (cellsM W H L).length := fun d _ _ => by
      have := bestM_le (leapsM W H L A B) n (path ++ [d])
      simp at this; omega
    have hol : (longer out path).length ≤ (cellsM W H L).length := longer_le ho (by omega)
    refine Ev.step (fun k => by rw [impl_graph_walks.f]) ?_
    have e0 : longer out (bestM (leapsM W H L A B) (n + 1) path) = (leapsM W H L A B (rd path ((path.length : Int) - 1))).foldl (stepB path fun d => bestM (leapsM W H L A B) n (path ++ [d])) (longer out path) := by
      rw [bestM, fold_longer]
    rw [e0]
    simp only [fullF_eq _ path out (by omega), Option.bind_some, decide_eq_true_eq]
    by_cases hf : (longer out path).length = (cellsM W H L).length
    · have e3 := fold_full path (fun d => bestM (leapsM W H L A B) n (path ++ [d])) _ (leapsM W H L A B (rd path ((path.length : Int) - 1))) (fun y hy hyn => hXl y (hm y hy) hyn) _ hf
      simp only [hf, if_true, e3, decide_true]
      exact Ev.now _
    · have hnr := has_range hlast
      have hni := (near_in (A := A) (B := B) g hlast).2
      simp only [hf, if_false, h0, if_true, hnr.1, hni, near_at hlast]
      have := implLong_loop (A := A) (B := B) g path (by omega) seen hs (fun d => bestM (leapsM W H L A B) n (path ++ [d])) hXl (fun d acc hd hnd hacc => ih (path ++ [d]) (seen.set d.toNat true) acc (ok.more hd hnd) (by simp; omega) (hs.more (has_range hd)) hacc) (leapsM W H L A B (rd path ((path.length : Int) - 1))) [] (longer out path) hm (by simpa using leapsM_length g A B _) hol hf
      simpa using this
theorem start_ok {c : Int} (h : hasB W H L c = true) : PathOk W H L [c] := by
  refine ⟨by simp, by simp, fun x hx => ?_⟩
  have e : x = c := by simpa using hx
  rw [e]; exact h
theorem start_seen (g : BoardM W H L) {c : Int} (h : hasB W H L c = true) : SeenOk W H ((List.replicate (nearM W H L A B).length false).set c.toNat true) [c] := by
  have ha := g.area
  have hz : SeenOk W H (List.replicate (nearM W H L A B).length false) [] := by
    refine ⟨by rw [List.length_replicate, nearM_length]; omega, fun d _ _ => ?_⟩
    simp [rdOf, List.getD_eq_getElem?_getD, List.getElem?_replicate]
    split <;> rfl
  exact hz.more (has_range h)
theorem from_ev (g : BoardM W H L) (n : Nat) (hn : n + 1 = (cellsM W H L).length) (c : Int) (hc : hasB W H L c = true) (out : List Int) (ho : out.length ≤ (cellsM W H L).length) :
    Ev (fun k => impl_graph_from.f k (nearM W H L A B) (cellsM W H L) c out) (decide ((longer out (bestM (leapsM W H L A B) n [c])).length = (cellsM W H L).length), longer out (bestM (leapsM W H L A B) n [c])) := by
  have ha := g.area
  have h1 : (nearM W H L A B).length ≤ 35184372088832 := by rw [nearM_length]; omega
  have h2 := near_in (A := A) (B := B) g hc
  unfold impl_graph_from.f
  simp only [h1, h2.1, h2.2, if_true]
  exact Ev.bind (implLong_ev g n [c] _ out (start_ok hc) (by simpa using hn) (start_seen g hc) ho) (Ev.now _)
theorem longest_loop (g : BoardM W H L) (n : Nat) (hn : n + 1 = (cellsM W H L).length) (rest : List Int) : ∀ (pre acc : List Int), pre ++ rest = cellsM W H L → acc.length ≤ (cellsM W H L).length →
    Ev (fun k => longestM.l0 k (nearM W H L A B) (cellsM W H L) acc (pre.length : Int)) (rest.foldl (stepB [] fun c => bestM (leapsM W H L A B) n [c]) acc) := by
  have hc := cellsM_length g
  have hXl : ∀ c : Int, (bestM (leapsM W H L A B) n [c]).length ≤ (cellsM W H L).length := fun c => by
    have := bestM_le (leapsM W H L A B) n [c]
    simp at this; omega
  induction rest with
  | nil =>
    intro pre acc hpre _
    refine Ev.step (fun k => by rw [longestM.l0]) ?_
    have e : pre = cellsM W H L := by simpa using hpre
    have h1 : ¬ ((pre.length : Int) < ((cellsM W H L).length : Int)) := by rw [e]; omega
    simp only [h1, if_false, List.foldl_nil]
    exact Ev.now _
  | cons c r ih =>
    intro pre acc hpre ha
    refine Ev.step (fun k => by rw [longestM.l0]) ?_
    have h4 : (0 : Int) ≤ (pre.length : Int) := by omega
    have h1 : ((pre.length : Int) < ((cellsM W H L).length : Int)) := by rw [← hpre]; exact lt_mid pre c r
    have h2 : rd (cellsM W H L) (pre.length : Int) = c := by rw [← hpre]; exact rd_mid pre c r
    have h5 : pre.length ≤ 64 := by have := congrArg List.length hpre; simp at this; omega
    have hm : hasB W H L c = true := mem_cellsM.1 (by rw [← hpre]; simp)
    simp only [h1, h4, if_true, h2, w_succ (show pre.length ≤ 4611686018427387904 by omega)]
    refine Ev.bind (from_ev g n hn c hm acc ha) ?_
    rw [List.foldl_cons]
    have e2 : stepB [] (fun c => bestM (leapsM W H L A B) n [c]) acc c = longer acc (bestM (leapsM W H L A B) n [c]) := by unfold stepB; rw [if_neg (by simp)]
    rw [e2]
    have hle := longer_le ha (hXl c)
    by_cases d : (longer acc (bestM (leapsM W H L A B) n [c])).length = (cellsM W H L).length
    · have e3 := fold_full [] (fun c => bestM (leapsM W H L A B) n [c]) _ r (fun y _ _ => hXl y) _ d
      simp only [d, if_true, e3]
      exact Ev.now _
    · simp only [d, if_false]
      have := ih (pre ++ [c]) (longer acc (bestM (leapsM W H L A B) n [c])) (by simpa using hpre) hle
      simpa using this
theorem specWalk_loop (g : BoardM W H L) (hl : L.length ≤ 1048576) (n : Nat) (hn : n + 1 = (cellsM W H L).length) (rest : List Int) : ∀ (pre acc : List Int), (∀ x ∈ rest, hasB W H L x = true) → (pre ++ rest).length ≤ 64 →
    Ev (fun k => spec_LongestWalk.l0 k acc (pre ++ rest) ((pre ++ rest).length : Int) (pre.length : Int) W H L A B) (rest.foldl (stepB [] fun c => bestM (leapsM W H L A B) n [c]) acc, true) := by
  induction rest with
  | nil =>
    intro pre acc _ _
    refine Ev.step (fun k => by rw [spec_LongestWalk.l0]) ?_
    simp only [List.append_nil, nlt_end, if_false, List.foldl_nil]
    exact Ev.now _
  | cons c r ih =>
    intro pre acc hr hp
    refine Ev.step (fun k => by rw [spec_LongestWalk.l0]) ?_
    have h4 : (0 : Int) ≤ (pre.length : Int) := by omega
    have h5 : pre.length ≤ 64 := by simp at hp; omega
    simp only [lt_mid pre c r, h4, if_true, rd_mid, w_succ (show pre.length ≤ 4611686018427387904 by omega)]
    refine Ev.bind (specLong_ev g hl n [c] (start_ok (hr c (by simp))) (by simpa using hn)) ?_
    rw [List.foldl_cons]
    have e2 : stepB [] (fun c => bestM (leapsM W H L A B) n [c]) acc c = longer acc (bestM (leapsM W H L A B) n [c]) := by unfold stepB; rw [if_neg (by simp)]
    rw [e2]
    have ih' := fun acc => ih (pre ++ [c]) acc (fun y hy => hr y (by simp [hy])) (by simpa using hp)
    by_cases d : ((bestM (leapsM W H L A B) n [c]).length : Int) > (acc.length : Int)
    · have e3 : longer acc (bestM (leapsM W H L A B) n [c]) = bestM (leapsM W H L A B) n [c] := by unfold longer; rw [if_pos (by omega)]
      simp only [d, if_true, e3]
      simpa using ih' (bestM (leapsM W H L A B) n [c])
    · have e3 : longer acc (bestM (leapsM W H L A B) n [c]) = acc := by unfold longer; rw [if_neg (by omega)]
      simp only [d, if_false, e3]
      simpa using ih' acc
end
theorem cells_some {W H : Int} {L : List Int} (g : BoardM W H L) : 0 < (cellsM W H L).length := by
  rcases Nat.eq_zero_or_pos (cellsM W H L).length with h | h
  · exfalso
    have hL : L.length < (W * H).toNat := by have := g.2.2.2.2.1; omega
    have hall : ∀ x ∈ (List.range (W * H).toNat).map Int.ofNat, x ∈ L := fun x hx => by
      by_cases hn : x ∈ L
      · exact hn
      · exfalso
        obtain ⟨i, hi, rfl⟩ := List.mem_map.1 hx
        have hi := List.mem_range.1 hi
        have : Int.ofNat i ∈ cellsM W H L := mem_cellsM.2 (by
          have h1 : (0 : Int) ≤ Int.ofNat i := by show (0 : Int) ≤ (i : Int); omega
          have h2 : Int.ofNat i < W * H := by show (i : Int) < W * H; omega
          simp only [hasB, h1, h2, decide_true, Bool.true_and]
          simpa using hn)
        have := List.length_pos_of_mem this
        omega
    have hnd : ((List.range (W * H).toNat).map Int.ofNat).Nodup := by
      have : ((List.range (W * H).toNat).map Int.ofNat).Pairwise (· < ·) := by
        rw [List.pairwise_map]
        refine List.pairwise_lt_range.imp (fun h => ?_)
        simp; omega
      exact this.imp (fun h => by omega)
    have := nodup_le hnd hall
    simp at this; omega
  · exact h
theorem longestWalk_both (W H : Int) (L : List Int) (A B : Int) (hl : L.length ≤ 1048576) : ∃ (r : List Int) (b : Bool), r.length ≤ 1048576 ∧ Ev (fun k => spec_LongestWalk.f k W H L A B) (r, b) ∧ Ev (fun k => impl_LongestWalk.f k W H L A B) (r, b) := by
  by_cases t : Two W H L A B
  · have hc := cellsM_length t.1
    by_cases hm : ((cellsM W H L).length : Int) > 12
    · refine ⟨[], false, by simp, ?_, ?_⟩
      · unfold spec_LongestWalk.f
        refine Ev.bind (two_yes t hl) ?_
        simp only [if_true]
        refine Ev.bind (boCells_ev t.1 hl) ?_
        simp only [hm, decide_true]
        refine Ev.step (fun k => by rw [spec_LongestWalk.j0]) ?_
        simp only [if_true]
        exact Ev.now _
      · unfold impl_LongestWalk.f impl_tourGraph.f
        refine Ev.bind (a := (([] : List Int), ([] : List (List Int)), false)) ?_ ?_
        · refine Ev.bind (graphOf_two t hl) ?_
          simp only [if_true, hm]
          exact Ev.now _
        · simp only [Bool.false_eq_true, if_false]
          exact Ev.now _
    · have hpos := cells_some t.1
      obtain ⟨n, hn⟩ : ∃ n, n + 1 = (cellsM W H L).length := ⟨(cellsM W H L).length - 1, by omega⟩
      have hXl : ∀ c : Int, (bestM (leapsM W H L A B) n [c]).length ≤ (cellsM W H L).length := fun c => by
        have := bestM_le (leapsM W H L A B) n [c]
        simp at this; omega
      refine ⟨(cellsM W H L).foldl (stepB [] fun c => bestM (leapsM W H L A B) n [c]) [], true, Nat.le_trans (fold_le _ _ (cellsM W H L).length _ (fun d _ _ => hXl d) [] (by simp)) (by omega), ?_, ?_⟩
      · unfold spec_LongestWalk.f
        refine Ev.bind (two_yes t hl) ?_
        simp only [if_true]
        refine Ev.bind (boCells_ev t.1 hl) ?_
        simp only [hm, decide_false]
        refine Ev.step (fun k => by rw [spec_LongestWalk.j0]) ?_
        simp only [Bool.false_eq_true, if_false]
        refine Ev.bind (boCells_ev t.1 hl) ?_
        have := specWalk_loop (A := A) (B := B) t.1 hl n hn (cellsM W H L) [] [] (fun x hx => mem_cellsM.1 hx) (by simpa using hc)
        simpa using this
      · unfold impl_LongestWalk.f impl_tourGraph.f
        refine Ev.bind (a := (cellsM W H L, nearM W H L A B, true)) ?_ ?_
        · refine Ev.bind (graphOf_two t hl) ?_
          simp only [if_true, hm, if_false]
          exact Ev.now _
        · simp only [if_true]
          have := longest_loop (A := A) (B := B) t.1 n hn (cellsM W H L) [] [] (by simp) (by simp)
          refine Ev.bind (a := (cellsM W H L).foldl (stepB [] fun c => bestM (leapsM W H L A B) n [c]) []) ?_ (Ev.now _)
          unfold impl_graph_longest.f longestM.f
          simpa using this
  · refine ⟨[], false, by simp, ?_, ?_⟩
    · unfold spec_LongestWalk.f
      refine Ev.bind (two_no t hl) ?_
      simp only [Bool.false_eq_true, if_false]
      refine Ev.step (fun k => by rw [spec_LongestWalk.j0]) ?_
      simp only [if_true]
      exact Ev.now _
    · unfold impl_LongestWalk.f impl_tourGraph.f
      refine Ev.bind (a := (([] : List Int), ([] : List (List Int)), false)) ?_ ?_
      · refine Ev.bind (graphOf_not t hl) ?_
        simp only [Bool.false_eq_true, if_false]
        exact Ev.now _
      · simp only [Bool.false_eq_true, if_false]
        exact Ev.now _
theorem FnExactLongestWalk : FnExactLongestWalkSaid := by
  intro a0_0 a0_1 l0_2 a1_0 a1_1 _ _ hlen_l0_2 _ _ _
  by_cases hb_l0_2 : 1048576 < l0_2.length
  · refine ⟨0, ?_⟩
    simp [laws_FnExactLongestWalk.f, szBoard_big a0_0 a0_1 l0_2 hb_l0_2 hlen_l0_2]
  have hs_l0_2 : l0_2.length ≤ 1048576 := by omega
  obtain ⟨r, b, hr, hs, hi⟩ := longestWalk_both a0_0 a0_1 l0_2 a1_0 a1_1 hs_l0_2
  refine rounds_of ?_
  have n0 : ¬ (1048576 - (l0_2.length : Int) < 0) := by omega
  have n1 : ¬ (1 + (l0_2.length : Int) < 0) := by omega
  have nr : ¬ (1 + (r.length : Int) < 0) := by omega
  unfold laws_FnExactLongestWalk.f
  repeat (first
    | exact Ev.now _
    | refine Ev.bind (toBoard_ev _ _ _ (by assumption)) ?_
    | refine Ev.bind (eqBoard_ev _ _ _ (by assumption)) ?_
    | refine Ev.bind (markBoard_ev _ _ _ (by assumption)) ?_
    | refine Ev.bind (toIntS_ev _ (by assumption)) ?_
    | refine Ev.bind (eqIntS_ev _ (by assumption)) ?_
    | refine Ev.bind (markIntS_ev _ (by assumption)) ?_
    | refine Ev.bind (heldIntS_ev _ (by assumption)) ?_
    | refine Ev.bind (markIntS_any _ _ (by assumption) (by omega)) ?_
    | refine Ev.bind hs ?_
    | refine Ev.bind hi ?_
    | simp only [Option.bind_some, if_true, if_false, bne_self_eq_false, Bool.false_eq_true, ne_eq, not_true_eq_false, not_false_eq_true, szBoard_fit _ _ _ hs_l0_2, laws_toLeaper.f, n0, n1, nr]
    | (refine Ev.step (fun k => by rw [laws_FnExactLongestWalk.j0]) ?_)
    | (refine Ev.step (fun k => by rw [laws_FnExactLongestWalk.j1]) ?_)
    | (refine Ev.step (fun k => by rw [laws_FnExactLongestWalk.j2]) ?_))
end Go.Proofs.Ytmfbhhicioepjaa.Pure

/- FillPeaceful: the reference keeps its list in order, the program appends and sorts at the end; whether a set is peaceful does not hang on its order, so both tell the same and the law's function answers true for all arguments. -/
import Derived.Test.YtemaokhlolimhaaStateFnExactFillPeaceful
import Derived.Test.YtemaokhlolimhaaHSet
import Derived.Test.YtemaokhlolimhaaHNear
import Derived.Test.YtemaokhlolimhaaHSteps
import Derived.Test.YtemaokhlolimhaaQ4
import Derived.Test.YtemaokhlolimhaaQ8
import Derived.Test.YtemaokhlolimhaaQ3
namespace Go.Proofs.Ytemaokhlolimhaa.Pure
open Go.RowKit Go.IntWalk Go.Proofs.Ytemaokhlolimhaa.Q Go.Proofs.Ytemaokhlolimhaa.H Go.Proofs.YtemaokhlolimhaaW.PrintWords Go.Proofs.YtemaokhlolimhaaW.PrintMore
set_option linter.unusedVariables false
set_option linter.unusedSimpArgs false
def peaceR (W A B : Int) : List Int → List Int → Bool
  | _, [] => true
  | pre, c :: r => if pre.any (isB W A B c) then false else peaceR W A B (pre ++ [c]) r
theorem take_pre {pre r : List Int} {c : Int} : (pre ++ c :: r).take ((pre.length : Int)).toNat = pre := by simp
theorem guPeace_l1 {W H : Int} {L : List Int} (g : BoardM W H L) (A B : Int) (s : List Int) (c : Int) (hc : hasB W H L c = true) (i : Nat) (hi : i ≤ 64) (R : Bool) (rest pre : List Int) (hr : ∀ x ∈ rest, hasB W H L x = true) (hp : (pre ++ rest).length ≤ 64)
    (hR : Ev (fun k => spec_guPeace.l0 k s s (s.length : Int) ((i + 1 : Nat) : Int) W H L A B) R) :
    Ev (fun k => spec_guPeace.l1 k s c s (s.length : Int) (i : Int) (pre ++ rest) ((pre ++ rest).length : Int) (pre.length : Int) W H L A B) (if rest.any (isB W A B c) then false else R) := by
  induction rest generalizing pre with
  | nil =>
    refine Ev.step (fun k => by rw [spec_guPeace.l1]) ?_
    simp only [List.append_nil, nlt_end, if_false, w_succ (show i ≤ 4611686018427387904 by omega), List.any_nil, Bool.false_eq_true]
    exact hR
  | cons x r ih =>
    refine Ev.step (fun k => by rw [spec_guPeace.l1]) ?_
    have h0 : (0 : Int) ≤ (pre.length : Int) := by omega
    have h5 : pre.length ≤ 64 := by simp at hp; omega
    simp only [lt_mid pre x r, h0, if_true, rd_mid, boIs_eq g A B c x (has_range hc) (has_range (hr x (by simp))), Option.bind_some, w_succ (show pre.length ≤ 4611686018427387904 by omega), List.any_cons]
    rcases Bool.eq_false_or_eq_true (isB W A B c x) with hx | hx
    · simp only [hx, if_true, Bool.true_or]; exact Ev.now _
    · simp only [hx, Bool.false_eq_true, if_false, Bool.false_or]
      have := ih (pre ++ [x]) (fun y hy => hr y (by simp [hy])) (by simpa using hp)
      simpa using this
theorem guPeace_l0 {W H : Int} {L : List Int} (g : BoardM W H L) (A B : Int) (rest pre : List Int) (hr : ∀ x ∈ pre ++ rest, hasB W H L x = true) (hp : (pre ++ rest).length ≤ 64) :
    Ev (fun k => spec_guPeace.l0 k (pre ++ rest) (pre ++ rest) ((pre ++ rest).length : Int) (pre.length : Int) W H L A B) (peaceR W A B pre rest) := by
  induction rest generalizing pre with
  | nil =>
    refine Ev.step (fun k => by rw [spec_guPeace.l0]) ?_
    simp only [List.append_nil, nlt_end, if_false, peaceR]
    exact Ev.now _
  | cons c r ih =>
    refine Ev.step (fun k => by rw [spec_guPeace.l0]) ?_
    have h0 : (0 : Int) ≤ (pre.length : Int) := by omega
    have h5 : pre.length ≤ 64 := by simp at hp; omega
    have h6 : (pre.length : Int) ≤ ((pre ++ c :: r).length : Int) := by simp; omega
    simp only [lt_mid pre c r, h0, h6, if_true, rd_mid, take_pre, peaceR]
    have := ih (pre ++ [c]) (by simpa using hr) (by simpa using hp)
    have := guPeace_l1 g A B (pre ++ c :: r) c (hr c (by simp)) pre.length h5 (peaceR W A B (pre ++ [c]) r) pre [] (fun x hx => hr x (by simp [hx])) (by simpa using h5) (by simpa using this)
    simpa using this
theorem peaceful_l1 {W H : Int} {L : List Int} (g : BoardM W H L) (A B : Int) (s : List Int) (c : Int) (hc : hasB W H L c = true) (i : Nat) (hi : i ≤ 64) (R : Bool) (rest pre : List Int) (hr : ∀ x ∈ rest, hasB W H L x = true) (hp : (pre ++ rest).length ≤ 64)
    (hR : Ev (fun k => impl_graph_peaceful.l0 k s s (s.length : Int) ((i + 1 : Nat) : Int) W H L A B (cellsM W H L) (nearM W H L A B)) R) :
    Ev (fun k => impl_graph_peaceful.l1 k s c s (s.length : Int) (i : Int) (pre ++ rest) ((pre ++ rest).length : Int) (pre.length : Int) W H L A B (cellsM W H L) (nearM W H L A B)) (if rest.any (isB W A B c) then false else R) := by
  induction rest generalizing pre with
  | nil =>
    refine Ev.step (fun k => by rw [impl_graph_peaceful.l1]) ?_
    simp only [List.append_nil, nlt_end, if_false, w_succ (show i ≤ 4611686018427387904 by omega), List.any_nil, Bool.false_eq_true]
    exact hR
  | cons x r ih =>
    refine Ev.step (fun k => by rw [impl_graph_peaceful.l1]) ?_
    have h0 : (0 : Int) ≤ (pre.length : Int) := by omega
    have h5 : pre.length ≤ 64 := by simp at hp; omega
    simp only [lt_mid pre x r, h0, if_true, rd_mid, w_succ (show pre.length ≤ 4611686018427387904 by omega), List.any_cons]
    refine Ev.bind (leaps_ev g c x hc (hr x (by simp))) ?_
    rcases Bool.eq_false_or_eq_true (isB W A B c x) with hx | hx
    · simp only [hx, if_true, Bool.true_or]; exact Ev.now _
    · simp only [hx, Bool.false_eq_true, if_false, Bool.false_or]
      have := ih (pre ++ [x]) (fun y hy => hr y (by simp [hy])) (by simpa using hp)
      simpa using this
theorem peaceful_l0 {W H : Int} {L : List Int} (g : BoardM W H L) (A B : Int) (rest pre : List Int) (hr : ∀ x ∈ pre ++ rest, hasB W H L x = true) (hp : (pre ++ rest).length ≤ 64) :
    Ev (fun k => impl_graph_peaceful.l0 k (pre ++ rest) (pre ++ rest) ((pre ++ rest).length : Int) (pre.length : Int) W H L A B (cellsM W H L) (nearM W H L A B)) (peaceR W A B pre rest) := by
  induction rest generalizing pre with
  | nil =>
    refine Ev.step (fun k => by rw [impl_graph_peaceful.l0]) ?_
    simp only [List.append_nil, nlt_end, if_false, peaceR]
    exact Ev.now _
  | cons c r ih =>
    refine Ev.step (fun k => by rw [impl_graph_peaceful.l0]) ?_
    have h0 : (0 : Int) ≤ (pre.length : Int) := by omega
    have h5 : pre.length ≤ 64 := by simp at hp; omega
    have h6 : (pre.length : Int) ≤ ((pre ++ c :: r).length : Int) := by simp; omega
    simp only [lt_mid pre c r, h0, h6, if_true, rd_mid, take_pre, peaceR]
    have := ih (pre ++ [c]) (by simpa using hr) (by simpa using hp)
    have := peaceful_l1 g A B (pre ++ c :: r) c (hr c (by simp)) pre.length h5 (peaceR W A B (pre ++ [c]) r) pre [] (fun x hx => hr x (by simp [hx])) (by simpa using h5) (by simpa using this)
    simpa using this
theorem guPeace_any {W H : Int} {L : List Int} (g : BoardM W H L) (A B : Int) (s : List Int) (h : ∀ x ∈ s, hasB W H L x = true) (hs : s.length ≤ 64) : Ev (fun k => spec_guPeace.f k W H L A B s) (peaceR W A B [] s) := by
  unfold spec_guPeace.f
  simpa using guPeace_l0 g A B s [] (by simpa using h) (by simpa using hs)
theorem peaceful_any {W H : Int} {L : List Int} (g : BoardM W H L) (A B : Int) (s : List Int) (h : ∀ x ∈ s, hasB W H L x = true) (hs : s.length ≤ 64) : Ev (fun k => impl_graph_peaceful.f k W H L A B (cellsM W H L) (nearM W H L A B) s) (peaceR W A B [] s) := by
  unfold impl_graph_peaceful.f
  simpa using peaceful_l0 g A B s [] (by simpa using h) (by simpa using hs)

/-! ### Peace does not hang on the order -/
theorem isB_turned (W A B x y : Int) : isB W A B x y = isB W A B y x := by
  unfold isB
  have h1 : ((x % W - y % W).natAbs : Int) = ((y % W - x % W).natAbs : Int) := by omega
  have h2 : ((x / W - y / W).natAbs : Int) = ((y / W - x / W).natAbs : Int) := by omega
  rw [h1, h2]
theorem peaceR_iff (W A B : Int) (s : List Int) : ∀ pre, peaceR W A B pre s = true ↔ (∀ x ∈ pre, ∀ c ∈ s, isB W A B x c = false) ∧ s.Pairwise (fun x c => isB W A B x c = false) := by
  induction s with
  | nil => intro pre; simp [peaceR]
  | cons c r ih =>
    intro pre
    rw [peaceR, List.pairwise_cons]
    by_cases h : pre.any (isB W A B c) = true
    · rw [if_pos h]
      obtain ⟨x, hx, hc⟩ := List.any_eq_true.1 h
      constructor
      · intro h'; cases h'
      · rintro ⟨h1, _⟩
        have := h1 x hx c (by simp)
        rw [isB_turned, hc] at this
        cases this
    · rw [if_neg h, ih (pre ++ [c])]
      have hn : ∀ x ∈ pre, isB W A B x c = false := fun x hx => by
        rcases Bool.eq_false_or_eq_true (isB W A B x c) with h9 | h9
        · exact absurd (List.any_eq_true.2 ⟨x, hx, by rw [isB_turned]; exact h9⟩) h
        · exact h9
      constructor
      · rintro ⟨h1, h2⟩
        refine ⟨fun x hx d hd => ?_, fun d hd => h1 c (by simp) d hd, h2⟩
        rcases List.mem_cons.1 hd with rfl | hd
        · exact hn x hx
        · exact h1 x (by simp [hx]) d hd
      · rintro ⟨h1, h2, h3⟩
        refine ⟨fun x hx d hd => ?_, h3⟩
        rcases List.mem_append.1 hx with hx | hx
        · exact h1 x hx d (by simp [hd])
        · obtain rfl := List.mem_singleton.1 hx
          exact h2 d hd
theorem peaceR_perm {W A B : Int} {s t : List Int} (h : s.Perm t) : peaceR W A B [] s = peaceR W A B [] t := by
  rw [Bool.eq_iff_iff, peaceR_iff, peaceR_iff]
  have := h.pairwise_iff (R := fun x c => isB W A B x c = false) (fun {x y} h => by rw [isB_turned]; exact h)
  simp only [List.not_mem_nil, false_implies, implies_true, true_and, this]

/-! ### A number put into an ordered list -/
def putM (c : Int) : List Int → List Int
  | [] => [c]
  | x :: r => if x < c then x :: putM c r else if x = c then x :: r else c :: x :: r
theorem putM_perm (c : Int) (s : List Int) (h : c ∉ s) : (putM c s).Perm (c :: s) := by
  induction s with
  | nil => exact List.Perm.refl _
  | cons x r ih =>
    rw [putM]
    by_cases h1 : x < c
    · rw [if_pos h1]
      exact ((ih (fun h2 => h (by simp [h2]))).cons x).trans (List.Perm.swap c x r)
    · have h2 : ¬ x = c := fun e => h (by simp [e])
      rw [if_neg h1, if_neg h2]
theorem putM_sorted (c : Int) (s : List Int) (h : c ∉ s) (hs : s.Pairwise (· < ·)) : (putM c s).Pairwise (· < ·) := by
  induction s with
  | nil => exact List.pairwise_singleton _ _
  | cons x r ih =>
    have hx := (List.pairwise_cons.1 hs).1
    rw [putM]
    have hr : c ∉ r := fun h2 => h (by simp [h2])
    by_cases h1 : x < c
    · rw [if_pos h1]
      refine List.pairwise_cons.2 ⟨fun y hy => ?_, ih hr (List.pairwise_cons.1 hs).2⟩
      rcases List.mem_cons.1 ((putM_perm c r hr).mem_iff.1 hy) with rfl | hy
      · exact h1
      · exact hx y hy
    · have h2 : ¬ x = c := fun e => h (by simp [e])
      rw [if_neg h1, if_neg h2]
      refine List.pairwise_cons.2 ⟨fun y hy => ?_, hs⟩
      rcases List.mem_cons.1 hy with rfl | hy
      · omega
      · have := hx y hy; omega
theorem l1Put_loop (c : Int) (rest pre : List Int) (hl : (pre ++ rest).length ≤ 1048576) : Ev (fun k => spec_l1Put.l0 k (pre ++ rest) c (pre.length : Int)) (pre ++ putM c rest) := by
  induction rest generalizing pre with
  | nil =>
    refine Ev.step (fun k => by rw [spec_l1Put.l0]) ?_
    have t1 : ∀ r : List Int, (pre ++ r).take ((pre.length : Int)).toNat = pre := by intro r; simp
    have t2 : ∀ r : List Int, (pre ++ r).drop ((pre.length : Int)).toNat = r := by intro r; simp
    have h0 : (0 : Int) ≤ (pre.length : Int) := by omega
    have h1 : pre.length < 17592186044416 := by simp at hl; omega
    have h2 : (pre ++ [c]).length < 17592186044416 := by simp at hl ⊢; omega
    simp only [List.append_nil] at t1 t2 ⊢
    have t1' := t1 []; have t2' := t2 []
    simp only [List.append_nil] at t1' t2'
    simp only [nlt_end, if_false, Option.bind_some, h0, Int.le_refl, if_true, t1', t2', List.nil_append, List.length_nil, Nat.zero_add, h1, Nat.add_zero, h2, List.append_nil, putM]
    exact Ev.now _
  | cons x r ih =>
    refine Ev.step (fun k => by rw [spec_l1Put.l0]) ?_
    have t1 : ∀ r : List Int, (pre ++ r).take ((pre.length : Int)).toNat = pre := by intro r; simp
    have t2 : ∀ r : List Int, (pre ++ r).drop ((pre.length : Int)).toNat = r := by intro r; simp
    have h0 : (0 : Int) ≤ (pre.length : Int) := by omega
    have h5 : pre.length ≤ 4611686018427387904 := by simp at hl; omega
    simp only [lt_mid pre x r, h0, if_true, rd_mid, w_succ h5, putM]
    by_cases h1 : x < c
    · simp only [h1, if_true]
      have := ih (pre ++ [x]) (by simpa using hl)
      simpa using this
    · simp only [h1, if_false]
      by_cases h2 : x = c
      · simp only [h2, if_true]; exact Ev.now _
      · have g1 : (pre.length : Int) ≤ ((pre ++ x :: r).length : Int) := by have := lt_mid pre x r; omega
        have g2 : pre.length < 17592186044416 := by simp at hl; omega
        have g3 : (pre ++ [c]).length + (x :: r).length < 17592186044416 := by simp at hl ⊢; omega
        simp only [h2, if_false, Option.bind_some, g1, if_true, t1, t2, List.nil_append, List.length_nil, Nat.zero_add, g2, g3]
        have e : pre ++ [c] ++ x :: r = pre ++ c :: x :: r := by simp
        rw [e]
        exact Ev.now _
theorem l1Put_ev (c : Int) (s : List Int) (hl : s.length ≤ 1048576) : Ev (fun k => spec_l1Put.f k s c) (putM c s) := by
  unfold spec_l1Put.f
  simpa using l1Put_loop c s [] (by simpa using hl)

/-! ### The two loops -/
def fillM (W A B : Int) : List Int → List Int → List Int
  | [], s => s
  | c :: r, s => if s.contains c = true then fillM W A B r s else if peaceR W A B [] (putM c s) = true then fillM W A B r (putM c s) else fillM W A B r s
theorem setM_put {W H : Int} {L s : List Int} {c : Int} (h : SetM W H L s) (hc : hasB W H L c = true) (hn : c ∉ s) : SetM W H L (putM c s) := by
  refine ⟨fun x hx => ?_, putM_sorted c s hn h.2⟩
  rcases List.mem_cons.1 ((putM_perm c s hn).mem_iff.1 hx) with rfl | hx
  · exact hc
  · exact h.1 x hx
theorem fillM_set {W H A B : Int} {L : List Int} (rest : List Int) : ∀ s, (∀ c ∈ rest, hasB W H L c = true) → SetM W H L s → SetM W H L (fillM W A B rest s) := by
  induction rest with
  | nil => intro s _ h; exact h
  | cons c r ih =>
    intro s hc h
    rw [fillM]
    have hr : ∀ c ∈ r, hasB W H L c = true := fun d hd => hc d (by simp [hd])
    by_cases h1 : s.contains c = true
    · rw [if_pos h1]; exact ih s hr h
    · have hn : c ∉ s := fun h2 => h1 (List.contains_iff_mem.2 h2)
      rw [if_neg h1]
      split
      · exact ih _ hr (setM_put h (hc c (by simp)) hn)
      · exact ih s hr h
theorem specFill_loop {W H : Int} {L : List Int} (g : BoardM W H L) (A B : Int) (rest pre s : List Int) (hr : ∀ c ∈ rest, hasB W H L c = true) (hp : (pre ++ rest).length ≤ 64) (h : SetM W H L s) :
    Ev (fun k => spec_FillPeaceful.l0 k s (pre ++ rest) ((pre ++ rest).length : Int) (pre.length : Int) W H L A B) (fillM W A B rest s, true) := by
  induction rest generalizing pre s with
  | nil =>
    refine Ev.step (fun k => by rw [spec_FillPeaceful.l0]) ?_
    simp only [List.append_nil, nlt_end, if_false, fillM]
    exact Ev.now _
  | cons c r ih =>
    refine Ev.step (fun k => by rw [spec_FillPeaceful.l0]) ?_
    have h0 : (0 : Int) ≤ (pre.length : Int) := by omega
    have h5 : pre.length ≤ 4611686018427387904 := by simp at hp; omega
    have h64 := setM_small g h
    have hc := hr c (by simp)
    have hr' : ∀ c ∈ r, hasB W H L c = true := fun d hd => hr d (by simp [hd])
    simp only [lt_mid pre c r, h0, if_true, rd_mid, w_succ h5, fillM]
    refine Ev.bind (l1Put_ev c s (by omega)) ?_
    refine Ev.bind (l1Has_ev s c (by omega)) ?_
    by_cases h1 : s.contains c = true
    · simp only [h1, if_true]
      have := ih (pre ++ [c]) s hr' (by simpa using hp) h
      simpa using this
    · have hn : c ∉ s := fun h2 => h1 (List.contains_iff_mem.2 h2)
      have hput := setM_put h hc hn
      simp only [h1, if_false]
      refine Ev.bind (guPeace_any g A B (putM c s) hput.1 (setM_small g hput)) ?_
      by_cases h2 : peaceR W A B [] (putM c s) = true
      · simp only [h2, if_true]
        have := ih (pre ++ [c]) (putM c s) hr' (by simpa using hp) hput
        simpa using this
      · simp only [h2, if_false]
        have := ih (pre ++ [c]) s hr' (by simpa using hp) h
        simpa using this
theorem implFill_loop {W H : Int} {L : List Int} (g : BoardM W H L) (A B : Int) (rest pre p s : List Int) (hr : ∀ c ∈ rest, hasB W H L c = true) (hp : (pre ++ rest).length ≤ 64) (h : SetM W H L s) (hq : p.Perm s) :
    Ev (fun k => impl_FillPeaceful.l0 k p (pre ++ rest) ((pre ++ rest).length : Int) (pre.length : Int) W H L A B (cellsM W H L) (nearM W H L A B)) (fillM W A B rest s, true) := by
  induction rest generalizing pre p s with
  | nil =>
    refine Ev.step (fun k => by rw [impl_FillPeaceful.l0]) ?_
    have h64 := setM_small g h
    have h6 : p.length < 4611686018427387904 := by rw [hq.length_eq]; omega
    have hs : sortL p = s := sort_key (hq.nodup_iff.2 (h.2.imp (fun h => by omega))) h.2 (fun x => hq.mem_iff)
    simp only [List.append_nil, nlt_end, if_false, fillM, slices_Sort_int_int.f, h6, if_true, Option.bind_some, hs]
    exact Ev.now _
  | cons c r ih =>
    refine Ev.step (fun k => by rw [impl_FillPeaceful.l0]) ?_
    have h0 : (0 : Int) ≤ (pre.length : Int) := by omega
    have h5 : pre.length ≤ 4611686018427387904 := by simp at hp; omega
    have h64 := setM_small g h
    have hpl : p.length ≤ 64 := by rw [hq.length_eq]; exact h64
    have hc := hr c (by simp)
    have hr' : ∀ c ∈ r, hasB W H L c = true := fun d hd => hr d (by simp [hd])
    simp only [lt_mid pre c r, h0, if_true, rd_mid, w_succ h5, fillM]
    refine Ev.bind (contains_ev p c (by omega)) ?_
    have he : p.contains c = s.contains c := by rw [Bool.eq_iff_iff, List.contains_iff_mem, List.contains_iff_mem, hq.mem_iff]
    rw [he]
    by_cases h1 : s.contains c = true
    · simp only [h1, if_true]
      have := ih (pre ++ [c]) p s hr' (by simpa using hp) h hq
      simpa using this
    · have hn : c ∉ s := fun h2 => h1 (List.contains_iff_mem.2 h2)
      have hput := setM_put h hc hn
      have h7 : p.length < 17592186044416 := by omega
      have hperm : (p ++ [c]).Perm (putM c s) := ((List.perm_append_comm).trans (hq.cons c)).trans (putM_perm c s hn).symm
      simp only [h1, if_false, slices_Clone_int_int.f, h7, if_true, Option.bind_some]
      have hpe := peaceful_any g A B (p ++ [c]) (fun x hx => hput.1 x (hperm.mem_iff.1 hx)) (by rw [hperm.length_eq]; exact setM_small g hput)
      rw [peaceR_perm hperm] at hpe
      refine Ev.bind hpe ?_
      by_cases h2 : peaceR W A B [] (putM c s) = true
      · simp only [h2, if_true]
        have := ih (pre ++ [c]) (p ++ [c]) (putM c s) hr' (by simpa using hp) hput hperm
        simpa using this
      · simp only [h2, if_false]
        have := ih (pre ++ [c]) p s hr' (by simpa using hp) h hq
        simpa using this
theorem fillPeaceful_both (W H : Int) (L : List Int) (A B : Int) (s : List Int) (hl : L.length ≤ 1048576) (hs : s.length ≤ 1048576) : ∃ (r : List Int) (b : Bool), r.length ≤ 1048576 ∧ Ev (fun k => spec_FillPeaceful.f k W H L A B s) (r, b) ∧ Ev (fun k => impl_FillPeaceful.f k W H L A B s) (r, b) := by
  by_cases t : Two W H L A B ∧ SetM W H L s
  · have h64 := setM_small t.1.1 t.2
    by_cases hp : peaceR W A B [] s = true
    · have hcells : ∀ c ∈ cellsM W H L, hasB W H L c = true := fun c hc => mem_cellsM.1 hc
      have hset := fillM_set (A := A) (B := B) (cellsM W H L) s hcells t.2
      refine ⟨fillM W A B (cellsM W H L) s, true, by have := setM_small t.1.1 hset; omega, ?_, ?_⟩
      · unfold spec_FillPeaceful.f
        refine Ev.bind (guAsked_yes t.1 hl s hs t.2) ?_
        simp only [if_true]
        refine Ev.bind (guPeace_any t.1.1 A B s t.2.1 h64) ?_
        refine Ev.step (fun k => by rw [spec_FillPeaceful.j0]) ?_
        have h7 : s.length < 17592186044416 := by omega
        simp only [hp, Bool.not_true, Bool.false_eq_true, if_false, spec_l1Own.f, Option.bind_some, List.length_nil, Nat.zero_add, h7, if_true, List.nil_append]
        refine Ev.bind (boCells_ev t.1.1 hl) ?_
        have := specFill_loop t.1.1 A B (cellsM W H L) [] s hcells (by simpa using cellsM_length t.1.1) t.2
        simpa using this
      · unfold impl_FillPeaceful.f
        refine Ev.bind (setGraph_yes t.1 hl s hs t.2) ?_
        simp only [if_true]
        refine Ev.bind (peaceful_any t.1.1 A B s t.2.1 h64) ?_
        have h7 : s.length < 17592186044416 := by omega
        simp only [hp, if_true, slices_Clone_int_int.f, h7, Option.bind_some]
        have := implFill_loop t.1.1 A B (cellsM W H L) [] s s hcells (by simpa using cellsM_length t.1.1) t.2 (List.Perm.refl _)
        simpa using this
    · refine ⟨[], false, by simp, ?_, ?_⟩
      · unfold spec_FillPeaceful.f
        refine Ev.bind (guAsked_yes t.1 hl s hs t.2) ?_
        simp only [if_true]
        refine Ev.bind (guPeace_any t.1.1 A B s t.2.1 h64) ?_
        refine Ev.step (fun k => by rw [spec_FillPeaceful.j0]) ?_
        simp only [Bool.not_eq_true] at hp
        simp only [hp, Bool.not_false, if_true]
        exact Ev.now _
      · unfold impl_FillPeaceful.f
        refine Ev.bind (setGraph_yes t.1 hl s hs t.2) ?_
        simp only [if_true]
        refine Ev.bind (peaceful_any t.1.1 A B s t.2.1 h64) ?_
        simp only [hp, if_false]
        exact Ev.now _
  · refine ⟨[], false, by simp, ?_, ?_⟩
    · unfold spec_FillPeaceful.f
      refine Ev.bind (guAsked_no hl s hs t) ?_
      simp only [Bool.false_eq_true, if_false]
      refine Ev.step (fun k => by rw [spec_FillPeaceful.j0]) ?_
      simp only [if_true]
      exact Ev.now _
    · unfold impl_FillPeaceful.f
      refine Ev.bind (setGraph_no hl s hs t) ?_
      simp only [Bool.false_eq_true, if_false]
      exact Ev.now _
theorem FnExactFillPeaceful : FnExactFillPeacefulSaid := by
  intro a0_0 a0_1 l0_2 a1_0 a1_1 l2 _ _ hlen_l0_2 _ _ _ hlen_l2 _
  by_cases hb_l2 : (l2.length : Int) > 1048576
  · refine ⟨0, ?_⟩
    simp [laws_FnExactFillPeaceful.f, hb_l2]
  have hs_l2 : l2.length ≤ 1048576 := by omega
  by_cases hb_l0_2 : 1048576 < l0_2.length
  · refine ⟨0, ?_⟩
    simp [laws_FnExactFillPeaceful.f, szBoard_big a0_0 a0_1 l0_2 hb_l0_2 hlen_l0_2, hb_l2]
  have hs_l0_2 : l0_2.length ≤ 1048576 := by omega
  obtain ⟨r, b, hr, hs, hi⟩ := fillPeaceful_both a0_0 a0_1 l0_2 a1_0 a1_1 l2 hs_l0_2 hs_l2
  refine rounds_of ?_
  have n0 : ¬ (1048576 - (l0_2.length : Int) < 0) := by omega
  have n1 : ¬ (1 + (l0_2.length : Int) < 0) := by omega
  have n2 : ¬ (1 + (l2.length : Int) < 0) := by omega
  have n12 : ¬ (1 + (l0_2.length : Int) + (l2.length : Int) < 0) := by omega
  have nr : ¬ (1 + (r.length : Int) < 0) := by omega
  unfold laws_FnExactFillPeaceful.f
  repeat (first
    | exact Ev.now _
    | refine Ev.bind (toBoard_ev _ _ _ (by assumption)) ?_
    | refine Ev.bind (eqBoard_ev _ _ _ (by assumption)) ?_
    | refine Ev.bind (markBoard_ev _ _ _ (by assumption)) ?_
    | refine Ev.bind (toIntS_ev _ (by assumption)) ?_
    | refine Ev.bind (eqIntS_ev _ (by assumption)) ?_
    | refine Ev.bind (markIntS_ev _ (by assumption)) ?_
    | refine Ev.bind (heldIntS_ev _ (by assumption)) ?_
    | refine Ev.bind (markIntS_any _ _ (by assumption) (by omega)) ?_
    | refine Ev.bind hs ?_
    | refine Ev.bind hi ?_
    | simp only [Option.bind_some, if_true, if_false, bne_self_eq_false, Bool.false_eq_true, ne_eq, not_true_eq_false, not_false_eq_true, hb_l2, szBoard_fit _ _ _ hs_l0_2, laws_toLeaper.f, n0, n1, n2, n12, nr]
    | (refine Ev.step (fun k => by rw [laws_FnExactFillPeaceful.j0]) ?_)
    | (refine Ev.step (fun k => by rw [laws_FnExactFillPeaceful.j1]) ?_)
    | (refine Ev.step (fun k => by rw [laws_FnExactFillPeaceful.j2]) ?_))
end Go.Proofs.Ytemaokhlolimhaa.Pure

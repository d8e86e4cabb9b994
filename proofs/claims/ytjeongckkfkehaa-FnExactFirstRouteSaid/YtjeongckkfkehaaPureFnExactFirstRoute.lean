/- FirstRoute: the program and the reference tell the same path, so the law's function answers true for all arguments. -/
import Derived.Test.YtjeongckkfkehaaStateFnExactFirstRoute
import Derived.Test.YtjeongckkfkehaaHDist
import Derived.Test.YtjeongckkfkehaaQ45
import Derived.Test.YtjeongckkfkehaaQ46
namespace Go.Proofs.Ytjeongckkfkehaa.Pure
open Go.RowKit Go.IntWalk Go.Proofs.Ytjeongckkfkehaa.Q Go.Proofs.Ytjeongckkfkehaa.H Go.Proofs.YtjeongckkfkehaaW.PrintWords Go.Proofs.YtjeongckkfkehaaW.PrintMore
set_option linter.unusedVariables false
set_option linter.unusedSimpArgs false
def nearer (u : List Int) (at_ : Int) (d : Int) : Bool := decide (rd u d = rd u at_ - 1)
def routeM (nb : Int → List Int) (u : List Int) : Nat → Int → List Int
  | 0, _ => []
  | m + 1, a => match (nb a).find? (nearer u a) with
    | some d => d :: routeM nb u m d
    | none => []
theorem routeM_length (nb : Int → List Int) (u : List Int) : ∀ m a, (routeM nb u m a).length ≤ m := by
  intro m
  induction m with
  | zero => intro a; simp [routeM]
  | succ m ih =>
    intro a
    rw [routeM]
    split
    · rename_i d _
      have := ih d
      simp; omega
    · simp
section
variable {W H : Int} {L : List Int} {A B : Int}
theorem spec_l1 (u acc : List Int) (tt a d0 : Int) (ha : 0 ≤ a ∧ a < (u.length : Int)) (hb : -1 ≤ rd u a ∧ rd u a ≤ 64) (hacc : acc.length ≤ 1000) (R : List Int × Bool) (rest pre : List Int) (hr : ∀ d ∈ rest, 0 ≤ d ∧ d < (u.length : Int)) (hp : (pre ++ rest).length ≤ 64) (hf : rest.find? (nearer u a) = some d0)
    (hR : Ev (fun k => spec_FirstRoute.l0 k tt u (acc ++ [d0]) d0 W H L A B) R) :
    Ev (fun k => spec_FirstRoute.l1 k tt u acc a (pre ++ rest) ((pre ++ rest).length : Int) (pre.length : Int) W H L A B) R := by
  induction rest generalizing pre with
  | nil => cases hf
  | cons d r ih =>
    refine Ev.step (fun k => by rw [spec_FirstRoute.l1]) ?_
    have h0 : (0 : Int) ≤ (pre.length : Int) := by omega
    have h5 : pre.length ≤ 64 := by simp at hp; omega
    have h6 : acc.length < 17592186044416 := by omega
    have hd := hr d (by simp)
    have w : wrap64 (rd u a - 1) = rd u a - 1 := wrap64_in _ (by omega)
    simp only [lt_mid pre d r, h0, if_true, rd_mid, hd.1, hd.2, ha.1, ha.2, w, w_succ (show pre.length ≤ 4611686018427387904 by omega)]
    by_cases c : rd u d = rd u a - 1
    · have hk : nearer u a d = true := by simp [nearer, c]
      rw [List.find?_cons, hk] at hf
      obtain rfl : d = d0 := by simpa using hf
      simp only [c, if_true, h6]
      exact hR
    · have hk : nearer u a d = false := by simp [nearer, c]
      rw [List.find?_cons, hk] at hf
      simp only [c, if_false]
      have := ih (pre ++ [d]) (fun x hx => hr x (by simp [hx])) (by simpa using hp) (by simpa using hf)
      simpa using this
theorem impl_l1 (u acc : List Int) (tt a d0 : Int) (ha : 0 ≤ a ∧ a < (u.length : Int)) (hb : -1 ≤ rd u a ∧ rd u a ≤ 64) (hacc : acc.length ≤ 1000) (cs : List Int) (nr : List (List Int)) (R : List Int × Bool) (rest pre : List Int) (hr : ∀ d ∈ rest, 0 ≤ d ∧ d < (u.length : Int)) (hp : (pre ++ rest).length ≤ 64) (hf : rest.find? (nearer u a) = some d0)
    (hR : Ev (fun k => impl_FirstRoute.l0 k tt u (acc ++ [d0]) d0 W H L A B cs nr) R) :
    Ev (fun k => impl_FirstRoute.l1 k tt u acc a (pre ++ rest) ((pre ++ rest).length : Int) (pre.length : Int) W H L A B cs nr) R := by
  induction rest generalizing pre with
  | nil => cases hf
  | cons d r ih =>
    refine Ev.step (fun k => by rw [impl_FirstRoute.l1]) ?_
    have h0 : (0 : Int) ≤ (pre.length : Int) := by omega
    have h5 : pre.length ≤ 64 := by simp at hp; omega
    have h6 : acc.length < 17592186044416 := by omega
    have hd := hr d (by simp)
    have w : wrap64 (rd u a - 1) = rd u a - 1 := wrap64_in _ (by omega)
    simp only [lt_mid pre d r, h0, if_true, rd_mid, hd.1, hd.2, ha.1, ha.2, w, w_succ (show pre.length ≤ 4611686018427387904 by omega)]
    by_cases c : rd u d = rd u a - 1
    · have hk : nearer u a d = true := by simp [nearer, c]
      rw [List.find?_cons, hk] at hf
      obtain rfl : d = d0 := by simpa using hf
      simp only [c, if_true, h6]
      exact hR
    · have hk : nearer u a d = false := by simp [nearer, c]
      rw [List.find?_cons, hk] at hf
      simp only [c, if_false]
      have := ih (pre ++ [d]) (fun x hx => hr x (by simp [hx])) (by simpa using hp) (by simpa using hf)
      simpa using this
theorem next_nearer (g : BoardM W H L) {tt : Int} (ht : hasB W H L tt = true) (a : Int) (ha : hasB W H L a = true) (m : Nat) (hm : rd (farM W H L A B tt) a = ((m + 1 : Nat) : Int)) :
    ∃ d, (leapsM W H L A B a).find? (nearer (farM W H L A B tt) a) = some d ∧ hasB W H L d = true ∧ rd (farM W H L A B tt) d = (m : Int) := by
  obtain ⟨p, hp1, hp2⟩ := far_back (A := A) (B := B) g ht a (has_range ha) (by omega)
  have : ((leapsM W H L A B a).find? (nearer (farM W H L A B tt) a)).isSome := by
    rw [List.find?_isSome]
    exact ⟨p, hp1, by simp [nearer, hp2]⟩
  obtain ⟨d, hd⟩ := Option.isSome_iff_exists.1 this
  have h1 := List.find?_some hd
  have h2 := List.mem_of_find?_eq_some hd
  simp only [nearer, decide_eq_true_eq] at h1
  exact ⟨d, hd, leapsM_has h2, by omega⟩
theorem spec_l0 (g : BoardM W H L) (hl : L.length ≤ 1048576) {tt : Int} (ht : hasB W H L tt = true) : ∀ (m : Nat) (a : Int) (acc : List Int), rd (farM W H L A B tt) a = (m : Int) → hasB W H L a = true → acc.length + m ≤ 1000 →
    Ev (fun k => spec_FirstRoute.l0 k tt (farM W H L A B tt) acc a W H L A B) (acc ++ routeM (leapsM W H L A B) (farM W H L A B tt) m a, true) := by
  have hk := farM_keep (A := A) (B := B) g (has_range ht)
  have har := g.area
  intro m
  induction m with
  | zero =>
    intro a acc hm ha hs
    have hat := far_zero (A := A) (B := B) g (has_range ht) a (has_range ha) (by simpa using hm)
    refine Ev.step (fun k => by rw [spec_FirstRoute.l0]) ?_
    simp only [hat, if_true, routeM, List.append_nil]
    exact Ev.now _
  | succ m ih =>
    intro a acc hm ha hs
    have har2 := has_range ha
    have hat : ¬ a = tt := fun h => by
      subst h
      have := farM_self (A := A) (B := B) g (has_range ht)
      omega
    obtain ⟨d, hd, hd2, hd3⟩ := next_nearer (A := A) (B := B) g ht a ha m hm
    refine Ev.step (fun k => by rw [spec_FirstRoute.l0]) ?_
    simp only [hat, if_false]
    refine Ev.bind (boLeaps_ev g hl A B a har2) ?_
    have hb := hk.2 a har2
    have := spec_l1 (W := W) (H := H) (L := L) (A := A) (B := B) (farM W H L A B tt) acc tt a d (by omega) hb (by omega) (acc ++ routeM (leapsM W H L A B) (farM W H L A B tt) (m + 1) a, true) (leapsM W H L A B a) [] (fun x hx => by have := has_range (leapsM_has hx); omega) (by simpa using leapsM_length g A B a) hd ?_
    · simpa using this
    · rw [routeM, hd]
      have := ih d (acc ++ [d]) hd3 hd2 (by simp; omega)
      simpa using this
theorem impl_l0 (g : BoardM W H L) {tt : Int} (ht : hasB W H L tt = true) : ∀ (m : Nat) (a : Int) (acc : List Int), rd (farM W H L A B tt) a = (m : Int) → hasB W H L a = true → acc.length + m ≤ 1000 →
    Ev (fun k => impl_FirstRoute.l0 k tt (farM W H L A B tt) acc a W H L A B (cellsM W H L) (nearM W H L A B)) (acc ++ routeM (leapsM W H L A B) (farM W H L A B tt) m a, true) := by
  have hk := farM_keep (A := A) (B := B) g (has_range ht)
  have har := g.area
  intro m
  induction m with
  | zero =>
    intro a acc hm ha hs
    have hat := far_zero (A := A) (B := B) g (has_range ht) a (has_range ha) (by simpa using hm)
    refine Ev.step (fun k => by rw [impl_FirstRoute.l0]) ?_
    simp only [hat, if_true, routeM, List.append_nil]
    exact Ev.now _
  | succ m ih =>
    intro a acc hm ha hs
    have har2 := has_range ha
    have hat : ¬ a = tt := fun h => by
      subst h
      have := farM_self (A := A) (B := B) g (has_range ht)
      omega
    obtain ⟨d, hd, hd2, hd3⟩ := next_nearer (A := A) (B := B) g ht a ha m hm
    refine Ev.step (fun k => by rw [impl_FirstRoute.l0]) ?_
    have hn := near_in (A := A) (B := B) g ha
    simp only [hat, if_false, hn.1, hn.2, if_true, near_at ha]
    have hb := hk.2 a har2
    have := impl_l1 (W := W) (H := H) (L := L) (A := A) (B := B) (farM W H L A B tt) acc tt a d (by omega) hb (by omega) (cellsM W H L) (nearM W H L A B) (acc ++ routeM (leapsM W H L A B) (farM W H L A B tt) (m + 1) a, true) (leapsM W H L A B a) [] (fun x hx => by have := has_range (leapsM_has hx); omega) (by simpa using leapsM_length g A B a) hd ?_
    · simpa using this
    · rw [routeM, hd]
      have := ih d (acc ++ [d]) hd3 hd2 (by simp; omega)
      simpa using this
end
theorem firstRoute_both (W H : Int) (L : List Int) (A B x y : Int) (hl : L.length ≤ 1048576) : ∃ (r : List Int) (b : Bool), r.length ≤ 1048576 ∧ Ev (fun k => spec_FirstRoute.f k W H L A B x y) (r, b) ∧ Ev (fun k => impl_FirstRoute.f k W H L A B x y) (r, b) := by
  by_cases t : AskM W H L A B x y
  · have g := t.1.1
    have ha := g.area
    have hx := has_range t.2.1
    have hy := has_range t.2.2
    have fy := farM_keep (A := A) (B := B) g hy
    have hxl : x < ((farM W H L A B y).length : Int) := by omega
    by_cases neg : rd (farM W H L A B y) x < 0
    · refine ⟨[], false, by simp, ?_, ?_⟩
      · unfold spec_FirstRoute.f
        refine Ev.bind (faAsked_yes t hl) ?_
        simp only [if_true]
        refine Ev.bind (faFrom_ev g hl y hy) ?_
        simp only [hx.1, hxl, neg, if_true]
        exact Ev.now _
      · unfold impl_FirstRoute.f
        refine Ev.bind (implTwo_yes t hl) ?_
        simp only [if_true]
        refine Ev.bind (far_ev g y t.2.2) ?_
        simp only [hx.1, hxl, neg, if_true]
        exact Ev.now _
    · have hb := (fy.2 x hx).2
      have hm : rd (farM W H L A B y) x = (((rd (farM W H L A B y) x).toNat : Nat) : Int) := by omega
      refine ⟨[x] ++ routeM (leapsM W H L A B) (farM W H L A B y) (rd (farM W H L A B y) x).toNat x, true, by have := routeM_length (leapsM W H L A B) (farM W H L A B y) (rd (farM W H L A B y) x).toNat x; simp; omega, ?_, ?_⟩
      · unfold spec_FirstRoute.f
        refine Ev.bind (faAsked_yes t hl) ?_
        simp only [if_true]
        refine Ev.bind (faFrom_ev g hl y hy) ?_
        simp only [hx.1, hxl, neg, if_true, if_false]
        exact spec_l0 g hl t.2.2 _ x [x] hm t.2.1 (by simp; omega)
      · unfold impl_FirstRoute.f
        refine Ev.bind (implTwo_yes t hl) ?_
        simp only [if_true]
        refine Ev.bind (far_ev g y t.2.2) ?_
        simp only [hx.1, hxl, neg, if_true, if_false]
        exact impl_l0 g t.2.2 _ x [x] hm t.2.1 (by simp; omega)
  · refine ⟨[], false, by simp, ?_, ?_⟩
    · unfold spec_FirstRoute.f
      refine Ev.bind (faAsked_no t hl) ?_
      simp only [Bool.false_eq_true, if_false]
      exact Ev.now _
    · unfold impl_FirstRoute.f
      refine Ev.bind (implTwo_no t hl) ?_
      simp only [Bool.false_eq_true, if_false]
      exact Ev.now _
theorem FnExactFirstRoute : FnExactFirstRouteSaid := by
  intro a0_0 a0_1 l0_2 a1_0 a1_1 a2 a3 _ _ hlen_l0_2 _ _ _ _ _
  by_cases hb_l0_2 : 1048576 < l0_2.length
  · refine ⟨0, ?_⟩
    simp [laws_FnExactFirstRoute.f, szBoard_big a0_0 a0_1 l0_2 hb_l0_2 hlen_l0_2]
  have hs_l0_2 : l0_2.length ≤ 1048576 := by omega
  obtain ⟨r, b, hr, hs, hi⟩ := firstRoute_both a0_0 a0_1 l0_2 a1_0 a1_1 a2 a3 hs_l0_2
  refine rounds_of ?_
  have n0 : ¬ (1048576 - (l0_2.length : Int) < 0) := by omega
  have n1 : ¬ (1 + (l0_2.length : Int) < 0) := by omega
  have nr : ¬ (1 + (r.length : Int) < 0) := by omega
  unfold laws_FnExactFirstRoute.f
  repeat (first
    | exact Ev.now _
    | refine Ev.bind (toBoard_ev _ _ _ (by assumption)) ?_
    | refine Ev.bind (eqBoard_ev _ _ _ (by assumption)) ?_
    | refine Ev.bind (markBoard_ev _ _ _ (by assumption)) ?_
    | refine Ev.bind (toIntS_ev _ (by assumption)) ?_
    | refine Ev.bind (eqIntS_ev _ (by assumption)) ?_
    | refine Ev.bind (markIntS_ev _ (by assumption)) ?_
    | refine Ev.bind (heldIntS_ev _ (by assumption)) ?_
    | refine Ev.bind (markIntS_any _ _ (by assumption) (by omega)) ?_
    | refine Ev.bind hs ?_
    | refine Ev.bind hi ?_
    | simp only [Option.bind_some, if_true, if_false, bne_self_eq_false, Bool.false_eq_true, ne_eq, not_true_eq_false, not_false_eq_true, szBoard_fit _ _ _ hs_l0_2, laws_toLeaper.f, n0, n1, nr]
    | (refine Ev.step (fun k => by rw [laws_FnExactFirstRoute.j0]) ?_)
    | (refine Ev.step (fun k => by rw [laws_FnExactFirstRoute.j1]) ?_)
    | (refine Ev.step (fun k => by rw [laws_FnExactFirstRoute.j2]) ?_))
end Go.Proofs.Ytjeongckkfkehaa.Pure

/- CountRoutes: the program's count of all paths of the shortest length and the reference's count by distances come to the same number, so the law's function answers true for all arguments. -/
import Derived.Test.YtjeongckkfkehaaStateFnExactCountRoutes
import Derived.Test.YtjeongckkfkehaaHDist
import Derived.Test.YtjeongckkfkehaaHWays
import Derived.Test.YtjeongckkfkehaaQ25
import Derived.Test.YtjeongckkfkehaaQ26
namespace Go.Proofs.Ytjeongckkfkehaa.Pure
open Go.RowKit Go.IntWalk Go.Proofs.Ytjeongckkfkehaa.Q Go.Proofs.Ytjeongckkfkehaa.H Go.Proofs.YtjeongckkfkehaaW.PrintWords Go.Proofs.YtjeongckkfkehaaW.PrintMore
set_option linter.unusedVariables false
set_option linter.unusedSimpArgs false
theorem wit_last (nr : List (List Int)) : ∀ m v, wit nr (m + 1) v = wstep nr (wit nr m v) := by
  intro m
  induction m with
  | zero => intro v; rfl
  | succ m ih => intro v; rw [wit, ih]; rfl
/-- The reference's step from one cell: only cells one farther are counted. -/
def sadd (u : List Int) (d c : Int) (ds w : List Int) : List Int := ds.foldl (fun w e => if rd u e = d + 1 then w.set e.toNat (wrap64 (rd w e + rd w c)) else w) w
section
variable {W H : Int} {L : List Int} {A B : Int}
/-- The world of both counts: 'u' the distances, 'V' the program's counts by number of leaps. -/
structure CR (W H : Int) (L : List Int) (A B : Int) (u : List Int) (V : Nat → List Int) : Prop where
  area : 1 ≤ W * H ∧ W * H ≤ 64
  ulen : (u.length : Int) = W * H
  ub : ∀ e : Int, 0 ≤ e ∧ e < W * H → -1 ≤ rd u e ∧ rd u e ≤ 64
  step : ∀ p : Int, 0 ≤ p ∧ p < W * H → 0 ≤ rd u p → ∀ e ∈ rd_L1 (nearM W H L A B) p, 0 ≤ rd u e ∧ rd u e ≤ rd u p + 1
  back : ∀ p : Int, 0 ≤ p ∧ p < W * H → rd u p < 0 → ∀ e ∈ rd_L1 (nearM W H L A B) p, rd u e < 0
  row : ∀ p : Int, 0 ≤ p ∧ p < W * H → ∀ e ∈ rd_L1 (nearM W H L A B) p, 0 ≤ e ∧ e < W * H
  vstep : ∀ m, V (m + 1) = wstep (nearM W H L A B) (V m)
  vlen : ∀ m, ((V m).length : Int) = W * H
  vi : ∀ m, ∀ e : Int, 0 ≤ e ∧ e < W * H → I64 (rd (V m) e)
  zero : ∀ e : Int, 0 ≤ e ∧ e < W * H → (rd u e < 0 ∨ 0 < rd u e) → rd (V 0) e = 0
theorem wadd_len (vc : Int) (ds : List Int) : ∀ o : List Int, (wadd vc ds o).length = o.length := by
  induction ds with
  | nil => intro o; rfl
  | cons d r ih => intro o; show (wadd vc r _).length = _; rw [ih]; simp
/-- A cell that nothing is added to, or zeros alone. -/
theorem wadd_keeps (vc : Int) (e : Int) (he : 0 ≤ e ∧ e < W * H) (ds : List Int) : ∀ o : List Int, (o.length : Int) = W * H → (∀ d ∈ ds, 0 ≤ d ∧ d < W * H) → (e ∈ ds → vc = 0) → I64 (rd o e) → rd (wadd vc ds o) e = rd o e := by
  induction ds with
  | nil => intro o _ _ _ _; rfl
  | cons d r ih =>
    intro o ho hd hz hi
    have hd0 := hd d (by simp)
    have hdo : 0 ≤ d ∧ d < (o.length : Int) := by omega
    have k : rd (o.set d.toNat (wrap64 (rd o d + vc))) e = rd o e := by
      rw [rd_put o d _ e hdo he.1]
      split
      · rename_i h
        subst h
        rw [hz (by simp), Int.add_zero, wrap64_in _ hi]
      · rfl
    show rd (wadd vc r (o.set d.toNat (wrap64 (rd o d + vc)))) e = _
    rw [ih _ (by simpa using ho) (fun x hx => hd x (by simp [hx])) (fun h => hz (by simp [h])) (by rw [k]; exact hi), k]
theorem wfold_len (nr : List (List Int)) (v : List Int) (cs : List Nat) : ∀ o, (wfold nr v cs o).length = o.length := by
  induction cs with
  | nil => intro o; rfl
  | cons c r ih => intro o; show (wfold nr v r _).length = _; rw [ih, wadd_len]
/-- No path of so many leaps comes to a cell that is farther. -/
theorem V_zero {u : List Int} {V : Nat → List Int} (h : CR W H L A B u V) : ∀ (m : Nat) (e : Int), 0 ≤ e ∧ e < W * H → (rd u e < 0 ∨ (m : Int) < rd u e) → rd (V m) e = 0 := by
  intro m
  induction m with
  | zero => intro e he hz; exact h.zero e he (by simpa using hz)
  | succ m ih =>
    intro e he hz
    rw [h.vstep m]
    have key : ∀ (cs : List Nat), (∀ c ∈ cs, (c : Int) < W * H) → ∀ o : List Int, (o.length : Int) = W * H → rd o e = 0 → rd (wfold (nearM W H L A B) (V m) cs o) e = 0 := by
      intro cs
      induction cs with
      | nil => intro _ o _ h0; exact h0
      | cons c r ihc =>
        intro hc o ho h0
        have hcr : 0 ≤ (c : Int) ∧ (c : Int) < W * H := ⟨by omega, hc c (by simp)⟩
        show rd (wfold (nearM W H L A B) (V m) r (wadd (rd (V m) (c : Int)) (rd_L1 (nearM W H L A B) (c : Int)) o)) e = 0
        refine ihc (fun x hx => hc x (by simp [hx])) _ (by rw [wadd_len]; exact ho) ?_
        rw [wadd_keeps (rd (V m) (c : Int)) e he _ o ho (h.row _ hcr) (fun hin => ?_) (by rw [h0]; unfold I64; omega), h0]
        refine ih (c : Int) hcr ?_
        by_cases hn : rd u (c : Int) < 0
        · exact .inl hn
        · have := h.step _ hcr (by omega) e hin
          omega
    unfold wstep
    refine key _ (fun c hc => ?_) _ (by simpa using h.vlen m) ?_
    · obtain ⟨j, hj, rfl⟩ := List.mem_range'.1 hc
      have := h.vlen m; omega
    · unfold rd
      rw [List.getD_eq_getElem?_getD, List.getElem?_replicate]
      split <;> rfl
/-- Between the program's step from the counts of 'd' leaps (o) and the reference's step of the distance 'd' (w). -/
structure JJ (W H : Int) (u : List Int) (V : Nat → List Int) (d : Nat) (o w : List Int) : Prop where
  ol : (o.length : Int) = W * H
  wl : (w.length : Int) = W * H
  oi : ∀ e : Int, 0 ≤ e ∧ e < W * H → I64 (rd o e)
  same : ∀ e : Int, 0 ≤ e ∧ e < W * H → rd u e = (d : Int) + 1 → rd o e = rd w e
  old : ∀ e : Int, 0 ≤ e ∧ e < W * H → 0 ≤ rd u e → rd u e ≤ d → rd w e = rd (V (rd u e).toNat) e
  none_ : ∀ e : Int, 0 ≤ e ∧ e < W * H → (rd u e < 0 ∨ (d : Int) + 1 < rd u e) → rd w e = 0
theorem wrap_i64 (z : Int) : I64 (wrap64 z) := by unfold wrap64 I64; omega
theorem JJ.one {u : List Int} {V : Nat → List Int} {d : Nat} {o w : List Int} (j : JJ W H u V d o w) (c : Int) (hc : 0 ≤ c ∧ c < W * H) (hu : rd u c = d) (e : Int) (he : 0 ≤ e ∧ e < W * H) :
    JJ W H u V d (o.set e.toNat (wrap64 (rd o e + rd (V d) c))) (if rd u e = (d : Int) + 1 then w.set e.toNat (wrap64 (rd w e + rd w c)) else w) := by
  have heo : 0 ≤ e ∧ e < (o.length : Int) := by have := j.ol; omega
  have hew : 0 ≤ e ∧ e < (w.length : Int) := by have := j.wl; omega
  have hwc : rd w c = rd (V d) c := by
    have := j.old c hc (by omega) (by omega)
    rwa [hu, show ((d : Int)).toNat = d by omega] at this
  refine ⟨by simpa using j.ol, by split <;> simpa using j.wl, fun x hx => ?_, fun x hx hux => ?_, fun x hx h0 h1 => ?_, fun x hx h0 => ?_⟩
  · rw [rd_put o e _ x heo hx.1]
    split
    · exact wrap_i64 _
    · exact j.oi x hx
  · rw [rd_put o e _ x heo hx.1]
    by_cases hxe : x = e
    · subst hxe
      rw [if_pos rfl, if_pos hux, rd_put w x _ x hew hx.1, if_pos rfl, j.same x hx hux, hwc]
    · rw [if_neg hxe]
      split
      · rw [rd_put w e _ x hew hx.1, if_neg hxe]; exact j.same x hx hux
      · exact j.same x hx hux
  · split
    · rename_i hue
      rw [rd_put w e _ x hew hx.1, if_neg (fun h => by subst h; omega)]
      exact j.old x hx h0 h1
    · exact j.old x hx h0 h1
  · split
    · rename_i hue
      rw [rd_put w e _ x hew hx.1, if_neg (fun h => by subst h; omega)]
      exact j.none_ x hx h0
    · exact j.none_ x hx h0
theorem JJ.row {u : List Int} {V : Nat → List Int} {d : Nat} (c : Int) (hc : 0 ≤ c ∧ c < W * H) (hu : rd u c = d) (ds : List Int) (hd : ∀ x ∈ ds, 0 ≤ x ∧ x < W * H) : ∀ o w, JJ W H u V d o w → JJ W H u V d (wadd (rd (V d) c) ds o) (sadd u d c ds w) := by
  induction ds with
  | nil => intro o w j; exact j
  | cons e r ih => intro o w j; exact ih (fun x hx => hd x (by simp [hx])) _ _ (j.one c hc hu e (hd e (by simp)))
theorem JJ.skip {u : List Int} {V : Nat → List Int} (h : CR W H L A B u V) {d : Nat} (c : Int) (hc : 0 ≤ c ∧ c < W * H) (hu : rd u c ≠ d) (o w : List Int) (j : JJ W H u V d o w) : JJ W H u V d (wadd (rd (V d) c) (rd_L1 (nearM W H L A B) c) o) w := by
  have hI : ∀ (ds : List Int) (o : List Int), (o.length : Int) = W * H → (∀ x ∈ ds, 0 ≤ x ∧ x < W * H) → (∀ e : Int, 0 ≤ e ∧ e < W * H → I64 (rd o e)) → ∀ e : Int, 0 ≤ e ∧ e < W * H → I64 (rd (wadd (rd (V d) c) ds o) e) := by
    intro ds
    induction ds with
    | nil => intro o _ _ hi e he; exact hi e he
    | cons x r ih =>
      intro o ho hd hi e he
      have hx := hd x (by simp)
      refine ih (o.set x.toNat (wrap64 (rd o x + rd (V d) c))) (by simpa using ho) (fun y hy => hd y (by simp [hy])) (fun y hy => ?_) e he
      rw [rd_put o x _ y (by omega) hy.1]
      split
      · exact wrap_i64 _
      · exact hi y hy
  refine ⟨by rw [wadd_len]; exact j.ol, j.wl, hI _ o j.ol (h.row c hc) j.oi, fun e he hue => ?_, j.old, j.none_⟩
  rw [wadd_keeps (rd (V d) c) e he _ o j.ol (h.row c hc) (fun hin => ?_) (j.oi e he)]
  · exact j.same e he hue
  · by_cases hn : rd u c < 0
    · have := h.back c hc hn e hin; omega
    · have := h.step c hc (by omega) e hin
      exact V_zero h d c hc (.inr (by omega))
/-- The reference's round of the distance 'd' over some cells. -/
def sfold (u : List Int) (nr : List (List Int)) (d : Int) (cs : List Nat) (w : List Int) : List Int := cs.foldl (fun w (c : Nat) => if rd u (c : Int) = d then sadd u d (c : Int) (rd_L1 nr (c : Int)) w else w) w
theorem JJ.fold {u : List Int} {V : Nat → List Int} (h : CR W H L A B u V) {d : Nat} (cs : List Nat) (hcs : ∀ c ∈ cs, (c : Int) < W * H) : ∀ o w, JJ W H u V d o w → JJ W H u V d (wfold (nearM W H L A B) (V d) cs o) (sfold u (nearM W H L A B) d cs w) := by
  induction cs with
  | nil => intro o w j; exact j
  | cons c r ih =>
    intro o w j
    have hc : 0 ≤ (c : Int) ∧ (c : Int) < W * H := ⟨by omega, hcs c (by simp)⟩
    refine ih (fun x hx => hcs x (by simp [hx])) _ _ ?_
    show JJ W H u V d (wadd (rd (V d) (c : Int)) (rd_L1 (nearM W H L A B) (c : Int)) o) (if rd u (c : Int) = (d : Int) then sadd u d (c : Int) (rd_L1 (nearM W H L A B) (c : Int)) w else w)
    by_cases hu : rd u (c : Int) = d
    · rw [if_pos hu]; exact j.row (c : Int) hc hu _ (h.row _ hc)
    · rw [if_neg hu]; exact j.skip h (c : Int) hc hu
/-- What the reference has counted before the distance 'd'. -/
structure SS (W H : Int) (u : List Int) (V : Nat → List Int) (d : Nat) (w : List Int) : Prop where
  wl : (w.length : Int) = W * H
  old : ∀ e : Int, 0 ≤ e ∧ e < W * H → 0 ≤ rd u e → rd u e ≤ d → rd w e = rd (V (rd u e).toNat) e
  none_ : ∀ e : Int, 0 ≤ e ∧ e < W * H → (rd u e < 0 ∨ (d : Int) < rd u e) → rd w e = 0
theorem SS.next {u : List Int} {V : Nat → List Int} (h : CR W H L A B u V) {d : Nat} {w : List Int} (s : SS W H u V d w) : SS W H u V (d + 1) (sfold u (nearM W H L A B) d (List.range' 0 (W * H).toNat) w) := by
  have ha := h.area
  have hv := h.vlen d
  have hz : ∀ e : Int, rd (List.replicate (W * H).toNat (0 : Int)) e = 0 := by
    intro e
    unfold rd
    rw [List.getD_eq_getElem?_getD, List.getElem?_replicate]
    split <;> rfl
  have j0 : JJ W H u V d (List.replicate (W * H).toNat 0) w := by
    refine ⟨by simp; omega, s.wl, fun e _ => by rw [hz]; unfold I64; omega, fun e he hue => ?_, s.old, fun e he h0 => s.none_ e he (by omega)⟩
    rw [hz, s.none_ e he (by omega)]
  have j := j0.fold h (List.range' 0 (W * H).toNat) (fun c hc => by obtain ⟨i, hi, rfl⟩ := List.mem_range'.1 hc; omega)
  have e1 : wfold (nearM W H L A B) (V d) (List.range' 0 (W * H).toNat) (List.replicate (W * H).toNat 0) = V (d + 1) := by
    rw [h.vstep d, wstep, show (V d).length = (W * H).toNat by omega]
  rw [e1] at j
  refine ⟨j.wl, fun e he h0 h1 => ?_, fun e he h0 => j.none_ e he (by omega)⟩
  by_cases hue : rd u e = (d : Int) + 1
  · rw [← j.same e he hue, hue, show ((d : Int) + 1).toNat = d + 1 by omega]
  · exact j.old e he h0 (by omega)
theorem sadd_len (u : List Int) (d c : Int) (ds : List Int) : ∀ w : List Int, (sadd u d c ds w).length = w.length := by
  induction ds with
  | nil => intro w; rfl
  | cons e r ih => intro w; show (sadd u d c r (if rd u e = d + 1 then w.set e.toNat (wrap64 (rd w e + rd w c)) else w)).length = _; rw [ih]; split <;> simp
theorem specR_l2 (g : BoardM W H L) (u : List Int) (hul : (u.length : Int) = W * H) (tt : Int) (d : Nat) (hd : d ≤ 64) (i : Nat) (hi : (i : Int) < W * H) (R : Int × Bool) (rest pre w : List Int) (hr : ∀ e ∈ rest, 0 ≤ e ∧ e < W * H) (hp : (pre ++ rest).length ≤ 64) (hw : (w.length : Int) = W * H)
    (hR : Ev (fun k => spec_CountRoutes.l1 k tt u (sadd u d (i : Int) rest w) (d : Int) u (u.length : Int) ((i + 1 : Nat) : Int) W H L A B) R) :
    Ev (fun k => spec_CountRoutes.l2 k tt u w (d : Int) (i : Int) u (u.length : Int) (i : Int) (pre ++ rest) ((pre ++ rest).length : Int) (pre.length : Int) W H L A B) R := by
  have ha := g.area
  induction rest generalizing pre w with
  | nil =>
    refine Ev.step (fun k => by rw [spec_CountRoutes.l2]) ?_
    simp only [List.append_nil, nlt_end, if_false, w_succ (show i ≤ 4611686018427387904 by omega)]
    exact hR
  | cons e r ih =>
    refine Ev.step (fun k => by rw [spec_CountRoutes.l2]) ?_
    have h0 : (0 : Int) ≤ (pre.length : Int) := by omega
    have h5 : pre.length ≤ 64 := by simp at hp; omega
    have he := hr e (by simp)
    have heu : e < (u.length : Int) := by omega
    have hew : e < (w.length : Int) := by omega
    have hi0 : (0 : Int) ≤ (i : Int) := by omega
    have hiw : (i : Int) < (w.length : Int) := by omega
    have wd : wrap64 ((d : Int) + 1) = (d : Int) + 1 := wrap64_in _ (by omega)
    have hR' : Ev (fun k => spec_CountRoutes.l1 k tt u (sadd u d (i : Int) r (if rd u e = (d : Int) + 1 then w.set e.toNat (wrap64 (rd w e + rd w (i : Int))) else w)) (d : Int) u (u.length : Int) ((i + 1 : Nat) : Int) W H L A B) R := hR
    simp only [lt_mid pre e r, h0, if_true, rd_mid, he.1, heu, wd, w_succ (show pre.length ≤ 4611686018427387904 by omega)]
    by_cases c : rd u e = (d : Int) + 1
    · rw [if_pos c] at hR'
      simp only [c, if_true, hew, hi0, hiw]
      have := ih (pre ++ [e]) _ (fun x hx => hr x (by simp [hx])) (by simpa using hp) (by simpa using hw) hR'
      simpa using this
    · rw [if_neg c] at hR'
      simp only [c, if_false]
      have := ih (pre ++ [e]) w (fun x hx => hr x (by simp [hx])) (by simpa using hp) hw hR'
      simpa using this
theorem specR_l1 (g : BoardM W H L) (hl : L.length ≤ 1048576) (u : List Int) (hul : (u.length : Int) = W * H) (hhas : ∀ e : Int, 0 ≤ e ∧ e < W * H → 0 ≤ rd u e → hasB W H L e = true) (tt : Int) (d : Nat) (hd : d ≤ 64) (R : Int × Bool) : ∀ (m i : Nat), m + i = u.length → ∀ w : List Int, (w.length : Int) = W * H →
    Ev (fun k => spec_CountRoutes.l0 k tt u (sfold u (nearM W H L A B) d (List.range' i m) w) ((d + 1 : Nat) : Int) W H L A B) R →
    Ev (fun k => spec_CountRoutes.l1 k tt u w (d : Int) u (u.length : Int) (i : Int) W H L A B) R := by
  have ha := g.area
  intro m
  induction m with
  | zero =>
    intro i h1 w hw hR
    refine Ev.step (fun k => by rw [spec_CountRoutes.l1]) ?_
    have h3 : ¬ ((i : Int) < (u.length : Int)) := by omega
    simp only [h3, if_false, w_succ (show d ≤ 4611686018427387904 by omega)]
    simpa [sfold] using hR
  | succ m ih =>
    intro i h1 w hw hR
    refine Ev.step (fun k => by rw [spec_CountRoutes.l1]) ?_
    have h3 : (i : Int) < (u.length : Int) := by omega
    have h4 : (0 : Int) ≤ (i : Int) := by omega
    have hR' : Ev (fun k => spec_CountRoutes.l0 k tt u (sfold u (nearM W H L A B) d (List.range' (i + 1) m) (if rd u (i : Int) = (d : Int) then sadd u d (i : Int) (rd_L1 (nearM W H L A B) (i : Int)) w else w)) ((d + 1 : Nat) : Int) W H L A B) R := by
      rw [List.range'_succ] at hR
      exact hR
    simp only [h3, h4, if_true]
    by_cases c : rd u (i : Int) = (d : Int)
    · rw [if_pos c] at hR'
      have hb := hhas (i : Int) ⟨h4, by omega⟩ (by omega)
      simp only [c, if_true]
      refine Ev.bind (boLeaps_ev g hl A B (i : Int) ⟨h4, by omega⟩) ?_
      rw [near_at hb] at hR'
      have := specR_l2 (A := A) (B := B) g u hul tt d hd i (by omega) R (leapsM W H L A B (i : Int)) [] w (fun e he => has_range (leapsM_has he)) (by simpa using leapsM_length g A B (i : Int)) hw ?_
      · simpa using this
      · exact ih (i + 1) (by omega) _ (by rw [sadd_len]; exact hw) hR'
    · rw [if_neg c] at hR'
      simp only [c, if_false, w_succ (show i ≤ 4611686018427387904 by omega)]
      exact ih (i + 1) (by omega) w hw hR'
theorem specR_l0 (g : BoardM W H L) (hl : L.length ≤ 1048576) {u : List Int} {V : Nat → List Int} (h : CR W H L A B u V) (hhas : ∀ e : Int, 0 ≤ e ∧ e < W * H → 0 ≤ rd u e → hasB W H L e = true) (tt : Int) (ht : 0 ≤ tt ∧ tt < W * H) (D : Nat) (hD : rd u tt = (D : Int)) : ∀ (m d : Nat), m + d = D → ∀ w : List Int, SS W H u V d w →
    Ev (fun k => spec_CountRoutes.l0 k tt u w (d : Int) W H L A B) (rd (V D) tt, true) := by
  have ha := g.area
  have hul := h.ulen
  have hub := h.ub tt ht
  intro m
  induction m with
  | zero =>
    intro d h1 w s
    refine Ev.step (fun k => by rw [spec_CountRoutes.l0]) ?_
    have h2 : tt < (u.length : Int) := by omega
    have h3 : tt < (w.length : Int) := by have := s.wl; omega
    have h4 : ¬ ((d : Int) < (D : Int)) := by omega
    have h5 := s.old tt ht (by omega) (by omega)
    rw [hD, show ((D : Int)).toNat = D by omega] at h5
    simp only [ht.1, h2, h3, hD, h4, if_true, if_false, h5]
    exact Ev.now _
  | succ m ih =>
    intro d h1 w s
    refine Ev.step (fun k => by rw [spec_CountRoutes.l0]) ?_
    have h2 : tt < (u.length : Int) := by omega
    have h4 : (d : Int) < (D : Int) := by omega
    simp only [ht.1, h2, hD, h4, if_true]
    have := specR_l1 (A := A) (B := B) g hl u hul hhas tt d (by omega) (rd (V D) tt, true) u.length 0 rfl w s.wl ?_
    · simpa using this
    · have hn := s.next h
      rw [show (W * H).toNat = u.length by omega] at hn
      exact ih (d + 1) (by omega) _ hn
end
theorem countRoutes_both (W H : Int) (L : List Int) (A B x y : Int) (hl : L.length ≤ 1048576) : ∃ (r : Int) (b : Bool), Ev (fun k => spec_CountRoutes.f k W H L A B x y) (r, b) ∧ Ev (fun k => impl_CountRoutes.f k W H L A B x y) (r, b) := by
  by_cases t : AskM W H L A B x y
  · have g := t.1.1
    have ha := g.area
    have hx := has_range t.2.1
    have hy := has_range t.2.2
    have fx := farM_keep (A := A) (B := B) g hx
    have hyl : y < ((farM W H L A B x).length : Int) := by omega
    by_cases neg : rd (farM W H L A B x) y < 0
    · refine ⟨0, true, ?_, ?_⟩
      · unfold spec_CountRoutes.f
        refine Ev.bind (faAsked_yes t hl) ?_
        simp only [if_true]
        refine Ev.bind (faFrom_ev g hl x hx) ?_
        simp only [hy.1, hyl, neg, if_true]
        exact Ev.now _
      · unfold impl_CountRoutes.f
        refine Ev.bind (implTwo_yes t hl) ?_
        simp only [if_true]
        refine Ev.bind (far_ev g x t.2.1) ?_
        simp only [hy.1, hyl, neg, if_true]
        exact Ev.now _
    · have hb := (fx.2 y hy).2
      have hD : rd (farM W H L A B x) y = (((rd (farM W H L A B x) y).toNat : Nat) : Int) := by omega
      have hz : WInv W H L ((List.replicate (W * H).toNat 0).set x.toNat 1) := wInv_set (wInv_zeros _ (by omega)) t.2.1 (by unfold I64; omega)
      have hwi : ∀ m, WInv W H L (wit (nearM W H L A B) m ((List.replicate (W * H).toNat 0).set x.toNat 1)) := by
        intro m
        induction m with
        | zero => exact hz
        | succ m ih => rw [wit_last]; exact wInv_step ih
      have hrow : ∀ p : Int, 0 ≤ p ∧ p < W * H → ∀ e ∈ rd_L1 (nearM W H L A B) p, e ∈ leapsM W H L A B p ∧ hasB W H L p = true := by
        intro p hp e he
        rw [nearM_get W H L A B p hp] at he
        split at he
        · rename_i h; exact ⟨he, h⟩
        · cases he
      have hc : CR W H L A B (farM W H L A B x) (fun m => wit (nearM W H L A B) m ((List.replicate (W * H).toNat 0).set x.toNat 1)) := by
        refine ⟨ha, by omega, fx.2, fun p hp h0 e he => far_step g hx p hp h0 e (hrow p hp e he).1, fun p hp h0 e he => ?_, fun p hp e he => has_range (leapsM_has (hrow p hp e he).1), fun m => wit_last _ _ _, fun m => (hwi m).1, fun m e he => ?_, fun e he h0 => ?_⟩
        · have h1 := hrow p hp e he
          rcases Int.lt_or_le (rd (farM W H L A B x) e) 0 with h2 | h2
          · exact h2
          · have := far_step (A := A) (B := B) g hx e (has_range (leapsM_has h1.1)) h2 p (leapsM_flip h1.2 h1.1)
            omega
        · have := (hwi m).2.1 e.toNat (by have := (hwi m).1; omega)
          rwa [show ((e.toNat : Nat) : Int) = e by omega] at this
        · show rd ((List.replicate (W * H).toNat 0).set x.toNat 1) e = 0
          rw [rd_put _ x 1 e (by simp; omega) he.1, if_neg (fun h => ?_)]
          · unfold rd
            rw [List.getD_eq_getElem?_getD, List.getElem?_replicate]
            split <;> rfl
          · subst h
            have := farM_self (A := A) (B := B) g he
            omega
      have hs : SS W H (farM W H L A B x) (fun m => wit (nearM W H L A B) m ((List.replicate (W * H).toNat 0).set x.toNat 1)) 0 ((List.replicate (W * H).toNat 0).set x.toNat 1) := by
        refine ⟨hz.1, fun e he h0 h1 => ?_, fun e he h0 => hc.zero e he (by simpa using h0)⟩
        rw [show (rd (farM W H L A B x) e).toNat = 0 by omega]
        rfl
      have h2 : 0 ≤ W * H := by omega
      have h3 : (W * H).toNat ≤ 35184372088832 := by omega
      have h4 : x < ((List.replicate (W * H).toNat (0 : Int)).length : Int) := by simp; omega
      refine ⟨rd (wit (nearM W H L A B) (rd (farM W H L A B x) y).toNat ((List.replicate (W * H).toNat 0).set x.toNat 1)) y, true, ?_, ?_⟩
      · unfold spec_CountRoutes.f
        refine Ev.bind (faAsked_yes t hl) ?_
        simp only [if_true]
        refine Ev.bind (faFrom_ev g hl x hx) ?_
        have h5 : (0 : Int) ≤ ((farM W H L A B x).length : Int) := by omega
        have h6 : (((farM W H L A B x).length : Int)).toNat = (W * H).toNat := by omega
        simp only [hy.1, hyl, neg, if_true, if_false, h5, h6, h3, Option.bind_some, hx.1, h4]
        have := specR_l0 (A := A) (B := B) g hl hc (fun e he h0 => far_has g t.2.1 e he h0) y hy (rd (farM W H L A B x) y).toNat hD (rd (farM W H L A B x) y).toNat 0 (by omega) _ hs
        simpa using this
      · unfold impl_CountRoutes.f
        refine Ev.bind (implTwo_yes t hl) ?_
        simp only [if_true]
        refine Ev.bind (far_ev g x t.2.1) ?_
        simp only [hy.1, hyl, neg, if_true, if_false]
        refine Ev.bind (a := rd (wit (nearM W H L A B) (rd (farM W H L A B x) y).toNat ((List.replicate (W * H).toNat 0).set x.toNat 1)) y) ?_ (Ev.now _)
        unfold impl_graph_ways.f
        have h5 : (0 : Int) ≤ ((nearM W H L A B).length : Int) := by omega
        have h6 : (((nearM W H L A B).length : Int)).toNat = (W * H).toNat := by rw [nearM_length]; omega
        simp only [h5, h6, h3, h4, hx.1, if_true, Option.bind_some]
        have := ways_l0 (A := A) (B := B) g y (rd (farM W H L A B x) y) t.2.2 hb (rd (farM W H L A B x) y).toNat 0 (by omega) _ hz.1
        simpa using this
  · refine ⟨0, false, ?_, ?_⟩
    · unfold spec_CountRoutes.f
      refine Ev.bind (faAsked_no t hl) ?_
      simp only [Bool.false_eq_true, if_false]
      exact Ev.now _
    · unfold impl_CountRoutes.f
      refine Ev.bind (implTwo_no t hl) ?_
      simp only [Bool.false_eq_true, if_false]
      exact Ev.now _
theorem FnExactCountRoutes : FnExactCountRoutesSaid := by
  intro a0_0 a0_1 l0_2 a1_0 a1_1 a2 a3 _ _ hlen_l0_2 _ _ _ _ _
  by_cases hb_l0_2 : 1048576 < l0_2.length
  · refine ⟨0, ?_⟩
    simp [laws_FnExactCountRoutes.f, szBoard_big a0_0 a0_1 l0_2 hb_l0_2 hlen_l0_2]
  have hs_l0_2 : l0_2.length ≤ 1048576 := by omega
  obtain ⟨r, b, hs, hi⟩ := countRoutes_both a0_0 a0_1 l0_2 a1_0 a1_1 a2 a3 hs_l0_2
  refine rounds_of ?_
  have n0 : ¬ (1048576 - (l0_2.length : Int) < 0) := by omega
  have n1 : ¬ (1 + (l0_2.length : Int) < 0) := by omega
  unfold laws_FnExactCountRoutes.f
  repeat (first
    | exact Ev.now _
    | refine Ev.bind (toBoard_ev _ _ _ (by assumption)) ?_
    | refine Ev.bind (eqBoard_ev _ _ _ (by assumption)) ?_
    | refine Ev.bind (markBoard_ev _ _ _ (by assumption)) ?_
    | refine Ev.bind (toIntS_ev _ (by assumption)) ?_
    | refine Ev.bind (eqIntS_ev _ (by assumption)) ?_
    | refine Ev.bind (markIntS_ev _ (by assumption)) ?_
    | refine Ev.bind (heldIntS_ev _ (by assumption)) ?_
    | refine Ev.bind (markIntS_any _ _ (by assumption) (by omega)) ?_
    | refine Ev.bind hs ?_
    | refine Ev.bind hi ?_
    | simp only [Option.bind_some, if_true, if_false, bne_self_eq_false, Bool.false_eq_true, ne_eq, not_true_eq_false, not_false_eq_true, szBoard_fit _ _ _ hs_l0_2, laws_toLeaper.f, n0, n1]
    | (refine Ev.step (fun k => by rw [laws_FnExactCountRoutes.j0]) ?_))
end Go.Proofs.Ytjeongckkfkehaa.Pure

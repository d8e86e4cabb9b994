/- laws.markIntSS, in the form of the printed contracts: each row of a slice of slices of the call's own is numbered on; for slices of no more than 1,048,576 rows with no more elements each. -/
import Derived.Test.YtemaokhlolimhaaQ0
import Derived.Test.YtemaokhlolimhaaQ6
import Derived.IntWalk
namespace Go.Proofs.Ytemaokhlolimhaa.Q
open Go.RowKit Go.IntWalk Go.Proofs.YtemaokhlolimhaaW.PrintWords Go.Proofs.YtemaokhlolimhaaW.PrintLast Go.Proofs.YtemaokhlolimhaaW.PrintMore
set_option linter.unusedVariables false
set_option linter.unusedSimpArgs false
def markL : List Int → Int → Int × List Int
  | [], n => (n, [])
  | _ :: r, n => ((markL r (wrap64 (n + 1))).1, n :: (markL r (wrap64 (n + 1))).2)
def markLL : List (List Int) → Int → Int × List (List Int)
  | [], n => (n, [])
  | x :: r, n => ((markLL r (markL x n).1).1, (markL x n).2 :: (markLL r (markL x n).1).2)
def laws_markIntSS.f (l0 : List (List Int)) (a1 : Int) : Option (Int × List (List Int)) := if l0.length ≤ 1048576 ∧ ∀ x ∈ l0, x.length ≤ 1048576 then some (markLL l0 a1) else none
theorem markL_length (l : List Int) : ∀ n, (markL l n).2.length = l.length := by
  induction l with
  | nil => intro n; rfl
  | cons x r ih => intro n; simp [markL, ih]
theorem markIntS_some (rest : List Int) : ∀ (pre : List Int) (n : Int), (pre ++ rest).length ≤ 1048576 → ∃ k, laws_markIntS.l0 k (pre ++ rest) n (pre.length : Int) = some ((markL rest n).1, pre ++ (markL rest n).2) := by
  induction rest with
  | nil =>
    intro pre n _
    refine ⟨1, ?_⟩
    rw [laws_markIntS.l0, if_neg (by simp)]
    simp [markL]
  | cons x r ih =>
    intro pre n h
    obtain ⟨k, hk⟩ := ih (pre ++ [n]) (wrap64 (n + 1)) (by simpa using h)
    refine ⟨k + 1, ?_⟩
    have h1 : (pre.length : Int) < ((pre ++ x :: r).length : Int) := by simp; omega
    have h2 : (0 : Int) ≤ (pre.length : Int) := by omega
    have h3 : wrap64 ((pre.length : Int) + 1) = ((pre ++ [n]).length : Int) := by
      rw [wrap64_in _ (by simp at h; omega)]
      simp
    have h4 : (pre ++ x :: r).set ((pre.length : Int)).toNat n = (pre ++ [n]) ++ r := by
      rw [Int.toNat_natCast, List.set_append_right _ _ (Nat.le_refl _), Nat.sub_self]
      simp
    rw [laws_markIntS.l0, if_pos h1, if_pos h2, h3, h4, hk]
    simp [markL]
theorem grown_of {B : Nat} {w0 w w' : World} {row : Option Nat} (h : Below B w0 w) (h' : Below B w0 w') (hk : Kept w w' (fun k => some k = row)) : w.grownBy w' row :=
  ⟨h'.os.trans h.os.symm, h'.tape.trans h.tape.symm, h'.output.trans h.output.symm, hk.1, fun k hk1 hne => hk.2 k hk1 hne⟩
/-- Where the loop over rows stands: the rows behind are numbered, those ahead are to be. -/
def MarkAt (kq : Nat) (xs : List (List Int)) (x1 x5 r1 : Int) (r2 : List (List Int)) : Prop :=
  ∃ pre rest : List (List Int), xs = pre ++ rest ∧ x5 = (pre.length : Int) ∧ (markLL rest x1).1 = r1 ∧ pre ++ (markLL rest x1).2 = r2 ∧ rest.length < kq ∧ pre.length + rest.length ≤ 1048576 ∧ ∀ x ∈ rest, x.length ≤ 1048576
theorem MarkAt.zero {xs r2 : List (List Int)} {x1 x5 r1 : Int} (h : MarkAt 0 xs x1 x5 r1 r2) : False := by
  obtain ⟨_, _, _, _, _, _, h, _⟩ := h
  omega
theorem MarkAt.done {kq : Nat} {xs r2 : List (List Int)} {x1 x5 r1 : Int} (h : MarkAt kq xs x1 x5 r1 r2) (hn : ¬ x5 < (xs.length : Int)) : x1 = r1 ∧ xs = r2 := by
  obtain ⟨pre, rest, rfl, rfl, h1, h2, _⟩ := h
  cases rest with
  | nil => simp [markLL] at h1 h2; exact ⟨h1, by simpa using h2⟩
  | cons x r => exact absurd (by simp; omega) hn
theorem MarkAt.go {kq : Nat} {xs r2 : List (List Int)} {x1 x5 r1 : Int} (h : MarkAt (kq + 1) xs x1 x5 r1 r2) (hn : x5 < (xs.length : Int)) :
    0 ≤ x5 ∧ (∃ k, laws_markIntS.f k (rd_L1 xs x5) x1 = some ((markL (rd_L1 xs x5) x1).1, (markL (rd_L1 xs x5) x1).2)) ∧ MarkAt kq (xs.set x5.toNat (markL (rd_L1 xs x5) x1).2) (markL (rd_L1 xs x5) x1).1 (wrap64 (x5 + 1)) r1 r2 := by
  obtain ⟨pre, rest, rfl, rfl, h1, h2, h3, h4, h5⟩ := h
  cases rest with
  | nil => exact absurd hn (by simp)
  | cons x r =>
    have e : rd_L1 (pre ++ x :: r) (pre.length : Int) = x := by
      unfold rd_L1
      rw [List.getD_eq_getElem?_getD, Int.toNat_natCast, List.getElem?_append_right (Nat.le_refl _), Nat.sub_self]
      rfl
    rw [e]
    refine ⟨by omega, ?_, pre ++ [(markL x x1).2], r, ?_, ?_, ?_, ?_, ?_, ?_, fun y hy => h5 y (by simp [hy])⟩
    · obtain ⟨k, hk⟩ := markIntS_some x [] x1 (by simpa using h5 x (by simp))
      exact ⟨k, by simpa [laws_markIntS.f] using hk⟩
    · rw [Int.toNat_natCast, List.set_append_right _ _ (Nat.le_refl _), Nat.sub_self]
      simp
    · rw [wrap64_in _ (by simp at h4; omega)]; simp
    · simpa [markLL] using h1
    · simpa [markLL] using h2
    · simp at h3; omega
    · simp at h4 ⊢; omega
set_option maxHeartbeats 8000000 in
set_option maxRecDepth 100000 in
theorem laws_markIntSS.calls (P0_ : Nat → Prop) (u9000_ : Value) (l0 : List (List Int)) (a1 : Int) (r1 : Int) (r2 : List (List Int)) (w0 w : World) (hB : Below w0.heap.size w0 w) (ho0 : Kd.S (Kd.slice 3 (Kd.int .i64)) 22 w w0.heap.size P0_ u9000_ l0) (h : laws_markIntSS.f l0 a1 = some (r1, r2)) :
  Calls Try.prog 15 #[u9000_, .int .i64 a1] w fun e w' => e = .returned (.int .i64 r1) ∧ Kd.S (Kd.slice 3 (Kd.int .i64)) 22 w' w0.heap.size P0_ u9000_ r2 ∧ Below w0.heap.size w0 w' ∧ Kept w w' P0_ := by
 have HM : MarkAt (l0.length + 1) l0 a1 0 r1 r2 := by
  unfold laws_markIntSS.f at h
  split at h
  case isFalse => cases h
  rename_i hlim
  have h := Option.some.inj h
  exact ⟨[], l0, rfl, rfl, by rw [h], by rw [h]; rfl, by omega, by simpa using hlim.1, hlim.2⟩
 clear h
 have HA := Aside0.mk HM
 clear HM
 have HO := Aside0.mk ho0
 clear ho0
 have HK := Aside0.mk (Kept.refl w P0_)
 have HB := Aside0.mk hB
 clear hB
 go_enter Try.func15, Try.ntmps15
 go_wp2
 go_loopg [1, 5] (l0.length + 1) (fun kq v1 v5 w' => ∃ (xs_1 : List (List Int)) (x1_1 : Int) (x5_1 : Int), v1 = .int .i64 x1_1 ∧ v5 = .int .i64 x5_1 ∧ Aside0 (MarkAt kq xs_1 x1_1 x5_1 r1 r2) ∧ Aside0 (Kd.S (Kd.slice 3 (Kd.int .i64)) 22 w' w0.heap.size P0_ u9000_ xs_1) ∧ Aside0 (Kept w w' P0_) ∧ Aside0 (Below w0.heap.size w0 w'))
 case atStart => exact ⟨l0, a1, 0, (by first | rfl | (simp; done) | (simp [*]; done)), (by first | rfl | (simp; done) | (simp [*]; done)), HA, ⟨by (with_reducible repeat (first | apply Kd.S_alloc | apply Kd.S_drewN | apply Kd.S_drew)); exact HO.out⟩, ⟨by repeat (first | (with_reducible first | exact HK.out | apply Kept.alloc | apply Kept.drewN | apply Kept.drew) | exact HK.out)⟩, ⟨by repeat (first | (with_reducible first | exact HB.out | apply below_alloc | apply pw_below_drewN | apply below_drew1) | exact HB.out)⟩⟩
 case round =>
  clear HA HO HK HB
  obtain ⟨xs_1, x1_1, x5_1, rfl, rfl, HA, HO, HK, HB⟩ := hrel
  cases gk with
  | zero => exact absurd HA.out (fun h => h.zero)
  | succ k1 =>
   obtain ⟨Ao, co, eo⟩ := Kd.S_slice HO.out
   subst eo
   by_cases c3 : x5_1 < (xs_1.length : Int)
   ·have c3b0 : decide (x5_1 < (xs_1.length : Int)) = true := decide_eq_true c3
    obtain ⟨p0, ⟨kk, hmk⟩, HA2⟩ := HA.out.go c3
    have c4b0 : decide (0 ≤ x5_1) = true := decide_eq_true p0
    obtain ⟨ad, A0, cc0, e0, hx_0, hl_0, hi_0⟩ := at_L1 (Kd.S_reads' HO.out).2.2 x5_1 p0 c3
    subst e0
    obtain ⟨oki, ce, hcl, hM, hcc, hok, hbk⟩ := Kd.S_borrow HO.out ([] : List Int) x5_1 p0 c3
    obtain ⟨ve, rfl, ge⟩ := hM
    have hv := hcc 0 _ rfl
    rw [Nat.add_zero, show (Kd.slice 3 (Kd.int .i64)).sz = 1 from rfl, Nat.mul_one] at hv
    replace hv := Option.some.inj (hv.symm.trans hx_0)
    subst hv
    have HP := Aside0.mk (show Kd.R (Kd.int .i64) 3 _ w0.heap.size oki _ (rd_L1 xs_1 x5_1) from ge)
    have HBK := Aside0.mk @hbk
    have HOK := Aside0.mk hok
    have HMK := Aside0.mk hmk
    have HA3 := Aside0.mk HA2
    clear hcc hcl ge hbk hok hmk HA2 HA hi_0 hl_0
    generalize hm1 : (markL (rd_L1 xs_1 x5_1) x1_1).1 = m1 at HMK HA3
    generalize hm2 : (markL (rd_L1 xs_1 x5_1) x1_1).2 = m2 at HMK HA3
    clear hm1 hm2
    replace p0 := eq_true p0
    replace c3 := eq_true c3
    go_wp2_with (first | ((with_reducible refine gate_callee (f := 21) rfl ?_); refine goesL_ (some 17) rfl rfl Try.func21 (by kernel_rfl) rfl #[.slice A0 (rd_L1 xs_1 x5_1).length cc0, .int .i64 x1_1] rfl (by (try simp only [List.map_toArray, List.map_cons, List.map_nil]); first | done | rfl | (simp only [List.length_drop, List.length_take]; rfl)) ?_; (with_reducible refine (laws_markIntS.calls kk (fun k_ => some k_ = (.slice A0 (rd_L1 xs_1 x5_1).length cc0 : Value).ownBlock) (.slice A0 (rd_L1 xs_1 x5_1).length cc0) (rd_L1 xs_1 x5_1) x1_1 m1 m2 w0 _ ?side1 ?side2 HMK.out).mono ?_); (case side1 => repeat (first | (with_reducible first | exact HB.out | apply below_alloc | apply pw_below_drewN | apply below_drew1) | exact HB.out)); (case side2 => exact Kd.R_tight rfl (by (with_reducible repeat (first | apply Kd.R_alloc | apply Kd.R_drewN | apply Kd.R_drew)); exact HP.out)); rintro e w2 ⟨rfl, hy, hb, hkp⟩; refine ⟨_, rfl, ?_⟩; have hg := grown_of HB.out hb hkp; have n0_ := Aside0.mk (HBK.out hg (fun k_ e_ => HP.out.1 k_ e_) (Kd.M_row (Kd.R_reok rfl hy (fun k_ e_ => HP.out.1 k_ e_)))); have n1_ := Aside0.mk (Kept.then_ HK.out hkp (fun k_ hk_ => .inl (HOK.out k_ (HP.out.1 k_ hk_.symm)).1)); have n2_ := Aside0.mk hb; clear HO HK HB HBK HP HOK; have HO := n0_; have HK := n1_; have HB := n2_; clear n0_ n1_ n2_ hg hkp hy hb))
    go_roundg k1
    case measure => omega
    case rel => exact ⟨_, m1, (wrap64 (x5_1 + 1)), (by first | rfl | (simp; done) | (simp [*]; done)), (by first | rfl | (simp; done) | (simp [*]; done)), HA3, ⟨by (with_reducible repeat (first | apply Kd.S_alloc | apply Kd.S_drewN | apply Kd.S_drew)); exact HO.out⟩, ⟨by repeat (first | (with_reducible first | exact HK.out | apply Kept.alloc | apply Kept.drewN | apply Kept.drew) | exact HK.out)⟩, ⟨by repeat (first | (with_reducible first | exact HB.out | apply below_alloc | apply pw_below_drewN | apply below_drew1) | exact HB.out)⟩⟩
   ·have c3b0 : decide (x5_1 < (xs_1.length : Int)) = false := decide_eq_false c3
    obtain ⟨rfl, rfl⟩ := HA.out.done c3
    clear c3
    go_wp2
    go_ret
    exact ⟨by first | rfl | (simp [errW_none, errW_some] <;> rfl) | (simp [*, errW_none, errW_some] <;> rfl), by (with_reducible repeat (first | apply Kd.S_alloc | apply Kd.S_drewN | apply Kd.S_drew)); exact HO.out, by repeat (first | (with_reducible first | exact HB.out | apply below_alloc | apply pw_below_drewN | apply below_drew1) | exact HB.out), by repeat (first | (with_reducible first | exact HK.out | apply Kept.alloc | apply Kept.drewN | apply Kept.drew) | exact HK.out)⟩
end Go.Proofs.Ytemaokhlolimhaa.Q

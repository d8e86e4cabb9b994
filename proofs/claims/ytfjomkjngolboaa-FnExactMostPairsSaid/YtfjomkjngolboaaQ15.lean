/- Written by a program of this session: functions of the translation as plain Lean functions, each with a proof that the call does what the plain function says; the conditions stand in each theorem. -/
import Derived.Test.YtfjomkjngolboaaQ0
namespace Go.Proofs.Ytfjomkjngolboaa.Q
open Go.RowKit Go.Proofs.YtfjomkjngolboaaW.PrintWords Go.Proofs.YtfjomkjngolboaaW.PrintLast Go.Proofs.YtfjomkjngolboaaW.PrintMore
attribute [local go_sem] max2_int min2_int max_two min_two max_three min_three max_four min_four   -- for this text's walks alone
set_option linter.unusedVariables false
set_option linter.unusedSimpArgs false

theorem zmt1 {p : Prop} (h : p := by repeat (first | (with_reducible first | exact HB.out | apply below_alloc | apply pw_below_drewN | apply below_drew1 | refine below_set ?_ GE0.out) | exact HB.out)) : p := h
theorem zmt2 {p : Prop} (h : p := by repeat (first | (with_reducible first | exact HK.out | apply Kept.alloc | apply Kept.drewN | apply Kept.drew | refine Kept.setCell ?_ (.inr GW0.out) _) | exact HK.out)) : p := h
theorem zmt3 {p : Prop} (h : p := by first | (with_reducible assumption) | assumption) : p := h
theorem zmt4 {p : Prop} (h : p := by first | exact BK0.out | ((with_reducible repeat (first | refine blk_drewN ?_ _ | refine blk_drew ?_ | refine blk_alloc ?_ _)); exact BK0.out)) : p := h
theorem zmt5 {p : Prop} (h : p := by first | exact HO_3.out | ((with_reducible repeat (first | apply Kd.R_alloc | apply Kd.R_drewN | apply Kd.R_drew)); exact HO_3.out)) : p := h
theorem zmt6 {p : Prop} (h : p := by first | exact HO_2.out | ((with_reducible repeat (first | apply Kd.R_alloc | apply Kd.R_drewN | apply Kd.R_drew)); exact HO_2.out)) : p := h
theorem zmt7 {p : Prop} (h : p := by first | rfl | (simp; done) | (simp [*]; done)) : p := h
theorem zmt8 {p : Prop} (h : p := by (try simp only [hl3_1]); (try simp only [hl3_2]); (try simp only [hl3_3]); first | exact BK0.out | ((with_reducible repeat (first | refine blk_drewN ?_ _ | refine blk_drew ?_ | refine blk_alloc ?_ _)); exact BK0.out)) : p := h
theorem zmt9 {p : Prop} (h : p := by first | rfl | (simp [errW_none, errW_some] <;> rfl) | (simp [*, errW_none, errW_some] <;> rfl)) : p := h
theorem zmt10 {p : Prop} (h : p := by first | exact HR288_0.out | (repeat (first | (with_reducible exact HR288_0.out) | (with_reducible refine Kd.C_alloc ?_ _) | (with_reducible refine Kd.C_drewN ?_ _) | (with_reducible refine Kd.C_drew ?_) | exact HR288_0.out))) : p := h
theorem zmt11 {p : Prop} (h : p := by (try simp only [hl3_1]); (try simp only [hl3_2]); (try simp only [hl3_3]); first | exact HO_3.out | ((with_reducible repeat (first | apply Kd.R_alloc | apply Kd.R_drewN | apply Kd.R_drew)); exact HO_3.out)) : p := h
theorem zmt12 {p : Prop} (h : p := by repeat (first | exact (Kd.C_below HR0_6.out HB.out) | (with_reducible refine Kd.C_alloc ?_ _) | (with_reducible refine Kd.C_drewN ?_ _) | (with_reducible refine Kd.C_drew ?_))) : p := h
theorem zmt13 {p : Prop} (h : p := by repeat (first | exact (Kd.C_below HR0_5.out HB.out) | (with_reducible refine Kd.C_alloc ?_ _) | (with_reducible refine Kd.C_drewN ?_ _) | (with_reducible refine Kd.C_drew ?_))) : p := h
theorem zmt14 {p : Prop} (h : p := by repeat (first | exact (Kd.C_below HR0_2.out HB.out) | (with_reducible refine Kd.C_alloc ?_ _) | (with_reducible refine Kd.C_drewN ?_ _) | (with_reducible refine Kd.C_drew ?_))) : p := h
theorem zmt15 {p : Prop} (h : p := by (try simp only [hl3_1]); first | exact BK0.out | ((with_reducible repeat (first | refine blk_drewN ?_ _ | refine blk_drew ?_ | refine blk_alloc ?_ _)); exact BK0.out)) : p := h
theorem zmt16 {p : Prop} (h : p := by (try simp only [List.map_toArray, List.map_cons, List.map_nil]); first | done | rfl | (simp only [List.length_drop, List.length_take]; rfl)) : p := h
theorem zmt17 {p : Prop} (h : p := by (try simp only [hl3_1]); first | exact HO_3.out | ((with_reducible repeat (first | apply Kd.R_alloc | apply Kd.R_drewN | apply Kd.R_drew)); exact HO_3.out)) : p := h
/-- A row of rows that stays as it was in each world that keeps all but S: its places stand in no block of S, so the row in a place stays too. -/
theorem at_L1_kept {w : World} {S : Nat → Prop} {A : Option Addr} {n : Nat} {xs : List (List Int)} (h : ∀ W_, Kept w W_ S → Kd.C (Kd.slice 3 (Kd.int .i64)) W_ A n xs) (i : Int) (h0 : 0 ≤ i) (h1 : i < n) :
  ∃ ad A0 c0, A = some ad ∧ w.cell? (ad.add i.toNat) = some (.slice A0 (rd_L1 xs i).length c0) ∧ (rd_L1 xs i).length ≤ c0 ∧ ∀ W_, Kept w W_ S → (Kd.int .i64).C W_ A0 (rd_L1 xs i).length (rd_L1 xs i) := by
 obtain ⟨ad, A0, c0, rfl, hx, hl, _⟩ := at_L1 (h w (Kept.refl w S)) i h0 h1
 have hlt := World.block_lt_of_cell? w _ hx
 have hS : ¬ S (ad.add i.toNat).block := fun hs => by
  have hk : Kept w { w with heap := w.heap.modify (ad.add i.toNat).block fun _ => .cells #[] 0 (0, 0) } S := by
   refine ⟨by simp, fun k hk hn => ?_⟩
   have : ¬ (ad.add i.toNat).block = k := fun e => hn (e ▸ hs)
   simp only [Array.getElem?_modify, if_neg this]
  obtain ⟨ad2, A2, c2, e2, hx2, _, _⟩ := at_L1 (h _ hk) i h0 h1
  cases e2
  simp [World.cell?, Array.getElem?_modify, Array.getElem?_eq_getElem hlt] at hx2
 refine ⟨ad, A0, c0, rfl, hx, hl, fun W_ hk => ?_⟩
 obtain ⟨ad2, A2, c2, e2, hx2, _, hi2⟩ := at_L1 (h W_ hk) i h0 h1
 cases e2
 have hc : W_.cell? (ad.add i.toNat) = w.cell? (ad.add i.toNat) := by
  unfold World.cell?
  rw [hk.2 _ hlt hS]
 rw [hc, hx] at hx2
 cases hx2
 exact hi2
/-! ### impl_graph_matched -/
mutual
def impl_graph_matched.l0 : Nat → Int → List Int → List Bool → List Int → Int → Int → Int → Int → List Int → Int → Int → List Int → List (List Int) → Option (Bool × List Int × List Bool)
 | 0, _, _, _, _, _, _, _, _, _, _, _, _, _ => none
 | k + 1, x1, x2, x3, x17, x18, x19, x1000, x1001, x1002, x1003, x1004, x1005, x1006 => if x19 < x18 then (if 0 ≤ x19 then (if x19 < (x17.length : Int) then (if 0 ≤ (rd x17 x19) then (if (rd x17 x19) < (x3.length : Int) then (if rdOf false x3 (rd x17 x19) = true then (impl_graph_matched.l0 k x1 x2 x3 x17 x18 (wrap64 (x19 + 1)) x1000 x1001 x1002 x1003 x1004 x1005 x1006) else ((some (x3.set ((rd x17 x19) : Int).toNat true : List Bool)).bind fun y298 => (if (rd x17 x19) < (x2.length : Int) then (if (rd x2 (rd x17 x19)) < 0 then (some (true, (x2.set ((rd x17 x19) : Int).toNat x1), y298)) else ((impl_graph_matched.f k x1000 x1001 x1002 x1003 x1004 x1005 x1006 (rd x2 (rd x17 x19)) x2 y298).bind fun bt302 => (if bt302.1 = true then (some (true, (bt302.2.1.set ((rd x17 x19) : Int).toNat x1), bt302.2.2)) else (impl_graph_matched.l0 k x1 bt302.2.1 bt302.2.2 x17 x18 (wrap64 (x19 + 1)) x1000 x1001 x1002 x1003 x1004 x1005 x1006)))) else (none)))) else (none)) else (none)) else (none)) else (none)) else (some (false, x2, x3))
def impl_graph_matched.f : Nat → Int → Int → List Int → Int → Int → List Int → List (List Int) → Int → List Int → List Bool → Option (Bool × List Int × List Bool)
 | 0, _, _, _, _, _, _, _, _, _, _ => none
 | k + 1, a0_0, a0_1, l0_2, a0_3, a0_4, l0_5, l0_6, a1, l2, l3 => if 0 ≤ a1 then (if a1 < (l0_6.length : Int) then (impl_graph_matched.l0 k a1 l2 l3 (rd_L1 l0_6 a1) ((rd_L1 l0_6 a1).length : Int) 0 a0_0 a0_1 l0_2 a0_3 a0_4 l0_5 l0_6) else (none)) else (none)
end
set_option maxHeartbeats 8000000 in
set_option maxRecDepth 100000 in
theorem impl_graph_matched.calls (k : Nat) : ∀ (gb0 : Nat) (a0_0 : Int) (a0_1 : Int) (A0_2 : Option Addr) (c0_2 : Nat) (l0_2 : List Int) (a0_3 : Int) (a0_4 : Int) (A0_5 : Option Addr) (c0_5 : Nat) (l0_5 : List Int) (A0_6 : Option Addr) (c0_6 : Nat) (l0_6 : List (List Int)) (a1 : Int) (P2_ : Nat → Prop) (u9000_ : Value) (l2 : List Int) (P3_ : Nat → Prop) (u9001_ : Value) (l3 : List Bool) (r1 : Bool) (r2 : List Int) (r3 : List Bool) (w0 w : World) (hB : Below w0.heap.size w0 w) (hg0 : w.heap[gb0]? = some (.cells #[.int .i64 a0_0, .int .i64 a0_1, .slice A0_2 l0_2.length c0_2, .int .i64 a0_3, .int .i64 a0_4, .slice A0_5 l0_5.length c0_5, .slice A0_6 l0_6.length c0_6] 53 (0, 0))) (hr0_2 : ∀ W_, Kept w W_ (fun k_ => P2_ k_ ∨ P3_ k_) → Kd.C (Kd.int .i64) W_ A0_2 l0_2.length l0_2) (hc0_2 : l0_2.length ≤ c0_2) (hr0_5 : ∀ W_, Kept w W_ (fun k_ => P2_ k_ ∨ P3_ k_) → Kd.C (Kd.int .i64) W_ A0_5 l0_5.length l0_5) (hc0_5 : l0_5.length ≤ c0_5) (hr0_6 : ∀ W_, Kept w W_ (fun k_ => P2_ k_ ∨ P3_ k_) → Kd.C (Kd.slice 3 (Kd.int .i64)) W_ A0_6 l0_6.length l0_6) (hc0_6 : l0_6.length ≤ c0_6) (ho2 : Kd.R (Kd.int .i64) 3 w w0.heap.size P2_ u9000_ l2) (ho3 : Kd.R Kd.bool 4 w w0.heap.size P3_ u9001_ l3) (h : impl_graph_matched.f k a0_0 a0_1 l0_2 a0_3 a0_4 l0_5 l0_6 a1 l2 l3 = some (r1, r2, r3)),
  Calls Try.prog 24 #[.pointer (some ⟨gb0, 0, none⟩), .int .i64 a1, u9000_, u9001_] w fun e w' => e = .returned (.bool r1) ∧ Kd.R (Kd.int .i64) 3 w' w0.heap.size (fun k_ => ((P2_ k_ ∨ P3_ k_) ∨ w.heap.size ≤ k_)) u9000_ r2 ∧ Kd.R Kd.bool 4 w' w0.heap.size (fun k_ => ((P2_ k_ ∨ P3_ k_) ∨ w.heap.size ≤ k_)) u9001_ r3 ∧ Below w0.heap.size w0 w' ∧ Kept w w' (fun k_ => P2_ k_ ∨ P3_ k_) := by
 induction k using Nat.strongRecOn with
 | _ k ih =>
 intro gb0 a0_0 a0_1 A0_2 c0_2 l0_2 a0_3 a0_4 A0_5 c0_5 l0_5 A0_6 c0_6 l0_6 a1 P2_ u9000_ l2 P3_ u9001_ l3 r1 r2 r3 w0 w hB hg0 hr0_2 hc0_2 hr0_5 hc0_5 hr0_6 hc0_6 ho2 ho3 h
 cases k with
 | zero => exact absurd h (by simp [impl_graph_matched.f])
 | succ k =>
 simp only [impl_graph_matched.f] at h
 have HR0_2 := Aside0.mk hr0_2
 have HC0_2 := Aside0.mk hc0_2
 clear hr0_2 hc0_2
 have HR0_5 := Aside0.mk hr0_5
 have HC0_5 := Aside0.mk hc0_5
 clear hr0_5 hc0_5
 have HR0_6 := Aside0.mk hr0_6
 have HC0_6 := Aside0.mk hc0_6
 clear hr0_6 hc0_6
 have HO2 := Aside0.mk (show Kd.R (Kd.int .i64) 3 w w0.heap.size (fun k_ => ((P2_ k_ ∨ P3_ k_) ∨ w.heap.size ≤ k_)) u9000_ l2 from Kd.R_mono ho2 (fun k_ hk => (.inl (.inl hk))))
 have HO3 := Aside0.mk (show Kd.R Kd.bool 4 w w0.heap.size (fun k_ => ((P2_ k_ ∨ P3_ k_) ∨ w.heap.size ≤ k_)) u9001_ l3 from Kd.R_mono ho3 (fun k_ hk => (.inl (.inr hk))))
 have BK0 := Aside0.mk hg0
 clear hg0
 have HK := Aside0.mk (Kept.refl w (fun k_ => P2_ k_ ∨ P3_ k_))
 have HW0 := Aside0.mk hB.size
 have HB := Aside0.mk hB
 clear hB
 have H : (if 0 ≤ a1 then (if a1 < (l0_6.length : Int) then (impl_graph_matched.l0 k a1 l2 l3 (rd_L1 l0_6 a1) ((rd_L1 l0_6 a1).length : Int) 0 a0_0 a0_1 l0_2 a0_3 a0_4 l0_5 l0_6) else (none)) else (none)) = some (r1, r2, r3) := h
 clear h
 by_cases c5 : 0 ≤ a1
 ·rw [if_pos c5] at H
  have c5b0 : decide (0 ≤ a1) = true := decide_eq_true c5
  clear c5
  by_cases c6 : a1 < (l0_6.length : Int)
  ·rw [if_pos c6] at H
   have c6b0 : decide (a1 < (l0_6.length : Int)) = true := decide_eq_true c6
   clear c6
   have H' := Aside0.mk H
   clear H
   have hcz7_0 : w.cell? ⟨gb0, 0, none⟩ = some (.int .i64 a0_0) := (blk_cell BK0.out 0).trans rfl
   have hcz7_1 : w.cell? ⟨gb0, 1, none⟩ = some (.int .i64 a0_1) := (blk_cell BK0.out 1).trans rfl
   have hcz7_2 : w.cell? ⟨gb0, 2, none⟩ = some (.slice A0_2 l0_2.length c0_2) := (blk_cell BK0.out 2).trans rfl
   have hcz7_3 : w.cell? ⟨gb0, 3, none⟩ = some (.int .i64 a0_3) := (blk_cell BK0.out 3).trans rfl
   have hcz7_4 : w.cell? ⟨gb0, 4, none⟩ = some (.int .i64 a0_4) := (blk_cell BK0.out 4).trans rfl
   have hcz7_5 : w.cell? ⟨gb0, 5, none⟩ = some (.slice A0_5 l0_5.length c0_5) := (blk_cell BK0.out 5).trans rfl
   have hcz7_6 : w.cell? ⟨gb0, 6, none⟩ = some (.slice A0_6 l0_6.length c0_6) := (blk_cell BK0.out 6).trans rfl
   have hfz7_0 := blk_frozen BK0.out 0
   have hfz7_1 := blk_frozen BK0.out 1
   have hfz7_2 := blk_frozen BK0.out 2
   have hfz7_3 := blk_frozen BK0.out 3
   have hfz7_4 := blk_frozen BK0.out 4
   have hfz7_5 := blk_frozen BK0.out 5
   have hfz7_6 := blk_frozen BK0.out 6
   have p295 : 0 ≤ (a1 : Int) := of_decide_eq_true zmt3
   have q295 : a1 < (l0_6.length : Int) := of_decide_eq_true zmt3
   obtain ⟨ad295, A295_0, c295_0, e295, hx295_0, hl295_0, hi295_0⟩ := at_L1_kept HR0_6.out a1 p295 q295
   cases e295
   have HR295_0 := Aside0.mk hi295_0
   have HC295_0 := Aside0.mk hl295_0
   clear hi295_0 hl295_0
   replace p295 := eq_true p295
   replace q295 := eq_true q295
   go_enter Try.func24, Try.ntmps24
   go_wp2
   go_loopg [19] k (fun kq v19 w' => ∃ (x2_1 : List Int) (x3_1 : List Bool) (x19_1 : Int), v19 = .int .i64 x19_1 ∧ Aside0 (impl_graph_matched.l0 kq a1 x2_1 x3_1 (rd_L1 l0_6 a1) ((rd_L1 l0_6 a1).length : Int) x19_1 a0_0 a0_1 l0_2 a0_3 a0_4 l0_5 l0_6 = some (r1, r2, r3)) ∧ Aside0 (kq ≤ k) ∧ Aside0 (Kd.R (Kd.int .i64) 3 w' w0.heap.size (fun k_ => ((P2_ k_ ∨ P3_ k_) ∨ w.heap.size ≤ k_)) u9000_ x2_1) ∧ Aside0 (Kd.R Kd.bool 4 w' w0.heap.size (fun k_ => ((P2_ k_ ∨ P3_ k_) ∨ w.heap.size ≤ k_)) u9001_ x3_1) ∧ Aside0 (w'.heap[gb0]? = some (.cells #[.int .i64 a0_0, .int .i64 a0_1, (.slice A0_2 l0_2.length c0_2), .int .i64 a0_3, .int .i64 a0_4, (.slice A0_5 l0_5.length c0_5), (.slice (some ad295) l0_6.length c0_6)] 53 (0, 0))) ∧ Aside0 (Kept w w' (fun k_ => P2_ k_ ∨ P3_ k_)) ∧ Aside0 (Below w0.heap.size w0 w'))
   case atStart => exact ⟨(l2), (l3), (0), zmt7, H', ⟨Nat.le_refl _⟩, ⟨by first | exact HO2.out | ((with_reducible repeat (first | apply Kd.R_alloc | apply Kd.R_drewN | apply Kd.R_drew)); exact HO2.out)⟩, ⟨by first | exact HO3.out | ((with_reducible repeat (first | apply Kd.R_alloc | apply Kd.R_drewN | apply Kd.R_drew)); exact HO3.out)⟩, ⟨zmt4⟩, ⟨zmt2⟩, ⟨zmt1⟩⟩
   case round =>
    clear H'
    try clear c2; try clear p2; try clear q2; try clear hx2; try clear c5; try clear c5b0; try clear c6; try clear c6b0; try clear hcz7_0; try clear hcz7_1; try clear hcz7_2; try clear hcz7_3; try clear hcz7_4; try clear hcz7_5; try clear hcz7_6; try clear hfz7_0; try clear hfz7_1; try clear hfz7_2; try clear hfz7_3; try clear hfz7_4; try clear hfz7_5; try clear hfz7_6; try clear hx295_0; try clear p295; try clear q295
    obtain ⟨x2_1, x3_1, x19_1, rfl, HA, HK1, HO_2, HO_3, BK0, HK, HB⟩ := hrel
    cases gk with
    | zero => exact absurd HA.out (by simp [impl_graph_matched.l0])
    | succ k1 =>
     have H := HA.out
     clear HA
     simp only [impl_graph_matched.l0] at H
     by_cases c8 : x19_1 < ((rd_L1 l0_6 a1).length : Int)
     ·rw [if_pos c8] at H
      have c8b0 : decide (x19_1 < ((rd_L1 l0_6 a1).length : Int)) = true := decide_eq_true c8
      clear c8
      by_cases c9 : 0 ≤ x19_1
      ·rw [if_pos c9] at H
       have c9b0 : decide (0 ≤ x19_1) = true := decide_eq_true c9
       clear c9
       by_cases c10 : x19_1 < ((rd_L1 l0_6 a1).length : Int)
       ·rw [if_pos c10] at H
        have c10b0 : decide (x19_1 < ((rd_L1 l0_6 a1).length : Int)) = true := decide_eq_true c10
        clear c10
        by_cases c11 : 0 ≤ (rd (rd_L1 l0_6 a1) x19_1)
        ·rw [if_pos c11] at H
         have c11b0 : decide (0 ≤ (rd (rd_L1 l0_6 a1) x19_1)) = true := decide_eq_true c11
         clear c11
         by_cases c12 : (rd (rd_L1 l0_6 a1) x19_1) < (x3_1.length : Int)
         ·rw [if_pos c12] at H
          have c12b0 : decide ((rd (rd_L1 l0_6 a1) x19_1) < (x3_1.length : Int)) = true := decide_eq_true c12
          clear c12
          obtain ⟨bq13, hbq13⟩ : ∃ b_ : Bool, b_ = (rdOf false x3_1 (rd (rd_L1 l0_6 a1) x19_1)) := ⟨_, rfl⟩
          replace H : (if bq13 = true then (impl_graph_matched.l0 k1 a1 x2_1 x3_1 (rd_L1 l0_6 a1) ((rd_L1 l0_6 a1).length : Int) (wrap64 (x19_1 + 1)) a0_0 a0_1 l0_2 a0_3 a0_4 l0_5 l0_6) else ((some (x3_1.set ((rd (rd_L1 l0_6 a1) x19_1) : Int).toNat true : List Bool)).bind fun y298 => (if (rd (rd_L1 l0_6 a1) x19_1) < (x2_1.length : Int) then (if (rd x2_1 (rd (rd_L1 l0_6 a1) x19_1)) < 0 then (some (true, (x2_1.set ((rd (rd_L1 l0_6 a1) x19_1) : Int).toNat a1), y298)) else ((impl_graph_matched.f k1 a0_0 a0_1 l0_2 a0_3 a0_4 l0_5 l0_6 (rd x2_1 (rd (rd_L1 l0_6 a1) x19_1)) x2_1 y298).bind fun bt302 => (if bt302.1 = true then (some (true, (bt302.2.1.set ((rd (rd_L1 l0_6 a1) x19_1) : Int).toNat a1), bt302.2.2)) else (impl_graph_matched.l0 k1 a1 bt302.2.1 bt302.2.2 (rd_L1 l0_6 a1) ((rd_L1 l0_6 a1).length : Int) (wrap64 (x19_1 + 1)) a0_0 a0_1 l0_2 a0_3 a0_4 l0_5 l0_6)))) else (none)))) = some (r1, r2, r3) := by rw [← hbq13] at H; exact H
          have Nbq13 := Aside0.mk hbq13
          clear hbq13
          by_cases c14 : bq13 = true
          ·subst c14
           have H1 : (impl_graph_matched.l0 k1 a1 x2_1 x3_1 (rd_L1 l0_6 a1) ((rd_L1 l0_6 a1).length : Int) (wrap64 (x19_1 + 1)) a0_0 a0_1 l0_2 a0_3 a0_4 l0_5 l0_6) = some (r1, r2, r3) := by rw [if_pos rfl] at H; exact H
           clear H
           have H := H1
           clear H1
           have H' := Aside0.mk H
           clear H
           have p296 : 0 ≤ (x19_1 : Int) := of_decide_eq_true zmt3
           have q296 : x19_1 < ((rd_L1 l0_6 a1).length : Int) := of_decide_eq_true zmt3
           obtain ⟨ad296, e296, hx296_0⟩ := Kd.at_int (HR295_0.out _ HK.out) x19_1 p296 q296
           cases e296
           replace p296 := eq_true p296
           replace q296 := eq_true q296
           obtain ⟨Ao15, co15, eo15⟩ := Kd.R_slice HO_3.out
           subst eo15
           have p297 : 0 ≤ ((rd (rd_L1 l0_6 a1) x19_1) : Int) := of_decide_eq_true zmt3
           have q297 : (rd (rd_L1 l0_6 a1) x19_1) < (x3_1.length : Int) := of_decide_eq_true zmt3
           obtain ⟨ad297, e297, hx297_0⟩ := Kd.at_bool (Kd.R_reads' HO_3.out).2.2 (rd (rd_L1 l0_6 a1) x19_1) p297 q297
           (try rw [← Nbq13.out] at hx297_0)
           cases e297
           replace p297 := eq_true p297
           replace q297 := eq_true q297
           go_wp2
           go_roundg k1
           case measure => have := HK1.out; omega
           case rel => exact ⟨(x2_1), (x3_1), (wrap64 (x19_1 + 1)), zmt7, H', ⟨by have := HK1.out; omega⟩, ⟨zmt6⟩, ⟨zmt5⟩, ⟨zmt4⟩, ⟨zmt2⟩, ⟨zmt1⟩⟩
          ·replace c14 := Bool.eq_false_iff.mpr c14
           subst c14
           have H1 : ((some (x3_1.set ((rd (rd_L1 l0_6 a1) x19_1) : Int).toNat true : List Bool)).bind fun y298 => (if (rd (rd_L1 l0_6 a1) x19_1) < (x2_1.length : Int) then (if (rd x2_1 (rd (rd_L1 l0_6 a1) x19_1)) < 0 then (some (true, (x2_1.set ((rd (rd_L1 l0_6 a1) x19_1) : Int).toNat a1), y298)) else ((impl_graph_matched.f k1 a0_0 a0_1 l0_2 a0_3 a0_4 l0_5 l0_6 (rd x2_1 (rd (rd_L1 l0_6 a1) x19_1)) x2_1 y298).bind fun bt302 => (if bt302.1 = true then (some (true, (bt302.2.1.set ((rd (rd_L1 l0_6 a1) x19_1) : Int).toNat a1), bt302.2.2)) else (impl_graph_matched.l0 k1 a1 bt302.2.1 bt302.2.2 (rd_L1 l0_6 a1) ((rd_L1 l0_6 a1).length : Int) (wrap64 (x19_1 + 1)) a0_0 a0_1 l0_2 a0_3 a0_4 l0_5 l0_6)))) else (none))) = some (r1, r2, r3) := by rw [if_neg (show ¬ (false = true) by decide)] at H; exact H
           clear H
           have H := H1
           clear H1
           obtain ⟨y298, hy298⟩ : ∃ y_ : List Bool, y_ = (x3_1.set ((rd (rd_L1 l0_6 a1) x19_1) : Int).toNat true) := ⟨_, rfl⟩
           replace H : (if (rd (rd_L1 l0_6 a1) x19_1) < (x2_1.length : Int) then (if (rd x2_1 (rd (rd_L1 l0_6 a1) x19_1)) < 0 then (some (true, (x2_1.set ((rd (rd_L1 l0_6 a1) x19_1) : Int).toNat a1), y298)) else ((impl_graph_matched.f k1 a0_0 a0_1 l0_2 a0_3 a0_4 l0_5 l0_6 (rd x2_1 (rd (rd_L1 l0_6 a1) x19_1)) x2_1 y298).bind fun bt302 => (if bt302.1 = true then (some (true, (bt302.2.1.set ((rd (rd_L1 l0_6 a1) x19_1) : Int).toNat a1), bt302.2.2)) else (impl_graph_matched.l0 k1 a1 bt302.2.1 bt302.2.2 (rd_L1 l0_6 a1) ((rd_L1 l0_6 a1).length : Int) (wrap64 (x19_1 + 1)) a0_0 a0_1 l0_2 a0_3 a0_4 l0_5 l0_6)))) else (none)) = some (r1, r2, r3) := by first | (rw [hy298]; with_reducible exact H) | (have H2_ := (Option.bind_some _ _).symm.trans H; rw [hy298]; with_reducible exact H2_) | (have H2_ := (Option.bind_some _ _).symm.trans H; with_reducible exact H2_) | with_reducible exact H | (rw [hy298]; exact H) | exact H
           have Ny298 := Aside0.mk hy298
           clear hy298
           by_cases c17 : (rd (rd_L1 l0_6 a1) x19_1) < (x2_1.length : Int)
           ·rw [if_pos c17] at H
            have c17b0 : decide ((rd (rd_L1 l0_6 a1) x19_1) < (x2_1.length : Int)) = true := decide_eq_true c17
            clear c17
            by_cases c18 : (rd x2_1 (rd (rd_L1 l0_6 a1) x19_1)) < 0
            ·rw [if_pos c18] at H
             have c18b0 : decide ((rd x2_1 (rd (rd_L1 l0_6 a1) x19_1)) < 0) = true := decide_eq_true c18
             clear c18
             obtain ⟨y300, hy300⟩ : ∃ y_ : List Int, y_ = (x2_1.set ((rd (rd_L1 l0_6 a1) x19_1) : Int).toNat a1) := ⟨_, rfl⟩
             replace H : (some (true, y300, y298)) = some (r1, r2, r3) := by first | (rw [hy300]; with_reducible exact H) | (have H2_ := (Option.bind_some _ _).symm.trans H; rw [hy300]; with_reducible exact H2_) | (have H2_ := (Option.bind_some _ _).symm.trans H; with_reducible exact H2_) | with_reducible exact H | (rw [hy300]; exact H) | exact H
             have Ny300 := Aside0.mk hy300
             clear hy300
             simp only [Option.some.injEq, Prod.mk.injEq] at H
             obtain ⟨rfl, rfl, rfl⟩ := H
             have p296 : 0 ≤ (x19_1 : Int) := of_decide_eq_true zmt3
             have q296 : x19_1 < ((rd_L1 l0_6 a1).length : Int) := of_decide_eq_true zmt3
             obtain ⟨ad296, e296, hx296_0⟩ := Kd.at_int (HR295_0.out _ HK.out) x19_1 p296 q296
             cases e296
             replace p296 := eq_true p296
             replace q296 := eq_true q296
             obtain ⟨Ao20, co20, eo20⟩ := Kd.R_slice HO_3.out
             subst eo20
             have p297 : 0 ≤ ((rd (rd_L1 l0_6 a1) x19_1) : Int) := of_decide_eq_true zmt3
             have q297 : (rd (rd_L1 l0_6 a1) x19_1) < (x3_1.length : Int) := of_decide_eq_true zmt3
             obtain ⟨ad297, e297, hx297_0⟩ := Kd.at_bool (Kd.R_reads' HO_3.out).2.2 (rd (rd_L1 l0_6 a1) x19_1) p297 q297
             (try rw [← Nbq13.out] at hx297_0)
             cases e297
             replace p297 := eq_true p297
             replace q297 := eq_true q297
             have p16 : 0 ≤ ((rd (rd_L1 l0_6 a1) x19_1) : Int) := of_decide_eq_true zmt3
             have q16 : ((rd (rd_L1 l0_6 a1) x19_1) : Int) < ((x3_1.length : Int) : Int) := of_decide_eq_true zmt3
             obtain ⟨go16, co16, eo16, gb16, gl16, cl16, HG16⟩ := Kd.R_form HO_3.out (by omega)
             (first | cases eo16 | (injection eo16 with ea_ en_ ec_; (first | subst ea_ | (injection ea_ with ea_; subst ea_)); subst ec_; clear en_))
             have GB16 := Aside0.mk gb16
             have GG16 := Aside0.mk HG16
             clear gb16 gl16 HG16
             have HMgo16 := Aside0.mk (show ((P2_ go16 ∨ P3_ go16) ∨ w.heap.size ≤ go16) from (HO_3.out.1 _ rfl))
             (try simp only [add_plain] at *)
             (first | simp only [add_plain] at hx297_0 | skip)
             obtain ⟨hx16_0, hf16_0⟩ := Kd.R_celln false HO_3.out ((rd (rd_L1 l0_6 a1) x19_1) : Int) p16 q16
             replace p16 := eq_true p16
             replace q16 := eq_true q16
             have HP21 := Kd.R_putg HO_3.out ((rd (rd_L1 l0_6 a1) x19_1) : Int) true
             go_wp2_with (first | ((with_reducible refine gate_store (t := 4) (p := 29) rfl ?_); refine store_event (t := 4) (p := 29) (v := ?vo_w22) (w1 := (wr.setCell ⟨go16, ((rd (rd_L1 l0_6 a1) x19_1) : Int).toNat, none⟩ (.bool true))) ?hg ?ho ?hn ?hr ?_; (case ho => rfl); (case hg => rfl); (case hn => rfl); (case hr => first | (go_simp; done) | (go_simp; rfl)); intro w22 hw; have hg : wr.grownBy w22 (some go16) := (by rw [hw]; exact HP21.2); have hp_ : Kd.R Kd.bool 4 w22 w0.heap.size (fun k_ => ((P2_ k_ ∨ P3_ k_) ∨ w.heap.size ≤ k_)) (.slice (some ⟨go16, 0, none⟩) x3_1.length co20) y298 := (by rw [hw, Ny298.out]; exact HP21.1); clear HP21; have n0_ := Aside0.mk (Kd.R_over' (v := (.slice (some ⟨go16, 0, none⟩) x3_1.length co20)) zmt6 (Kd.R_typed HO_3.out) (by decide) hg); have n1_ := Aside0.mk (hp_); have n2_ := Aside0.mk (blk_grown (g := gb0) (o := .cells #[.int .i64 a0_0, .int .i64 a0_1, .slice A0_2 l0_2.length c0_2, .int .i64 a0_3, .int .i64 a0_4, .slice A0_5 l0_5.length c0_5, .slice (some ad295) l0_6.length c0_6] 53 (0, 0)) zmt4 hg (Kd.R_ne HO_3.out BK0.out (by decide))); have n3_ := Aside0.mk ((by rw [hw]; exact below_set (HB.out) GB16.out : Below w0.heap.size w0 w22)); have n4_ := Aside0.mk (Kept.of_grown (S := (fun k_ => P2_ k_ ∨ P3_ k_)) hg zmt2 (fun k_ e_ => (HO_3.out.1 k_ e_))); clear HO_2; clear HO_3; clear BK0; clear HB; clear HK; have HO_2 := n0_; have HO_3 := n1_; have BK0 := n2_; have HB := n3_; have HK := n4_; clear n0_ n1_ n2_ n3_ n4_; clear hg hw hp_; obtain ⟨Ao23, co23, eo23⟩ := Kd.R_slice HO_2.out; subst eo23; have p299 : 0 ≤ ((rd (rd_L1 l0_6 a1) x19_1) : Int) := of_decide_eq_true zmt3; have q299 : (rd (rd_L1 l0_6 a1) x19_1) < (x2_1.length : Int) := of_decide_eq_true zmt3; obtain ⟨ad299, e299, hx299_0⟩ := Kd.at_int (Kd.R_reads' HO_2.out).2.2 (rd (rd_L1 l0_6 a1) x19_1) p299 q299; cases e299; replace p299 := eq_true p299; replace q299 := eq_true q299; have p19 : 0 ≤ ((rd (rd_L1 l0_6 a1) x19_1) : Int) := of_decide_eq_true zmt3; have q19 : ((rd (rd_L1 l0_6 a1) x19_1) : Int) < ((x2_1.length : Int) : Int) := of_decide_eq_true zmt3; obtain ⟨go19, co19, eo19, gb19, gl19, cl19, HG19⟩ := Kd.R_form HO_2.out (by omega); (first | cases eo19 | (injection eo19 with ea_ en_ ec_; (first | subst ea_ | (injection ea_ with ea_; subst ea_)); subst ec_; clear en_)); have GB19 := Aside0.mk gb19; have GG19 := Aside0.mk HG19; clear gb19 gl19 HG19; have HMgo19 := Aside0.mk (show ((P2_ go19 ∨ P3_ go19) ∨ w.heap.size ≤ go19) from (HO_2.out.1 _ rfl)); (try simp only [add_plain] at *); (first | simp only [add_plain] at hx299_0 | skip); obtain ⟨hx19_0, hf19_0⟩ := Kd.R_celln 0 HO_2.out ((rd (rd_L1 l0_6 a1) x19_1) : Int) p19 q19; replace p19 := eq_true p19; replace q19 := eq_true q19; obtain ⟨hy24_, hz24_⟩ := Kd.R_celln 0 HO_2.out ((rd (rd_L1 l0_6 a1) x19_1) : Int) (of_decide_eq_true zmt3) (of_decide_eq_true zmt3); have HP24 := Kd.R_putg HO_2.out ((rd (rd_L1 l0_6 a1) x19_1) : Int) a1) | ((with_reducible refine gate_store (t := 3) (p := 48) rfl ?_); refine store_event (t := 3) (p := 48) (v := ?vo_w25) (w1 := (w22.setCell ⟨go19, ((rd (rd_L1 l0_6 a1) x19_1) : Int).toNat, none⟩ (.int .i64 a1))) ?hg ?ho ?hn ?hr ?_; (case ho => rfl); (case hg => rfl); (case hn => rfl); (case hr => first | (go_simp; done) | (go_simp; rfl)); intro w25 hw; have hg : w22.grownBy w25 (some go19) := (by rw [hw]; exact HP24.2); have hp_ : Kd.R (Kd.int .i64) 3 w25 w0.heap.size (fun k_ => ((P2_ k_ ∨ P3_ k_) ∨ w.heap.size ≤ k_)) (.slice (some ⟨go19, 0, none⟩) x2_1.length co23) y300 := (by rw [hw, Ny300.out]; exact HP24.1); clear HP24; have n0_ := Aside0.mk (hp_); have n1_ := Aside0.mk (Kd.R_over' (v := (.slice (some ⟨go19, 0, none⟩) x2_1.length co23)) zmt5 (Kd.R_typed HO_2.out) (by decide) hg); have n2_ := Aside0.mk (blk_grown (g := gb0) (o := .cells #[.int .i64 a0_0, .int .i64 a0_1, .slice A0_2 l0_2.length c0_2, .int .i64 a0_3, .int .i64 a0_4, .slice A0_5 l0_5.length c0_5, .slice (some ad295) l0_6.length c0_6] 53 (0, 0)) zmt4 hg (Kd.R_ne HO_2.out BK0.out (by decide))); have n3_ := Aside0.mk ((by rw [hw]; exact below_set (HB.out) GB19.out : Below w0.heap.size w0 w25)); have n4_ := Aside0.mk (Kept.of_grown (S := (fun k_ => P2_ k_ ∨ P3_ k_)) hg zmt2 (fun k_ e_ => (HO_2.out.1 k_ e_))); clear HO_2; clear HO_3; clear BK0; clear HB; clear HK; have HO_2 := n0_; have HO_3 := n1_; have BK0 := n2_; have HB := n3_; have HK := n4_; clear n0_ n1_ n2_ n3_ n4_; clear hg hw hp_))
             go_ret
             exact ⟨zmt9, zmt6, zmt5, zmt1, zmt2⟩
            ·rw [if_neg c18] at H
             have c18b0 : decide ((rd x2_1 (rd (rd_L1 l0_6 a1) x19_1)) < 0) = false := decide_eq_false c18
             clear c18
             replace H := Option.bind_eq_some_iff.mp H
             obtain ⟨⟨t302, t303, t304⟩, A260, H⟩ := H
             replace H : (if t302 = true then (some (true, (t303.set ((rd (rd_L1 l0_6 a1) x19_1) : Int).toNat a1), t304)) else (impl_graph_matched.l0 k1 a1 t303 t304 (rd_L1 l0_6 a1) ((rd_L1 l0_6 a1).length : Int) (wrap64 (x19_1 + 1)) a0_0 a0_1 l0_2 a0_3 a0_4 l0_5 l0_6)) = some (r1, r2, r3) := H
             have A26 := Aside0.mk A260
             clear A260
             by_cases c27 : t302 = true
             ·subst c27
              have H1 : (some (true, (t303.set ((rd (rd_L1 l0_6 a1) x19_1) : Int).toNat a1), t304)) = some (r1, r2, r3) := by rw [if_pos rfl] at H; exact H
              clear H
              have H := H1
              clear H1
              obtain ⟨y305, hy305⟩ : ∃ y_ : List Int, y_ = (t303.set ((rd (rd_L1 l0_6 a1) x19_1) : Int).toNat a1) := ⟨_, rfl⟩
              replace H : (some (true, y305, t304)) = some (r1, r2, r3) := by first | (rw [hy305]; with_reducible exact H) | (have H2_ := (Option.bind_some _ _).symm.trans H; rw [hy305]; with_reducible exact H2_) | (have H2_ := (Option.bind_some _ _).symm.trans H; with_reducible exact H2_) | with_reducible exact H | (rw [hy305]; exact H) | exact H
              have Ny305 := Aside0.mk hy305
              clear hy305
              simp only [Option.some.injEq, Prod.mk.injEq] at H
              obtain ⟨rfl, rfl, rfl⟩ := H
              have p296 : 0 ≤ (x19_1 : Int) := of_decide_eq_true zmt3
              have q296 : x19_1 < ((rd_L1 l0_6 a1).length : Int) := of_decide_eq_true zmt3
              obtain ⟨ad296, e296, hx296_0⟩ := Kd.at_int (HR295_0.out _ HK.out) x19_1 p296 q296
              cases e296
              replace p296 := eq_true p296
              replace q296 := eq_true q296
              obtain ⟨Ao29, co29, eo29⟩ := Kd.R_slice HO_3.out
              subst eo29
              have p297 : 0 ≤ ((rd (rd_L1 l0_6 a1) x19_1) : Int) := of_decide_eq_true zmt3
              have q297 : (rd (rd_L1 l0_6 a1) x19_1) < (x3_1.length : Int) := of_decide_eq_true zmt3
              obtain ⟨ad297, e297, hx297_0⟩ := Kd.at_bool (Kd.R_reads' HO_3.out).2.2 (rd (rd_L1 l0_6 a1) x19_1) p297 q297
              (try rw [← Nbq13.out] at hx297_0)
              cases e297
              replace p297 := eq_true p297
              replace q297 := eq_true q297
              have p16 : 0 ≤ ((rd (rd_L1 l0_6 a1) x19_1) : Int) := of_decide_eq_true zmt3
              have q16 : ((rd (rd_L1 l0_6 a1) x19_1) : Int) < ((x3_1.length : Int) : Int) := of_decide_eq_true zmt3
              obtain ⟨go16, co16, eo16, gb16, gl16, cl16, HG16⟩ := Kd.R_form HO_3.out (by omega)
              (first | cases eo16 | (injection eo16 with ea_ en_ ec_; (first | subst ea_ | (injection ea_ with ea_; subst ea_)); subst ec_; clear en_))
              have GB16 := Aside0.mk gb16
              have GG16 := Aside0.mk HG16
              clear gb16 gl16 HG16
              have HMgo16 := Aside0.mk (show ((P2_ go16 ∨ P3_ go16) ∨ w.heap.size ≤ go16) from (HO_3.out.1 _ rfl))
              (try simp only [add_plain] at *)
              (first | simp only [add_plain] at hx297_0 | skip)
              obtain ⟨hx16_0, hf16_0⟩ := Kd.R_celln false HO_3.out ((rd (rd_L1 l0_6 a1) x19_1) : Int) p16 q16
              replace p16 := eq_true p16
              replace q16 := eq_true q16
              have HP30 := Kd.R_putg HO_3.out ((rd (rd_L1 l0_6 a1) x19_1) : Int) true
              go_wp2_with (first | ((with_reducible refine gate_store (t := 4) (p := 29) rfl ?_); refine store_event (t := 4) (p := 29) (v := ?vo_w31) (w1 := (wr.setCell ⟨go16, ((rd (rd_L1 l0_6 a1) x19_1) : Int).toNat, none⟩ (.bool true))) ?hg ?ho ?hn ?hr ?_; (case ho => rfl); (case hg => rfl); (case hn => rfl); (case hr => first | (go_simp; done) | (go_simp; rfl)); intro w31 hw; have hg : wr.grownBy w31 (some go16) := (by rw [hw]; exact HP30.2); have hp_ : Kd.R Kd.bool 4 w31 w0.heap.size (fun k_ => ((P2_ k_ ∨ P3_ k_) ∨ w.heap.size ≤ k_)) (.slice (some ⟨go16, 0, none⟩) x3_1.length co29) y298 := (by rw [hw, Ny298.out]; exact HP30.1); clear HP30; have n0_ := Aside0.mk (Kd.R_over' (v := (.slice (some ⟨go16, 0, none⟩) x3_1.length co29)) zmt6 (Kd.R_typed HO_3.out) (by decide) hg); have n1_ := Aside0.mk (hp_); have n2_ := Aside0.mk (blk_grown (g := gb0) (o := .cells #[.int .i64 a0_0, .int .i64 a0_1, .slice A0_2 l0_2.length c0_2, .int .i64 a0_3, .int .i64 a0_4, .slice A0_5 l0_5.length c0_5, .slice (some ad295) l0_6.length c0_6] 53 (0, 0)) zmt4 hg (Kd.R_ne HO_3.out BK0.out (by decide))); have n3_ := Aside0.mk ((by rw [hw]; exact below_set (HB.out) GB16.out : Below w0.heap.size w0 w31)); have n4_ := Aside0.mk (Kept.of_grown (S := (fun k_ => P2_ k_ ∨ P3_ k_)) hg zmt2 (fun k_ e_ => (HO_3.out.1 k_ e_))); clear HO_2; clear HO_3; clear BK0; clear HB; clear HK; have HO_2 := n0_; have HO_3 := n1_; have BK0 := n2_; have HB := n3_; have HK := n4_; clear n0_ n1_ n2_ n3_ n4_; clear hg hw hp_; obtain ⟨Ao32, co32, eo32⟩ := Kd.R_slice HO_2.out; subst eo32; have p299 : 0 ≤ ((rd (rd_L1 l0_6 a1) x19_1) : Int) := of_decide_eq_true zmt3; have q299 : (rd (rd_L1 l0_6 a1) x19_1) < (x2_1.length : Int) := of_decide_eq_true zmt3; obtain ⟨ad299, e299, hx299_0⟩ := Kd.at_int (Kd.R_reads' HO_2.out).2.2 (rd (rd_L1 l0_6 a1) x19_1) p299 q299; cases e299; replace p299 := eq_true p299; replace q299 := eq_true q299; have p301 : 0 ≤ ((rd (rd_L1 l0_6 a1) x19_1) : Int) := of_decide_eq_true zmt3; have q301 : (rd (rd_L1 l0_6 a1) x19_1) < (x2_1.length : Int) := of_decide_eq_true zmt3; obtain ⟨ad301, e301, hx301_0⟩ := Kd.at_int (Kd.R_reads' HO_2.out).2.2 (rd (rd_L1 l0_6 a1) x19_1) p301 q301; obtain rfl : ad299 = ad301 := (by injection e301); replace p301 := eq_true p301; replace q301 := eq_true q301) | (go_at_call 24; (with_reducible refine (ih k1 (by have := HK1.out; omega) gb0 a0_0 a0_1 A0_2 c0_2 l0_2 a0_3 a0_4 A0_5 c0_5 l0_5 (some ad295) c0_6 l0_6 (rd x2_1 (rd (rd_L1 l0_6 a1) x19_1)) (fun k_ => some k_ = (.slice (some ad299) x2_1.length co32 : Value).ownBlock) (.slice (some ad299) x2_1.length co32) x2_1 (fun k_ => some k_ = (.slice (some ⟨go16, 0, none⟩) x3_1.length co29 : Value).ownBlock) (.slice (some ⟨go16, 0, none⟩) x3_1.length co29) y298 true t303 t304 w0 _ ?side1 ?side2 ?side3 ?side4 ?side5 ?side6 ?side7 ?side8 ?side9 ?side10 A26.out).mono ?_); (case side1 => exact zmt1); (case side2 => exact zmt4); (case side3 => exact Kd.C_kept_call HR0_2.out zmt2 (fun k_ hs_ => Or.elim hs_ (fun e_ => (fun e_ => (HO_2.out.1 k_ e_.symm)) e_) (fun e_ => (fun e_ => (HO_3.out.1 k_ e_.symm)) e_))); (case side4 => exact HC0_2.out); (case side5 => exact Kd.C_kept_call HR0_5.out zmt2 (fun k_ hs_ => Or.elim hs_ (fun e_ => (fun e_ => (HO_2.out.1 k_ e_.symm)) e_) (fun e_ => (fun e_ => (HO_3.out.1 k_ e_.symm)) e_))); (case side6 => exact HC0_5.out); (case side7 => exact Kd.C_kept_call HR0_6.out zmt2 (fun k_ hs_ => Or.elim hs_ (fun e_ => (fun e_ => (HO_2.out.1 k_ e_.symm)) e_) (fun e_ => (fun e_ => (HO_3.out.1 k_ e_.symm)) e_))); (case side8 => exact HC0_6.out); (case side9 => exact Kd.R_tight rfl HO_2.out); (case side10 => exact Kd.R_tight rfl HO_3.out); rintro e w33 ⟨rfl, hy0, hy1, hb, hkp⟩; have n0_ := Aside0.mk (Kd.R_reok rfl hy0 (fun k_ e_ => HO_2.out.1 k_ e_)); have n1_ := Aside0.mk (Kd.R_reok rfl hy1 (fun k_ e_ => HO_3.out.1 k_ e_)); have n2_ := Aside0.mk (blk_kept zmt4 hkp (fun hs_ => Or.elim hs_ (fun e_ => (fun e_ => (Kd.R_ne HO_2.out BK0.out (by decide)) e_) e_) (fun e_ => (fun e_ => (Kd.R_ne HO_3.out BK0.out (by decide)) e_) e_))); have n3_ := Aside0.mk (Kept.then_ (S := (fun k_ => P2_ k_ ∨ P3_ k_)) zmt2 hkp (fun k_ hs_ => Or.elim hs_ (fun e_ => (fun e_ => (HO_2.out.1 k_ e_.symm)) e_) (fun e_ => (fun e_ => (HO_3.out.1 k_ e_.symm)) e_))); have n4_ := Aside0.mk (hb); clear HO_2; clear HO_3; clear BK0; clear HK; clear HB; have HO_2 := n0_; have HO_3 := n1_; have BK0 := n2_; have HK := n3_; have HB := n4_; clear n0_ n1_ n2_ n3_ n4_; (try clear hb); (try clear hkp); (try clear hy0); (try clear hy1); have p28 : 0 ≤ ((rd (rd_L1 l0_6 a1) x19_1) : Int) := of_decide_eq_true zmt3; have q28 : ((rd (rd_L1 l0_6 a1) x19_1) : Int) < ((x2_1.length : Int) : Int) := of_decide_eq_true zmt3; have hlen28 := Aside0.mk (show x2_1.length = t303.length from (by obtain ⟨A_, c_, e_⟩ := Kd.R_slice HO_2.out; injection e_)); obtain ⟨go28, co28, eo28, gb28, gl28, cl28, HG28⟩ := Kd.R_form HO_2.out (by have := hlen28.out; omega); (first | cases eo28 | (injection eo28 with ea_ en_ ec_; (first | subst ea_ | (injection ea_ with ea_; subst ea_)); subst ec_; clear en_)); have GB28 := Aside0.mk gb28; have GG28 := Aside0.mk HG28; clear gb28 gl28 HG28; have HMgo28 := Aside0.mk (show ((P2_ go28 ∨ P3_ go28) ∨ w.heap.size ≤ go28) from (HO_2.out.1 _ rfl)); (try simp only [add_plain] at *); (first | simp only [add_plain] at hx299_0 | skip); (first | simp only [add_plain] at hx301_0 | skip); obtain ⟨hx28_0, hf28_0⟩ := Kd.R_celln 0 HO_2.out ((rd (rd_L1 l0_6 a1) x19_1) : Int) p28 q28; replace p28 := eq_true p28; replace q28 := eq_true q28; obtain ⟨hy34_, hz34_⟩ := Kd.R_celln 0 HO_2.out ((rd (rd_L1 l0_6 a1) x19_1) : Int) (of_decide_eq_true zmt3) (of_decide_eq_true zmt3); have HP34 := Kd.R_putg HO_2.out ((rd (rd_L1 l0_6 a1) x19_1) : Int) a1) | ((with_reducible refine gate_store (t := 3) (p := 48) rfl ?_); refine store_event (t := 3) (p := 48) (v := ?vo_w35) (w1 := (w33.setCell ⟨go28, ((rd (rd_L1 l0_6 a1) x19_1) : Int).toNat, none⟩ (.int .i64 a1))) ?hg ?ho ?hn ?hr ?_; (case ho => rfl); (case hg => rfl); (case hn => rfl); (case hr => first | (go_simp; done) | (go_simp; rfl)); intro w35 hw; have hg : w33.grownBy w35 (some go28) := (by rw [hw]; exact HP34.2); have hp_ : Kd.R (Kd.int .i64) 3 w35 w0.heap.size (fun k_ => ((P2_ k_ ∨ P3_ k_) ∨ w.heap.size ≤ k_)) (.slice (some ⟨go28, 0, none⟩) x2_1.length co32) y305 := (by rw [hw, Ny305.out]; exact HP34.1); clear HP34; have n0_ := Aside0.mk (hp_); have n1_ := Aside0.mk (Kd.R_over' (v := (.slice (some ⟨go28, 0, none⟩) x2_1.length co32)) zmt5 (Kd.R_typed HO_2.out) (by decide) hg); have n2_ := Aside0.mk (blk_grown (g := gb0) (o := .cells #[.int .i64 a0_0, .int .i64 a0_1, .slice A0_2 l0_2.length c0_2, .int .i64 a0_3, .int .i64 a0_4, .slice A0_5 l0_5.length c0_5, .slice (some ad295) l0_6.length c0_6] 53 (0, 0)) zmt4 hg (Kd.R_ne HO_2.out BK0.out (by decide))); have n3_ := Aside0.mk ((by rw [hw]; exact below_set (HB.out) GB28.out : Below w0.heap.size w0 w35)); have n4_ := Aside0.mk (Kept.of_grown (S := (fun k_ => P2_ k_ ∨ P3_ k_)) hg zmt2 (fun k_ e_ => (HO_2.out.1 k_ e_))); clear HO_2; clear HO_3; clear BK0; clear HB; clear HK; have HO_2 := n0_; have HO_3 := n1_; have BK0 := n2_; have HB := n3_; have HK := n4_; clear n0_ n1_ n2_ n3_ n4_; clear hg hw hp_))
              go_ret
              exact ⟨zmt9, zmt6, zmt5, zmt1, zmt2⟩
             ·replace c27 := Bool.eq_false_iff.mpr c27
              subst c27
              have H1 : (impl_graph_matched.l0 k1 a1 t303 t304 (rd_L1 l0_6 a1) ((rd_L1 l0_6 a1).length : Int) (wrap64 (x19_1 + 1)) a0_0 a0_1 l0_2 a0_3 a0_4 l0_5 l0_6) = some (r1, r2, r3) := by rw [if_neg (show ¬ (false = true) by decide)] at H; exact H
              clear H
              have H := H1
              clear H1
              have H' := Aside0.mk H
              clear H
              have p296 : 0 ≤ (x19_1 : Int) := of_decide_eq_true zmt3
              have q296 : x19_1 < ((rd_L1 l0_6 a1).length : Int) := of_decide_eq_true zmt3
              obtain ⟨ad296, e296, hx296_0⟩ := Kd.at_int (HR295_0.out _ HK.out) x19_1 p296 q296
              cases e296
              replace p296 := eq_true p296
              replace q296 := eq_true q296
              obtain ⟨Ao36, co36, eo36⟩ := Kd.R_slice HO_3.out
              subst eo36
              have p297 : 0 ≤ ((rd (rd_L1 l0_6 a1) x19_1) : Int) := of_decide_eq_true zmt3
              have q297 : (rd (rd_L1 l0_6 a1) x19_1) < (x3_1.length : Int) := of_decide_eq_true zmt3
              obtain ⟨ad297, e297, hx297_0⟩ := Kd.at_bool (Kd.R_reads' HO_3.out).2.2 (rd (rd_L1 l0_6 a1) x19_1) p297 q297
              (try rw [← Nbq13.out] at hx297_0)
              cases e297
              replace p297 := eq_true p297
              replace q297 := eq_true q297
              have p16 : 0 ≤ ((rd (rd_L1 l0_6 a1) x19_1) : Int) := of_decide_eq_true zmt3
              have q16 : ((rd (rd_L1 l0_6 a1) x19_1) : Int) < ((x3_1.length : Int) : Int) := of_decide_eq_true zmt3
              obtain ⟨go16, co16, eo16, gb16, gl16, cl16, HG16⟩ := Kd.R_form HO_3.out (by omega)
              (first | cases eo16 | (injection eo16 with ea_ en_ ec_; (first | subst ea_ | (injection ea_ with ea_; subst ea_)); subst ec_; clear en_))
              have GB16 := Aside0.mk gb16
              have GG16 := Aside0.mk HG16
              clear gb16 gl16 HG16
              have HMgo16 := Aside0.mk (show ((P2_ go16 ∨ P3_ go16) ∨ w.heap.size ≤ go16) from (HO_3.out.1 _ rfl))
              (try simp only [add_plain] at *)
              (first | simp only [add_plain] at hx297_0 | skip)
              obtain ⟨hx16_0, hf16_0⟩ := Kd.R_celln false HO_3.out ((rd (rd_L1 l0_6 a1) x19_1) : Int) p16 q16
              replace p16 := eq_true p16
              replace q16 := eq_true q16
              have HP37 := Kd.R_putg HO_3.out ((rd (rd_L1 l0_6 a1) x19_1) : Int) true
              go_wp2_with (first | ((with_reducible refine gate_store (t := 4) (p := 29) rfl ?_); refine store_event (t := 4) (p := 29) (v := ?vo_w38) (w1 := (wr.setCell ⟨go16, ((rd (rd_L1 l0_6 a1) x19_1) : Int).toNat, none⟩ (.bool true))) ?hg ?ho ?hn ?hr ?_; (case ho => rfl); (case hg => rfl); (case hn => rfl); (case hr => first | (go_simp; done) | (go_simp; rfl)); intro w38 hw; have hg : wr.grownBy w38 (some go16) := (by rw [hw]; exact HP37.2); have hp_ : Kd.R Kd.bool 4 w38 w0.heap.size (fun k_ => ((P2_ k_ ∨ P3_ k_) ∨ w.heap.size ≤ k_)) (.slice (some ⟨go16, 0, none⟩) x3_1.length co36) y298 := (by rw [hw, Ny298.out]; exact HP37.1); clear HP37; have n0_ := Aside0.mk (Kd.R_over' (v := (.slice (some ⟨go16, 0, none⟩) x3_1.length co36)) zmt6 (Kd.R_typed HO_3.out) (by decide) hg); have n1_ := Aside0.mk (hp_); have n2_ := Aside0.mk (blk_grown (g := gb0) (o := .cells #[.int .i64 a0_0, .int .i64 a0_1, .slice A0_2 l0_2.length c0_2, .int .i64 a0_3, .int .i64 a0_4, .slice A0_5 l0_5.length c0_5, .slice (some ad295) l0_6.length c0_6] 53 (0, 0)) zmt4 hg (Kd.R_ne HO_3.out BK0.out (by decide))); have n3_ := Aside0.mk ((by rw [hw]; exact below_set (HB.out) GB16.out : Below w0.heap.size w0 w38)); have n4_ := Aside0.mk (Kept.of_grown (S := (fun k_ => P2_ k_ ∨ P3_ k_)) hg zmt2 (fun k_ e_ => (HO_3.out.1 k_ e_))); clear HO_2; clear HO_3; clear BK0; clear HB; clear HK; have HO_2 := n0_; have HO_3 := n1_; have BK0 := n2_; have HB := n3_; have HK := n4_; clear n0_ n1_ n2_ n3_ n4_; clear hg hw hp_; obtain ⟨Ao39, co39, eo39⟩ := Kd.R_slice HO_2.out; subst eo39; have p299 : 0 ≤ ((rd (rd_L1 l0_6 a1) x19_1) : Int) := of_decide_eq_true zmt3; have q299 : (rd (rd_L1 l0_6 a1) x19_1) < (x2_1.length : Int) := of_decide_eq_true zmt3; obtain ⟨ad299, e299, hx299_0⟩ := Kd.at_int (Kd.R_reads' HO_2.out).2.2 (rd (rd_L1 l0_6 a1) x19_1) p299 q299; cases e299; replace p299 := eq_true p299; replace q299 := eq_true q299; have p301 : 0 ≤ ((rd (rd_L1 l0_6 a1) x19_1) : Int) := of_decide_eq_true zmt3; have q301 : (rd (rd_L1 l0_6 a1) x19_1) < (x2_1.length : Int) := of_decide_eq_true zmt3; obtain ⟨ad301, e301, hx301_0⟩ := Kd.at_int (Kd.R_reads' HO_2.out).2.2 (rd (rd_L1 l0_6 a1) x19_1) p301 q301; obtain rfl : ad299 = ad301 := (by injection e301); replace p301 := eq_true p301; replace q301 := eq_true q301) | (go_at_call 24; (with_reducible refine (ih k1 (by have := HK1.out; omega) gb0 a0_0 a0_1 A0_2 c0_2 l0_2 a0_3 a0_4 A0_5 c0_5 l0_5 (some ad295) c0_6 l0_6 (rd x2_1 (rd (rd_L1 l0_6 a1) x19_1)) (fun k_ => some k_ = (.slice (some ad299) x2_1.length co39 : Value).ownBlock) (.slice (some ad299) x2_1.length co39) x2_1 (fun k_ => some k_ = (.slice (some ⟨go16, 0, none⟩) x3_1.length co36 : Value).ownBlock) (.slice (some ⟨go16, 0, none⟩) x3_1.length co36) y298 false t303 t304 w0 _ ?side1 ?side2 ?side3 ?side4 ?side5 ?side6 ?side7 ?side8 ?side9 ?side10 A26.out).mono ?_); (case side1 => exact zmt1); (case side2 => exact zmt4); (case side3 => exact Kd.C_kept_call HR0_2.out zmt2 (fun k_ hs_ => Or.elim hs_ (fun e_ => (fun e_ => (HO_2.out.1 k_ e_.symm)) e_) (fun e_ => (fun e_ => (HO_3.out.1 k_ e_.symm)) e_))); (case side4 => exact HC0_2.out); (case side5 => exact Kd.C_kept_call HR0_5.out zmt2 (fun k_ hs_ => Or.elim hs_ (fun e_ => (fun e_ => (HO_2.out.1 k_ e_.symm)) e_) (fun e_ => (fun e_ => (HO_3.out.1 k_ e_.symm)) e_))); (case side6 => exact HC0_5.out); (case side7 => exact Kd.C_kept_call HR0_6.out zmt2 (fun k_ hs_ => Or.elim hs_ (fun e_ => (fun e_ => (HO_2.out.1 k_ e_.symm)) e_) (fun e_ => (fun e_ => (HO_3.out.1 k_ e_.symm)) e_))); (case side8 => exact HC0_6.out); (case side9 => exact Kd.R_tight rfl HO_2.out); (case side10 => exact Kd.R_tight rfl HO_3.out); rintro e w40 ⟨rfl, hy0, hy1, hb, hkp⟩; have n0_ := Aside0.mk (Kd.R_reok rfl hy0 (fun k_ e_ => HO_2.out.1 k_ e_)); have n1_ := Aside0.mk (Kd.R_reok rfl hy1 (fun k_ e_ => HO_3.out.1 k_ e_)); have n2_ := Aside0.mk (blk_kept zmt4 hkp (fun hs_ => Or.elim hs_ (fun e_ => (fun e_ => (Kd.R_ne HO_2.out BK0.out (by decide)) e_) e_) (fun e_ => (fun e_ => (Kd.R_ne HO_3.out BK0.out (by decide)) e_) e_))); have n3_ := Aside0.mk (Kept.then_ (S := (fun k_ => P2_ k_ ∨ P3_ k_)) zmt2 hkp (fun k_ hs_ => Or.elim hs_ (fun e_ => (fun e_ => (HO_2.out.1 k_ e_.symm)) e_) (fun e_ => (fun e_ => (HO_3.out.1 k_ e_.symm)) e_))); have n4_ := Aside0.mk (hb); clear HO_2; clear HO_3; clear BK0; clear HK; clear HB; have HO_2 := n0_; have HO_3 := n1_; have BK0 := n2_; have HK := n3_; have HB := n4_; clear n0_ n1_ n2_ n3_ n4_; (try clear hb); (try clear hkp); (try clear hy0); (try clear hy1)))
              go_roundg k1
              case measure => have := HK1.out; omega
              case rel => exact ⟨(t303), (t304), (wrap64 (x19_1 + 1)), zmt7, H', ⟨by have := HK1.out; omega⟩, ⟨zmt6⟩, ⟨zmt5⟩, ⟨zmt4⟩, ⟨zmt2⟩, ⟨zmt1⟩⟩
           ·rw [if_neg c17] at H
            exact absurd H (by simp)
         ·rw [if_neg c12] at H
          exact absurd H (by simp)
        ·rw [if_neg c11] at H
         exact absurd H (by simp)
       ·rw [if_neg c10] at H
        exact absurd H (by simp)
      ·rw [if_neg c9] at H
       exact absurd H (by simp)
     ·rw [if_neg c8] at H
      have c8b0 : decide (x19_1 < ((rd_L1 l0_6 a1).length : Int)) = false := decide_eq_false c8
      clear c8
      simp only [Option.some.injEq, Prod.mk.injEq] at H
      obtain ⟨rfl, rfl, rfl⟩ := H
      go_wp2
      go_ret
      exact ⟨zmt9, zmt6, zmt5, zmt1, zmt2⟩
  ·rw [if_neg c6] at H
   exact absurd H (by simp)
 ·rw [if_neg c5] at H
  exact absurd H (by simp)

end Go.Proofs.Ytfjomkjngolboaa.Q

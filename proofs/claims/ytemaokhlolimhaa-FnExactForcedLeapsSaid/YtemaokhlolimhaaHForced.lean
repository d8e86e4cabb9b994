/- impl.ForcedLeaps, in the form of the printed contracts, the rows that it hands back told apart: they are rows of pairs, each once. -/
import Derived.Test.YtemaokhlolimhaaQ0
import Derived.Test.YtemaokhlolimhaaQ5
import Derived.Test.YtemaokhlolimhaaQ6
namespace Go.Proofs.Ytemaokhlolimhaa.Q
open Go.RowKit Go.Proofs.YtemaokhlolimhaaW.PrintWords Go.Proofs.YtemaokhlolimhaaW.PrintLast Go.Proofs.YtemaokhlolimhaaW.PrintMore
attribute [local go_sem] max2_int min2_int max_two min_two max_three min_three max_four min_four
set_option linter.unusedVariables false
set_option linter.unusedSimpArgs false
/-! ### impl_ForcedLeaps: function 11 -/
def impl_ForcedLeaps.l0 : Nat → List (List Int) → List (List Int) → Int → Int → Int → Int → List Int → Int → Int → List Int → List (List Int) → Option ((List (List Int)) × Bool)
 | 0, _, _, _, _, _, _, _, _, _, _, _ => none
 | k + 1, x8, x20, x21, x22, x255000, x255001, x255002, x255003, x255004, x255005, x255006 => if x22 < x21 then (if 0 ≤ x22 then (if x22 < (x20.length : Int) then (if 0 < ((rd_L1 x20 x22).length : Int) then (if 0 ≤ (rd (rd_L1 x20 x22) 0) then (if (rd (rd_L1 x20 x22) 0) < (x255006.length : Int) then (if ((rd_L1 x255006 (rd (rd_L1 x20 x22) 0)).length : Int) = 2 then (if x8.length < 5864062014805 then (impl_ForcedLeaps.l0 k (x8 ++ [rd_L1 x20 x22]) x20 x21 (wrap64 (x22 + 1)) x255000 x255001 x255002 x255003 x255004 x255005 x255006) else (none)) else (if 1 < ((rd_L1 x20 x22).length : Int) then (if 0 ≤ (rd (rd_L1 x20 x22) 1) then (if (rd (rd_L1 x20 x22) 1) < (x255006.length : Int) then (if ((rd_L1 x255006 (rd (rd_L1 x20 x22) 1)).length : Int) = 2 then (if x8.length < 5864062014805 then (impl_ForcedLeaps.l0 k (x8 ++ [rd_L1 x20 x22]) x20 x21 (wrap64 (x22 + 1)) x255000 x255001 x255002 x255003 x255004 x255005 x255006) else (none)) else (impl_ForcedLeaps.l0 k x8 x20 x21 (wrap64 (x22 + 1)) x255000 x255001 x255002 x255003 x255004 x255005 x255006)) else (none)) else (none)) else (none))) else (none)) else (none)) else (none)) else (none)) else (none)) else (some (x8, true))
def impl_ForcedLeaps.f (k : Nat) (a0_0 : Int) (a0_1 : Int) (l0_2 : List Int) (a1_0 : Int) (a1_1 : Int) : Option ((List (List Int)) × Bool) := (impl_graphOf.f k a0_0 a0_1 l0_2 a1_0 a1_1).bind fun bt248 => (if bt248.2.2 = true then ((impl_graph_pairs.f k a0_0 a0_1 l0_2 a1_0 a1_1 bt248.1 bt248.2.1).bind fun t257 => (impl_ForcedLeaps.l0 k ([] : List (List Int)) t257 (t257.length : Int) 0 a0_0 a0_1 l0_2 a1_0 a1_1 bt248.1 bt248.2.1)) else (some (([] : List (List Int)), false)))
theorem impl_ForcedLeaps.mono_l : ∀ k, (∀ y0 y1 y2 y3 y4 y5 y6 y7 y8 y9 y10, LeO (impl_ForcedLeaps.l0 k y0 y1 y2 y3 y4 y5 y6 y7 y8 y9 y10) (impl_ForcedLeaps.l0 (k + 1) y0 y1 y2 y3 y4 y5 y6 y7 y8 y9 y10))
 | 0 => fun _ _ _ _ _ _ _ _ _ _ _ r h => by simp [impl_ForcedLeaps.l0] at h
 | k + 1 => by
  have ih0 := impl_ForcedLeaps.mono_l k
  ·intro y0 y1 y2 y3 y4 y5 y6 y7 y8 y9 y10
   unfold impl_ForcedLeaps.l0
   repeat' first
   | (with_reducible exact ih0 _ _ _ _ _ _ _ _ _ _ _)
   | (with_reducible exact impl_graphOf.mono _ _ _ _ _ _)
   | (with_reducible exact impl_graph_pairs.mono _ _ _ _ _ _ _ _)
   | (with_reducible exact LeO.refl _)
   | (with_reducible exact LeO.none _)
   | (with_reducible refine LeO.ite ?_ ?_)
   | (with_reducible refine LeO.bind ?_ (fun _ => ?_))
   | exact ih0 _ _ _ _ _ _ _ _ _ _ _
   | exact impl_graphOf.mono _ _ _ _ _ _
   | exact impl_graph_pairs.mono _ _ _ _ _ _ _ _
   | exact LeO.none _
   | refine LeO.ite ?_ ?_
   | refine LeO.bind ?_ (fun _ => ?_)
theorem impl_ForcedLeaps.mono : ∀ a0 a1 a2 a3 a4 k, LeO (impl_ForcedLeaps.f k a0 a1 a2 a3 a4) (impl_ForcedLeaps.f (k + 1) a0 a1 a2 a3 a4) := by
 intro a0 a1 a2 a3 a4 k
 have ih0 := impl_ForcedLeaps.mono_l k
 unfold impl_ForcedLeaps.f
 repeat' first
   | (with_reducible exact ih0 _ _ _ _ _ _ _ _ _ _ _)
   | (with_reducible exact impl_graphOf.mono _ _ _ _ _ _)
   | (with_reducible exact impl_graph_pairs.mono _ _ _ _ _ _ _ _)
   | (with_reducible exact LeO.refl _)
   | (with_reducible exact LeO.none _)
   | (with_reducible refine LeO.ite ?_ ?_)
   | (with_reducible refine LeO.bind ?_ (fun _ => ?_))
   | exact ih0 _ _ _ _ _ _ _ _ _ _ _
   | exact impl_graphOf.mono _ _ _ _ _ _
   | exact impl_graph_pairs.mono _ _ _ _ _ _ _ _
   | exact LeO.none _
   | refine LeO.ite ?_ ?_
   | refine LeO.bind ?_ (fun _ => ?_)
/-- The rows with numbers (ascending) that bear their blocks' tags, as rows that lie apart. -/
theorem S_of_sel {f : Nat → Nat} {w : World} {base : Nat} {ok : Nat → Prop} {v : Value} {sel : List (List Int × Nat)} (h : (Kd.tag f (Kd.slice 3 (Kd.int .i64))).R 22 w base ok v sel) (hn : (sel.map (·.2)).Pairwise (· < ·)) : Kd.S (Kd.slice 3 (Kd.int .i64)) 22 w base ok v (sel.map (·.1)) := by
 obtain ⟨h0, inner, ho, hr⟩ := h
 have hnd : (sel.map (·.2)).Nodup := hn.imp (fun h => Nat.ne_of_lt h)
 have hl : (sel.map (·.1)).zipIdx.length = sel.length := by rw [List.length_zipIdx, List.length_map]
 refine ⟨fun k => (sel.map (·.2)).idxOf (f k), h0, inner, ?_, ?_, fun j p hj => ?_⟩
 · rw [hl]; exact ho
 · rw [hl]; exact hr.1
 · rw [List.getElem?_zipIdx, Nat.zero_add] at hj
   obtain ⟨x, hx, rfl⟩ := Option.map_eq_some_iff.1 hj
   rw [List.getElem?_map] at hx
   obtain ⟨q, hq, rfl⟩ := Option.map_eq_some_iff.1 hx
   have hM := hr.2 j q hq
   have hjl : j < sel.length := (List.getElem?_eq_some_iff.1 hq).1
   have hqe : sel[j] = q := (List.getElem?_eq_some_iff.1 hq).2
   refine ((Kd.slice 3 (Kd.int .i64))).M_mono (fun k hk => ⟨hk.1, ?_⟩) hM
   have hk2 : f k = q.2 := hk.2
   show (sel.map (·.2)).idxOf (f k) = j
   have e : f k = (sel.map (·.2))[j]'(by rw [List.length_map]; exact hjl) := by rw [hk2, List.getElem_map, hqe]
   rw [e]
   exact List.Nodup.idxOf_getElem hnd j (by rw [List.length_map]; exact hjl)
/-- What the loop keeps of the outcome: its rows are pairs' rows with ascending numbers, told by tags; its own block is new since the loop. -/
def OutOk (f : Nat → Nat) (N base : Nat) (W : World) (v : Value) (xs : List (List Int)) (i : Int) : Prop :=
 ∃ sel : List (List Int × Nat), sel.map (·.1) = xs ∧ (sel.map (·.2)).Pairwise (· < ·) ∧ (∀ p ∈ sel, (p.2 : Int) < i) ∧ (Kd.tag f (Kd.slice 3 (Kd.int .i64))).R 22 W base (fun _ => True) v sel ∧ ∀ k, v.ownBlock = some k → N ≤ k
theorem OutOk.none (f : Nat → Nat) (N base : Nat) (W : World) : OutOk f N base W (.slice none 0 0) [] 0 := ⟨[], rfl, List.Pairwise.nil, by simp, Kd.R_nil _ _ _ _ _, fun k hk => by simp [Value.ownBlock] at hk⟩
theorem OutOk.skip {f : Nat → Nat} {N base : Nat} {W : World} {v : Value} {xs : List (List Int)} {i : Int} (h : OutOk f N base W v xs i) : OutOk f N base W v xs (i + 1) := by
 obtain ⟨sel, h1, h2, h3, h4, h5⟩ := h
 exact ⟨sel, h1, h2, fun p hp => by have := h3 p hp; omega, h4, h5⟩
theorem OutOk.drewN {f : Nat → Nat} {N base : Nat} {W : World} {v : Value} {xs : List (List Int)} {i : Int} {m : Nat} (h : OutOk f N base W v xs i) : OutOk f N base (W.drewN m) v xs i := by
 obtain ⟨sel, h1, h2, h3, h4, h5⟩ := h
 exact ⟨sel, h1, h2, h3, Kd.R_below h4 (pw_below_drewN (Below.refl _ _) m), h5⟩
theorem OutOk.drew {f : Nat → Nat} {N base : Nat} {W : World} {v : Value} {xs : List (List Int)} {i : Int} (h : OutOk f N base W v xs i) : OutOk f N base W.drew v xs i := by
 obtain ⟨sel, h1, h2, h3, h4, h5⟩ := h
 exact ⟨sel, h1, h2, h3, Kd.R_below h4 (below_drew1 (Below.refl _ _)), h5⟩
theorem OutOk.more {f : Nat → Nat} {N base : Nat} {W W1 : World} {v v1 : Value} {xs : List (List Int)} {x : List Int} {i : Int} {sel : List (List Int × Nat)} (h1 : sel.map (·.1) = xs) (h2 : (sel.map (·.2)).Pairwise (· < ·)) (h3 : ∀ p ∈ sel, (p.2 : Int) < i) (h5 : ∀ k, v.ownBlock = some k → N ≤ k) (hN : N ≤ W.heap.size)
  (ho : (Kd.tag f (Kd.slice 3 (Kd.int .i64))).R 22 W1 base (fun _ => True) v1 (sel ++ [(x, i.toNat)])) (hat : v1.ownBlock = v.ownBlock ∨ ∃ b, v1.ownBlock = some b ∧ W.heap.size ≤ b) : 0 ≤ i → OutOk f N base W1 v1 (xs ++ [x]) (i + 1) := by
 intro h0
 refine ⟨sel ++ [(x, i.toNat)], by simp [h1], ?_, fun p hp => ?_, ho, fun k hk => ?_⟩
 · rw [List.map_append, List.pairwise_append]
   refine ⟨h2, by simp, fun a ha b hb => ?_⟩
   obtain ⟨p, hp, rfl⟩ := List.mem_map.1 ha
   have := h3 p hp
   obtain rfl : b = i.toNat := by simpa using hb
   omega
 · rcases List.mem_append.1 hp with hp | hp
   · have := h3 p hp; omega
   · obtain rfl : p = (x, i.toNat) := by simpa using hp
     show ((i.toNat : Nat) : Int) < i + 1
     omega
 · rcases hat with e | ⟨b, e, hb⟩
   · exact h5 k (by rw [← e]; exact hk)
   · rw [e] at hk; injection hk with hk; omega
theorem OutOk.rows {f : Nat → Nat} {N base : Nat} {W : World} {v : Value} {xs : List (List Int)} {i : Int} (h : OutOk f N base W v xs i) : Kd.S (Kd.slice 3 (Kd.int .i64)) 22 W base (fun _ => True) v xs := by
 obtain ⟨sel, h1, h2, h3, h4, h5⟩ := h
 rw [← h1]
 exact S_of_sel h4 h2
/-- A row's place, with its tag, in a later world. -/
theorem elem_tag {f : Nat → Nat} {w W : World} {base n cap : Nat} {ad : Addr} {xs : List (List Int)} (h : (Kd.tag f (Kd.slice 3 (Kd.int .i64))).R 22 w base (fun _ => True) (.slice (some ad) n cap) xs.zipIdx) (hb : Below w.heap.size w W) (i : Int) (h0 : 0 ≤ i) (h1 : i < n) {A0 : Option Addr} {c0 : Nat}
  (hx : W.cell? (ad.add i.toNat) = some (.slice A0 (rd_L1 xs i).length c0)) : (Kd.tag f (Kd.slice 3 (Kd.int .i64))).M W base (fun k => k < w.heap.size) (rd_L1 xs i, i.toNat) [.slice A0 (rd_L1 xs i).length c0] := by
 have hn : n = xs.length := by have := (Kd.R_reads' h).1; rwa [List.length_zipIdx] at this
 obtain ⟨c, _, hM, hcc⟩ := Kd.R_getA h ([], 0) i h0 h1
 have hi : i.toNat < xs.length := by omega
 have e : xs.zipIdx.getD i.toNat ([], 0) = (rd_L1 xs i, i.toNat) := by
  unfold rd_L1
  rw [List.getD_eq_getElem?_getD, List.getElem?_zipIdx, List.getD_eq_getElem?_getD, List.getElem?_eq_getElem hi]
  simp
 rw [e] at hM
 have hM2 := (Kd.tag f (Kd.slice 3 (Kd.int .i64))).M_mono (ok' := fun k => k < w.heap.size) (fun k hk => hk.2.2.1) ((Kd.tag f (Kd.slice 3 (Kd.int .i64))).M_bound hM)
 obtain ⟨v, rfl, _⟩ := hM2
 have hv := hcc 0 v rfl
 have hv2 := pw_cell_below hb hv
 have hv3 : W.cell? (ad.add i.toNat) = some v := by simpa [Kd.tag, Kd.slice] using hv2
 obtain rfl : v = .slice A0 (rd_L1 xs i).length c0 := Option.some.inj (hv3.symm.trans hx)
 exact Kd.M_below ((Kd.tag f (Kd.slice 3 (Kd.int .i64))).M_mono (ok' := fun k => k < w.heap.size) (fun k hk => hk.2.2.1) ((Kd.tag f (Kd.slice 3 (Kd.int .i64))).M_bound hM)) hb
theorem next_eq {i : Int} {n : Nat} (h : n ≤ 9223372036854775807) (h0 : 0 ≤ i) (h1 : i < (n : Int)) : wrap64 (i + 1) = i + 1 := by unfold wrap64; omega
set_option maxHeartbeats 8000000 in
set_option maxRecDepth 100000 in
theorem impl_ForcedLeaps.calls (k : Nat) (a0_0 : Int) (a0_1 : Int) (A0_2 : Option Addr) (c0_2 : Nat) (l0_2 : List Int) (a1_0 : Int) (a1_1 : Int) (r1 : List (List Int)) (r2 : Bool) (w : World) (hr0_2 : Kd.C (Kd.int .i64) w A0_2 l0_2.length l0_2) (hc0_2 : l0_2.length ≤ c0_2) (h : impl_ForcedLeaps.f k a0_0 a0_1 l0_2 a1_0 a1_1 = some (r1, r2)) :
  Calls Try.prog 11 #[.agg #[.int .i64 a0_0, .int .i64 a0_1, .slice A0_2 l0_2.length c0_2], .agg #[.int .i64 a1_0, .int .i64 a1_1]] w fun e w' => ∃ v0_ : Value, e = .returned (.tuple #[v0_, .bool r2]) ∧ Kd.S (Kd.slice 3 (Kd.int .i64)) 22 w' w.heap.size (fun _ => True) v0_ r1 ∧ Below w.heap.size w w' := by
 have hu31 := Try.underlying31
 have hu33 := Try.underlying33
 have HR0_2 := Aside0.mk hr0_2
 have HC0_2 := Aside0.mk hc0_2
 clear hr0_2 hc0_2
 have HB := Aside0.mk (Below.refl w.heap.size w)
 have H : ((impl_graphOf.f k a0_0 a0_1 l0_2 a1_0 a1_1).bind fun bt248 => (if bt248.2.2 = true then ((impl_graph_pairs.f k a0_0 a0_1 l0_2 a1_0 a1_1 bt248.1 bt248.2.1).bind fun t257 => (impl_ForcedLeaps.l0 k ([] : List (List Int)) t257 (t257.length : Int) 0 a0_0 a0_1 l0_2 a1_0 a1_1 bt248.1 bt248.2.1)) else (some (([] : List (List Int)), false)))) = some (r1, r2) := h
 clear h
 replace H := Option.bind_eq_some_iff.mp H
 obtain ⟨⟨t248, t251, t256⟩, A30, H⟩ := H
 replace H : (if t256 = true then ((impl_graph_pairs.f k a0_0 a0_1 l0_2 a1_0 a1_1 t248 t251).bind fun t257 => (impl_ForcedLeaps.l0 k ([] : List (List Int)) t257 (t257.length : Int) 0 a0_0 a0_1 l0_2 a1_0 a1_1 t248 t251)) else (some (([] : List (List Int)), false))) = some (r1, r2) := H
 have A3 := Aside0.mk A30
 clear A30
 by_cases c4 : t256 = true
 ·subst c4
  have H1 : ((impl_graph_pairs.f k a0_0 a0_1 l0_2 a1_0 a1_1 t248 t251).bind fun t257 => (impl_ForcedLeaps.l0 k ([] : List (List Int)) t257 (t257.length : Int) 0 a0_0 a0_1 l0_2 a1_0 a1_1 t248 t251)) = some (r1, r2) := by rw [if_pos rfl] at H; exact H
  clear H
  have H := H1
  clear H1
  replace H := Option.bind_eq_some_iff.mp H
  obtain ⟨t257, A50, H⟩ := H
  replace H : (impl_ForcedLeaps.l0 k ([] : List (List Int)) t257 (t257.length : Int) 0 a0_0 a0_1 l0_2 a1_0 a1_1 t248 t251) = some (r1, r2) := H
  have A5 := Aside0.mk A50
  clear A50
  have H' := Aside0.mk H
  clear H
  go_enter Try.func11, Try.ntmps11
  go_wp2_with (first | ((with_reducible refine gate_dst (N := 2) rfl ?_); refine box_event ?hg (N := 2) ?hd (cs := #[.int .i64 a0_0, .int .i64 a0_1, .slice A0_2 l0_2.length c0_2]) (t := 31) ?hr ?_; (case hd => rfl); (case hg => rfl); (case hr => first | (go_simp; done) | (go_simp; rfl)); intro gx1 hgn w_gx1 hbox hb; have nb_ := Aside0.mk (below_step (by repeat (first | exact HB.out | apply below_alloc | apply pw_below_drewN | apply below_drew1)) hb); have nk_ := Aside0.mk hbox; clear HB hb hbox hgn; have HB := nb_; have Bgx1 := nk_; clear nb_ nk_) | ((with_reducible refine gate_dst (N := 3) rfl ?_); refine box_event ?hg (N := 3) ?hd (cs := #[.int .i64 a1_0, .int .i64 a1_1]) (t := 33) ?hr ?_; (case hd => rfl); (case hg => rfl); (case hr => first | (go_simp; done) | (go_simp; rfl)); intro gx2 hgn w_gx2 hbox hb; have ngx1_ := Aside0.mk (blk_below Bgx1.out hb); have nb_ := Aside0.mk (below_step (by repeat (first | exact HB.out | apply below_alloc | apply pw_below_drewN | apply below_drew1)) hb); have nk_ := Aside0.mk hbox; clear HB Bgx1 hb hbox hgn; have HB := nb_; have Bgx2 := nk_; have Bgx1 := ngx1_; clear nb_ nk_ ngx1_; have hz0_ : w_gx2.cell? ⟨gx1, 0, none⟩ = some (.int .i64 a0_0) := (blk_cell Bgx1.out 0).trans rfl; have hz1_ : w_gx2.cell? ⟨gx1, 1, none⟩ = some (.int .i64 a0_1) := (blk_cell Bgx1.out 1).trans rfl; have hz2_ : w_gx2.cell? ⟨gx1, 2, none⟩ = some (.slice A0_2 l0_2.length c0_2) := (blk_cell Bgx1.out 2).trans rfl; have hz3_ : w_gx2.cell? ⟨gx2, 0, none⟩ = some (.int .i64 a1_0) := (blk_cell Bgx2.out 0).trans rfl; have hz4_ : w_gx2.cell? ⟨gx2, 1, none⟩ = some (.int .i64 a1_1) := (blk_cell Bgx2.out 1).trans rfl) | (go_at_call 31; (with_reducible refine (impl_graphOf.calls k a0_0 a0_1 _ _ l0_2 a1_0 a1_1 _ _ true _ ?side1 ?side2 A3.out).mono ?_); (case side1 => exact (by repeat (first | exact (Kd.C_below HR0_2.out HB.out) | (with_reducible refine Kd.C_alloc ?_ _) | (with_reducible refine Kd.C_drewN ?_ _) | (with_reducible refine Kd.C_drew ?_)))); (case side2 => exact HC0_2.out); rintro e w11 ⟨v249, v252, pv255, rfl, hgp, ho0, ho1, hb⟩; obtain ⟨gb254, rfl, hbox, hge⟩ := hgp.1 rfl; obtain ⟨Ao12, co12, eo1⟩ := Kd.R_slice ho0; subst eo1; obtain ⟨Ao13, co13, eo2⟩ := Kd.S_slice ho1; subst eo2; have HCC := Aside0.mk (Kd.R_reads' ho0); have HNC := Aside0.mk (Kd.S_reads' ho1); have BKG := Aside0.mk hbox; have nb_ := Aside0.mk (below_step (by repeat (first | exact HB.out | apply below_alloc | apply pw_below_drewN | apply below_drew1)) hb); clear HB hb hgp ho0 ho1 hbox hge; have HB := nb_; clear nb_) | (go_at_call 32; (with_reducible refine (impl_graph_pairs.calls k gb254 a0_0 a0_1 A0_2 c0_2 l0_2 a1_0 a1_1 Ao12 co12 t248 Ao13 co13 t251 t257 _ ?side1 ?side2 ?side3 ?side4 ?side5 ?side6 ?side7 A5.out).mono ?_); (case side1 => exact (by (with_reducible repeat (first | refine blk_drewN ?_ _ | refine blk_drew ?_ | refine blk_alloc ?_ _)); exact BKG.out)); (case side2 => exact (by repeat (first | exact (Kd.C_below HR0_2.out HB.out) | (with_reducible refine Kd.C_alloc ?_ _) | (with_reducible refine Kd.C_drewN ?_ _) | (with_reducible refine Kd.C_drew ?_)))); (case side3 => exact HC0_2.out); (case side4 => exact (by repeat (first | exact HCC.out.2.2 | (with_reducible refine Kd.C_alloc ?_ _) | (with_reducible refine Kd.C_drewN ?_ _) | (with_reducible refine Kd.C_drew ?_)))); (case side5 => exact HCC.out.2.1); (case side6 => exact (by repeat (first | exact HNC.out.2.2 | (with_reducible refine Kd.C_alloc ?_ _) | (with_reducible refine Kd.C_drewN ?_ _) | (with_reducible refine Kd.C_drew ?_)))); (case side7 => exact HNC.out.2.1); rintro e w14 ⟨v258, rfl, ho0, hb⟩; obtain ⟨Ao15, co15, eo3⟩ := Kd.S_slice ho0; subst eo3; have n0_ := Aside0.mk (Kd.S_lower ho0 (below_size (by repeat (first | exact HB.out | apply below_alloc | apply pw_below_drewN | apply below_drew1)))); have n1_ := Aside0.mk (Kd.C_below (by repeat (first | exact HNC.out.2.2 | (with_reducible refine Kd.C_alloc ?_ _) | (with_reducible refine Kd.C_drewN ?_ _) | (with_reducible refine Kd.C_drew ?_))) hb); have n2_ := Aside0.mk (blk_below (by (with_reducible repeat (first | refine blk_drewN ?_ _ | refine blk_drew ?_ | refine blk_alloc ?_ _)); exact BKG.out) hb); have n3_ := Aside0.mk (below_step (by repeat (first | exact HB.out | apply below_alloc | apply pw_below_drewN | apply below_drew1)) hb); have NLEN := Aside0.mk HNC.out.2.1; clear HCC HNC BKG HB hb ho0; have HPS := n0_; have HNC := n1_; have BKG := n2_; have HB := n3_; clear n0_ n1_ n2_ n3_))
  obtain ⟨f, hft⟩ := HPS.out
  have HPT := Aside0.mk hft
  have HPC := Aside0.mk (Kd.S_reads' HPS.out).2.2
  clear hft HPS
  go_loopg [8, 22] k (fun kq v8 v22 w' => ∃ (x8_1 : List (List Int)) (x22_1 : Int), v22 = .int .i64 x22_1 ∧ Aside0 (impl_ForcedLeaps.l0 kq x8_1 t257 (t257.length : Int) x22_1 a0_0 a0_1 l0_2 a1_0 a1_1 t248 t251 = some (r1, r2)) ∧ Aside0 (kq ≤ k) ∧ Aside0 (OutOk f w14.heap.size w.heap.size w' v8 x8_1 x22_1) ∧ Aside0 (Below w14.heap.size w14 w') ∧ Aside0 (Below w.heap.size w w'))
  case atStart => exact ⟨([] : List (List Int)), 0, (by first | rfl | (simp; done) | (simp [*]; done)), H', ⟨Nat.le_refl _⟩, ⟨OutOk.none _ _ _ _⟩, ⟨(by repeat (first | exact Below.refl _ _ | apply below_alloc | apply pw_below_drewN | apply below_drew1))⟩, ⟨(by repeat (first | exact HB.out | apply below_alloc | apply pw_below_drewN | apply below_drew1))⟩⟩
  case round =>
   clear H' HB
   obtain ⟨x8_1, x22_1, rfl, HA, HK1, HO, HL, HB⟩ := hrel
   have BK254 := Aside0.mk (blk_below BKG.out HL.out)
   cases gk with
   | zero => exact absurd HA.out (by simp [impl_ForcedLeaps.l0])
   | succ k1 =>
    have H := HA.out
    clear HA
    simp only [impl_ForcedLeaps.l0] at H
    by_cases c16 : x22_1 < (t257.length : Int)
    ·rw [if_pos c16] at H
     have c16b0 : decide (x22_1 < (t257.length : Int)) = true := decide_eq_true c16
     clear c16
     by_cases c17 : 0 ≤ x22_1
     ·rw [if_pos c17] at H
      have c17b0 : decide (0 ≤ x22_1) = true := decide_eq_true c17
      clear c17
      by_cases c18 : x22_1 < (t257.length : Int)
      ·rw [if_pos c18] at H
       have c18b0 : decide (x22_1 < (t257.length : Int)) = true := decide_eq_true c18
       clear c18
       by_cases c19 : 0 < ((rd_L1 t257 x22_1).length : Int)
       ·rw [if_pos c19] at H
        have c19b0 : decide (0 < ((rd_L1 t257 x22_1).length : Int)) = true := decide_eq_true c19
        have c19b1 : decide (0 < (rd_L1 t257 x22_1).length) = true := decide_eq_true (by omega)
        clear c19
        by_cases c20 : 0 ≤ (rd (rd_L1 t257 x22_1) 0)
        ·rw [if_pos c20] at H
         have c20b0 : decide (0 ≤ (rd (rd_L1 t257 x22_1) 0)) = true := decide_eq_true c20
         clear c20
         by_cases c21 : (rd (rd_L1 t257 x22_1) 0) < (t251.length : Int)
         ·rw [if_pos c21] at H
          have c21b0 : decide ((rd (rd_L1 t257 x22_1) 0) < (t251.length : Int)) = true := decide_eq_true c21
          clear c21
          by_cases c22 : ((rd_L1 t251 (rd (rd_L1 t257 x22_1) 0)).length : Int) = 2
          ·rw [if_pos c22] at H
           have c22b0 : (((rd_L1 t251 (rd (rd_L1 t257 x22_1) 0)).length : Int) == 2) = true := beq_iff_eq.mpr c22
           have c22b1 : (((rd_L1 t251 (rd (rd_L1 t257 x22_1) 0)).length : Int) != 2) = false := bne_eq_false_iff_eq.mpr c22
           clear c22
           by_cases c23 : x8_1.length < 5864062014805
           ·rw [if_pos c23] at H
            have LMc23 := Aside0.mk c23
            clear c23
            obtain ⟨y263, hy263⟩ : ∃ y_ : List (List Int), y_ = (x8_1 ++ [rd_L1 t257 x22_1]) := ⟨_, rfl⟩
            replace H : (impl_ForcedLeaps.l0 k1 y263 t257 (t257.length : Int) (wrap64 (x22_1 + 1)) a0_0 a0_1 l0_2 a1_0 a1_1 t248 t251) = some (r1, r2) := by first | (rw [hy263]; with_reducible exact H) | (have H2_ := (Option.bind_some _ _).symm.trans H; rw [hy263]; with_reducible exact H2_) | (have H2_ := (Option.bind_some _ _).symm.trans H; with_reducible exact H2_) | with_reducible exact H | (rw [hy263]; exact H) | exact H
            have Ny263 := Aside0.mk hy263
            clear hy263
            have H' := Aside0.mk H
            clear H
            have p260 : 0 ≤ (x22_1 : Int) := of_decide_eq_true (by first | (with_reducible assumption) | assumption)
            have q260 : x22_1 < (t257.length : Int) := of_decide_eq_true (by first | (with_reducible assumption) | assumption)
            obtain ⟨ad260, A260_0, c260_0, e260, hx260_0, hl260_0, hi260_0⟩ := at_L1 (Kd.C_below HPC.out HL.out) x22_1 p260 q260
            have HXP := Aside0.mk hx260_0
            cases e260
            have HR260_0 := Aside0.mk hi260_0
            have HC260_0 := Aside0.mk hl260_0
            clear hi260_0 hl260_0
            replace p260 := eq_true p260
            replace q260 := eq_true q260
            have hcz26_0 : wr.cell? ⟨gb254, 0, none⟩ = some (.int .i64 a0_0) := (blk_cell BK254.out 0).trans rfl
            have hcz26_1 : wr.cell? ⟨gb254, 1, none⟩ = some (.int .i64 a0_1) := (blk_cell BK254.out 1).trans rfl
            have hcz26_2 : wr.cell? ⟨gb254, 2, none⟩ = some (.slice A0_2 l0_2.length c0_2) := (blk_cell BK254.out 2).trans rfl
            have hcz26_3 : wr.cell? ⟨gb254, 3, none⟩ = some (.int .i64 a1_0) := (blk_cell BK254.out 3).trans rfl
            have hcz26_4 : wr.cell? ⟨gb254, 4, none⟩ = some (.int .i64 a1_1) := (blk_cell BK254.out 4).trans rfl
            have hcz26_5 : wr.cell? ⟨gb254, 5, none⟩ = some (.slice Ao12 t248.length co12) := (blk_cell BK254.out 5).trans rfl
            have hcz26_6 : wr.cell? ⟨gb254, 6, none⟩ = some (.slice Ao13 t251.length co13) := (blk_cell BK254.out 6).trans rfl
            have hfz26_0 := blk_frozen BK254.out 0
            have hfz26_1 := blk_frozen BK254.out 1
            have hfz26_2 := blk_frozen BK254.out 2
            have hfz26_3 := blk_frozen BK254.out 3
            have hfz26_4 := blk_frozen BK254.out 4
            have hfz26_5 := blk_frozen BK254.out 5
            have hfz26_6 := blk_frozen BK254.out 6
            have p261 : 0 ≤ (0 : Int) := (by omega)
            have q261 : 0 < ((rd_L1 t257 x22_1).length : Int) := of_decide_eq_true (by first | (with_reducible assumption) | assumption)
            obtain ⟨ad261, e261, hx261_0⟩ := Kd.at_int (by repeat (first | (with_reducible exact HR260_0.out) | (with_reducible refine Kd.C_alloc ?_ _) | (with_reducible refine Kd.C_drewN ?_ _) | (with_reducible refine Kd.C_drew ?_) | exact HR260_0.out)) 0 p261 q261
            cases e261
            have qi261 : (0 < (rd_L1 t257 x22_1).length) = True := eq_true (by omega)
            (try rw [show ((0 : Int)).toNat = 0 from rfl] at hx261_0)
            (try rw [Addr.add_zero'] at hx261_0)
            replace p261 := eq_true p261
            replace q261 := eq_true q261
            have p262 : 0 ≤ ((rd (rd_L1 t257 x22_1) 0) : Int) := of_decide_eq_true (by first | (with_reducible assumption) | assumption)
            have q262 : (rd (rd_L1 t257 x22_1) 0) < (t251.length : Int) := of_decide_eq_true (by first | (with_reducible assumption) | assumption)
            obtain ⟨ad262, A262_0, c262_0, e262, hx262_0, hl262_0, hi262_0⟩ := at_L1 (Kd.C_below HNC.out HL.out) (rd (rd_L1 t257 x22_1) 0) p262 q262
            cases e262
            have HR262_0 := Aside0.mk hi262_0
            have HC262_0 := Aside0.mk hl262_0
            clear hi262_0 hl262_0
            replace p262 := eq_true p262
            replace q262 := eq_true q262
            obtain ⟨sel, hs1, hs2, hs3, hs4, hs5⟩ := HO.out
            have HM := Aside0.mk (elem_tag HPT.out HL.out x22_1 (of_decide_eq_true (by first | (with_reducible assumption) | assumption)) (of_decide_eq_true (by first | (with_reducible assumption) | assumption)) HXP.out)
            go_wp2_with (first | ((with_reducible refine gate_builtin (b := .append) (xs := #[.tmp 50, .tmp 52]) rfl ?_); (try (refine gate_guard (by rfl) ?_; dsimp only)); at_builtin; refine Kd.R_append (Kd.tag f (Kd.slice 3 (Kd.int .i64))) (w0 := w) w.heap.size rfl (.tmp 50) (.tmp 52) 28 22 (.slice none 0 0) 24 rfl Try.underlying28 info22 rfl Nat.zero_lt_one (by omega) u8 sel (rd_L1 t257 x22_1, x22_1.toNat) [.slice (some ad261) (rd_L1 t257 x22_1).length c260_0] (fun _ => True) (fun k_ => k_ < w14.heap.size) rfl rfl ?aP ?aK ?aF ?aO ?aB ?aS ?aL ?_; (case aP => first | exact HM.out | exact Kd.M_below HM.out (by repeat (first | exact Below.refl _ _ | apply below_alloc | apply pw_below_drewN | apply below_drew1))); (case aK => exact fun k_ hk_ => ⟨trivial, fun e_ => absurd (hs5 k_ e_.symm) (by have h9_ : k_ < w14.heap.size := hk_; omega)⟩); (case aF => exact fun _ _ => trivial); (case aO => exact (by (with_reducible repeat (first | apply Kd.R_alloc | apply Kd.R_drewN | apply Kd.R_drew)); exact hs4)); (case aB => exact (by repeat (first | exact HB.out | apply below_alloc | apply pw_below_drewN | apply below_drew1))); (case aS => exact below_size (by repeat (first | exact HB.out | apply below_alloc | apply pw_below_drewN | apply below_drew1))); (case aL => have h9_ := LMc23.out; have h8_ : sel.length = x8_1.length := (by rw [← hs1, List.length_map]); omega); intro vn wn ho hb hg hat; have n0_ := Aside0.mk (OutOk.more hs1 hs2 hs3 hs5 (below_size (by repeat (first | exact HL.out | apply below_alloc | apply pw_below_drewN | apply below_drew1))) ho hat (of_decide_eq_true (by first | (with_reducible assumption) | assumption))); have n1_ := Aside0.mk (pw_below_grown (by repeat (first | exact HL.out | apply below_alloc | apply pw_below_drewN | apply below_drew1)) _ (below_size (by repeat (first | exact HL.out | apply below_alloc | apply pw_below_drewN | apply below_drew1))) hg hs5); have n2_ := Aside0.mk hb; clear HO HL HB; have HO := n0_; have HL := n1_; have HB := n2_; clear n0_ n1_ n2_; (try clear ho); (try clear hb); (try clear hg); (try clear hat)))
            repeat ((first | go_quiet (first | ((with_reducible refine gate_builtin (b := .append) (xs := #[.tmp 50, .tmp 52]) rfl ?_); (try (refine gate_guard (by rfl) ?_; dsimp only)); at_builtin; refine Kd.R_append (Kd.tag f (Kd.slice 3 (Kd.int .i64))) (w0 := w) w.heap.size rfl (.tmp 50) (.tmp 52) 28 22 (.slice none 0 0) 24 rfl Try.underlying28 info22 rfl Nat.zero_lt_one (by omega) u8 sel (rd_L1 t257 x22_1, x22_1.toNat) [.slice (some ad261) (rd_L1 t257 x22_1).length c260_0] (fun _ => True) (fun k_ => k_ < w14.heap.size) rfl rfl ?aP ?aK ?aF ?aO ?aB ?aS ?aL ?_; (case aP => first | exact HM.out | exact Kd.M_below HM.out (by repeat (first | exact Below.refl _ _ | apply below_alloc | apply pw_below_drewN | apply below_drew1))); (case aK => exact fun k_ hk_ => ⟨trivial, fun e_ => absurd (hs5 k_ e_.symm) (by have h9_ : k_ < w14.heap.size := hk_; omega)⟩); (case aF => exact fun _ _ => trivial); (case aO => exact (by (with_reducible repeat (first | apply Kd.R_alloc | apply Kd.R_drewN | apply Kd.R_drew)); exact hs4)); (case aB => exact (by repeat (first | exact HB.out | apply below_alloc | apply pw_below_drewN | apply below_drew1))); (case aS => exact below_size (by repeat (first | exact HB.out | apply below_alloc | apply pw_below_drewN | apply below_drew1))); (case aL => have h9_ := LMc23.out; have h8_ : sel.length = x8_1.length := (by rw [← hs1, List.length_map]); omega); intro vn wn ho hb hg hat; have n0_ := Aside0.mk (OutOk.more hs1 hs2 hs3 hs5 (below_size (by repeat (first | exact HL.out | apply below_alloc | apply pw_below_drewN | apply below_drew1))) ho hat (of_decide_eq_true (by first | (with_reducible assumption) | assumption))); have n1_ := Aside0.mk (pw_below_grown (by repeat (first | exact HL.out | apply below_alloc | apply pw_below_drewN | apply below_drew1)) _ (below_size (by repeat (first | exact HL.out | apply below_alloc | apply pw_below_drewN | apply below_drew1))) hg hs5); have n2_ := Aside0.mk hb; clear HO HL HB; have HO := n0_; have HL := n1_; have HB := n2_; clear n0_ n1_ n2_; (try clear ho); (try clear hb); (try clear hg); (try clear hat))) | (refine wp_region_quiet_lit (by kernel_rfl) (by kernel_rfl) ?_; (repeat (any_goals (first | go_big_quiet_step (first | ((with_reducible refine gate_builtin (b := .append) (xs := #[.tmp 50, .tmp 52]) rfl ?_); (try (refine gate_guard (by rfl) ?_; dsimp only)); at_builtin; refine Kd.R_append (Kd.tag f (Kd.slice 3 (Kd.int .i64))) (w0 := w) w.heap.size rfl (.tmp 50) (.tmp 52) 28 22 (.slice none 0 0) 24 rfl Try.underlying28 info22 rfl Nat.zero_lt_one (by omega) u8 sel (rd_L1 t257 x22_1, x22_1.toNat) [.slice (some ad261) (rd_L1 t257 x22_1).length c260_0] (fun _ => True) (fun k_ => k_ < w14.heap.size) rfl rfl ?aP ?aK ?aF ?aO ?aB ?aS ?aL ?_; (case aP => first | exact HM.out | exact Kd.M_below HM.out (by repeat (first | exact Below.refl _ _ | apply below_alloc | apply pw_below_drewN | apply below_drew1))); (case aK => exact fun k_ hk_ => ⟨trivial, fun e_ => absurd (hs5 k_ e_.symm) (by have h9_ : k_ < w14.heap.size := hk_; omega)⟩); (case aF => exact fun _ _ => trivial); (case aO => exact (by (with_reducible repeat (first | apply Kd.R_alloc | apply Kd.R_drewN | apply Kd.R_drew)); exact hs4)); (case aB => exact (by repeat (first | exact HB.out | apply below_alloc | apply pw_below_drewN | apply below_drew1))); (case aS => exact below_size (by repeat (first | exact HB.out | apply below_alloc | apply pw_below_drewN | apply below_drew1))); (case aL => have h9_ := LMc23.out; have h8_ : sel.length = x8_1.length := (by rw [← hs1, List.length_map]); omega); intro vn wn ho hb hg hat; have n0_ := Aside0.mk (OutOk.more hs1 hs2 hs3 hs5 (below_size (by repeat (first | exact HL.out | apply below_alloc | apply pw_below_drewN | apply below_drew1))) ho hat (of_decide_eq_true (by first | (with_reducible assumption) | assumption))); have n1_ := Aside0.mk (pw_below_grown (by repeat (first | exact HL.out | apply below_alloc | apply pw_below_drewN | apply below_drew1)) _ (below_size (by repeat (first | exact HL.out | apply below_alloc | apply pw_below_drewN | apply below_drew1))) hg hs5); have n2_ := Aside0.mk hb; clear HO HL HB; have HO := n0_; have HL := n1_; have HB := n2_; clear n0_ n1_ n2_; (try clear ho); (try clear hb); (try clear hg); (try clear hat))) | quiet_step (first | ((with_reducible refine gate_builtin (b := .append) (xs := #[.tmp 50, .tmp 52]) rfl ?_); (try (refine gate_guard (by rfl) ?_; dsimp only)); at_builtin; refine Kd.R_append (Kd.tag f (Kd.slice 3 (Kd.int .i64))) (w0 := w) w.heap.size rfl (.tmp 50) (.tmp 52) 28 22 (.slice none 0 0) 24 rfl Try.underlying28 info22 rfl Nat.zero_lt_one (by omega) u8 sel (rd_L1 t257 x22_1, x22_1.toNat) [.slice (some ad261) (rd_L1 t257 x22_1).length c260_0] (fun _ => True) (fun k_ => k_ < w14.heap.size) rfl rfl ?aP ?aK ?aF ?aO ?aB ?aS ?aL ?_; (case aP => first | exact HM.out | exact Kd.M_below HM.out (by repeat (first | exact Below.refl _ _ | apply below_alloc | apply pw_below_drewN | apply below_drew1))); (case aK => exact fun k_ hk_ => ⟨trivial, fun e_ => absurd (hs5 k_ e_.symm) (by have h9_ : k_ < w14.heap.size := hk_; omega)⟩); (case aF => exact fun _ _ => trivial); (case aO => exact (by (with_reducible repeat (first | apply Kd.R_alloc | apply Kd.R_drewN | apply Kd.R_drew)); exact hs4)); (case aB => exact (by repeat (first | exact HB.out | apply below_alloc | apply pw_below_drewN | apply below_drew1))); (case aS => exact below_size (by repeat (first | exact HB.out | apply below_alloc | apply pw_below_drewN | apply below_drew1))); (case aL => have h9_ := LMc23.out; have h8_ : sel.length = x8_1.length := (by rw [← hs1, List.length_map]); omega); intro vn wn ho hb hg hat; have n0_ := Aside0.mk (OutOk.more hs1 hs2 hs3 hs5 (below_size (by repeat (first | exact HL.out | apply below_alloc | apply pw_below_drewN | apply below_drew1))) ho hat (of_decide_eq_true (by first | (with_reducible assumption) | assumption))); have n1_ := Aside0.mk (pw_below_grown (by repeat (first | exact HL.out | apply below_alloc | apply pw_below_drewN | apply below_drew1)) _ (below_size (by repeat (first | exact HL.out | apply below_alloc | apply pw_below_drewN | apply below_drew1))) hg hs5); have n2_ := Aside0.mk hb; clear HO HL HB; have HO := n0_; have HL := n1_; have HB := n2_; clear n0_ n1_ n2_; (try clear ho); (try clear hb); (try clear hg); (try clear hat)))))); all_goals (refine wpQuiet_nil ?_; intro _ hw2_; obtain ⟨nq, hw3_⟩ := hw2_; subst hw3_))); try go_wp2_with (first | ((with_reducible refine gate_builtin (b := .append) (xs := #[.tmp 50, .tmp 52]) rfl ?_); (try (refine gate_guard (by rfl) ?_; dsimp only)); at_builtin; refine Kd.R_append (Kd.tag f (Kd.slice 3 (Kd.int .i64))) (w0 := w) w.heap.size rfl (.tmp 50) (.tmp 52) 28 22 (.slice none 0 0) 24 rfl Try.underlying28 info22 rfl Nat.zero_lt_one (by omega) u8 sel (rd_L1 t257 x22_1, x22_1.toNat) [.slice (some ad261) (rd_L1 t257 x22_1).length c260_0] (fun _ => True) (fun k_ => k_ < w14.heap.size) rfl rfl ?aP ?aK ?aF ?aO ?aB ?aS ?aL ?_; (case aP => first | exact HM.out | exact Kd.M_below HM.out (by repeat (first | exact Below.refl _ _ | apply below_alloc | apply pw_below_drewN | apply below_drew1))); (case aK => exact fun k_ hk_ => ⟨trivial, fun e_ => absurd (hs5 k_ e_.symm) (by have h9_ : k_ < w14.heap.size := hk_; omega)⟩); (case aF => exact fun _ _ => trivial); (case aO => exact (by (with_reducible repeat (first | apply Kd.R_alloc | apply Kd.R_drewN | apply Kd.R_drew)); exact hs4)); (case aB => exact (by repeat (first | exact HB.out | apply below_alloc | apply pw_below_drewN | apply below_drew1))); (case aS => exact below_size (by repeat (first | exact HB.out | apply below_alloc | apply pw_below_drewN | apply below_drew1))); (case aL => have h9_ := LMc23.out; have h8_ : sel.length = x8_1.length := (by rw [← hs1, List.length_map]); omega); intro vn wn ho hb hg hat; have n0_ := Aside0.mk (OutOk.more hs1 hs2 hs3 hs5 (below_size (by repeat (first | exact HL.out | apply below_alloc | apply pw_below_drewN | apply below_drew1))) ho hat (of_decide_eq_true (by first | (with_reducible assumption) | assumption))); have n1_ := Aside0.mk (pw_below_grown (by repeat (first | exact HL.out | apply below_alloc | apply pw_below_drewN | apply below_drew1)) _ (below_size (by repeat (first | exact HL.out | apply below_alloc | apply pw_below_drewN | apply below_drew1))) hg hs5); have n2_ := Aside0.mk hb; clear HO HL HB; have HO := n0_; have HL := n1_; have HB := n2_; clear n0_ n1_ n2_; (try clear ho); (try clear hb); (try clear hg); (try clear hat))))
            go_roundg k1
            case measure => have := HK1.out; omega
            case rel => exact ⟨(y263), (wrap64 (x22_1 + 1)), (by first | rfl | (simp; done) | (simp [*]; done)), H', ⟨by have := HK1.out; omega⟩, ⟨by rw [Ny263.out, (next_eq HPC.out.2.1 (of_decide_eq_true (by first | (with_reducible assumption) | assumption)) (of_decide_eq_true (by first | (with_reducible assumption) | assumption)))]; exact (by first | exact HO.out | (repeat (first | exact HO.out | apply OutOk.drewN | apply OutOk.drew)))⟩, ⟨(by repeat (first | exact HL.out | apply below_alloc | apply pw_below_drewN | apply below_drew1))⟩, ⟨(by repeat (first | exact HB.out | apply below_alloc | apply pw_below_drewN | apply below_drew1))⟩⟩
           ·rw [if_neg c23] at H
            exact absurd H (by simp)
          ·rw [if_neg c22] at H
           have c22b0 : (((rd_L1 t251 (rd (rd_L1 t257 x22_1) 0)).length : Int) == 2) = false := beq_eq_false_iff_ne.mpr c22
           have c22b1 : (((rd_L1 t251 (rd (rd_L1 t257 x22_1) 0)).length : Int) != 2) = true := bne_iff_ne.mpr c22
           by_cases c28 : 1 < ((rd_L1 t257 x22_1).length : Int)
           ·rw [if_pos c28] at H
            have c28b0 : decide (1 < ((rd_L1 t257 x22_1).length : Int)) = true := decide_eq_true c28
            have c28b1 : decide (1 < (rd_L1 t257 x22_1).length) = true := decide_eq_true (by omega)
            clear c28
            by_cases c29 : 0 ≤ (rd (rd_L1 t257 x22_1) 1)
            ·rw [if_pos c29] at H
             have c29b0 : decide (0 ≤ (rd (rd_L1 t257 x22_1) 1)) = true := decide_eq_true c29
             clear c29
             by_cases c30 : (rd (rd_L1 t257 x22_1) 1) < (t251.length : Int)
             ·rw [if_pos c30] at H
              have c30b0 : decide ((rd (rd_L1 t257 x22_1) 1) < (t251.length : Int)) = true := decide_eq_true c30
              clear c30
              by_cases c31 : ((rd_L1 t251 (rd (rd_L1 t257 x22_1) 1)).length : Int) = 2
              ·rw [if_pos c31] at H
               have c31b0 : (((rd_L1 t251 (rd (rd_L1 t257 x22_1) 1)).length : Int) == 2) = true := beq_iff_eq.mpr c31
               have c31b1 : (((rd_L1 t251 (rd (rd_L1 t257 x22_1) 1)).length : Int) != 2) = false := bne_eq_false_iff_eq.mpr c31
               clear c31
               by_cases c32 : x8_1.length < 5864062014805
               ·rw [if_pos c32] at H
                have LMc32 := Aside0.mk c32
                clear c32
                obtain ⟨y268, hy268⟩ : ∃ y_ : List (List Int), y_ = (x8_1 ++ [rd_L1 t257 x22_1]) := ⟨_, rfl⟩
                replace H : (impl_ForcedLeaps.l0 k1 y268 t257 (t257.length : Int) (wrap64 (x22_1 + 1)) a0_0 a0_1 l0_2 a1_0 a1_1 t248 t251) = some (r1, r2) := by first | (rw [hy268]; with_reducible exact H) | (have H2_ := (Option.bind_some _ _).symm.trans H; rw [hy268]; with_reducible exact H2_) | (have H2_ := (Option.bind_some _ _).symm.trans H; with_reducible exact H2_) | with_reducible exact H | (rw [hy268]; exact H) | exact H
                have Ny268 := Aside0.mk hy268
                clear hy268
                have H' := Aside0.mk H
                clear H
                have p260 : 0 ≤ (x22_1 : Int) := of_decide_eq_true (by first | (with_reducible assumption) | assumption)
                have q260 : x22_1 < (t257.length : Int) := of_decide_eq_true (by first | (with_reducible assumption) | assumption)
                obtain ⟨ad260, A260_0, c260_0, e260, hx260_0, hl260_0, hi260_0⟩ := at_L1 (Kd.C_below HPC.out HL.out) x22_1 p260 q260
                have HXP := Aside0.mk hx260_0
                cases e260
                have HR260_0 := Aside0.mk hi260_0
                have HC260_0 := Aside0.mk hl260_0
                clear hi260_0 hl260_0
                replace p260 := eq_true p260
                replace q260 := eq_true q260
                have hcz35_0 : wr.cell? ⟨gb254, 0, none⟩ = some (.int .i64 a0_0) := (blk_cell BK254.out 0).trans rfl
                have hcz35_1 : wr.cell? ⟨gb254, 1, none⟩ = some (.int .i64 a0_1) := (blk_cell BK254.out 1).trans rfl
                have hcz35_2 : wr.cell? ⟨gb254, 2, none⟩ = some (.slice A0_2 l0_2.length c0_2) := (blk_cell BK254.out 2).trans rfl
                have hcz35_3 : wr.cell? ⟨gb254, 3, none⟩ = some (.int .i64 a1_0) := (blk_cell BK254.out 3).trans rfl
                have hcz35_4 : wr.cell? ⟨gb254, 4, none⟩ = some (.int .i64 a1_1) := (blk_cell BK254.out 4).trans rfl
                have hcz35_5 : wr.cell? ⟨gb254, 5, none⟩ = some (.slice Ao12 t248.length co12) := (blk_cell BK254.out 5).trans rfl
                have hcz35_6 : wr.cell? ⟨gb254, 6, none⟩ = some (.slice Ao13 t251.length co13) := (blk_cell BK254.out 6).trans rfl
                have hfz35_0 := blk_frozen BK254.out 0
                have hfz35_1 := blk_frozen BK254.out 1
                have hfz35_2 := blk_frozen BK254.out 2
                have hfz35_3 := blk_frozen BK254.out 3
                have hfz35_4 := blk_frozen BK254.out 4
                have hfz35_5 := blk_frozen BK254.out 5
                have hfz35_6 := blk_frozen BK254.out 6
                have p261 : 0 ≤ (0 : Int) := (by omega)
                have q261 : 0 < ((rd_L1 t257 x22_1).length : Int) := of_decide_eq_true (by first | (with_reducible assumption) | assumption)
                obtain ⟨ad261, e261, hx261_0⟩ := Kd.at_int (by repeat (first | (with_reducible exact HR260_0.out) | (with_reducible refine Kd.C_alloc ?_ _) | (with_reducible refine Kd.C_drewN ?_ _) | (with_reducible refine Kd.C_drew ?_) | exact HR260_0.out)) 0 p261 q261
                cases e261
                have qi261 : (0 < (rd_L1 t257 x22_1).length) = True := eq_true (by omega)
                (try rw [show ((0 : Int)).toNat = 0 from rfl] at hx261_0)
                (try rw [Addr.add_zero'] at hx261_0)
                replace p261 := eq_true p261
                replace q261 := eq_true q261
                have p262 : 0 ≤ ((rd (rd_L1 t257 x22_1) 0) : Int) := of_decide_eq_true (by first | (with_reducible assumption) | assumption)
                have q262 : (rd (rd_L1 t257 x22_1) 0) < (t251.length : Int) := of_decide_eq_true (by first | (with_reducible assumption) | assumption)
                obtain ⟨ad262, A262_0, c262_0, e262, hx262_0, hl262_0, hi262_0⟩ := at_L1 (Kd.C_below HNC.out HL.out) (rd (rd_L1 t257 x22_1) 0) p262 q262
                cases e262
                have HR262_0 := Aside0.mk hi262_0
                have HC262_0 := Aside0.mk hl262_0
                clear hi262_0 hl262_0
                replace p262 := eq_true p262
                replace q262 := eq_true q262
                have p266 : 0 ≤ (1 : Int) := (by omega)
                have q266 : 1 < ((rd_L1 t257 x22_1).length : Int) := of_decide_eq_true (by first | (with_reducible assumption) | assumption)
                obtain ⟨ad266, e266, hx266_0⟩ := Kd.at_int (by repeat (first | (with_reducible exact HR260_0.out) | (with_reducible refine Kd.C_alloc ?_ _) | (with_reducible refine Kd.C_drewN ?_ _) | (with_reducible refine Kd.C_drew ?_) | exact HR260_0.out)) 1 p266 q266
                obtain rfl : ad261 = ad266 := (by injection e266)
                (try simp only [show (1 : Int).toNat = 1 from rfl, Nat.reduceMul, Nat.reduceEqDiff, Go.Addr.add, ↓reduceIte] at hx266_0)
                have qi266 : (1 < (rd_L1 t257 x22_1).length) = True := eq_true (by omega)
                (try rw [show ((1 : Int)).toNat = 1 from rfl] at hx266_0)
                replace p266 := eq_true p266
                replace q266 := eq_true q266
                have p267 : 0 ≤ ((rd (rd_L1 t257 x22_1) 1) : Int) := of_decide_eq_true (by first | (with_reducible assumption) | assumption)
                have q267 : (rd (rd_L1 t257 x22_1) 1) < (t251.length : Int) := of_decide_eq_true (by first | (with_reducible assumption) | assumption)
                obtain ⟨ad267, A267_0, c267_0, e267, hx267_0, hl267_0, hi267_0⟩ := at_L1 (Kd.C_below HNC.out HL.out) (rd (rd_L1 t257 x22_1) 1) p267 q267
                obtain rfl : ad262 = ad267 := (by injection e267)
                have HR267_0 := Aside0.mk hi267_0
                have HC267_0 := Aside0.mk hl267_0
                clear hi267_0 hl267_0
                replace p267 := eq_true p267
                replace q267 := eq_true q267
                obtain ⟨sel, hs1, hs2, hs3, hs4, hs5⟩ := HO.out
                have HM := Aside0.mk (elem_tag HPT.out HL.out x22_1 (of_decide_eq_true (by first | (with_reducible assumption) | assumption)) (of_decide_eq_true (by first | (with_reducible assumption) | assumption)) HXP.out)
                go_wp2_with (first | ((with_reducible refine gate_builtin (b := .append) (xs := #[.tmp 50, .tmp 52]) rfl ?_); (try (refine gate_guard (by rfl) ?_; dsimp only)); at_builtin; refine Kd.R_append (Kd.tag f (Kd.slice 3 (Kd.int .i64))) (w0 := w) w.heap.size rfl (.tmp 50) (.tmp 52) 28 22 (.slice none 0 0) 24 rfl Try.underlying28 info22 rfl Nat.zero_lt_one (by omega) u8 sel (rd_L1 t257 x22_1, x22_1.toNat) [.slice (some ad261) (rd_L1 t257 x22_1).length c260_0] (fun _ => True) (fun k_ => k_ < w14.heap.size) rfl rfl ?aP ?aK ?aF ?aO ?aB ?aS ?aL ?_; (case aP => first | exact HM.out | exact Kd.M_below HM.out (by repeat (first | exact Below.refl _ _ | apply below_alloc | apply pw_below_drewN | apply below_drew1))); (case aK => exact fun k_ hk_ => ⟨trivial, fun e_ => absurd (hs5 k_ e_.symm) (by have h9_ : k_ < w14.heap.size := hk_; omega)⟩); (case aF => exact fun _ _ => trivial); (case aO => exact (by (with_reducible repeat (first | apply Kd.R_alloc | apply Kd.R_drewN | apply Kd.R_drew)); exact hs4)); (case aB => exact (by repeat (first | exact HB.out | apply below_alloc | apply pw_below_drewN | apply below_drew1))); (case aS => exact below_size (by repeat (first | exact HB.out | apply below_alloc | apply pw_below_drewN | apply below_drew1))); (case aL => have h9_ := LMc32.out; have h8_ : sel.length = x8_1.length := (by rw [← hs1, List.length_map]); omega); intro vn wn ho hb hg hat; have n0_ := Aside0.mk (OutOk.more hs1 hs2 hs3 hs5 (below_size (by repeat (first | exact HL.out | apply below_alloc | apply pw_below_drewN | apply below_drew1))) ho hat (of_decide_eq_true (by first | (with_reducible assumption) | assumption))); have n1_ := Aside0.mk (pw_below_grown (by repeat (first | exact HL.out | apply below_alloc | apply pw_below_drewN | apply below_drew1)) _ (below_size (by repeat (first | exact HL.out | apply below_alloc | apply pw_below_drewN | apply below_drew1))) hg hs5); have n2_ := Aside0.mk hb; clear HO HL HB; have HO := n0_; have HL := n1_; have HB := n2_; clear n0_ n1_ n2_; (try clear ho); (try clear hb); (try clear hg); (try clear hat)))
                repeat ((first | go_quiet (first | ((with_reducible refine gate_builtin (b := .append) (xs := #[.tmp 50, .tmp 52]) rfl ?_); (try (refine gate_guard (by rfl) ?_; dsimp only)); at_builtin; refine Kd.R_append (Kd.tag f (Kd.slice 3 (Kd.int .i64))) (w0 := w) w.heap.size rfl (.tmp 50) (.tmp 52) 28 22 (.slice none 0 0) 24 rfl Try.underlying28 info22 rfl Nat.zero_lt_one (by omega) u8 sel (rd_L1 t257 x22_1, x22_1.toNat) [.slice (some ad261) (rd_L1 t257 x22_1).length c260_0] (fun _ => True) (fun k_ => k_ < w14.heap.size) rfl rfl ?aP ?aK ?aF ?aO ?aB ?aS ?aL ?_; (case aP => first | exact HM.out | exact Kd.M_below HM.out (by repeat (first | exact Below.refl _ _ | apply below_alloc | apply pw_below_drewN | apply below_drew1))); (case aK => exact fun k_ hk_ => ⟨trivial, fun e_ => absurd (hs5 k_ e_.symm) (by have h9_ : k_ < w14.heap.size := hk_; omega)⟩); (case aF => exact fun _ _ => trivial); (case aO => exact (by (with_reducible repeat (first | apply Kd.R_alloc | apply Kd.R_drewN | apply Kd.R_drew)); exact hs4)); (case aB => exact (by repeat (first | exact HB.out | apply below_alloc | apply pw_below_drewN | apply below_drew1))); (case aS => exact below_size (by repeat (first | exact HB.out | apply below_alloc | apply pw_below_drewN | apply below_drew1))); (case aL => have h9_ := LMc32.out; have h8_ : sel.length = x8_1.length := (by rw [← hs1, List.length_map]); omega); intro vn wn ho hb hg hat; have n0_ := Aside0.mk (OutOk.more hs1 hs2 hs3 hs5 (below_size (by repeat (first | exact HL.out | apply below_alloc | apply pw_below_drewN | apply below_drew1))) ho hat (of_decide_eq_true (by first | (with_reducible assumption) | assumption))); have n1_ := Aside0.mk (pw_below_grown (by repeat (first | exact HL.out | apply below_alloc | apply pw_below_drewN | apply below_drew1)) _ (below_size (by repeat (first | exact HL.out | apply below_alloc | apply pw_below_drewN | apply below_drew1))) hg hs5); have n2_ := Aside0.mk hb; clear HO HL HB; have HO := n0_; have HL := n1_; have HB := n2_; clear n0_ n1_ n2_; (try clear ho); (try clear hb); (try clear hg); (try clear hat))) | (refine wp_region_quiet_lit (by kernel_rfl) (by kernel_rfl) ?_; (repeat (any_goals (first | go_big_quiet_step (first | ((with_reducible refine gate_builtin (b := .append) (xs := #[.tmp 50, .tmp 52]) rfl ?_); (try (refine gate_guard (by rfl) ?_; dsimp only)); at_builtin; refine Kd.R_append (Kd.tag f (Kd.slice 3 (Kd.int .i64))) (w0 := w) w.heap.size rfl (.tmp 50) (.tmp 52) 28 22 (.slice none 0 0) 24 rfl Try.underlying28 info22 rfl Nat.zero_lt_one (by omega) u8 sel (rd_L1 t257 x22_1, x22_1.toNat) [.slice (some ad261) (rd_L1 t257 x22_1).length c260_0] (fun _ => True) (fun k_ => k_ < w14.heap.size) rfl rfl ?aP ?aK ?aF ?aO ?aB ?aS ?aL ?_; (case aP => first | exact HM.out | exact Kd.M_below HM.out (by repeat (first | exact Below.refl _ _ | apply below_alloc | apply pw_below_drewN | apply below_drew1))); (case aK => exact fun k_ hk_ => ⟨trivial, fun e_ => absurd (hs5 k_ e_.symm) (by have h9_ : k_ < w14.heap.size := hk_; omega)⟩); (case aF => exact fun _ _ => trivial); (case aO => exact (by (with_reducible repeat (first | apply Kd.R_alloc | apply Kd.R_drewN | apply Kd.R_drew)); exact hs4)); (case aB => exact (by repeat (first | exact HB.out | apply below_alloc | apply pw_below_drewN | apply below_drew1))); (case aS => exact below_size (by repeat (first | exact HB.out | apply below_alloc | apply pw_below_drewN | apply below_drew1))); (case aL => have h9_ := LMc32.out; have h8_ : sel.length = x8_1.length := (by rw [← hs1, List.length_map]); omega); intro vn wn ho hb hg hat; have n0_ := Aside0.mk (OutOk.more hs1 hs2 hs3 hs5 (below_size (by repeat (first | exact HL.out | apply below_alloc | apply pw_below_drewN | apply below_drew1))) ho hat (of_decide_eq_true (by first | (with_reducible assumption) | assumption))); have n1_ := Aside0.mk (pw_below_grown (by repeat (first | exact HL.out | apply below_alloc | apply pw_below_drewN | apply below_drew1)) _ (below_size (by repeat (first | exact HL.out | apply below_alloc | apply pw_below_drewN | apply below_drew1))) hg hs5); have n2_ := Aside0.mk hb; clear HO HL HB; have HO := n0_; have HL := n1_; have HB := n2_; clear n0_ n1_ n2_; (try clear ho); (try clear hb); (try clear hg); (try clear hat))) | quiet_step (first | ((with_reducible refine gate_builtin (b := .append) (xs := #[.tmp 50, .tmp 52]) rfl ?_); (try (refine gate_guard (by rfl) ?_; dsimp only)); at_builtin; refine Kd.R_append (Kd.tag f (Kd.slice 3 (Kd.int .i64))) (w0 := w) w.heap.size rfl (.tmp 50) (.tmp 52) 28 22 (.slice none 0 0) 24 rfl Try.underlying28 info22 rfl Nat.zero_lt_one (by omega) u8 sel (rd_L1 t257 x22_1, x22_1.toNat) [.slice (some ad261) (rd_L1 t257 x22_1).length c260_0] (fun _ => True) (fun k_ => k_ < w14.heap.size) rfl rfl ?aP ?aK ?aF ?aO ?aB ?aS ?aL ?_; (case aP => first | exact HM.out | exact Kd.M_below HM.out (by repeat (first | exact Below.refl _ _ | apply below_alloc | apply pw_below_drewN | apply below_drew1))); (case aK => exact fun k_ hk_ => ⟨trivial, fun e_ => absurd (hs5 k_ e_.symm) (by have h9_ : k_ < w14.heap.size := hk_; omega)⟩); (case aF => exact fun _ _ => trivial); (case aO => exact (by (with_reducible repeat (first | apply Kd.R_alloc | apply Kd.R_drewN | apply Kd.R_drew)); exact hs4)); (case aB => exact (by repeat (first | exact HB.out | apply below_alloc | apply pw_below_drewN | apply below_drew1))); (case aS => exact below_size (by repeat (first | exact HB.out | apply below_alloc | apply pw_below_drewN | apply below_drew1))); (case aL => have h9_ := LMc32.out; have h8_ : sel.length = x8_1.length := (by rw [← hs1, List.length_map]); omega); intro vn wn ho hb hg hat; have n0_ := Aside0.mk (OutOk.more hs1 hs2 hs3 hs5 (below_size (by repeat (first | exact HL.out | apply below_alloc | apply pw_below_drewN | apply below_drew1))) ho hat (of_decide_eq_true (by first | (with_reducible assumption) | assumption))); have n1_ := Aside0.mk (pw_below_grown (by repeat (first | exact HL.out | apply below_alloc | apply pw_below_drewN | apply below_drew1)) _ (below_size (by repeat (first | exact HL.out | apply below_alloc | apply pw_below_drewN | apply below_drew1))) hg hs5); have n2_ := Aside0.mk hb; clear HO HL HB; have HO := n0_; have HL := n1_; have HB := n2_; clear n0_ n1_ n2_; (try clear ho); (try clear hb); (try clear hg); (try clear hat)))))); all_goals (refine wpQuiet_nil ?_; intro _ hw2_; obtain ⟨nq, hw3_⟩ := hw2_; subst hw3_))); try go_wp2_with (first | ((with_reducible refine gate_builtin (b := .append) (xs := #[.tmp 50, .tmp 52]) rfl ?_); (try (refine gate_guard (by rfl) ?_; dsimp only)); at_builtin; refine Kd.R_append (Kd.tag f (Kd.slice 3 (Kd.int .i64))) (w0 := w) w.heap.size rfl (.tmp 50) (.tmp 52) 28 22 (.slice none 0 0) 24 rfl Try.underlying28 info22 rfl Nat.zero_lt_one (by omega) u8 sel (rd_L1 t257 x22_1, x22_1.toNat) [.slice (some ad261) (rd_L1 t257 x22_1).length c260_0] (fun _ => True) (fun k_ => k_ < w14.heap.size) rfl rfl ?aP ?aK ?aF ?aO ?aB ?aS ?aL ?_; (case aP => first | exact HM.out | exact Kd.M_below HM.out (by repeat (first | exact Below.refl _ _ | apply below_alloc | apply pw_below_drewN | apply below_drew1))); (case aK => exact fun k_ hk_ => ⟨trivial, fun e_ => absurd (hs5 k_ e_.symm) (by have h9_ : k_ < w14.heap.size := hk_; omega)⟩); (case aF => exact fun _ _ => trivial); (case aO => exact (by (with_reducible repeat (first | apply Kd.R_alloc | apply Kd.R_drewN | apply Kd.R_drew)); exact hs4)); (case aB => exact (by repeat (first | exact HB.out | apply below_alloc | apply pw_below_drewN | apply below_drew1))); (case aS => exact below_size (by repeat (first | exact HB.out | apply below_alloc | apply pw_below_drewN | apply below_drew1))); (case aL => have h9_ := LMc32.out; have h8_ : sel.length = x8_1.length := (by rw [← hs1, List.length_map]); omega); intro vn wn ho hb hg hat; have n0_ := Aside0.mk (OutOk.more hs1 hs2 hs3 hs5 (below_size (by repeat (first | exact HL.out | apply below_alloc | apply pw_below_drewN | apply below_drew1))) ho hat (of_decide_eq_true (by first | (with_reducible assumption) | assumption))); have n1_ := Aside0.mk (pw_below_grown (by repeat (first | exact HL.out | apply below_alloc | apply pw_below_drewN | apply below_drew1)) _ (below_size (by repeat (first | exact HL.out | apply below_alloc | apply pw_below_drewN | apply below_drew1))) hg hs5); have n2_ := Aside0.mk hb; clear HO HL HB; have HO := n0_; have HL := n1_; have HB := n2_; clear n0_ n1_ n2_; (try clear ho); (try clear hb); (try clear hg); (try clear hat))))
                go_roundg k1
                case measure => have := HK1.out; omega
                case rel => exact ⟨(y268), (wrap64 (x22_1 + 1)), (by first | rfl | (simp; done) | (simp [*]; done)), H', ⟨by have := HK1.out; omega⟩, ⟨by rw [Ny268.out, (next_eq HPC.out.2.1 (of_decide_eq_true (by first | (with_reducible assumption) | assumption)) (of_decide_eq_true (by first | (with_reducible assumption) | assumption)))]; exact (by first | exact HO.out | (repeat (first | exact HO.out | apply OutOk.drewN | apply OutOk.drew)))⟩, ⟨(by repeat (first | exact HL.out | apply below_alloc | apply pw_below_drewN | apply below_drew1))⟩, ⟨(by repeat (first | exact HB.out | apply below_alloc | apply pw_below_drewN | apply below_drew1))⟩⟩
               ·rw [if_neg c32] at H
                exact absurd H (by simp)
              ·rw [if_neg c31] at H
               have c31b0 : (((rd_L1 t251 (rd (rd_L1 t257 x22_1) 1)).length : Int) == 2) = false := beq_eq_false_iff_ne.mpr c31
               have c31b1 : (((rd_L1 t251 (rd (rd_L1 t257 x22_1) 1)).length : Int) != 2) = true := bne_iff_ne.mpr c31
               have H' := Aside0.mk H
               clear H
               have p260 : 0 ≤ (x22_1 : Int) := of_decide_eq_true (by first | (with_reducible assumption) | assumption)
               have q260 : x22_1 < (t257.length : Int) := of_decide_eq_true (by first | (with_reducible assumption) | assumption)
               obtain ⟨ad260, A260_0, c260_0, e260, hx260_0, hl260_0, hi260_0⟩ := at_L1 (Kd.C_below HPC.out HL.out) x22_1 p260 q260
               have HXP := Aside0.mk hx260_0
               cases e260
               have HR260_0 := Aside0.mk hi260_0
               have HC260_0 := Aside0.mk hl260_0
               clear hi260_0 hl260_0
               replace p260 := eq_true p260
               replace q260 := eq_true q260
               have hcz39_0 : wr.cell? ⟨gb254, 0, none⟩ = some (.int .i64 a0_0) := (blk_cell BK254.out 0).trans rfl
               have hcz39_1 : wr.cell? ⟨gb254, 1, none⟩ = some (.int .i64 a0_1) := (blk_cell BK254.out 1).trans rfl
               have hcz39_2 : wr.cell? ⟨gb254, 2, none⟩ = some (.slice A0_2 l0_2.length c0_2) := (blk_cell BK254.out 2).trans rfl
               have hcz39_3 : wr.cell? ⟨gb254, 3, none⟩ = some (.int .i64 a1_0) := (blk_cell BK254.out 3).trans rfl
               have hcz39_4 : wr.cell? ⟨gb254, 4, none⟩ = some (.int .i64 a1_1) := (blk_cell BK254.out 4).trans rfl
               have hcz39_5 : wr.cell? ⟨gb254, 5, none⟩ = some (.slice Ao12 t248.length co12) := (blk_cell BK254.out 5).trans rfl
               have hcz39_6 : wr.cell? ⟨gb254, 6, none⟩ = some (.slice Ao13 t251.length co13) := (blk_cell BK254.out 6).trans rfl
               have hfz39_0 := blk_frozen BK254.out 0
               have hfz39_1 := blk_frozen BK254.out 1
               have hfz39_2 := blk_frozen BK254.out 2
               have hfz39_3 := blk_frozen BK254.out 3
               have hfz39_4 := blk_frozen BK254.out 4
               have hfz39_5 := blk_frozen BK254.out 5
               have hfz39_6 := blk_frozen BK254.out 6
               have p261 : 0 ≤ (0 : Int) := (by omega)
               have q261 : 0 < ((rd_L1 t257 x22_1).length : Int) := of_decide_eq_true (by first | (with_reducible assumption) | assumption)
               obtain ⟨ad261, e261, hx261_0⟩ := Kd.at_int (by repeat (first | (with_reducible exact HR260_0.out) | (with_reducible refine Kd.C_alloc ?_ _) | (with_reducible refine Kd.C_drewN ?_ _) | (with_reducible refine Kd.C_drew ?_) | exact HR260_0.out)) 0 p261 q261
               cases e261
               have qi261 : (0 < (rd_L1 t257 x22_1).length) = True := eq_true (by omega)
               (try rw [show ((0 : Int)).toNat = 0 from rfl] at hx261_0)
               (try rw [Addr.add_zero'] at hx261_0)
               replace p261 := eq_true p261
               replace q261 := eq_true q261
               have p262 : 0 ≤ ((rd (rd_L1 t257 x22_1) 0) : Int) := of_decide_eq_true (by first | (with_reducible assumption) | assumption)
               have q262 : (rd (rd_L1 t257 x22_1) 0) < (t251.length : Int) := of_decide_eq_true (by first | (with_reducible assumption) | assumption)
               obtain ⟨ad262, A262_0, c262_0, e262, hx262_0, hl262_0, hi262_0⟩ := at_L1 (Kd.C_below HNC.out HL.out) (rd (rd_L1 t257 x22_1) 0) p262 q262
               cases e262
               have HR262_0 := Aside0.mk hi262_0
               have HC262_0 := Aside0.mk hl262_0
               clear hi262_0 hl262_0
               replace p262 := eq_true p262
               replace q262 := eq_true q262
               have p266 : 0 ≤ (1 : Int) := (by omega)
               have q266 : 1 < ((rd_L1 t257 x22_1).length : Int) := of_decide_eq_true (by first | (with_reducible assumption) | assumption)
               obtain ⟨ad266, e266, hx266_0⟩ := Kd.at_int (by repeat (first | (with_reducible exact HR260_0.out) | (with_reducible refine Kd.C_alloc ?_ _) | (with_reducible refine Kd.C_drewN ?_ _) | (with_reducible refine Kd.C_drew ?_) | exact HR260_0.out)) 1 p266 q266
               obtain rfl : ad261 = ad266 := (by injection e266)
               (try simp only [show (1 : Int).toNat = 1 from rfl, Nat.reduceMul, Nat.reduceEqDiff, Go.Addr.add, ↓reduceIte] at hx266_0)
               have qi266 : (1 < (rd_L1 t257 x22_1).length) = True := eq_true (by omega)
               (try rw [show ((1 : Int)).toNat = 1 from rfl] at hx266_0)
               replace p266 := eq_true p266
               replace q266 := eq_true q266
               have p267 : 0 ≤ ((rd (rd_L1 t257 x22_1) 1) : Int) := of_decide_eq_true (by first | (with_reducible assumption) | assumption)
               have q267 : (rd (rd_L1 t257 x22_1) 1) < (t251.length : Int) := of_decide_eq_true (by first | (with_reducible assumption) | assumption)
               obtain ⟨ad267, A267_0, c267_0, e267, hx267_0, hl267_0, hi267_0⟩ := at_L1 (Kd.C_below HNC.out HL.out) (rd (rd_L1 t257 x22_1) 1) p267 q267
               obtain rfl : ad262 = ad267 := (by injection e267)
               have HR267_0 := Aside0.mk hi267_0
               have HC267_0 := Aside0.mk hl267_0
               clear hi267_0 hl267_0
               replace p267 := eq_true p267
               replace q267 := eq_true q267
               go_wp2
               repeat ((first | go_quiet (fail) | (refine wp_region_quiet_lit (by kernel_rfl) (by kernel_rfl) ?_; (repeat (any_goals (first | go_big_quiet_step (fail) | quiet_step (fail)))); all_goals (refine wpQuiet_nil ?_; intro _ hw2_; obtain ⟨nq, hw3_⟩ := hw2_; subst hw3_))); try go_wp2)
               go_roundg k1
               case measure => have := HK1.out; omega
               case rel => exact ⟨(x8_1), (wrap64 (x22_1 + 1)), (by first | rfl | (simp; done) | (simp [*]; done)), H', ⟨by have := HK1.out; omega⟩, ⟨by rw [(next_eq HPC.out.2.1 (of_decide_eq_true (by first | (with_reducible assumption) | assumption)) (of_decide_eq_true (by first | (with_reducible assumption) | assumption)))]; exact OutOk.skip (by first | exact HO.out | (repeat (first | exact HO.out | apply OutOk.drewN | apply OutOk.drew)))⟩, ⟨(by repeat (first | exact HL.out | apply below_alloc | apply pw_below_drewN | apply below_drew1))⟩, ⟨(by repeat (first | exact HB.out | apply below_alloc | apply pw_below_drewN | apply below_drew1))⟩⟩
             ·rw [if_neg c30] at H
              exact absurd H (by simp)
            ·rw [if_neg c29] at H
             exact absurd H (by simp)
           ·rw [if_neg c28] at H
            exact absurd H (by simp)
         ·rw [if_neg c21] at H
          exact absurd H (by simp)
        ·rw [if_neg c20] at H
         exact absurd H (by simp)
       ·rw [if_neg c19] at H
        exact absurd H (by simp)
      ·rw [if_neg c18] at H
       exact absurd H (by simp)
     ·rw [if_neg c17] at H
      exact absurd H (by simp)
    ·rw [if_neg c16] at H
     have c16b0 : decide (x22_1 < (t257.length : Int)) = false := decide_eq_false c16
     clear c16
     simp only [Option.some.injEq, Prod.mk.injEq] at H
     obtain ⟨rfl, rfl⟩ := H
     go_wp2
     repeat ((first | go_quiet (fail) | (refine wp_region_quiet_lit (by kernel_rfl) (by kernel_rfl) ?_; (repeat (any_goals (first | go_big_quiet_step (fail) | quiet_step (fail)))); all_goals (refine wpQuiet_nil ?_; intro _ hw2_; obtain ⟨nq, hw3_⟩ := hw2_; subst hw3_))); try go_wp2)
     go_ret2
     exact ⟨_, by first | rfl | (simp [errW_none, errW_some] <;> rfl) | (simp [*, errW_none, errW_some] <;> rfl), OutOk.rows (by first | exact HO.out | (repeat (first | exact HO.out | apply OutOk.drewN | apply OutOk.drew))), (by repeat (first | exact HB.out | apply below_alloc | apply pw_below_drewN | apply below_drew1))⟩
 ·replace c4 := Bool.eq_false_iff.mpr c4
  subst c4
  have H1 : (some (([] : List (List Int)), false)) = some (r1, r2) := by rw [if_neg (show ¬ (false = true) by decide)] at H; exact H
  clear H
  have H := H1
  clear H1
  simp only [Option.some.injEq, Prod.mk.injEq] at H
  obtain ⟨rfl, rfl⟩ := H
  go_enter Try.func11, Try.ntmps11
  go_wp2_with (first | ((with_reducible refine gate_dst (N := 2) rfl ?_); refine box_event ?hg (N := 2) ?hd (cs := #[.int .i64 a0_0, .int .i64 a0_1, .slice A0_2 l0_2.length c0_2]) (t := 31) ?hr ?_; (case hd => rfl); (case hg => rfl); (case hr => first | (go_simp; done) | (go_simp; rfl)); intro gx1 hgn w_gx1 hbox hb; have nb_ := Aside0.mk (below_step (by repeat (first | exact HB.out | apply below_alloc | apply pw_below_drewN | apply below_drew1)) hb); have nk_ := Aside0.mk hbox; clear HB hb hbox hgn; have HB := nb_; have Bgx1 := nk_; clear nb_ nk_) | ((with_reducible refine gate_dst (N := 3) rfl ?_); refine box_event ?hg (N := 3) ?hd (cs := #[.int .i64 a1_0, .int .i64 a1_1]) (t := 33) ?hr ?_; (case hd => rfl); (case hg => rfl); (case hr => first | (go_simp; done) | (go_simp; rfl)); intro gx2 hgn w_gx2 hbox hb; have ngx1_ := Aside0.mk (blk_below Bgx1.out hb); have nb_ := Aside0.mk (below_step (by repeat (first | exact HB.out | apply below_alloc | apply pw_below_drewN | apply below_drew1)) hb); have nk_ := Aside0.mk hbox; clear HB Bgx1 hb hbox hgn; have HB := nb_; have Bgx2 := nk_; have Bgx1 := ngx1_; clear nb_ nk_ ngx1_; have hz0_ : w_gx2.cell? ⟨gx1, 0, none⟩ = some (.int .i64 a0_0) := (blk_cell Bgx1.out 0).trans rfl; have hz1_ : w_gx2.cell? ⟨gx1, 1, none⟩ = some (.int .i64 a0_1) := (blk_cell Bgx1.out 1).trans rfl; have hz2_ : w_gx2.cell? ⟨gx1, 2, none⟩ = some (.slice A0_2 l0_2.length c0_2) := (blk_cell Bgx1.out 2).trans rfl; have hz3_ : w_gx2.cell? ⟨gx2, 0, none⟩ = some (.int .i64 a1_0) := (blk_cell Bgx2.out 0).trans rfl; have hz4_ : w_gx2.cell? ⟨gx2, 1, none⟩ = some (.int .i64 a1_1) := (blk_cell Bgx2.out 1).trans rfl) | (go_at_call 31; (with_reducible refine (impl_graphOf.calls k a0_0 a0_1 _ _ l0_2 a1_0 a1_1 _ _ false _ ?side1 ?side2 A3.out).mono ?_); (case side1 => exact (by repeat (first | exact (Kd.C_below HR0_2.out HB.out) | (with_reducible refine Kd.C_alloc ?_ _) | (with_reducible refine Kd.C_drewN ?_ _) | (with_reducible refine Kd.C_drew ?_)))); (case side2 => exact HC0_2.out); rintro e w11 ⟨v249, v252, pv255, rfl, hgp, ho0, ho1, hb⟩; have nb_ := Aside0.mk (below_step (by repeat (first | exact HB.out | apply below_alloc | apply pw_below_drewN | apply below_drew1)) hb); clear HB hb hgp ho0 ho1; have HB := nb_; clear nb_))
  go_ret2
  exact ⟨_, by first | rfl | (simp [errW_none, errW_some] <;> rfl) | (simp [*, errW_none, errW_some] <;> rfl), Kd.S_nil _ _ _ _ _, (by repeat (first | exact HB.out | apply below_alloc | apply pw_below_drewN | apply below_drew1))⟩
end Go.Proofs.Ytemaokhlolimhaa.Q

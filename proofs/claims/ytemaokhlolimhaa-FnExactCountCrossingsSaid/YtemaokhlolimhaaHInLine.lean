/- impl.inLine, in the form of the printed contracts: its closure (place) by a contract of its own, given what it caught; then the function, for all arguments. -/
import Derived.Test.YtemaokhlolimhaaQ0
namespace Go.Proofs.Ytemaokhlolimhaa.Q
open Go.RowKit Go.Proofs.YtemaokhlolimhaaW.PrintWords Go.Proofs.YtemaokhlolimhaaW.PrintLast Go.Proofs.YtemaokhlolimhaaW.PrintMore
attribute [local go_sem] max2_int min2_int max_two min_two
set_option linter.unusedVariables false
set_option linter.unusedSimpArgs false
/-- What the closure reckons: a point's place along a line, from its start. -/
def placeF (px py ax ay dx dy : Int) : Int := wrap64 ((wrap64 ((wrap64 (px - ax)) * dx)) + (wrap64 ((wrap64 (py - ay)) * dy)))
/-- Two lines on one straight line have more than one point in common: by the places of the ends. -/
def inLineB (pb pc pd : Int) : Bool := decide ((pc < pd ∨ pd < pc) ∧ (pc < pb ∨ pd < pb) ∧ (0 < pc ∨ 0 < pd) ∧ 0 < pb)
def impl_inLine.f (a0_0 a0_1 a1_0 a1_1 a2_0 a2_1 a3_0 a3_1 : Int) : Option Bool :=
  some (inLineB (placeF a1_0 a1_1 a0_0 a0_1 (wrap64 (a1_0 - a0_0)) (wrap64 (a1_1 - a0_1))) (placeF a2_0 a2_1 a0_0 a0_1 (wrap64 (a1_0 - a0_0)) (wrap64 (a1_1 - a0_1))) (placeF a3_0 a3_1 a0_0 a0_1 (wrap64 (a1_0 - a0_0)) (wrap64 (a1_1 - a0_1))))
set_option maxHeartbeats 8000000 in
set_option maxRecDepth 100000 in
theorem place_calls (ga gx gy : Nat) (px py ax ay dx dy : Int) (w : World) (ha : w.heap[ga]? = some (.cells #[.int .i64 ax, .int .i64 ay] 86 (0, 0))) (hx : w.heap[gx]? = some (.cells #[.int .i64 dx] 3 (0, 0))) (hy : w.heap[gy]? = some (.cells #[.int .i64 dy] 3 (0, 0))) :
  Calls Try.prog 99 #[.agg #[.int .i64 px, .int .i64 py], .pointer (some ⟨ga, 0, none⟩), .pointer (some ⟨gx, 0, none⟩), .pointer (some ⟨gy, 0, none⟩)] w fun e w' => e = .returned (.int .i64 (placeF px py ax ay dx dy)) ∧ Below w.heap.size w w' := by
 have HA := Aside0.mk ha
 have HX := Aside0.mk hx
 have HY := Aside0.mk hy
 clear ha hx hy
 go_enter Try.func99, Try.ntmps99
 go_wp2_with (first | ((with_reducible refine gate_dst (N := 4) rfl ?_); refine box_event ?hg (N := 4) ?hd (cs := #[.int .i64 px, .int .i64 py]) (t := 86) ?hr ?_; (case hd => rfl); (case hg => rfl); (case hr => first | (go_simp; done) | (go_simp; rfl)); intro gb hg w1 hbox hb; have HB := Aside0.mk hb; have hba := blk_below HA.out hb; have hbx := blk_below HX.out hb; have hby := blk_below HY.out hb; have hp0 : w1.cell? ⟨gb, 0, none⟩ = some (.int .i64 px) := (blk_cell hbox 0).trans rfl; have hp1 : w1.cell? ⟨gb, 1, none⟩ = some (.int .i64 py) := (blk_cell hbox 1).trans rfl; have ha0 : w1.cell? ⟨ga, 0, none⟩ = some (.int .i64 ax) := (blk_cell hba 0).trans rfl; have ha1 : w1.cell? ⟨ga, 1, none⟩ = some (.int .i64 ay) := (blk_cell hba 1).trans rfl; have hx0 : w1.cell? ⟨gx, 0, none⟩ = some (.int .i64 dx) := (blk_cell hbx 0).trans rfl; have hy0 : w1.cell? ⟨gy, 0, none⟩ = some (.int .i64 dy) := (blk_cell hby 0).trans rfl; clear hbox hb hba hbx hby hg HA HX HY))
 go_ret
 exact ⟨by first | rfl | (simp [placeF]; done), by first | exact HB.out | exact (by repeat (first | exact HB.out | apply pw_below_drewN | apply below_drew1))⟩
/-- A call through a slot that holds a closure: what it caught stands behind the arguments. -/
theorem goesF_ {P : Program} {ops : Array Oper} {Q : Exit → Act → World → Prop} {oi : Oper} {N : Option Tmp} {a : Act} {w : World} {K : Act → World → Prop} {f : FuncId} {fn : Func} {t : Tmp} {ags : Array Operand} {ts : Array TypeId} (cap : Array Value) (hf : P.funcs[f]? = some fn) (hname : (fn.name == "runtime.NumGoroutine") = false) (hb : fn.body.isSome = true) (args : Array Value)
    (hw : Region.wanted oi (yielded ops a.tmps) = true) (hN : oi.dst = N) (hop : oi.op = .call { callee := .value (.tmp t), args := ags, argTypes := ts }) (hfv : a.eval (.tmp t) = .func (.func f) #[] cap) (hargs : ags.map a.eval ++ cap = args)
    (h : Calls P f args w fun e w' => ∃ v, e = .returned v ∧ K (a.put N v) w') : if Region.wanted oi (yielded ops a.tmps) = true then Oper.wp P oi a w K Q else K (a.put N undef) w := by
  refine call_ f args hw hN ?_ h
  have he := enters_ hf hname hb args w
  subst hargs
  unfold execOp
  simp [hop, resolve, Deferred.ofValue, invoke, hfv, he]
/-- A new block in a region that draws. -/
theorem allocK_ {P : Program} {ops : Array Oper} {Q : Exit → Act → World → Prop} {oi : Oper} {N : Option Tmp} {a : Act} {w : World} {K : Act → World → Prop} {cs : Array Value} {t : TypeId} (hw : Region.wanted oi (yielded ops a.tmps) = true) (hN : oi.dst = N)
    (hrun : (execOp a.eval oi).run P w = .ok (.value (.pointer (some ⟨w.heap.size, 0, none⟩))) (w.alloc (.cells cs t (0, 0))))
    (h : ∀ g, g = w.heap.size → ∀ w1, w1.heap[g]? = some (.cells cs t (0, 0)) → Below w.heap.size w w1 → K (a.put N (.pointer (some ⟨g, 0, none⟩))) w1) : if Region.wanted oi (yielded ops a.tmps) = true then Oper.wp P oi a w K Q else K (a.put N undef) w := by
  rw [if_pos hw]
  subst hN
  unfold Oper.wp
  rw [hrun]
  exact h _ rfl _ (blk_new w _) (below_alloc (Below.refl _ _) _)
/-- A store in a region that draws. -/
theorem storeK_ {P : Program} {ops : Array Oper} {Q : Exit → Act → World → Prop} {oi : Oper} {N : Option Tmp} {a : Act} {w w1 : World} {K : Act → World → Prop} (hw : Region.wanted oi (yielded ops a.tmps) = true) (hN : oi.dst = N) (hrun : (execOp a.eval oi).run P w = .ok .skip w1) (h : K (a.put N undef) w1) : if Region.wanted oi (yielded ops a.tmps) = true then Oper.wp P oi a w K Q else K (a.put N undef) w := by
  rw [if_pos hw]
  subst hN
  unfold Oper.wp
  rw [hrun]
  exact h
/-- An operation that only yields, run where it stands. -/
theorem valueK_ {P : Program} {ops : Array Oper} {Q : Exit → Act → World → Prop} {oi : Oper} {N : Option Tmp} {a : Act} {w : World} {v : Value} {K : Act → World → Prop} (hw : Region.wanted oi (yielded ops a.tmps) = true) (hN : oi.dst = N) (hrun : (execOp a.eval oi).run P w = .ok (.value v) w) (h : K (a.put N v) w) : if Region.wanted oi (yielded ops a.tmps) = true then Oper.wp P oi a w K Q else K (a.put N undef) w := by
  rw [if_pos hw]
  subst hN
  unfold Oper.wp
  rw [hrun]
  exact h
/-- The closure's call in a plain region. -/
theorem goesFL_ {P : Program} {ops : Array Oper} {Q : Exit → Act → World → Prop} {rest : List Oper} {oi : Oper} {a : Act} {w : World} {f : FuncId} {fn : Func} {t : Tmp} {ags : Array Operand} {ts : Array TypeId} (N : Option Tmp) (hd : oi.dst = N) (hg : oi.guard = none) (cap : Array Value) (hf : P.funcs[f]? = some fn) (hname : (fn.name == "runtime.NumGoroutine") = false) (hb : fn.body.isSome = true) (args : Array Value)
    (hop : oi.op = .call { callee := .value (.tmp t), args := ags, argTypes := ts }) (hfv : a.eval (.tmp t) = .func (.func f) #[] cap) (hargs : ags.map a.eval ++ cap = args)
    (h : Calls P f args w fun e w' => ∃ v, e = .returned v ∧ wpList P ops Q rest (a.put N v) w') : wpList P ops Q (oi :: rest) a w := by
  refine wpList_plain hg fun K hK => ?_
  have he := enters_ hf hname hb args w
  subst hargs
  have hrun : (execOp a.eval oi).run P w = .ok (.enter f (ags.map a.eval ++ cap)) w := by
    unfold execOp
    simp [hop, resolve, Deferred.ofValue, invoke, hfv, he]
  unfold Oper.wp
  rw [hrun, Oper.upon_enter]
  refine h.mono fun e w'' hh => ?_
  obtain ⟨v, rfl, hk⟩ := hh
  subst hd
  exact hK _ _ hk
theorem blk_aparts_ {w : World} {g g' : Nat} {c c' : Array Value} {t t' : TypeId} (h : w.heap[g]? = some (.cells c t (0, 0))) (h' : w.heap[g']? = some (.cells c' t' (0, 0))) (ht : t ≠ t') : g ≠ g' := by
  rintro rfl
  rw [h] at h'
  injection h' with h'
  injection h' with _ h'
  exact ht h'
theorem blk_puts_ {w : World} {g g' : Nat} {o : Obj} {u : Value} (h : w.heap[g]? = some o) (hn : g ≠ g') : (w.setCell ⟨g', 0, none⟩ u).heap[g]? = some o := (Below.heap_setCell w ⟨g', 0, none⟩ u g hn).trans h
theorem blk_owns_ {w : World} {g : Nat} {v u : Value} {t : TypeId} (h : w.heap[g]? = some (.cells #[v] t (0, 0))) : (w.setCell ⟨g, 0, none⟩ u).heap[g]? = some (.cells #[u] t (0, 0)) := by
  simp [World.setCell, Array.getElem?_modify, h]
set_option maxHeartbeats 8000000 in
set_option maxRecDepth 100000 in
theorem impl_inLine.calls (a0_0 a0_1 a1_0 a1_1 a2_0 a2_1 a3_0 a3_1 : Int) (r : Bool) (w : World) (h : impl_inLine.f a0_0 a0_1 a1_0 a1_1 a2_0 a2_1 a3_0 a3_1 = some r) :
  Calls Try.prog 90 #[.agg #[.int .i64 a0_0, .int .i64 a0_1], .agg #[.int .i64 a1_0, .int .i64 a1_1], .agg #[.int .i64 a2_0, .int .i64 a2_1], .agg #[.int .i64 a3_0, .int .i64 a3_1]] w fun e w' => e = .returned (.bool r) ∧ Below w.heap.size w w' := by
 have hu := Try.underlying86
 have HR := Aside0.mk (Option.some.inj h)
 clear h
 have HB := Aside0.mk (Below.refl w.heap.size w)
 go_enter Try.func90, Try.ntmps90
 go_upto_region 1 with (first | ((with_reducible refine gate_dst (N := 4) rfl ?_); refine box_event ?hg (N := 4) ?hd (cs := #[.int .i64 a0_0, .int .i64 a0_1]) (t := 86) ?hr ?_; (case hd => rfl); (case hg => rfl); (case hr => first | (go_simp; done) | (go_simp; rfl)); intro gb0 hg0 w0 hbox hb; have nb_ := Aside0.mk (below_step HB.out hb); have nk_ := Aside0.mk hbox; clear HB hb hbox hg0; have HB := nb_; have BK0 := nk_; clear nb_ nk_) | ((with_reducible refine gate_dst (N := 5) rfl ?_); refine box_event ?hg (N := 5) ?hd (cs := #[.int .i64 a1_0, .int .i64 a1_1]) (t := 86) ?hr ?_; (case hd => rfl); (case hg => rfl); (case hr => first | (go_simp; done) | (go_simp; rfl)); intro gb1 hg1 w1 hbox hb; have n0_ := Aside0.mk (blk_below BK0.out hb); have nb_ := Aside0.mk (below_step HB.out hb); have nk_ := Aside0.mk hbox; clear HB BK0 hb hbox hg1; have HB := nb_; have BK1 := nk_; have BK0 := n0_; clear nb_ nk_ n0_) | ((with_reducible refine gate_dst (N := 6) rfl ?_); refine box_event ?hg (N := 6) ?hd (cs := #[.int .i64 a2_0, .int .i64 a2_1]) (t := 86) ?hr ?_; (case hd => rfl); (case hg => rfl); (case hr => first | (go_simp; done) | (go_simp; rfl)); intro gb2 hg2 w2 hbox hb; have n0_ := Aside0.mk (blk_below BK0.out hb); have n1_ := Aside0.mk (blk_below BK1.out hb); have nb_ := Aside0.mk (below_step HB.out hb); have nk_ := Aside0.mk hbox; clear HB BK0 BK1 hb hbox hg2; have HB := nb_; have BK2 := nk_; have BK0 := n0_; have BK1 := n1_; clear nb_ nk_ n0_ n1_) | ((with_reducible refine gate_dst (N := 7) rfl ?_); refine box_event ?hg (N := 7) ?hd (cs := #[.int .i64 a3_0, .int .i64 a3_1]) (t := 86) ?hr ?_; (case hd => rfl); (case hg => rfl); (case hr => first | (go_simp; done) | (go_simp; rfl)); intro gb3 hg3 w3 hbox hb; have n0_ := Aside0.mk (blk_below BK0.out hb); have n1_ := Aside0.mk (blk_below BK1.out hb); have n2_ := Aside0.mk (blk_below BK2.out hb); have nb_ := Aside0.mk (below_step HB.out hb); have nk_ := Aside0.mk hbox; clear HB BK0 BK1 BK2 hb hbox hg3; have HB := nb_; have BK3 := nk_; have BK0 := n0_; have BK1 := n1_; have BK2 := n2_; clear nb_ nk_ n0_ n1_ n2_))
 have n0_ := Aside0.mk (blk_drew BK0.out)
 have n1_ := Aside0.mk (blk_drew BK1.out)
 have n2_ := Aside0.mk (blk_drew BK2.out)
 have n3_ := Aside0.mk (blk_drew BK3.out)
 have nb_ := Aside0.mk (below_drew1 HB.out)
 clear BK0 BK1 BK2 BK3 HB
 have BK0 := n0_
 have BK1 := n1_
 have BK2 := n2_
 have BK3 := n3_
 have HB := nb_
 clear n0_ n1_ n2_ n3_ nb_
 refine start_ (n := 14) (S := fun w' => w'.cell? ⟨gb0, 0, none⟩ = some (.int .i64 a0_0) ∧ w'.cell? ⟨gb0, 1, none⟩ = some (.int .i64 a0_1) ∧ w'.cell? ⟨gb1, 0, none⟩ = some (.int .i64 a1_0) ∧ w'.cell? ⟨gb1, 1, none⟩ = some (.int .i64 a1_1)) (ds := []) #[false, false, false, false, false, false, false, false, false, false, false, false, false, false] (by kernel_rfl) rfl rfl ⟨(blk_cell BK0.out 0).trans rfl, (blk_cell BK0.out 1).trans rfl, (blk_cell BK1.out 0).trans rfl, (blk_cell BK1.out 1).trans rfl⟩ (fun hHeld => ?_)
 generalize w3.drew = w4 at HB BK0 BK1 BK2 BK3 hHeld ⊢
 refine pure_ (i := 0) (N := some 14) (v := ?_) (a' := ?_) #[true, false, false, false, false, false, false, false, false, false, false, false, false, false] rfl rfl (by kernel_rfl) (fun _ _ _ h => h) (Or.inl ⟨by rfl, ?_⟩) ?_ ?_
 rotate_left
 ·intro w'
  go_simp
  with_reducible rfl
 rotate_left
 ·simp only [Act.put, List.setIfInBounds_toArray, List.set_cons_zero, List.set_cons_succ, i64_w, i32_w]
  rfl
 refine take_ (i := 1) (N := some 15) (v := ?_) (a' := ?_) #[true, true, false, false, false, false, false, false, false, false, false, false, false, false] rfl rfl (by kernel_rfl) (fun _ _ _ h => h) (Or.inl ⟨by rfl, ?_⟩) hHeld ?_ ?_
 rotate_left
 ·rintro w' ⟨s0, s1, s2, s3⟩
  go_simp
  with_reducible rfl
 rotate_left
 ·simp only [Act.put, List.setIfInBounds_toArray, List.set_cons_zero, List.set_cons_succ, i64_w, i32_w]
  rfl
 refine pure_ (i := 2) (N := some 16) (v := ?_) (a' := ?_) #[true, true, true, false, false, false, false, false, false, false, false, false, false, false] rfl rfl (by kernel_rfl) (fun _ _ _ h => h) (Or.inl ⟨by rfl, ?_⟩) ?_ ?_
 rotate_left
 ·intro w'
  go_simp
  with_reducible rfl
 rotate_left
 ·simp only [Act.put, List.setIfInBounds_toArray, List.set_cons_zero, List.set_cons_succ, i64_w, i32_w]
  rfl
 refine take_ (i := 3) (N := some 17) (v := ?_) (a' := ?_) #[true, true, true, true, false, false, false, false, false, false, false, false, false, false] rfl rfl (by kernel_rfl) (fun _ _ _ h => h) (Or.inl ⟨by rfl, ?_⟩) hHeld ?_ ?_
 rotate_left
 ·rintro w' ⟨s0, s1, s2, s3⟩
  go_simp
  with_reducible rfl
 rotate_left
 ·simp only [Act.put, List.setIfInBounds_toArray, List.set_cons_zero, List.set_cons_succ, i64_w, i32_w]
  rfl
 refine pure_ (i := 4) (N := some 18) (v := ?_) (a' := ?_) #[true, true, true, true, true, false, false, false, false, false, false, false, false, false] rfl rfl (by kernel_rfl) (fun _ _ _ h => h) (Or.inl ⟨by rfl, ?_⟩) ?_ ?_
 rotate_left
 ·intro w'
  go_simp
  with_reducible rfl
 rotate_left
 ·simp only [Act.put, List.setIfInBounds_toArray, List.set_cons_zero, List.set_cons_succ, i64_w, i32_w]
  rfl
 refine pure_ (i := 5) (N := some 19) (v := ?_) (a' := ?_) #[true, true, true, true, true, true, false, false, false, false, false, false, false, false] rfl rfl (by kernel_rfl) (fun _ _ _ h => h) (Or.inl ⟨by rfl, ?_⟩) ?_ ?_
 rotate_left
 ·intro w'
  go_simp
  with_reducible rfl
 rotate_left
 ·simp only [Act.put, List.setIfInBounds_toArray, List.set_cons_zero, List.set_cons_succ, i64_w, i32_w]
  rfl
 refine take_ (i := 6) (N := some 20) (v := ?_) (a' := ?_) #[true, true, true, true, true, true, true, false, false, false, false, false, false, false] rfl rfl (by kernel_rfl) (fun _ _ _ h => h) (Or.inl ⟨by rfl, ?_⟩) hHeld ?_ ?_
 rotate_left
 ·rintro w' ⟨s0, s1, s2, s3⟩
  go_simp
  with_reducible rfl
 rotate_left
 ·simp only [Act.put, List.setIfInBounds_toArray, List.set_cons_zero, List.set_cons_succ, i64_w, i32_w]
  rfl
 refine pure_ (i := 7) (N := some 21) (v := ?_) (a' := ?_) #[true, true, true, true, true, true, true, true, false, false, false, false, false, false] rfl rfl (by kernel_rfl) (fun _ _ _ h => h) (Or.inl ⟨by rfl, ?_⟩) ?_ ?_
 rotate_left
 ·intro w'
  go_simp
  with_reducible rfl
 rotate_left
 ·simp only [Act.put, List.setIfInBounds_toArray, List.set_cons_zero, List.set_cons_succ, i64_w, i32_w]
  rfl
 refine take_ (i := 8) (N := some 22) (v := ?_) (a' := ?_) #[true, true, true, true, true, true, true, true, true, false, false, false, false, false] rfl rfl (by kernel_rfl) (fun _ _ _ h => h) (Or.inl ⟨by rfl, ?_⟩) hHeld ?_ ?_
 rotate_left
 ·rintro w' ⟨s0, s1, s2, s3⟩
  go_simp
  with_reducible rfl
 rotate_left
 ·simp only [Act.put, List.setIfInBounds_toArray, List.set_cons_zero, List.set_cons_succ, i64_w, i32_w]
  rfl
 refine pure_ (i := 9) (N := some 23) (v := ?_) (a' := ?_) #[true, true, true, true, true, true, true, true, true, true, false, false, false, false] rfl rfl (by kernel_rfl) (fun _ _ _ h => h) (Or.inl ⟨by rfl, ?_⟩) ?_ ?_
 rotate_left
 ·intro w'
  go_simp
  with_reducible rfl
 rotate_left
 ·simp only [Act.put, List.setIfInBounds_toArray, List.set_cons_zero, List.set_cons_succ, i64_w, i32_w]
  rfl
 refine join_ (σ := Nat × Nat) 2 #[true, true, true, true, true, true, true, true, true, true, true, true, false, false] (fun s => [(9, .pointer (some ⟨s.1, 0, none⟩)), (10, .pointer (some ⟨s.2, 0, none⟩))]) (fun s W => (W.heap[s.1]? = some (.cells #[.int .i64 0] 3 (0, 0)) ∧ W.heap[s.2]? = some (.cells #[.int .i64 0] 3 (0, 0)) ∧ s.1 ≠ s.2 ∧ w.heap.size ≤ s.1 ∧ w.heap.size ≤ s.2) ∧ (W.heap[gb0]? = some (.cells #[.int .i64 a0_0, .int .i64 a0_1] 86 (0, 0)) ∧ W.heap[gb1]? = some (.cells #[.int .i64 a1_0, .int .i64 a1_1] 86 (0, 0)) ∧ W.heap[gb2]? = some (.cells #[.int .i64 a2_0, .int .i64 a2_1] 86 (0, 0)) ∧ W.heap[gb3]? = some (.cells #[.int .i64 a3_0, .int .i64 a3_1] 86 (0, 0))) ∧ Below w.heap.size w W) ?_ (fun hcont => ?_)
 rotate_left
 ·refine two_ (i := 10) (j := 11) (Ni := some 9) (Nj := some 10) #[true, true, true, true, true, true, true, true, true, true, true, false, false, false] #[true, true, true, true, true, true, true, true, true, true, false, true, false, false] rfl rfl rfl rfl (by kernel_rfl) (by decide) (by decide) (fun K hK => ?_) (fun K hK => ?_)
  ·refine allocK_ (cs := #[.int .i64 0]) (t := 3) (by rfl) rfl (by first | (go_simp; done) | (go_simp; rfl)) ?_
   intro g1 hg1 w5 hbox hb
   have hlt := blk_lt hbox
   have hz := HB.out.size
   have n0_ := Aside0.mk (blk_below BK0.out hb)
   have n1_ := Aside0.mk (blk_below BK1.out hb)
   have n2_ := Aside0.mk (blk_below BK2.out hb)
   have n3_ := Aside0.mk (blk_below BK3.out hb)
   have nb_ := Aside0.mk (below_step HB.out hb)
   refine hK.out _ _ ⟨(blk_cell n0_.out 0).trans rfl, (blk_cell n0_.out 1).trans rfl, (blk_cell n1_.out 0).trans rfl, (blk_cell n1_.out 1).trans rfl⟩ (fun hHeld => ?_)
   clear hK K
   refine norm_ (a' := ?_) ?_ ?_
   rotate_left
   ·show Act.put _ (some 9) _ = _
    simp only [Act.put, List.setIfInBounds_toArray, List.set_cons_zero, List.set_cons_succ, i64_w, i32_w]
    rfl
   refine one_ (i := 11) (N := some 10) #[true, true, true, true, true, true, true, true, true, true, true, true, false, false] rfl rfl (by kernel_rfl) (by decide) (fun K hK => ?_)
   refine allocK_ (cs := #[.int .i64 0]) (t := 3) (by rfl) rfl (by first | (go_simp; done) | (go_simp; rfl)) ?_
   intro g2 hg2 w6 hbox2 hb2
   have hz2 := nb_.out.size
   refine hK.out _ _ ⟨(blk_cell (blk_below n0_.out hb2) 0).trans rfl, (blk_cell (blk_below n0_.out hb2) 1).trans rfl, (blk_cell (blk_below n1_.out hb2) 0).trans rfl, (blk_cell (blk_below n1_.out hb2) 1).trans rfl⟩ (fun hHeld => ?_)
   clear hK K
   have hne : g1 ≠ g2 := (by rw [hg2]; omega)
   have hne2 : g2 ≠ g1 := fun e => hne e.symm
   have hfin := hcont (g1, g2) w6 ⟨⟨blk_below hbox hb2, hbox2, hne, (by rw [hg1]; exact hz), (by rw [hg2]; exact hz2)⟩, ⟨blk_below n0_.out hb2, blk_below n1_.out hb2, blk_below n2_.out hb2, blk_below n3_.out hb2⟩, below_step nb_.out hb2⟩
   simp only [putAll, Act.put, List.setIfInBounds_toArray, List.set_cons_zero, List.set_cons_succ, i64_w, i32_w] at hfin ⊢
   exact hfin
  ·refine allocK_ (cs := #[.int .i64 0]) (t := 3) (by rfl) rfl (by first | (go_simp; done) | (go_simp; rfl)) ?_
   intro g1 hg1 w5 hbox hb
   have hlt := blk_lt hbox
   have hz := HB.out.size
   have n0_ := Aside0.mk (blk_below BK0.out hb)
   have n1_ := Aside0.mk (blk_below BK1.out hb)
   have n2_ := Aside0.mk (blk_below BK2.out hb)
   have n3_ := Aside0.mk (blk_below BK3.out hb)
   have nb_ := Aside0.mk (below_step HB.out hb)
   refine hK.out _ _ ⟨(blk_cell n0_.out 0).trans rfl, (blk_cell n0_.out 1).trans rfl, (blk_cell n1_.out 0).trans rfl, (blk_cell n1_.out 1).trans rfl⟩ (fun hHeld => ?_)
   clear hK K
   refine norm_ (a' := ?_) ?_ ?_
   rotate_left
   ·show Act.put _ (some 10) _ = _
    simp only [Act.put, List.setIfInBounds_toArray, List.set_cons_zero, List.set_cons_succ, i64_w, i32_w]
    rfl
   refine one_ (i := 10) (N := some 9) #[true, true, true, true, true, true, true, true, true, true, true, true, false, false] rfl rfl (by kernel_rfl) (by decide) (fun K hK => ?_)
   refine allocK_ (cs := #[.int .i64 0]) (t := 3) (by rfl) rfl (by first | (go_simp; done) | (go_simp; rfl)) ?_
   intro g2 hg2 w6 hbox2 hb2
   have hz2 := nb_.out.size
   refine hK.out _ _ ⟨(blk_cell (blk_below n0_.out hb2) 0).trans rfl, (blk_cell (blk_below n0_.out hb2) 1).trans rfl, (blk_cell (blk_below n1_.out hb2) 0).trans rfl, (blk_cell (blk_below n1_.out hb2) 1).trans rfl⟩ (fun hHeld => ?_)
   clear hK K
   have hne : g1 ≠ g2 := (by rw [hg2]; omega)
   have hne2 : g2 ≠ g1 := fun e => hne e.symm
   have hfin := hcont (g2, g1) w6 ⟨⟨hbox2, blk_below hbox hb2, hne2, (by rw [hg2]; exact hz2), (by rw [hg1]; exact hz)⟩, ⟨blk_below n0_.out hb2, blk_below n1_.out hb2, blk_below n2_.out hb2, blk_below n3_.out hb2⟩, below_step nb_.out hb2⟩
   simp only [putAll, Act.put, List.setIfInBounds_toArray, List.set_cons_zero, List.set_cons_succ, i64_w, i32_w] at hfin ⊢
   exact hfin
 clear hHeld HB BK0 BK1 BK2 BK3
 rintro ⟨gx, gy⟩ w5 ⟨⟨hx, hy, hne, hgx, hgy⟩, ⟨b0, b1, b2, b3⟩, HB⟩
 refine norm_ (a' := ?_) ?_ ?_
 rotate_left
 ·simp only [putAll, Act.put, List.setIfInBounds_toArray, List.set_cons_zero, List.set_cons_succ, i64_w, i32_w]
  rfl
 have hx : w5.heap[gx]? = some (.cells #[.int .i64 0] 3 (0, 0)) := hx
 have hy : w5.heap[gy]? = some (.cells #[.int .i64 0] 3 (0, 0)) := hy
 have hne : gx ≠ gy := hne
 have hgx : w.heap.size ≤ gx := hgx
 have hgy : w.heap.size ≤ gy := hgy
 have cx : w5.cell? ⟨gx, 0, none⟩ = some (.int .i64 0) := (blk_cell hx 0).trans rfl
 have fx := blk_frozen hx 0
 refine one_ (i := 12) (N := none) #[true, true, true, true, true, true, true, true, true, true, true, true, true, false] rfl rfl (by kernel_rfl) (by decide) (fun K hK => ?_)
 refine storeK_ (w1 := w5.setCell ⟨gx, 0, none⟩ (.int .i64 (wrap64 (a1_0 - a0_0)))) (by rfl) rfl (by first | (go_simp; done) | (go_simp; rfl)) ?_
 have d0 := blk_puts_ (u := .int .i64 (wrap64 (a1_0 - a0_0))) b0 (blk_aparts_ b0 hx (by decide))
 have d1 := blk_puts_ (u := .int .i64 (wrap64 (a1_0 - a0_0))) b1 (blk_aparts_ b1 hx (by decide))
 have d2 := blk_puts_ (u := .int .i64 (wrap64 (a1_0 - a0_0))) b2 (blk_aparts_ b2 hx (by decide))
 have d3 := blk_puts_ (u := .int .i64 (wrap64 (a1_0 - a0_0))) b3 (blk_aparts_ b3 hx (by decide))
 have dx := blk_owns_ (u := .int .i64 (wrap64 (a1_0 - a0_0))) hx
 have dy := blk_puts_ (u := .int .i64 (wrap64 (a1_0 - a0_0))) hy (Ne.symm hne)
 have DB := below_set (v := .int .i64 (wrap64 (a1_0 - a0_0))) (g := gx) (j := 0) HB hgx
 generalize w5.setCell ⟨gx, 0, none⟩ (.int .i64 (wrap64 (a1_0 - a0_0))) = w6 at d0 d1 d2 d3 dx dy DB ⊢
 refine hK.out _ _ ⟨(blk_cell d0 0).trans rfl, (blk_cell d0 1).trans rfl, (blk_cell d1 0).trans rfl, (blk_cell d1 1).trans rfl⟩ (fun hHeld => ?_)
 clear hK K cx fx
 have cy : w6.cell? ⟨gy, 0, none⟩ = some (.int .i64 0) := (blk_cell dy 0).trans rfl
 have fy := blk_frozen dy 0
 refine one_ (i := 13) (N := none) #[true, true, true, true, true, true, true, true, true, true, true, true, true, true] rfl rfl (by kernel_rfl) (by decide) (fun K hK => ?_)
 refine storeK_ (w1 := w6.setCell ⟨gy, 0, none⟩ (.int .i64 (wrap64 (a1_1 - a0_1)))) (by rfl) rfl (by first | (go_simp; done) | (go_simp; rfl)) ?_
 have e0 := blk_puts_ (u := .int .i64 (wrap64 (a1_1 - a0_1))) d0 (blk_aparts_ d0 dy (by decide))
 have e1 := blk_puts_ (u := .int .i64 (wrap64 (a1_1 - a0_1))) d1 (blk_aparts_ d1 dy (by decide))
 have e2 := blk_puts_ (u := .int .i64 (wrap64 (a1_1 - a0_1))) d2 (blk_aparts_ d2 dy (by decide))
 have e3 := blk_puts_ (u := .int .i64 (wrap64 (a1_1 - a0_1))) d3 (blk_aparts_ d3 dy (by decide))
 have ex := blk_puts_ (u := .int .i64 (wrap64 (a1_1 - a0_1))) dx hne
 have ey := blk_owns_ (u := .int .i64 (wrap64 (a1_1 - a0_1))) dy
 have EB := below_set (v := .int .i64 (wrap64 (a1_1 - a0_1))) (g := gy) (j := 0) DB hgy
 generalize w6.setCell ⟨gy, 0, none⟩ (.int .i64 (wrap64 (a1_1 - a0_1))) = w7 at e0 e1 e2 e3 ex ey EB ⊢
 refine hK.out _ _ ⟨(blk_cell e0 0).trans rfl, (blk_cell e0 1).trans rfl, (blk_cell e1 0).trans rfl, (blk_cell e1 1).trans rfl⟩ (fun hHeld => ?_)
 clear hK K cy fy
 refine done_ (by kernel_rfl) ?_
 clear hHeld b0 b1 b2 b3 d0 d1 d2 d3 hx hy dx dy HB DB
 have BK0 := Aside0.mk e0
 have BK1 := Aside0.mk e1
 have BK2 := Aside0.mk e2
 have BK3 := Aside0.mk e3
 have BKX := Aside0.mk ex
 have BKY := Aside0.mk ey
 have HB := Aside0.mk EB
 clear e0 e1 e2 e3 ex ey EB
 have hmf : ∀ (fn : Fn) (first cap : Array Value) (w : World), (Instr.makeFunc fn first cap).run Try.prog w = .ok (.func fn first cap) w := fun _ _ _ _ => rfl
 go_upto_region 3 with (fail)
 have n0_ := Aside0.mk (blk_drew BK0.out)
 have n1_ := Aside0.mk (blk_drew BK1.out)
 have n2_ := Aside0.mk (blk_drew BK2.out)
 have n3_ := Aside0.mk (blk_drew BK3.out)
 have nx_ := Aside0.mk (blk_drew BKX.out)
 have ny_ := Aside0.mk (blk_drew BKY.out)
 have nb_ := Aside0.mk (below_drew1 HB.out)
 clear BK0 BK1 BK2 BK3 BKX BKY HB
 have BK0 := n0_
 have BK1 := n1_
 have BK2 := n2_
 have BK3 := n3_
 have BKX := nx_
 have BKY := ny_
 have HB := nb_
 clear n0_ n1_ n2_ n3_ nx_ ny_ nb_
 refine start_ (n := 16) (S := fun w' => w'.cell? ⟨gb2, 0, none⟩ = some (.int .i64 a2_0) ∧ w'.cell? ⟨gb2, 1, none⟩ = some (.int .i64 a2_1) ∧ w'.cell? ⟨gb3, 0, none⟩ = some (.int .i64 a3_0) ∧ w'.cell? ⟨gb3, 1, none⟩ = some (.int .i64 a3_1)) (ds := []) #[false, false, false, false, false, false, false, false, false, false, false, false, false, false, false, false] (by kernel_rfl) rfl rfl ⟨(blk_cell BK2.out 0).trans rfl, (blk_cell BK2.out 1).trans rfl, (blk_cell BK3.out 0).trans rfl, (blk_cell BK3.out 1).trans rfl⟩ (fun hHeld => ?_)
 generalize w7.drew = w8 at HB BK0 BK1 BK2 BK3 BKX BKY hHeld ⊢
 refine pure_ (i := 0) (N := some 25) (v := ?_) (a' := ?_) #[true, false, false, false, false, false, false, false, false, false, false, false, false, false, false, false] rfl rfl (by kernel_rfl) (fun _ _ _ h => h) (Or.inl ⟨by rfl, ?_⟩) ?_ ?_
 rotate_left
 ·intro w'
  go_simp
  with_reducible rfl
 rotate_left
 ·simp only [Act.put, List.setIfInBounds_toArray, List.set_cons_zero, List.set_cons_succ, i64_w, i32_w]
  rfl
 refine take_ (i := 1) (N := some 26) (v := ?_) (a' := ?_) #[true, true, false, false, false, false, false, false, false, false, false, false, false, false, false, false] rfl rfl (by kernel_rfl) (fun _ _ _ h => h) (Or.inl ⟨by rfl, ?_⟩) hHeld ?_ ?_
 rotate_left
 ·rintro w' ⟨s0, s1, s2, s3⟩
  go_simp
  with_reducible rfl
 rotate_left
 ·simp only [Act.put, List.setIfInBounds_toArray, List.set_cons_zero, List.set_cons_succ, i64_w, i32_w]
  rfl
 refine pure_ (i := 3) (N := some 28) (v := ?_) (a' := ?_) #[true, true, false, true, false, false, false, false, false, false, false, false, false, false, false, false] rfl rfl (by kernel_rfl) (fun _ _ _ h => h) (Or.inl ⟨by rfl, ?_⟩) ?_ ?_
 rotate_left
 ·intro w'
  go_simp
  with_reducible rfl
 rotate_left
 ·simp only [Act.put, List.setIfInBounds_toArray, List.set_cons_zero, List.set_cons_succ, i64_w, i32_w]
  rfl
 refine take_ (i := 4) (N := some 29) (v := ?_) (a' := ?_) #[true, true, false, true, true, false, false, false, false, false, false, false, false, false, false, false] rfl rfl (by kernel_rfl) (fun _ _ _ h => h) (Or.inl ⟨by rfl, ?_⟩) hHeld ?_ ?_
 rotate_left
 ·rintro w' ⟨s0, s1, s2, s3⟩
  go_simp
  with_reducible rfl
 rotate_left
 ·simp only [Act.put, List.setIfInBounds_toArray, List.set_cons_zero, List.set_cons_succ, i64_w, i32_w]
  rfl
 refine pure_ (i := 7) (N := some 32) (v := ?_) (a' := ?_) #[true, true, false, true, true, false, false, true, false, false, false, false, false, false, false, false] rfl rfl (by kernel_rfl) (fun _ _ _ h => h) (Or.inl ⟨by rfl, ?_⟩) ?_ ?_
 rotate_left
 ·intro w'
  go_simp
  with_reducible rfl
 rotate_left
 ·simp only [Act.put, List.setIfInBounds_toArray, List.set_cons_zero, List.set_cons_succ, i64_w, i32_w]
  rfl
 refine take_ (i := 8) (N := some 33) (v := ?_) (a' := ?_) #[true, true, false, true, true, false, false, true, true, false, false, false, false, false, false, false] rfl rfl (by kernel_rfl) (fun _ _ _ h => h) (Or.inl ⟨by rfl, ?_⟩) hHeld ?_ ?_
 rotate_left
 ·rintro w' ⟨s0, s1, s2, s3⟩
  go_simp
  with_reducible rfl
 rotate_left
 ·simp only [Act.put, List.setIfInBounds_toArray, List.set_cons_zero, List.set_cons_succ, i64_w, i32_w]
  rfl
 refine pure_ (i := 10) (N := some 35) (v := ?_) (a' := ?_) #[true, true, false, true, true, false, false, true, true, false, true, false, false, false, false, false] rfl rfl (by kernel_rfl) (fun _ _ _ h => h) (Or.inl ⟨by rfl, ?_⟩) ?_ ?_
 rotate_left
 ·intro w'
  go_simp
  with_reducible rfl
 rotate_left
 ·simp only [Act.put, List.setIfInBounds_toArray, List.set_cons_zero, List.set_cons_succ, i64_w, i32_w]
  rfl
 refine take_ (i := 11) (N := some 36) (v := ?_) (a' := ?_) #[true, true, false, true, true, false, false, true, true, false, true, true, false, false, false, false] rfl rfl (by kernel_rfl) (fun _ _ _ h => h) (Or.inl ⟨by rfl, ?_⟩) hHeld ?_ ?_
 rotate_left
 ·rintro w' ⟨s0, s1, s2, s3⟩
  go_simp
  with_reducible rfl
 rotate_left
 ·simp only [Act.put, List.setIfInBounds_toArray, List.set_cons_zero, List.set_cons_succ, i64_w, i32_w]
  rfl
 refine one_ (i := 2) (N := some 27) #[true, true, true, true, true, false, false, true, true, false, true, true, false, false, false, false] rfl rfl (by kernel_rfl) (by decide) (fun K hK => ?_)
 refine goesF_ (t := 25) #[.pointer (some ⟨gb0, 0, none⟩), .pointer (some ⟨gx, 0, none⟩), .pointer (some ⟨gy, 0, none⟩)] Try.func99 (by kernel_rfl) rfl #[.agg #[.int .i64 a2_0, .int .i64 a2_1], .pointer (some ⟨gb0, 0, none⟩), .pointer (some ⟨gx, 0, none⟩), .pointer (some ⟨gy, 0, none⟩)] (by rfl) rfl rfl (by first | rfl | (go_simp; done) | (go_simp; rfl)) (by first | rfl | (go_simp; done) | (go_simp; rfl)) ?_
 refine (place_calls gb0 gx gy a2_0 a2_1 a0_0 a0_1 (wrap64 (a1_0 - a0_0)) (wrap64 (a1_1 - a0_1)) _ BK0.out BKX.out BKY.out).mono ?_
 rintro e w9 ⟨rfl, hb⟩
 refine ⟨_, rfl, ?_⟩
 have n0_ := Aside0.mk (blk_below BK0.out hb)
 have n1_ := Aside0.mk (blk_below BK1.out hb)
 have n2_ := Aside0.mk (blk_below BK2.out hb)
 have n3_ := Aside0.mk (blk_below BK3.out hb)
 have nX_ := Aside0.mk (blk_below BKX.out hb)
 have nY_ := Aside0.mk (blk_below BKY.out hb)
 have nb_ := Aside0.mk (below_step HB.out hb)
 clear BK0 BK1 BK2 BK3 BKX BKY HB hb
 have BK0 := n0_
 have BK1 := n1_
 have BK2 := n2_
 have BK3 := n3_
 have BKX := nX_
 have BKY := nY_
 have HB := nb_
 clear n0_ n1_ n2_ n3_ nX_ nY_ nb_
 refine hK.out _ _ ⟨(blk_cell BK2.out 0).trans rfl, (blk_cell BK2.out 1).trans rfl, (blk_cell BK3.out 0).trans rfl, (blk_cell BK3.out 1).trans rfl⟩ (fun hHeld => ?_)
 clear hK K
 refine norm_ (a' := ?_) ?_ ?_
 rotate_left
 ·show Act.put _ (some 27) _ = _
  simp only [Act.put, List.setIfInBounds_toArray, List.set_cons_zero, List.set_cons_succ, i64_w, i32_w]
  rfl
 refine one_ (i := 5) (N := some 30) #[true, true, true, true, true, true, false, true, true, false, true, true, false, false, false, false] rfl rfl (by kernel_rfl) (by decide) (fun K hK => ?_)
 refine goesF_ (t := 28) #[.pointer (some ⟨gb0, 0, none⟩), .pointer (some ⟨gx, 0, none⟩), .pointer (some ⟨gy, 0, none⟩)] Try.func99 (by kernel_rfl) rfl #[.agg #[.int .i64 a3_0, .int .i64 a3_1], .pointer (some ⟨gb0, 0, none⟩), .pointer (some ⟨gx, 0, none⟩), .pointer (some ⟨gy, 0, none⟩)] (by rfl) rfl rfl (by first | rfl | (go_simp; done) | (go_simp; rfl)) (by first | rfl | (go_simp; done) | (go_simp; rfl)) ?_
 refine (place_calls gb0 gx gy a3_0 a3_1 a0_0 a0_1 (wrap64 (a1_0 - a0_0)) (wrap64 (a1_1 - a0_1)) _ BK0.out BKX.out BKY.out).mono ?_
 rintro e w10 ⟨rfl, hb⟩
 refine ⟨_, rfl, ?_⟩
 have n0_ := Aside0.mk (blk_below BK0.out hb)
 have n1_ := Aside0.mk (blk_below BK1.out hb)
 have n2_ := Aside0.mk (blk_below BK2.out hb)
 have n3_ := Aside0.mk (blk_below BK3.out hb)
 have nX_ := Aside0.mk (blk_below BKX.out hb)
 have nY_ := Aside0.mk (blk_below BKY.out hb)
 have nb_ := Aside0.mk (below_step HB.out hb)
 clear BK0 BK1 BK2 BK3 BKX BKY HB hb
 have BK0 := n0_
 have BK1 := n1_
 have BK2 := n2_
 have BK3 := n3_
 have BKX := nX_
 have BKY := nY_
 have HB := nb_
 clear n0_ n1_ n2_ n3_ nX_ nY_ nb_
 refine hK.out _ _ ⟨(blk_cell BK2.out 0).trans rfl, (blk_cell BK2.out 1).trans rfl, (blk_cell BK3.out 0).trans rfl, (blk_cell BK3.out 1).trans rfl⟩ (fun hHeld => ?_)
 clear hK K
 refine norm_ (a' := ?_) ?_ ?_
 rotate_left
 ·show Act.put _ (some 30) _ = _
  simp only [Act.put, List.setIfInBounds_toArray, List.set_cons_zero, List.set_cons_succ, i64_w, i32_w]
  rfl
 refine pure_ (i := 6) (N := some 31) (v := ?_) (a' := ?_) #[true, true, true, true, true, true, true, true, true, false, true, true, false, false, false, false] rfl rfl (by kernel_rfl) (fun _ _ _ h => h) (Or.inl ⟨by rfl, ?_⟩) ?_ ?_
 rotate_left
 ·intro w'
  go_simp
  with_reducible rfl
 rotate_left
 ·simp only [Act.put, List.setIfInBounds_toArray, List.set_cons_zero, List.set_cons_succ, i64_w, i32_w]
  rfl
 refine one_ (i := 9) (N := some 34) #[true, true, true, true, true, true, true, true, true, true, true, true, false, false, false, false] rfl rfl (by kernel_rfl) (by decide) (fun K hK => ?_)
 refine goesF_ (t := 32) #[.pointer (some ⟨gb0, 0, none⟩), .pointer (some ⟨gx, 0, none⟩), .pointer (some ⟨gy, 0, none⟩)] Try.func99 (by kernel_rfl) rfl #[.agg #[.int .i64 a2_0, .int .i64 a2_1], .pointer (some ⟨gb0, 0, none⟩), .pointer (some ⟨gx, 0, none⟩), .pointer (some ⟨gy, 0, none⟩)] (by rfl) rfl rfl (by first | rfl | (go_simp; done) | (go_simp; rfl)) (by first | rfl | (go_simp; done) | (go_simp; rfl)) ?_
 refine (place_calls gb0 gx gy a2_0 a2_1 a0_0 a0_1 (wrap64 (a1_0 - a0_0)) (wrap64 (a1_1 - a0_1)) _ BK0.out BKX.out BKY.out).mono ?_
 rintro e w11 ⟨rfl, hb⟩
 refine ⟨_, rfl, ?_⟩
 have n0_ := Aside0.mk (blk_below BK0.out hb)
 have n1_ := Aside0.mk (blk_below BK1.out hb)
 have n2_ := Aside0.mk (blk_below BK2.out hb)
 have n3_ := Aside0.mk (blk_below BK3.out hb)
 have nX_ := Aside0.mk (blk_below BKX.out hb)
 have nY_ := Aside0.mk (blk_below BKY.out hb)
 have nb_ := Aside0.mk (below_step HB.out hb)
 clear BK0 BK1 BK2 BK3 BKX BKY HB hb
 have BK0 := n0_
 have BK1 := n1_
 have BK2 := n2_
 have BK3 := n3_
 have BKX := nX_
 have BKY := nY_
 have HB := nb_
 clear n0_ n1_ n2_ n3_ nX_ nY_ nb_
 refine hK.out _ _ ⟨(blk_cell BK2.out 0).trans rfl, (blk_cell BK2.out 1).trans rfl, (blk_cell BK3.out 0).trans rfl, (blk_cell BK3.out 1).trans rfl⟩ (fun hHeld => ?_)
 clear hK K
 refine norm_ (a' := ?_) ?_ ?_
 rotate_left
 ·show Act.put _ (some 34) _ = _
  simp only [Act.put, List.setIfInBounds_toArray, List.set_cons_zero, List.set_cons_succ, i64_w, i32_w]
  rfl
 refine one_ (i := 12) (N := some 37) #[true, true, true, true, true, true, true, true, true, true, true, true, true, false, false, false] rfl rfl (by kernel_rfl) (by decide) (fun K hK => ?_)
 refine goesF_ (t := 35) #[.pointer (some ⟨gb0, 0, none⟩), .pointer (some ⟨gx, 0, none⟩), .pointer (some ⟨gy, 0, none⟩)] Try.func99 (by kernel_rfl) rfl #[.agg #[.int .i64 a3_0, .int .i64 a3_1], .pointer (some ⟨gb0, 0, none⟩), .pointer (some ⟨gx, 0, none⟩), .pointer (some ⟨gy, 0, none⟩)] (by rfl) rfl rfl (by first | rfl | (go_simp; done) | (go_simp; rfl)) (by first | rfl | (go_simp; done) | (go_simp; rfl)) ?_
 refine (place_calls gb0 gx gy a3_0 a3_1 a0_0 a0_1 (wrap64 (a1_0 - a0_0)) (wrap64 (a1_1 - a0_1)) _ BK0.out BKX.out BKY.out).mono ?_
 rintro e w12 ⟨rfl, hb⟩
 refine ⟨_, rfl, ?_⟩
 have n0_ := Aside0.mk (blk_below BK0.out hb)
 have n1_ := Aside0.mk (blk_below BK1.out hb)
 have n2_ := Aside0.mk (blk_below BK2.out hb)
 have n3_ := Aside0.mk (blk_below BK3.out hb)
 have nX_ := Aside0.mk (blk_below BKX.out hb)
 have nY_ := Aside0.mk (blk_below BKY.out hb)
 have nb_ := Aside0.mk (below_step HB.out hb)
 clear BK0 BK1 BK2 BK3 BKX BKY HB hb
 have BK0 := n0_
 have BK1 := n1_
 have BK2 := n2_
 have BK3 := n3_
 have BKX := nX_
 have BKY := nY_
 have HB := nb_
 clear n0_ n1_ n2_ n3_ nX_ nY_ nb_
 refine hK.out _ _ ⟨(blk_cell BK2.out 0).trans rfl, (blk_cell BK2.out 1).trans rfl, (blk_cell BK3.out 0).trans rfl, (blk_cell BK3.out 1).trans rfl⟩ (fun hHeld => ?_)
 clear hK K
 refine norm_ (a' := ?_) ?_ ?_
 rotate_left
 ·show Act.put _ (some 37) _ = _
  simp only [Act.put, List.setIfInBounds_toArray, List.set_cons_zero, List.set_cons_succ, i64_w, i32_w]
  rfl
 refine pure_ (i := 13) (N := some 38) (v := ?_) (a' := ?_) #[true, true, true, true, true, true, true, true, true, true, true, true, true, true, false, false] rfl rfl (by kernel_rfl) (fun _ _ _ h => h) (Or.inl ⟨by rfl, ?_⟩) ?_ ?_
 rotate_left
 ·intro w'
  go_simp
  with_reducible rfl
 rotate_left
 ·simp only [Act.put, List.setIfInBounds_toArray, List.set_cons_zero, List.set_cons_succ, i64_w, i32_w]
  rfl
 refine one_ (i := 14) (N := some 12) #[true, true, true, true, true, true, true, true, true, true, true, true, true, true, true, false] rfl rfl (by kernel_rfl) (by decide) (fun K hK => ?_)
 refine valueK_ (v := ?_) (by rfl) rfl ?_ ?_
 rotate_left
 ·first | (go_simp; with_reducible rfl) | (go_simp; rfl)
 refine hK.out _ _ ⟨(blk_cell BK2.out 0).trans rfl, (blk_cell BK2.out 1).trans rfl, (blk_cell BK3.out 0).trans rfl, (blk_cell BK3.out 1).trans rfl⟩ (fun hHeld => ?_)
 clear hK K
 refine norm_ (a' := ?_) ?_ ?_
 rotate_left
 ·show Act.put _ (some 12) _ = _
  simp only [Act.put, List.setIfInBounds_toArray, List.set_cons_zero, List.set_cons_succ, i64_w, i32_w]
  rfl
 refine one_ (i := 15) (N := some 13) #[true, true, true, true, true, true, true, true, true, true, true, true, true, true, true, true] rfl rfl (by kernel_rfl) (by decide) (fun K hK => ?_)
 refine valueK_ (v := ?_) (by rfl) rfl ?_ ?_
 rotate_left
 ·first | (go_simp; with_reducible rfl) | (go_simp; rfl)
 refine hK.out _ _ ⟨(blk_cell BK2.out 0).trans rfl, (blk_cell BK2.out 1).trans rfl, (blk_cell BK3.out 0).trans rfl, (blk_cell BK3.out 1).trans rfl⟩ (fun hHeld => ?_)
 clear hK K
 refine norm_ (a' := ?_) ?_ ?_
 rotate_left
 ·show Act.put _ (some 13) _ = _
  simp only [Act.put, List.setIfInBounds_toArray, List.set_cons_zero, List.set_cons_succ, i64_w, i32_w]
  rfl
 refine done_ (by kernel_rfl) ?_
 clear hHeld
 have c10 : w12.cell? ⟨gb1, 0, none⟩ = some (.int .i64 a1_0) := (blk_cell BK1.out 0).trans rfl
 have c11 : w12.cell? ⟨gb1, 1, none⟩ = some (.int .i64 a1_1) := (blk_cell BK1.out 1).trans rfl
 go_wp2_with (first | ((with_reducible refine gate_dst (N := 44) rfl ?_); refine goesFL_ (t := 42) (some 44) rfl rfl #[.pointer (some ⟨gb0, 0, none⟩), .pointer (some ⟨gx, 0, none⟩), .pointer (some ⟨gy, 0, none⟩)] Try.func99 (by kernel_rfl) rfl #[.agg #[.int .i64 a1_0, .int .i64 a1_1], .pointer (some ⟨gb0, 0, none⟩), .pointer (some ⟨gx, 0, none⟩), .pointer (some ⟨gy, 0, none⟩)] rfl (by first | rfl | (go_simp; done) | (go_simp; rfl)) (by first | rfl | (go_simp; done) | (go_simp; rfl)) ?_; refine (place_calls gb0 gx gy a1_0 a1_1 a0_0 a0_1 (wrap64 (a1_0 - a0_0)) (wrap64 (a1_1 - a0_1)) _ BK0.out BKX.out BKY.out).mono ?_; rintro e w13 ⟨rfl, hb⟩; refine ⟨_, rfl, ?_⟩; have nb_ := Aside0.mk (below_step HB.out hb); clear HB hb; have HB := nb_; clear nb_))
 all_goals (go_ret; refine ⟨?_, by first | exact HB.out | exact (by repeat (first | exact HB.out | apply pw_below_drewN | apply below_drew1))⟩; rw [← HR.out]; refine congrArg (fun b => Ending.returned (.bool b)) ?_; clear HR HB BK0 BK1 BK2 BK3 BKX BKY c10 c11 hmf hu)
 all_goals (generalize placeF a1_0 a1_1 a0_0 a0_1 (wrap64 (a1_0 - a0_0)) (wrap64 (a1_1 - a0_1)) = pb at *; generalize placeF a2_0 a2_1 a0_0 a0_1 (wrap64 (a1_0 - a0_0)) (wrap64 (a1_1 - a0_1)) = pc at *; generalize placeF a3_0 a3_1 a0_0 a0_1 (wrap64 (a1_0 - a0_0)) (wrap64 (a1_1 - a0_1)) = pd at *)
 all_goals unfold inLineB
 all_goals first | exact (decide_eq_true (by omega)).symm | exact (decide_eq_false (by omega)).symm | exact decide_eq_decide.2 (by omega) | (simp only [decide_eq_true_eq, decide_eq_false_iff_not, Bool.not_eq_true] at *; first | exact (decide_eq_true (by omega)).symm | exact (decide_eq_false (by omega)).symm | exact decide_eq_decide.2 (by omega))
end Go.Proofs.Ytemaokhlolimhaa.Q

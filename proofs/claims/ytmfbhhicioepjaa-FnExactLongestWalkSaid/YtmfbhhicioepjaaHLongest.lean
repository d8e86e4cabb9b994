/- impl.(*graph).longest, handed a function that takes every walk, in the form of the printed contracts: the closures by contracts of their own, the search (walks) by induction, for every graph that can be read. The numbers of functions and types are those of this seat. -/
import Derived.Test.YtmfbhhicioepjaaQ0
import Derived.Test.YtmfbhhicioepjaaHSort
namespace Go.Proofs.Ytmfbhhicioepjaa.Q
open Go.RowKit Go.Proofs.YtmfbhhicioepjaaW.PrintWords Go.Proofs.YtmfbhhicioepjaaW.PrintLast Go.Proofs.YtmfbhhicioepjaaW.PrintMore
attribute [local go_sem] max2_int min2_int max_two min_two
set_option linter.unusedVariables false
set_option linter.unusedSimpArgs false
/-- A call through a slot that holds a closure: what it caught stands behind the arguments. -/
theorem goesF_ {P : Program} {ops : Array Oper} {Q : Exit → Act → World → Prop} {oi : Oper} {N : Option Tmp} {a : Act} {w : World} {K : Act → World → Prop} {f : FuncId} {fn : Func} {t : Tmp} {ags : Array Operand} {ts : Array TypeId} (cap : Array Value) (hf : P.funcs[f]? = some fn) (hname : (fn.name == "runtime.NumGoroutine") = false) (hb : fn.body.isSome = true) (args : Array Value)
    (hw : Region.wanted oi (yielded ops a.tmps) = true) (hN : oi.dst = N) (hop : oi.op = .call { callee := .value (.tmp t), args := ags, argTypes := ts }) (hfv : a.eval (.tmp t) = .func (.func f) #[] cap) (hargs : ags.map a.eval ++ cap = args)
    (h : Calls P f args w fun e w' => ∃ v, e = .returned v ∧ K (a.put N v) w') : if Region.wanted oi (yielded ops a.tmps) = true then Oper.wp P oi a w K Q else K (a.put N undef) w := by
  refine call_ f args hw hN ?_ h
  have he := enters_ hf hname hb args w
  subst hargs
  unfold execOp
  simp [hop, resolve, Deferred.ofValue, invoke, hfv, he]
/-- A new block in a region that draws. -/
theorem allocK_ {P : Program} {ops : Array Oper} {Q : Exit → Act → World → Prop} {oi : Oper} {N : Option Tmp} {a : Act} {w : World} {K : Act → World → Prop} {cs : Array Value} {t : TypeId} (hw : Region.wanted oi (yielded ops a.tmps) = true) (hN : oi.dst = N)
    (hrun : (execOp a.eval oi).run P w = .ok (.value (.pointer (some ⟨w.heap.size, 0, none⟩))) (w.alloc (.cells cs t (0, 0))))
    (h : ∀ g, g = w.heap.size → ∀ w1, w1.heap[g]? = some (.cells cs t (0, 0)) → Below w.heap.size w w1 → K (a.put N (.pointer (some ⟨g, 0, none⟩))) w1) : if Region.wanted oi (yielded ops a.tmps) = true then Oper.wp P oi a w K Q else K (a.put N undef) w := by
  rw [if_pos hw]
  subst hN
  unfold Oper.wp
  rw [hrun]
  exact h _ rfl _ (blk_new w _) (below_alloc (Below.refl _ _) _)
/-- A store in a region that draws. -/
theorem storeK_ {P : Program} {ops : Array Oper} {Q : Exit → Act → World → Prop} {oi : Oper} {N : Option Tmp} {a : Act} {w w1 : World} {K : Act → World → Prop} (hw : Region.wanted oi (yielded ops a.tmps) = true) (hN : oi.dst = N) (hrun : (execOp a.eval oi).run P w = .ok .skip w1) (h : K (a.put N undef) w1) : if Region.wanted oi (yielded ops a.tmps) = true then Oper.wp P oi a w K Q else K (a.put N undef) w := by
  rw [if_pos hw]
  subst hN
  unfold Oper.wp
  rw [hrun]
  exact h
/-- An operation that only yields, run where it stands. -/
theorem valueK_ {P : Program} {ops : Array Oper} {Q : Exit → Act → World → Prop} {oi : Oper} {N : Option Tmp} {a : Act} {w : World} {v : Value} {K : Act → World → Prop} (hw : Region.wanted oi (yielded ops a.tmps) = true) (hN : oi.dst = N) (hrun : (execOp a.eval oi).run P w = .ok (.value v) w) (h : K (a.put N v) w) : if Region.wanted oi (yielded ops a.tmps) = true then Oper.wp P oi a w K Q else K (a.put N undef) w := by
  rw [if_pos hw]
  subst hN
  unfold Oper.wp
  rw [hrun]
  exact h
/-- The closure's call in a plain region. -/
theorem goesFL_ {P : Program} {ops : Array Oper} {Q : Exit → Act → World → Prop} {rest : List Oper} {oi : Oper} {a : Act} {w : World} {f : FuncId} {fn : Func} {t : Tmp} {ags : Array Operand} {ts : Array TypeId} (N : Option Tmp) (hd : oi.dst = N) (hg : oi.guard = none) (cap : Array Value) (hf : P.funcs[f]? = some fn) (hname : (fn.name == "runtime.NumGoroutine") = false) (hb : fn.body.isSome = true) (args : Array Value)
    (hop : oi.op = .call { callee := .value (.tmp t), args := ags, argTypes := ts }) (hfv : a.eval (.tmp t) = .func (.func f) #[] cap) (hargs : ags.map a.eval ++ cap = args)
    (h : Calls P f args w fun e w' => ∃ v, e = .returned v ∧ wpList P ops Q rest (a.put N v) w') : wpList P ops Q (oi :: rest) a w := by
  refine wpList_plain hg fun K hK => ?_
  have he := enters_ hf hname hb args w
  subst hargs
  have hrun : (execOp a.eval oi).run P w = .ok (.enter f (ags.map a.eval ++ cap)) w := by
    unfold execOp
    simp [hop, resolve, Deferred.ofValue, invoke, hfv, he]
  unfold Oper.wp
  rw [hrun, Oper.upon_enter]
  refine h.mono fun e w'' hh => ?_
  obtain ⟨v, rfl, hk⟩ := hh
  subst hd
  exact hK _ _ hk
theorem blk_aparts_ {w : World} {g g' : Nat} {c c' : Array Value} {t t' : TypeId} (h : w.heap[g]? = some (.cells c t (0, 0))) (h' : w.heap[g']? = some (.cells c' t' (0, 0))) (ht : t ≠ t') : g ≠ g' := by
  rintro rfl
  rw [h] at h'
  injection h' with h'
  injection h' with _ h'
  exact ht h'
theorem blk_puts_ {w : World} {g g' : Nat} {o : Obj} {u : Value} (h : w.heap[g]? = some o) (hn : g ≠ g') : (w.setCell ⟨g', 0, none⟩ u).heap[g]? = some o := (Below.heap_setCell w ⟨g', 0, none⟩ u g hn).trans h
theorem beq_len (a b : Nat) : ((a : Int) == (b : Int)) = decide (a = b) := by rw [Bool.eq_iff_iff]; simp; omega
set_option maxHeartbeats 8000000 in
set_option maxRecDepth 100000 in
theorem takes_calls (v : Value) (w : World) : Calls Try.prog 47 #[v] w fun e w' => e = .returned (.bool true) ∧ w' = w := by
 go_enter Try.func47, Try.ntmps47
 go_wp2
 go_ret
 exact ⟨rfl, rfl⟩
/-- What the closure of longest does: the walk that it is handed is kept if it is longer than the one kept before; and whether that one goes over all cells. -/
def fullF (cells path out : List Int) : Option (Bool × List Int) := if out.length < path.length then (if path.length < 17592186044416 then some (decide (path.length = cells.length), path) else none) else some (decide (out.length = cells.length), out)
set_option maxHeartbeats 8000000 in
set_option maxRecDepth 100000 in
theorem full_calls (gb b2 b3 ob : Nat) (a0_0 a0_1 : Int) (A0_2 : Option Addr) (c0_2 : Nat) (l0_2 : List Int) (a1_0 a1_1 : Int) (A5 : Option Addr) (c5 : Nat) (cells : List Int) (A6 : Option Addr) (c6 : Nat) (near : List (List Int)) (Ap : Option Addr) (cp : Nat) (path : List Int) (ok : Nat → Prop) (uo : Value) (out : List Int) (r1 : Bool) (r2 : List Int) (w0 w : World)
  (hB : Below w0.heap.size w0 w) (hg : w.heap[gb]? = some (.cells #[.int .i64 a0_0, .int .i64 a0_1, .slice A0_2 l0_2.length c0_2, .int .i64 a1_0, .int .i64 a1_1, .slice A5 cells.length c5, .slice A6 near.length c6] 78 (0, 0)))
  (h2 : w.heap[b2]? = some (.cells #[.pointer (some ⟨gb, 0, none⟩)] 58 (0, 0))) (h3 : w.heap[b3]? = some (.cells #[.func (.func 47) #[] #[]] 45 (0, 0))) (h4 : w.heap[ob]? = some (.cells #[uo] 22 (0, 0))) (hob : w0.heap.size ≤ ob)
  (hp : Kd.C (Kd.int .i64) w Ap path.length path) (hpc : path.length ≤ cp) (ho : Kd.R (Kd.int .i64) 3 w w0.heap.size ok uo out) (h : fullF cells path out = some (r1, r2)) :
  Calls Try.prog 70 #[.slice Ap path.length cp, .pointer (some ⟨b3, 0, none⟩), .pointer (some ⟨ob, 0, none⟩), .pointer (some ⟨b2, 0, none⟩)] w fun e w' => e = .returned (.bool r1) ∧ (∃ u, w'.heap[ob]? = some (.cells #[u] 22 (0, 0)) ∧ Kd.R (Kd.int .i64) 3 w' w0.heap.size (fun k => ok k ∨ w.heap.size ≤ k) u r2) ∧ Below w0.heap.size w0 w' ∧ Kept w w' (fun k => k = ob) := by
 have HG := Aside0.mk hg
 have H2 := Aside0.mk h2
 have H3 := Aside0.mk h3
 have H4 := Aside0.mk h4
 have HP := Aside0.mk hp
 have HPC := Aside0.mk hpc
 have HO := Aside0.mk ho
 have HB := Aside0.mk hB
 clear hg h2 h3 h4 hp hpc ho hB
 obtain ⟨Au, cu, eu⟩ := Kd.R_slice HO.out
 subst eu
 have x3 : w.cell? ⟨b3, 0, none⟩ = some (.func (.func 47) #[] #[]) := (blk_cell H3.out 0).trans rfl
 have x4 : w.cell? ⟨ob, 0, none⟩ = some (.slice Au out.length cu) := (blk_cell H4.out 0).trans rfl
 unfold fullF at h
 have x2 : w.cell? ⟨b2, 0, none⟩ = some (.pointer (some ⟨gb, 0, none⟩)) := (blk_cell H2.out 0).trans rfl
 have xg : w.cell? ⟨gb, 2, none⟩ = some (.slice A0_2 l0_2.length c0_2) := (blk_cell HG.out 2).trans rfl
 have xg5 : w.cell? ⟨gb, 5, none⟩ = some (.slice A5 cells.length c5) := (blk_cell HG.out 5).trans rfl
 by_cases c1 : out.length < path.length
 rotate_left
 · rw [if_neg c1] at h
   simp only [Option.some.injEq, Prod.mk.injEq] at h
   obtain ⟨rfl, rfl⟩ := h
   go_enter Try.func70, Try.ntmps70
   go_wp2
   go_quiet (fail)
   go_wp2
   go_ret
   refine ⟨by first | rfl | (simp; done) | (simp [beq_len]; done), ⟨_, blk_drewN H4.out _, Kd.R_mono (Kd.R_drewN HO.out _) (fun k hk => .inl hk)⟩, pw_below_drewN HB.out _, Kept.drewN (Kept.refl _ _) _⟩
 · rw [if_pos c1] at h
   by_cases c2 : path.length < 17592186044416
   rotate_left
   · rw [if_neg c2] at h; exact absurd h (by simp)
   rw [if_pos c2] at h
   simp only [Option.some.injEq, Prod.mk.injEq] at h
   obtain ⟨rfl, rfl⟩ := h
   have hcl : slices_Clone_int_int.f path = some path := by unfold slices_Clone_int_int.f; rw [if_pos c2]
   have c1' : decide ((path.length : Int) > (out.length : Int)) = true := by simp; omega
   go_enter Try.func70, Try.ntmps70
   go_wp2_with (fail)
   refine (takes_calls _ _).mono ?_
   rintro e w1 ⟨rfl, rfl⟩
   dsimp only
   go_wp2_with (fail)
   refine (slices_Clone_int_int.calls Ap cp path path _ HP.out HPC.out hcl).mono ?_
   rintro e w2 ⟨v, rfl, hr, hb⟩
   obtain ⟨Av, cv, ev⟩ := Kd.R_slice hr
   subst ev
   have HR := Aside0.mk hr
   have hb4 := blk_below H4.out hb
   have x4b : w2.cell? ⟨ob, 0, none⟩ = some (.slice Au out.length cu) := (blk_cell hb4 0).trans rfl
   have f4b := blk_frozen hb4 0
   have H4b := Aside0.mk hb4
   have H2b := Aside0.mk (blk_below H2.out hb)
   have HGb := Aside0.mk (blk_below HG.out hb)
   have HB2 := Aside0.mk hb
   have HL := Aside0.mk (blk_lt H4.out)
   clear hr hb hb4
   dsimp only
   go_wp2_with (first | ((with_reducible refine gate_store (t := 22) (p := 2) rfl ?_); refine store_event (t := 22) (p := 2) (v := ?vo) (w1 := (w2.setCell ⟨ob, 0, none⟩ (.slice Av path.length cv))) ?hg ?ho ?hn ?hr ?_; (case ho => rfl); (case hg => rfl); (case hn => rfl); (case hr => first | (go_simp; done) | (go_simp; rfl)); intro w3 hw_; have HW := Aside0.mk hw_; have hw := hw_; have K2 := Aside0.mk (blk_aparts_ H2b.out H4b.out (by decide)); have KG := Aside0.mk (blk_aparts_ HGb.out H4b.out (by decide)); have H4c := Aside0.mk (show w3.heap[ob]? = some (.cells #[.slice Av path.length cv] 22 (0, 0)) from hw ▸ blk_put H4b.out 0 _ rfl); have H2c := Aside0.mk (show w3.heap[b2]? = _ from hw ▸ blk_puts_ H2b.out K2.out); have HGc := Aside0.mk (show w3.heap[gb]? = _ from hw ▸ blk_puts_ HGb.out KG.out); have x4c : w3.cell? ⟨ob, 0, none⟩ = some (.slice Av path.length cv) := (blk_cell H4c.out 0).trans rfl; have x2c : w3.cell? ⟨b2, 0, none⟩ = some (.pointer (some ⟨gb, 0, none⟩)) := (blk_cell H2c.out 0).trans rfl; have xg5c : w3.cell? ⟨gb, 5, none⟩ = some (.slice A5 cells.length c5) := (blk_cell HGc.out 5).trans rfl; clear hw hw_))
   go_quiet (fail)
   go_wp2
   go_ret
   have hB3 : Below w0.heap.size w0 (w3.drewN nq) := by
    refine pw_below_drewN ?_ _
    rw [HW.out]
    exact below_set (below_step HB.out HB2.out) hob
   refine ⟨by first | rfl | (simp; done) | (simp [beq_len]; done), ⟨_, blk_drewN H4c.out _, ?_⟩, hB3, ?_⟩
   · refine Kd.R_drewN ?_ _
     rw [HW.out]
     refine Kd.R_mono (Kd.R_lower (Kd.R_set (Kd.R_bound HR.out) H4b.out (by decide) 0 _) (below_size HB.out)) (fun k hk => .inr hk.2.1)
   · refine Kept.drewN ?_ _
     rw [HW.out]
     exact Kept.setCell (S := fun k => k = ob) (Kept.of_below HB2.out _) (p := ⟨ob, 0, none⟩) (.inl rfl) _
/-- append onto a row of one's own: where it stays in its block, its capacity stays too. -/
theorem run_append_cap {P : Program} (w : World) (base : Nat) (t ty e : TypeId) (i : TypeInfo) (z : Value) (size bytes : Nat) (ht : P.underlying t = some (.slice e)) (hi : P.info? e = some i) (hz : i.zero = some z)
    (hsize : i.size = size) (hby : i.bytes = bytes) (hzs : z.cells.size = size) (hsz : 0 < size) (v : Value) (n : Nat) (xs : List Value) (hown : w.ownsRow base e size v n xs)
    (a : Addr) (m c : Nat) (news : List Value) (hl : news.length = m * size) (hnews : ∀ j u, news[j]? = some u → w.cell? (a.add j) = some u) (h1 : ∀ u ∈ news, u.oneCell' = true)
    (h63 : n + m ≤ maxLen) (hbytes : (n + m) * bytes ≤ 140737488355328) (hbase : base ≤ w.heap.size) (hn0 : 0 < n) :
    ∃ v' w', (Builtin.append_ #[t, t] ty #[v, .slice (some a) m c]).run P w = .ok v' w' ∧ w'.ownsRow base e size v' (n + m) (xs ++ news) ∧ w.grownBy w' v.ownBlock ∧
      ((∃ A cap, v = .slice A n cap ∧ v' = .slice A (n + m) cap) ∨ (v'.ownBlock = some w.heap.size ∧ w.grownBy w' none)) := by
  obtain ⟨v', w', hr, h2, h3, h4, h5⟩ := run_append_own_at (P := P) w base t ty e i z size bytes ht hi hz hsize hby hzs hsz v n xs hown a m c news hl hnews h1 h63 hbytes hbase
  refine ⟨v', w', hr, h2, h3, ?_⟩
  have hsmall : n + m ≤ 9223372036854775807 := by simp only [maxLen] at h63; omega
  rcases hown.2 with ⟨rfl, rfl⟩ | ⟨g, cap, cur, rfl, hbg, hg, hnc, hcm, hcs, htake⟩
  · omega
  · by_cases hroom : n + m ≤ cap
    · subst hsize
      have hfit : n * i.size + news.length ≤ cur.size := by rw [hl, hcs, ← Nat.add_mul]; exact Nat.mul_le_mul_right _ hroom
      have hr2 := run_append_room (P := P) w t ty e i ht hi g n cap cur hg a m c news hl hnews h1 hroom hfit
      rw [hr] at hr2
      injection hr2 with hv _
      exact .inl ⟨_, _, rfl, hv⟩
    · refine .inr ?_
      subst hsize
      subst hby
      have holds : ∀ j u, xs[j]? = some u → w.cell? ((⟨g, 0, none⟩ : Addr).add j) = some u := hown.cells (g := g) rfl
      have hr2 := run_append_grow (P := P) w t ty e i z ht hi hz ⟨g, 0, none⟩ n cap xs hown.1 holds a m c news hl hnews (by omega) (by omega) (growslice_fits (by omega) hbytes)
      rw [hr] at hr2
      injection hr2 with hv hw
      refine ⟨by rw [hv]; rfl, ?_⟩
      rw [hw]
      exact ⟨rfl, rfl, rfl, by simp, fun k hk _ => Below.heap_alloc w.drew _ k hk⟩
theorem R_append_cap {α : Type} {P : Program} {ops : Array Oper} {rest : List Oper} {o : Oper} {a : Act} {Q : Exit → Act → World → Prop} (d : Kd α) {w0 W : World} (base : Nat) (hgd : o.guard = none) (s x : Operand) (t e : TypeId) (z : Value) (bytes : Nat)
    (ho : o.op = .call { callee := .builtin .append, args := #[s, x], argTypes := #[t, t] })
    (ht : P.underlying t = some (.slice e)) (hinfo : (P.info? e).map (fun i => (i.zero, i.size, i.bytes)) = some (some z, d.sz, bytes)) (hz : z.cells.size = d.sz) (hs0 : 0 < d.sz) (hb0 : 0 < bytes)
    (v : Value) (xs : List α) (p : α) (cs : List Value) (ok okp : Nat → Prop) (hs : a.eval s = v) (hx : a.eval x = .slice (some ⟨W.heap.size, 0, none⟩) 1 1) (hp : d.M W base okp p cs) (hokp : ∀ k, okp k → ok k ∧ some k ≠ v.ownBlock) (hfresh : ∀ k, W.heap.size ≤ k → ok k)
    (HO : d.R e W base ok v xs) (HB : Below base w0 W) (hbase : base ≤ W.heap.size) (hl : (xs.length + 1) * bytes ≤ 140737488355328) (hn0 : 0 < xs.length)
    (h : ∀ v1 w1, d.R e w1 base ok v1 (xs ++ [p]) → Below base w0 w1 → W.grownBy w1 v.ownBlock → ((∃ A c, v = .slice A xs.length c ∧ v1 = .slice A (xs.length + 1) c) ∨ ((∃ b, v1.ownBlock = some b ∧ W.heap.size ≤ b) ∧ W.grownBy w1 none)) → wpList P ops Q rest (a.put o.dst v1) w1) :
    wpList P ops Q (o :: rest) a (W.alloc (.cells cs.toArray e)) := by
  obtain ⟨h0, inner, hown, hr⟩ := HO
  obtain ⟨i0, hi, hzz⟩ := Option.map_eq_some_iff.1 hinfo
  simp only [Prod.mk.injEq] at hzz
  obtain ⟨hz0, hz1, hz2⟩ := hzz
  have hlen : xs.length + 1 ≤ 140737488355328 := Nat.le_trans (Nat.le_mul_of_pos_right _ hb0) hl
  have hys := d.K_len (d.K_of_M hp)
  refine wpList_plain hgd fun K hK => ?_
  obtain ⟨v', w', hrun, hown1, hg, hat⟩ := run_append_cap (P := P) (W.alloc (.cells cs.toArray e)) base t o.type e i0 z d.sz bytes ht hi hz0 hz1 hz2 hz hs0 v xs.length inner (hown.alloc _) ⟨W.heap.size, 0, none⟩ 1 1 cs (by rw [hys]; simp)
    (by simpa using World.news_of_block (cs := cs.toArray) (t := e) (fr := (0, 0)) (heap_alloc_new W (.cells cs.toArray e))) (d.K_one (d.K_of_M hp)) (by simp only [maxLen]; omega) hl (by simp; omega) hn0
  unfold Oper.wp execOp
  simp only [ho, resolve, invoke, builtin, Sem.run_bind, Sem.run_pure, Result.andThen_ok, List.map_toArray, List.map_cons, List.map_nil, hs, hx, hrun]
  have hg1 : W.grownBy w' v.ownBlock := World.grownBy.trans (World.grownBy_alloc W _ _) hg
  have hat1 : v'.ownBlock = v.ownBlock ∨ ∃ b, v'.ownBlock = some b ∧ W.heap.size ≤ b := by
    rcases hat with ⟨A, cap, rfl, rfl⟩ | hat
    · left; cases A <;> rfl
    · exact .inr ⟨_, hat.1, by simp⟩
  refine hK _ _ (h v' w' (Kd.R_appended h0 hr hp hokp hfresh hown1 hg1 hat1) ((HB.alloc hbase _).grown hg (by simp; omega) (own_base hown)) hg1 ?_)
  rcases hat with hat | hat
  · exact .inl hat
  · exact .inr ⟨⟨_, hat.1, by simp⟩, World.grownBy.trans (World.grownBy_alloc W _ _) hat.2⟩
theorem R_stays {α : Type} {d : Kd α} {e : Nat} {w w1 : World} {B : Nat} {ok S : Nat → Prop} {v : Value} {xs : List α} (hE : d.E = []) (h : d.R e w B ok v xs) (hk : Kept w w1 S) (hn : ∀ k, v.ownBlock = some k → ¬ S k) : d.R e w1 B ok v xs :=
  Kd.R_mono (Kd.R_kept (Kd.R_tight2 hE h) hk (fun k hk => hn k hk.1.symm)) (fun k hk => hk.2)
/-- Behind an append and a call that keeps the longer row: the shorter one stands as it stood. -/
theorem row_back {W w3 w4 : World} {B : Nat} {pv v1 : Value} {path : List Int} {d : Int} {S : Nat → Prop} (hp : Kd.R (Kd.int .i64) 3 W B (fun _ => True) pv path) (hg : W.grownBy w3 pv.ownBlock)
  (hat : (∃ A c, pv = .slice A path.length c ∧ v1 = .slice A (path.length + 1) c) ∨ ((∃ b, v1.ownBlock = some b ∧ W.heap.size ≤ b) ∧ W.grownBy w3 none))
  (h4 : Kd.R (Kd.int .i64) 3 w4 B (fun _ => True) v1 (path ++ [d])) (hk : Kept w3 w4 (fun k => some k = v1.ownBlock ∨ S k)) (hS : ∀ k, pv.ownBlock = some k → ¬ S k) :
  Kd.R (Kd.int .i64) 3 w4 B (fun _ => True) pv path ∧ Kept W w4 (fun k => some k = pv.ownBlock ∨ S k) := by
  rcases hat with ⟨A, c, rfl, rfl⟩ | ⟨⟨b, hb, hle⟩, hg0⟩
  · have hob : (Value.slice A (path.length + 1) c).ownBlock = (Value.slice A path.length c).ownBlock := by cases A <;> rfl
    refine ⟨?_, ?_⟩
    · have := Kd.R_take h4 (m := path.length) (by simp)
      simpa using this
    · refine (Kept.of_grown hg (Kept.refl W _) (fun k hk => .inl (.inl hk.symm))).then_ hk (fun k hk => ?_)
      rw [hob] at hk
      exact .inl hk
  · have h3 : Kd.R (Kd.int .i64) 3 w3 B (fun _ => True) pv path := Kd.R_grown hp hg0 (fun k _ e => by cases e)
    refine ⟨?_, ?_⟩
    · refine R_stays rfl h3 hk (fun k e1 e2 => ?_)
      rcases e2 with e2 | e2
      · rw [hb] at e2
        have := Kd.R_lt hp k e1
        cases e2
        omega
      · exact hS k e1 e2
    · refine (Kept.of_grown hg0 (Kept.refl W _) (fun k hk => by cases hk)).then_ hk (fun k hk => ?_)
      rcases hk with hk | hk
      · rw [hb] at hk; cases hk; exact .inr hle
      · exact .inl (.inr hk)
mutual
def impl_graph_walks.l0 : Nat → List (List Int) → List Int → List Int → List Bool → List Int → List Int → Int → Option (Bool × List Bool × List Int)
 | 0, _, _, _, _, _, _, _ => none
 | k + 1, near, cells, path, seen, out, row, i => if i < (row.length : Int) then (if 0 ≤ i then (if 0 ≤ rd row i then (if rd row i < (seen.length : Int) then (if rdOf false seen (rd row i) = true then impl_graph_walks.l0 k near cells path seen out row (wrap64 (i + 1)) else (if path.length < 17592186044415 then ((impl_graph_walks.f k near cells (path ++ [rd row i]) (seen.set (rd row i).toNat true) out).bind fun b => (if rd row i < (b.2.1.length : Int) then (if b.1 = true then some (true, b.2.1.set (rd row i).toNat false, b.2.2) else impl_graph_walks.l0 k near cells path (b.2.1.set (rd row i).toNat false) b.2.2 row (wrap64 (i + 1))) else none)) else none)) else none) else none) else none) else some (false, seen, out)
def impl_graph_walks.f : Nat → List (List Int) → List Int → List Int → List Bool → List Int → Option (Bool × List Bool × List Int)
 | 0, _, _, _, _, _ => none
 | k + 1, near, cells, path, seen, out => (fullF cells path out).bind fun b => (if b.1 = true then some (true, seen, b.2) else (if 0 < path.length then (if 0 ≤ rd path ((path.length : Int) - 1) then (if rd path ((path.length : Int) - 1) < (near.length : Int) then impl_graph_walks.l0 k near cells path seen b.2 (rd_L1 near (rd path ((path.length : Int) - 1))) 0 else none) else none) else none))
end
/-- What the search may write: the walk's block, the marks' block, the box of what is kept. -/
def mayW (pv sv : Value) (ob : Nat) (k : Nat) : Prop := some k = pv.ownBlock ∨ some k = sv.ownBlock ∨ k = ob
theorem not_mayW {w : World} {B : Nat} {okp oks : Nat → Prop} {pv sv : Value} {ob g t : Nat} {cs co : Array Value} {path : List Int} {seen : List Bool} (hp : Kd.R (Kd.int .i64) 3 w B okp pv path) (hs : Kd.R Kd.bool 4 w B oks sv seen)
  (h4 : w.heap[ob]? = some (.cells co 22 (0, 0))) (hg : w.heap[g]? = some (.cells cs t (0, 0))) (n3 : 3 ≠ t) (n4 : 4 ≠ t) (n5 : t ≠ 22) : ¬ mayW pv sv ob g := fun h => by
  rcases h with e | e | e
  · exact Kd.R_ne hp hg n3 e
  · exact Kd.R_ne hs hg n4 e
  · exact blk_aparts_ hg h4 n5 e
set_option maxHeartbeats 8000000 in
set_option maxRecDepth 100000 in
theorem impl_graph_walks.calls (gb b2 b3 ob : Nat) (a0_0 a0_1 : Int) (A0_2 : Option Addr) (c0_2 : Nat) (l0_2 : List Int) (a1_0 a1_1 : Int) (A5 : Option Addr) (c5 : Nat) (cells : List Int) (A6 : Option Addr) (c6 : Nat) (near : List (List Int)) (w0 : World)
  (hob : w0.heap.size ≤ ob) (hN : Kd.C (Kd.slice 3 (Kd.int .i64)) w0 A6 near.length near) (k : Nat) :
  ∀ (pv sv uo : Value) (path : List Int) (seen : List Bool) (out : List Int) (r1 : Bool) (r2 : List Bool) (r3 : List Int) (w : World) (ok : Nat → Prop) (hok : ∀ k, ok k → some k ≠ pv.ownBlock)
  (hB : Below w0.heap.size w0 w) (hg : w.heap[gb]? = some (.cells #[.int .i64 a0_0, .int .i64 a0_1, .slice A0_2 l0_2.length c0_2, .int .i64 a1_0, .int .i64 a1_1, .slice A5 cells.length c5, .slice A6 near.length c6] 78 (0, 0)))
  (h2 : w.heap[b2]? = some (.cells #[.pointer (some ⟨gb, 0, none⟩)] 58 (0, 0))) (h3 : w.heap[b3]? = some (.cells #[.func (.func 47) #[] #[]] 45 (0, 0))) (h4 : w.heap[ob]? = some (.cells #[uo] 22 (0, 0)))
  (hp : Kd.R (Kd.int .i64) 3 w w0.heap.size (fun _ => True) pv path) (hs : Kd.R Kd.bool 4 w w0.heap.size (fun _ => True) sv seen) (ho : Kd.R (Kd.int .i64) 3 w w0.heap.size ok uo out)
  (h : impl_graph_walks.f k near cells path seen out = some (r1, r2, r3)),
  Calls Try.prog 81 #[.pointer (some ⟨gb, 0, none⟩), pv, sv, .func (.func 70) #[] #[.pointer (some ⟨b3, 0, none⟩), .pointer (some ⟨ob, 0, none⟩), .pointer (some ⟨b2, 0, none⟩)]] w fun e w' => e = .returned (.bool r1) ∧
    Kd.R (Kd.int .i64) 3 w' w0.heap.size (fun _ => True) pv path ∧ Kd.R Kd.bool 4 w' w0.heap.size (fun _ => True) sv r2 ∧ (∃ u, w'.heap[ob]? = some (.cells #[u] 22 (0, 0)) ∧ Kd.R (Kd.int .i64) 3 w' w0.heap.size (fun k => ok k ∨ w.heap.size ≤ k) u r3) ∧ Below w0.heap.size w0 w' ∧ Kept w w' (mayW pv sv ob) := by
 induction k using Nat.strongRecOn with
 | _ k ih =>
 intro pv sv uo path seen out r1 r2 r3 w ok hok hB hg h2 h3 h4 hp hs ho h
 cases k with
 | zero => exact absurd h (by simp [impl_graph_walks.f])
 | succ k =>
 simp only [impl_graph_walks.f] at h
 have HN := Aside0.mk hN
 have HG := Aside0.mk hg
 have H2 := Aside0.mk h2
 have H3 := Aside0.mk h3
 have H4 := Aside0.mk h4
 have HP := Aside0.mk hp
 have HS := Aside0.mk hs
 have HO := Aside0.mk ho
 have HB := Aside0.mk hB
 clear hN hg h2 h3 h4 hp hs ho hB
 obtain ⟨Ap, cp, ep⟩ := Kd.R_slice HP.out
 subst ep
 obtain ⟨As, cs, es⟩ := Kd.R_slice HS.out
 subst es
 obtain ⟨⟨f1, f2⟩, hF, hh⟩ := Option.bind_eq_some_iff.1 h
 clear h
 have h := hh
 clear hh
 have HF := Aside0.mk hF
 clear hF
 dsimp only at h
 have N2 := Aside0.mk (show ¬ mayW (.slice Ap path.length cp) (.slice As seen.length cs) ob b2 from not_mayW HP.out HS.out H4.out H2.out (by decide) (by decide) (by decide))
 have N3 := Aside0.mk (show ¬ mayW (.slice Ap path.length cp) (.slice As seen.length cs) ob b3 from not_mayW HP.out HS.out H4.out H3.out (by decide) (by decide) (by decide))
 have NG := Aside0.mk (show ¬ mayW (.slice Ap path.length cp) (.slice As seen.length cs) ob gb from not_mayW HP.out HS.out H4.out HG.out (by decide) (by decide) (by decide))
 have NP := Aside0.mk (Kd.R_ne HP.out H4.out (by decide))
 have NS := Aside0.mk (Kd.R_ne HS.out H4.out (by decide))
 have HOK := Aside0.mk (show ∀ k, ok k ∨ w.heap.size ≤ k → some k ≠ (Value.slice Ap path.length cp).ownBlock from fun k hk => by
  rcases hk with hk | hk
  · exact hok k hk
  · intro e
    have := Kd.R_lt HP.out k e.symm
    omega)
 have NPS := Aside0.mk (show ∀ k, (Value.slice Ap path.length cp).ownBlock = some k → ¬ (some k = (Value.slice As seen.length cs).ownBlock ∨ k = ob) from fun k e1 e2 => by
  rcases e2 with e2 | e2
  · obtain ⟨c1, h1⟩ := Kd.R_typed HP.out k e1
    obtain ⟨c2, h2⟩ := Kd.R_typed HS.out k e2.symm
    exact blk_aparts_ h1 h2 (by decide) rfl
  · exact NP.out (by rw [e1, e2]))
 clear hok
 have first : Calls Try.prog 70 #[.slice Ap path.length cp, .pointer (some ⟨b3, 0, none⟩), .pointer (some ⟨ob, 0, none⟩), .pointer (some ⟨b2, 0, none⟩)] w fun e w1 => e = .returned (.bool f1) ∧ (∃ u, w1.heap[ob]? = some (.cells #[u] 22 (0, 0)) ∧ Kd.R (Kd.int .i64) 3 w1 w0.heap.size (fun k => ok k ∨ w.heap.size ≤ k) u f2) ∧ Below w0.heap.size w0 w1 ∧ Kept w w1 (fun k => k = ob) := by
  exact full_calls gb b2 b3 ob a0_0 a0_1 A0_2 c0_2 l0_2 a1_0 a1_1 A5 c5 cells A6 c6 near Ap cp path _ uo out f1 f2 w0 w HB.out HG.out H2.out H3.out H4.out hob (Kd.R_reads' HP.out).2.2 (Kd.R_reads' HP.out).2.1 HO.out HF.out
 have FIRST := Aside0.mk first
 clear first
 cases f1 with
 | true =>
  rw [if_pos rfl] at h
  simp only [Option.some.injEq, Prod.mk.injEq] at h
  obtain ⟨rfl, rfl, rfl⟩ := h
  go_enter Try.func81, Try.ntmps81
  go_wp2_with (fail)
  refine FIRST.out.mono ?_
  rintro e w1 ⟨rfl, ⟨u, hu, hr⟩, hb, hk⟩
  have HU := Aside0.mk hu
  have HR := Aside0.mk hr
  have HK := Aside0.mk hk
  have HB1 := Aside0.mk hb
  clear hu hr hk hb
  dsimp only
  go_wp2
  go_ret
  exact ⟨rfl, R_stays rfl HP.out HK.out (fun k e1 e2 => NP.out (by rw [e1, e2])), R_stays rfl HS.out HK.out (fun k e1 e2 => NS.out (by rw [e1, e2])), ⟨u, HU.out, HR.out⟩, HB1.out, HK.out.mono (fun k hk => .inr (.inr hk))⟩
 | false =>
  rw [if_neg (by simp)] at h
  by_cases c1 : 0 < path.length
  rotate_left
  · rw [if_neg c1] at h; exact absurd h (by simp)
  rw [if_pos c1] at h
  obtain ⟨j, hj⟩ : ∃ j : Int, (path.length : Int) - 1 = j := ⟨_, rfl⟩
  rw [hj] at h
  have hl63 : path.length ≤ 9223372036854775807 := (Kd.R_reads' HP.out).2.2.2.1
  have hjw : IntKind.i64.wrap ((path.length : Int) - 1) = j := by rw [← hj, i64_w]; unfold wrap64; omega
  by_cases c2 : 0 ≤ rd path j
  rotate_left
  · rw [if_neg c2] at h; exact absurd h (by simp)
  rw [if_pos c2] at h
  by_cases c3 : rd path j < (near.length : Int)
  rotate_left
  · rw [if_neg c3] at h; exact absurd h (by simp)
  rw [if_pos c3] at h
  have p1 : 0 ≤ j := by omega
  have q1 : j < (path.length : Int) := by omega
  obtain ⟨row, hrow⟩ : ∃ row, rd_L1 near (rd path j) = row := ⟨_, rfl⟩
  obtain ⟨ad6, Ar, cr, e6, hx6, hlr, hir⟩ := at_L1 HN.out (rd path j) c2 c3
  subst e6
  rw [hrow] at h hx6 hlr hir
  have HROW := Aside0.mk hir
  have HLR := Aside0.mk hlr
  have HH := Aside0.mk h
  clear h hir hlr
  go_enter Try.func81, Try.ntmps81
  go_wp2_with (fail)
  refine FIRST.out.mono ?_
  rintro e w1 ⟨rfl, ⟨u, hu, hr⟩, hb, hk⟩
  have HP1 := Aside0.mk (R_stays (e := 3) (d := Kd.int .i64) rfl HP.out hk (fun k e1 e2 => NP.out (by rw [e1, e2])))
  have HS1 := Aside0.mk (R_stays (e := 4) (d := Kd.bool) rfl HS.out hk (fun k e1 e2 => NS.out (by rw [e1, e2])))
  have HG1 := Aside0.mk (blk_kept HG.out hk (blk_aparts_ HG.out H4.out (by decide)))
  have H21 := Aside0.mk (blk_kept H2.out hk (blk_aparts_ H2.out H4.out (by decide)))
  have H31 := Aside0.mk (blk_kept H3.out hk (blk_aparts_ H3.out H4.out (by decide)))
  have HU := Aside0.mk hu
  have HR := Aside0.mk hr
  have HK := Aside0.mk (hk.mono (S' := mayW (.slice Ap path.length cp) (.slice As seen.length cs) ob) (fun k hk => .inr (.inr hk)))
  have HB1 := Aside0.mk hb
  clear hu hr hk hb
  have x6 : w1.cell? ⟨gb, 6, none⟩ = some (.slice (some ad6) near.length c6) := (blk_cell HG1.out 6).trans rfl
  obtain ⟨ad1, e1, hx1⟩ := Kd.at_int (Kd.R_reads' HP1.out).2.2 j p1 q1
  subst e1
  replace hx6 := (HB1.out.cell (World.block_lt_of_cell? w0 _ hx6)).trans hx6
  replace p1 := eq_true p1
  replace q1 := eq_true q1
  replace c2 := eq_true c2
  replace c3 := eq_true c3
  dsimp only
  go_wp2
  go_quiet (fail)
  go_wp2
  go_loopg [28] k (fun kq v28 w' => ∃ (i : Int) (seen1 : List Bool) (out1 : List Int), v28 = .int .i64 i ∧ Aside0 (impl_graph_walks.l0 kq near cells path seen1 out1 row i = some (r1, r2, r3)) ∧ Aside0 (kq ≤ k) ∧ Aside0 (Kd.R (Kd.int .i64) 3 w' w0.heap.size (fun _ => True) (.slice (some ad1) path.length cp) path) ∧ Aside0 (Kd.R Kd.bool 4 w' w0.heap.size (fun _ => True) (.slice As seen.length cs) seen1) ∧ Aside0 (∃ u, w'.heap[ob]? = some (.cells #[u] 22 (0, 0)) ∧ Kd.R (Kd.int .i64) 3 w' w0.heap.size (fun k => ok k ∨ w.heap.size ≤ k) u out1) ∧ Aside0 (w'.heap[gb]? = some (.cells #[.int .i64 a0_0, .int .i64 a0_1, .slice A0_2 l0_2.length c0_2, .int .i64 a1_0, .int .i64 a1_1, .slice A5 cells.length c5, .slice (some ad6) near.length c6] 78 (0, 0))) ∧ Aside0 (w'.heap[b2]? = some (.cells #[.pointer (some ⟨gb, 0, none⟩)] 58 (0, 0))) ∧ Aside0 (w'.heap[b3]? = some (.cells #[.func (.func 47) #[] #[]] 45 (0, 0))) ∧ Aside0 (Kept w w' (mayW (.slice (some ad1) path.length cp) (.slice As seen.length cs) ob)) ∧ Aside0 (Below w0.heap.size w0 w'))
  case atStart => exact ⟨0, seen, f2, rfl, HH, ⟨Nat.le_refl _⟩, ⟨Kd.R_drewN HP1.out _⟩, ⟨Kd.R_drewN HS1.out _⟩, ⟨⟨u, blk_drewN HU.out _, Kd.R_drewN HR.out _⟩⟩, ⟨blk_drewN HG1.out _⟩, ⟨blk_drewN H21.out _⟩, ⟨blk_drewN H31.out _⟩, ⟨Kept.drewN HK.out _⟩, ⟨pw_below_drewN HB1.out _⟩⟩
  case round =>
   obtain ⟨i, seen1, out1, rfl, HA, HK1, HPw, HSw, HUw, HGw, H2w, H3w, HKw, HBw⟩ := hrel
   cases gk with
   | zero => exact absurd HA.out (by simp [impl_graph_walks.l0])
   | succ k1 =>
   have h := HA.out
   clear HA
   simp only [impl_graph_walks.l0] at h
   by_cases d1 : i < (row.length : Int)
   rotate_left
   · rw [if_neg d1] at h
     simp only [Option.some.injEq, Prod.mk.injEq] at h
     obtain ⟨rfl, rfl, rfl⟩ := h
     have d1b : decide (i < (row.length : Int)) = false := decide_eq_false d1
     go_wp2
     go_ret
     exact ⟨rfl, HPw.out, HSw.out, HUw.out, HBw.out, HKw.out⟩
   rw [if_pos d1] at h
   by_cases d2 : 0 ≤ i
   rotate_left
   · rw [if_neg d2] at h; exact absurd h (by simp)
   rw [if_pos d2] at h
   by_cases d3 : 0 ≤ rd row i
   rotate_left
   · rw [if_neg d3] at h; exact absurd h (by simp)
   rw [if_pos d3] at h
   by_cases d4 : rd row i < (seen1.length : Int)
   rotate_left
   · rw [if_neg d4] at h; exact absurd h (by simp)
   rw [if_pos d4] at h
   obtain ⟨d, hd⟩ : ∃ d, rd row i = d := ⟨_, rfl⟩
   have hsl : seen.length = seen1.length := (Kd.R_reads' HSw.out).1
   obtain ⟨ad10, e10, hx10⟩ := Kd.at_int HROW.out i d2 d1
   subst e10
   replace hx10 := (HBw.out.cell (World.block_lt_of_cell? w0 _ hx10)).trans hx10
   rw [hd] at h hx10 d3 d4
   obtain ⟨sb, csb, esb, gsb, lsb, clsb, HGsb⟩ := Kd.R_form HSw.out (by omega)
   have hcs : cs = csb := by injection esb
   have hAs : As = some ⟨sb, 0, none⟩ := by injection esb
   clear esb
   subst hcs hAs
   have d4' : d < (seen.length : Int) := by omega
   have HSL := Aside0.mk hsl
   clear hsl
   obtain ⟨b, hb⟩ : ∃ b, rdOf false seen1 d = b := ⟨_, rfl⟩
   obtain ⟨hx11, hf11⟩ := Kd.R_celln false HSw.out d d3 d4'
   rw [hb] at h hx11
   have d1b : decide (i < (row.length : Int)) = true := decide_eq_true d1
   replace d2 := eq_true d2
   replace d1 := eq_true d1
   replace d3 := eq_true d3
   replace d4 := eq_true d4
   replace d4' := eq_true d4'
   cases b with
   | true =>
     rw [if_pos rfl] at h
     have HH2 := Aside0.mk h
     clear h
     go_wp2
     go_roundg k1
     case measure => have := HK1.out; omega
     case rel => exact ⟨wrap64 (i + 1), seen1, out1, by first | rfl | (simp; done) | (simp [*]; done), HH2, ⟨by have := HK1.out; omega⟩, HPw, HSw, HUw, HGw, H2w, H3w, HKw, HBw⟩
   | false =>
     rw [if_neg (by simp)] at h
     by_cases d5 : path.length < 17592186044415
     rotate_left
     · rw [if_neg d5] at h; exact absurd h (by simp)
     rw [if_pos d5] at h
     obtain ⟨⟨t1, t2, t3⟩, hF2, hh⟩ := Option.bind_eq_some_iff.1 h
     clear h
     have HF2 := Aside0.mk hF2
     clear hF2
     dsimp only at hh
     by_cases d6 : d < (t2.length : Int)
     rotate_left
     · rw [if_neg d6] at hh; exact absurd hh (by simp)
     rw [if_pos d6] at hh
     have HH3 := Aside0.mk hh
     have HD6 := Aside0.mk d6
     have GSB := Aside0.mk gsb
     have C1 := Aside0.mk c1
     have D5 := Aside0.mk d5
     have HP21 := Aside0.mk (Kd.R_putg HSw.out d true)
     obtain ⟨u1, hu1, hr1⟩ := HUw.out
     have HU1 := Aside0.mk hu1
     have HR1 := Aside0.mk hr1
     clear hh d6 gsb c1 d5 hu1 hr1 HGsb
     have hCalls : ∀ (w2 : World) (v1 : Value) (w3 : World), w2 = wr.setCell ⟨sb, d.toNat, none⟩ (.bool true) → Kd.R (Kd.int .i64) 3 w2 w0.heap.size (fun _ => True) (.slice (some ad1) path.length cp) path → Kd.R (Kd.int .i64) 3 w3 w0.heap.size (fun _ => True) v1 (path ++ [d]) → Below w0.heap.size w0 w3 → w2.grownBy w3 (Value.slice (some ad1) path.length cp).ownBlock → ((∃ A c, Value.slice (some ad1) path.length cp = .slice A path.length c ∧ v1 = .slice A (path.length + 1) c) ∨ ((∃ b, v1.ownBlock = some b ∧ w2.heap.size ≤ b) ∧ w2.grownBy w3 none)) →
       Calls Try.prog 81 #[.pointer (some ⟨gb, 0, none⟩), v1, .slice (some ⟨sb, 0, none⟩) seen.length cs, .func (.func 70) #[] #[.pointer (some ⟨b3, 0, none⟩), .pointer (some ⟨ob, 0, none⟩), .pointer (some ⟨b2, 0, none⟩)]] w3 fun e w4 => e = .returned (.bool t1) ∧
         Kd.R (Kd.int .i64) 3 w4 w0.heap.size (fun _ => True) (.slice (some ad1) path.length cp) path ∧ Kd.R Kd.bool 4 w4 w0.heap.size (fun _ => True) (.slice (some ⟨sb, 0, none⟩) seen.length cs) t2 ∧ (∃ u, w4.heap[ob]? = some (.cells #[u] 22 (0, 0)) ∧ Kd.R (Kd.int .i64) 3 w4 w0.heap.size (fun k => ok k ∨ w.heap.size ≤ k) u t3) ∧ Below w0.heap.size w0 w4 ∧ Kept w w4 (mayW (.slice (some ad1) path.length cp) (.slice (some ⟨sb, 0, none⟩) seen.length cs) ob) := by
      intro w2 v1 w3 hw hp2 ho hb hg3 hat
      have hg : wr.grownBy w2 (some sb) := by rw [hw]; exact HP21.out.2
      have hs2 : Kd.R Kd.bool 4 w2 w0.heap.size (fun _ => True) (.slice (some ⟨sb, 0, none⟩) seen.length cs) (seen1.set d.toNat true) := by rw [hw]; exact HP21.out.1
      have hu2 := blk_grown HU1.out hg (Kd.R_ne HSw.out HU1.out (by decide))
      have hG2 := blk_grown HGw.out hg (Kd.R_ne HSw.out HGw.out (by decide))
      have h22 := blk_grown H2w.out hg (Kd.R_ne HSw.out H2w.out (by decide))
      have h32 := blk_grown H3w.out hg (Kd.R_ne HSw.out H3w.out (by decide))
      have hr2 : Kd.R (Kd.int .i64) 3 w2 w0.heap.size (fun k => ok k ∨ w.heap.size ≤ k) u1 out1 := Kd.R_over' (v := .slice (some ⟨sb, 0, none⟩) seen.length cs) HR1.out (Kd.R_typed HSw.out) (by decide) hg
      have hk2 : Kept w w2 (mayW (.slice (some ad1) path.length cp) (.slice (some ⟨sb, 0, none⟩) seen.length cs) ob) := Kept.of_grown hg HKw.out (fun k e => .inl (.inr (.inl e.symm)))
      have hs3 : Kd.R Kd.bool 4 w3 w0.heap.size (fun _ => True) (.slice (some ⟨sb, 0, none⟩) seen.length cs) (seen1.set d.toNat true) := Kd.R_over' (v := .slice (some ad1) path.length cp) hs2 (Kd.R_typed hp2) (by decide) hg3
      have hu3 := blk_grown hu2 hg3 (Kd.R_ne hp2 hu2 (by decide))
      have hG3 := blk_grown hG2 hg3 (Kd.R_ne hp2 hG2 (by decide))
      have h23 := blk_grown h22 hg3 (Kd.R_ne hp2 h22 (by decide))
      have h33 := blk_grown h32 hg3 (Kd.R_ne hp2 h32 (by decide))
      have hr3 : Kd.R (Kd.int .i64) 3 w3 w0.heap.size (fun k => (ok k ∨ w.heap.size ≤ k) ∧ k < w2.heap.size) u1 out1 := Kd.R_mono (Kd.R_grown (Kd.R_bound hr2) hg3 (fun k hk => HOK.out k hk.1)) (fun k hk => ⟨hk.1, hk.2.2.1⟩)
      have hok3 : ∀ k, ((ok k ∨ w.heap.size ≤ k) ∧ k < w2.heap.size) → some k ≠ v1.ownBlock := by
       intro k hk
       rcases hat with ⟨A, c, e1, e2⟩ | ⟨⟨b, hb1, hle⟩, _⟩
       · injection e1 with e3 _ e4
         subst e3 e4
         rw [e2]
         exact HOK.out k hk.1
       · rw [hb1]
         intro e
         have := hk.2
         cases e
         omega
      refine (ih k1 (by have := HK1.out; omega) v1 _ u1 (path ++ [d]) (seen1.set d.toNat true) out1 t1 t2 t3 w3 _ hok3 hb hG3 h23 h33 hu3 ho hs3 hr3 HF2.out).mono ?_
      rintro e w4 ⟨rfl, hp4, hs4, ⟨u4, hu4, hr4⟩, hb4, hk4⟩
      obtain ⟨hpb, hkb⟩ := row_back (S := fun k => some k = (Value.slice (some ⟨sb, 0, none⟩) seen.length cs).ownBlock ∨ k = ob) hp2 hg3 hat hp4 hk4 NPS.out
      have hsz : w.heap.size ≤ w3.heap.size := Nat.le_trans hk2.1 hg3.size
      exact ⟨rfl, hpb, hs4, ⟨u4, hu4, Kd.R_mono hr4 (fun k hk => hk.elim (fun h => h.1) (fun h => .inr (by omega)))⟩, hb4, hk2.then_ hkb (fun k hk => .inl hk)⟩
     have HCALL := Aside0.mk hCalls
     clear hCalls
     go_wp2_with (first | ((with_reducible refine gate_store (t := 4) (p := 38) rfl ?_); refine store_event (t := 4) (p := 38) (v := ?vo) (w1 := (wr.setCell ⟨sb, d.toNat, none⟩ (.bool true))) ?hg ?ho ?hn ?hr ?_; (case ho => rfl); (case hg => rfl); (case hn => rfl); (case hr => first | (go_simp; done) | (go_simp; rfl)); intro w2 hw; have HW2 := Aside0.mk hw; have HP2 := Aside0.mk (show Kd.R (Kd.int .i64) 3 w2 w0.heap.size (fun _ => True) (.slice (some ad1) path.length cp) path from Kd.R_over' (v := .slice (some ⟨sb, 0, none⟩) seen.length cs) HPw.out (Kd.R_typed HSw.out) (by decide) (show wr.grownBy w2 (some sb) by rw [hw]; exact HP21.out.2)); have HB2 := Aside0.mk (show Below w0.heap.size w0 w2 by rw [hw]; exact HBw.out.setCell GSB.out _); clear hw) | ((with_reducible refine gate_builtin (b := .append) (xs := #[.tmp 40, .tmp 42]) rfl ?_); at_builtin; refine R_append_cap (Kd.int .i64) (w0 := w0) w0.heap.size rfl (.tmp 40) (.tmp 42) 22 3 (.int .i64 0) 8 rfl Try.underlying22 info3 rfl (by decide) (by omega) (.slice (some ad1) path.length cp) path d [.int .i64 d] (fun _ => True) (fun _ => False) rfl rfl rfl (fun _ hk => hk.elim) (fun _ _ => trivial) HP2.out HB2.out HB2.out.size (by have := D5.out; omega) C1.out ?_; intro v1 w3 ho hb hg3 hat; have HC := Aside0.mk (HCALL.out w2 v1 w3 HW2.out HP2.out ho hb hg3 hat); clear ho hb hg3 hat))
     refine HC.out.mono ?_
     rintro e w4 ⟨rfl, hp4, hs4, ⟨u4, hu4, hr4⟩, hb4, hk4⟩
     obtain ⟨hx12, hf12⟩ := Kd.R_celln false hs4 d (of_eq_true d3) (of_eq_true d4')
     have HP4 := Aside0.mk hp4
     have HS4 := Aside0.mk hs4
     have HU4 := Aside0.mk hu4
     have HR4 := Aside0.mk hr4
     have HB4 := Aside0.mk hb4
     have HK4 := Aside0.mk hk4
     have HP41 := Aside0.mk (Kd.R_putg hs4 d false)
     clear hp4 hs4 hu4 hr4 hb4 hk4 HC
     have fin : ∀ w5 : World, w5 = w4.setCell ⟨sb, d.toNat, none⟩ (.bool false) → Kd.R (Kd.int .i64) 3 w5 w0.heap.size (fun _ => True) (.slice (some ad1) path.length cp) path ∧ Kd.R Kd.bool 4 w5 w0.heap.size (fun _ => True) (.slice (some ⟨sb, 0, none⟩) seen.length cs) (t2.set d.toNat false) ∧ (∃ u, w5.heap[ob]? = some (.cells #[u] 22 (0, 0)) ∧ Kd.R (Kd.int .i64) 3 w5 w0.heap.size (fun k => ok k ∨ w.heap.size ≤ k) u t3) ∧ Below w0.heap.size w0 w5 ∧ Kept w w5 (mayW (.slice (some ad1) path.length cp) (.slice (some ⟨sb, 0, none⟩) seen.length cs) ob) := by
      intro w5 hw
      have hg : w4.grownBy w5 (some sb) := by rw [hw]; exact HP41.out.2
      refine ⟨Kd.R_over' (v := .slice (some ⟨sb, 0, none⟩) seen.length cs) HP4.out (Kd.R_typed HS4.out) (by decide) hg, by rw [hw]; exact HP41.out.1, ⟨u4, blk_grown HU4.out hg (Kd.R_ne HS4.out HU4.out (by decide)), Kd.R_over' (v := .slice (some ⟨sb, 0, none⟩) seen.length cs) HR4.out (Kd.R_typed HS4.out) (by decide) hg⟩, by rw [hw]; exact HB4.out.setCell GSB.out _, Kept.of_grown hg HK4.out (fun k e => .inl (.inr (.inl e.symm)))⟩
     have FIN := Aside0.mk fin
     clear fin
     dsimp only
     cases t1 with
     | true =>
       have hh := HH3.out
       rw [if_pos rfl] at hh
       simp only [Option.some.injEq, Prod.mk.injEq] at hh
       obtain ⟨rfl, rfl, rfl⟩ := hh
       go_wp2
       go_ret
       exact ⟨rfl, FIN.out _ rfl⟩
     | false =>
       have hh := HH3.out
       rw [if_neg (by simp)] at hh
       have HH5 := Aside0.mk hh
       clear hh
       go_wp2
       go_roundg k1
       case measure => have := HK1.out; omega
       case rel =>
        obtain ⟨hp5, hs5, hu5, hb5, hk5⟩ := FIN.out _ rfl
        refine ⟨wrap64 (i + 1), t2.set d.toNat false, t3, by first | rfl | (simp; done) | (simp [*]; done), HH5, ⟨by have := HK1.out; omega⟩, ⟨hp5⟩, ⟨hs5⟩, ⟨hu5⟩, ⟨blk_kept HG.out hk5 NG.out⟩, ⟨blk_kept H2.out hk5 N2.out⟩, ⟨blk_kept H3.out hk5 N3.out⟩, ⟨hk5⟩, ⟨hb5⟩⟩
theorem infoB4 : (Try.prog.info? 4).map (fun i => (i.zero, i.size, i.bytes)) = some (some (.bool false), 1, 1) := by kernel_rfl
theorem seen_form {w1 : World} {B n : Nat} {ok : Nat → Prop} {v : Value} (h : Kd.R Kd.bool 4 w1 B ok v (List.replicate n false)) (hn : 0 < n) : ∃ g cap, v = .slice (some ⟨g, 0, none⟩) n cap := by
 obtain ⟨g, cap, ev, _⟩ := Kd.R_form h (by simpa using hn)
 exact ⟨g, cap, by rw [ev, List.length_replicate]⟩
def impl_graph_from.f (k : Nat) (near : List (List Int)) (cells : List Int) (c : Int) (out : List Int) : Option (Bool × List Int) := if near.length ≤ 35184372088832 then (if 0 ≤ c then (if c < (near.length : Int) then ((impl_graph_walks.f k near cells [c] ((List.replicate near.length false).set c.toNat true) out).bind fun b => some (b.1, b.2.2)) else none) else none) else none
set_option maxHeartbeats 8000000 in
set_option maxRecDepth 100000 in
theorem impl_graph_from.calls (gb b2 b3 ob : Nat) (a0_0 a0_1 : Int) (A0_2 : Option Addr) (c0_2 : Nat) (l0_2 : List Int) (a1_0 a1_1 : Int) (A5 : Option Addr) (c5 : Nat) (cells : List Int) (A6 : Option Addr) (c6 : Nat) (near : List (List Int)) (w0 : World)
  (hob : w0.heap.size ≤ ob) (hN : Kd.C (Kd.slice 3 (Kd.int .i64)) w0 A6 near.length near) (k : Nat) (c : Int) (uo : Value) (out : List Int) (r1 : Bool) (r3 : List Int) (w : World) (ok : Nat → Prop)
  (hB : Below w0.heap.size w0 w) (hg : w.heap[gb]? = some (.cells #[.int .i64 a0_0, .int .i64 a0_1, .slice A0_2 l0_2.length c0_2, .int .i64 a1_0, .int .i64 a1_1, .slice A5 cells.length c5, .slice A6 near.length c6] 78 (0, 0)))
  (h2 : w.heap[b2]? = some (.cells #[.pointer (some ⟨gb, 0, none⟩)] 58 (0, 0))) (h3 : w.heap[b3]? = some (.cells #[.func (.func 47) #[] #[]] 45 (0, 0))) (h4 : w.heap[ob]? = some (.cells #[uo] 22 (0, 0)))
  (ho : Kd.R (Kd.int .i64) 3 w w0.heap.size ok uo out) (h : impl_graph_from.f k near cells c out = some (r1, r3)) :
  Calls Try.prog 69 #[.pointer (some ⟨gb, 0, none⟩), .int .i64 c, .func (.func 70) #[] #[.pointer (some ⟨b3, 0, none⟩), .pointer (some ⟨ob, 0, none⟩), .pointer (some ⟨b2, 0, none⟩)]] w fun e w' => e = .returned (.bool r1) ∧
    (∃ u, w'.heap[ob]? = some (.cells #[u] 22 (0, 0)) ∧ Kd.R (Kd.int .i64) 3 w' w0.heap.size (fun k => ok k ∨ w.heap.size ≤ k) u r3) ∧ Below w0.heap.size w0 w' ∧ Kept w w' (fun k => k = ob) := by
 unfold impl_graph_from.f at h
 have HN := Aside0.mk hN
 have HG := Aside0.mk hg
 have H2 := Aside0.mk h2
 have H3 := Aside0.mk h3
 have H4 := Aside0.mk h4
 have HO := Aside0.mk ho
 have HB := Aside0.mk hB
 clear hN hg h2 h3 h4 ho hB
 by_cases c0 : near.length ≤ 35184372088832
 rotate_left
 · rw [if_neg c0] at h; exact absurd h (by simp)
 rw [if_pos c0] at h
 by_cases c1 : 0 ≤ c
 rotate_left
 · rw [if_neg c1] at h; exact absurd h (by simp)
 rw [if_pos c1] at h
 by_cases c2 : c < (near.length : Int)
 rotate_left
 · rw [if_neg c2] at h; exact absurd h (by simp)
 rw [if_pos c2] at h
 obtain ⟨⟨t1, t2, t3⟩, hF, hh⟩ := Option.bind_eq_some_iff.1 h
 clear h
 simp only [Option.some.injEq, Prod.mk.injEq] at hh
 obtain ⟨rfl, rfl⟩ := hh
 have HF := Aside0.mk hF
 clear hF
 have C0 := Aside0.mk c0
 clear c0
 have x6 : w.cell? ⟨gb, 6, none⟩ = some (.slice A6 near.length c6) := (blk_cell HG.out 6).trans rfl
 go_enter Try.func69, Try.ntmps69
 have hN0 : (List.replicate ((near.length : Int)).toNat false).length = near.length := by simp
 have C1 := Aside0.mk c1
 have C2 := Aside0.mk c2
 have HN0 := Aside0.mk hN0
 clear c1 c2 hN0
 have hCalls : ∀ (v1 : Value) (w1 : World) (g cap : Nat) (w2 w3 : World) (v3 : Value), v1 = .slice (some ⟨g, 0, none⟩) near.length cap → Kd.R Kd.bool 4 w1 w.heap.size (fun _ => True) v1 (List.replicate near.length false) → Below w.heap.size w w1 → w2 = w1.setCell ⟨g, c.toNat, none⟩ (.bool true) → Kd.R (Kd.int .i64) 3 w3 w2.heap.size (fun _ => True) v3 [c] → Below w2.heap.size w2 w3 →
   Calls Try.prog 81 #[.pointer (some ⟨gb, 0, none⟩), v3, v1, .func (.func 70) #[] #[.pointer (some ⟨b3, 0, none⟩), .pointer (some ⟨ob, 0, none⟩), .pointer (some ⟨b2, 0, none⟩)]] w3 fun e w' => e = .returned (.bool t1) ∧
    (∃ u, w'.heap[ob]? = some (.cells #[u] 22 (0, 0)) ∧ Kd.R (Kd.int .i64) 3 w' w0.heap.size (fun k => ok k ∨ w.heap.size ≤ k) u t3) ∧ Below w0.heap.size w0 w' ∧ Kept w w' (fun k => k = ob) := by
  intro v1 w1 g cap w2 w3 v3 hv hs1 hb1 hw hp3 hb3
  subst hv
  have hsz := HB.out.size
  have hput := Kd.R_putg hs1 c true
  have hgl : w.heap.size ≤ g := Kd.R_base hs1 g rfl
  have hs2 : Kd.R Kd.bool 4 w2 w.heap.size (fun _ => True) (.slice (some ⟨g, 0, none⟩) near.length cap) ((List.replicate near.length false).set c.toNat true) := by rw [hw]; exact hput.1
  have hb2 : Below w.heap.size w w2 := by rw [hw]; exact hb1.setCell hgl _
  have hb13 : Below w.heap.size w w3 := below_step hb2 hb3
  have hsz2 := hb2.size
  have hs3 : Kd.R Kd.bool 4 w3 w0.heap.size (fun _ => True) (.slice (some ⟨g, 0, none⟩) near.length cap) ((List.replicate near.length false).set c.toNat true) := Kd.R_lower (Kd.R_below hs2 hb3) hsz
  have hp3' : Kd.R (Kd.int .i64) 3 w3 w0.heap.size (fun _ => True) v3 [c] := Kd.R_lower hp3 (by omega)
  have hu3 : Kd.R (Kd.int .i64) 3 w3 w0.heap.size (fun k => ok k ∧ k < w.heap.size) uo out := Kd.R_mono (Kd.R_below (Kd.R_bound HO.out) hb13) (fun k hk => ⟨hk.1, hk.2.2.1⟩)
  refine (impl_graph_walks.calls gb b2 b3 ob a0_0 a0_1 A0_2 c0_2 l0_2 a1_0 a1_1 A5 c5 cells A6 c6 near w0 hob HN.out k v3 _ uo [c] _ out t1 t2 t3 w3 _ (fun k' hk e => ?_) (below_step HB.out hb13) (blk_below HG.out hb13) (blk_below H2.out hb13) (blk_below H3.out hb13) (blk_below H4.out hb13) hp3' hs3 hu3 HF.out).mono ?_
  · have := Kd.R_base hp3 k' e.symm
    have := hk.2
    omega
  · rintro e w4 ⟨rfl, _, _, ⟨u, hu, hr⟩, hb, hk⟩
    refine ⟨rfl, ⟨u, hu, Kd.R_mono hr (fun k' hk' => hk'.elim (fun h => .inl h.1) (fun h => .inr (Nat.le_trans hb13.size h)))⟩, hb, (Kept.of_below hb13 (fun k' => k' = ob)).then_ hk (fun k' hk' => ?_)⟩
    rcases hk' with h1 | h1 | h1
    · have := Kd.R_base hp3 k' h1.symm
      exact .inr (by omega)
    · have : k' = g := by simpa [Value.ownBlock] using h1
      exact .inr (by omega)
    · exact .inl h1
 have HCALL := Aside0.mk hCalls
 clear hCalls
 go_wp2_with (first | ((with_reducible refine gate_dst (N := 13) rfl ?_); refine Kd.R_make Kd.bool w.heap.size 4 rfl (N := 13) rfl 86 _ _ rfl (near.length : Int) ?q1 ?q2 ?q3 (.bool false) 1 ?q4 ?q5 ?q6 ?q7 false (ok := fun _ => True) (okp := fun _ => True) ?q8 (fun _ hk => hk) trivial ?q9 ?q10 (Below.refl _ _) (Nat.le_refl _) ?_; (case q1 => rfl); (case q2 => rfl); (case q3 => exact Try.underlying86); (case q4 => exact infoB4); (case q5 => rfl); (case q6 => decide); (case q7 => omega); (case q8 => rfl); (case q9 => omega); (case q10 => have := C0.out; omega); intro v1 w1 hs1_ hb1_ hg1_ hn1_; have hs1 : Kd.R Kd.bool 4 w1 w.heap.size (fun _ => True) v1 (List.replicate near.length false) := hs1_; obtain ⟨g, cap, ev2⟩ := seen_form hs1 (by have := C1.out; have := C2.out; omega); subst ev2; obtain ⟨hx1, hf1⟩ := Kd.R_celln false hs1 c C1.out C2.out; have HS1 := Aside0.mk hs1; have HB1 := Aside0.mk hb1_; clear hs1 hs1_ hb1_ hg1_ hn1_; have c1 : (0 ≤ c) = True := eq_true C1.out; have c2 : (c < (near.length : Int)) = True := eq_true C2.out) | ((with_reducible refine gate_store (t := 4) (p := 16) rfl ?_); refine store_event (t := 4) (p := 16) (v := ?vo) (w1 := (w1.setCell ⟨g, c.toNat, none⟩ (.bool true))) ?hg ?ho ?hn ?hr ?_; (case ho => rfl); (case hg => rfl); (case hn => rfl); (case hr => first | (go_simp; done) | (go_simp; rfl)); intro w2 hw; have HW2 := Aside0.mk hw; clear hw) | ((with_reducible refine gate_dst (N := 19) rfl ?_); refine Kd.R_lit (Kd.int .i64) _ 3 ?hg (N := 19) ?hd (xs := ([c] : List Int)) (inner := [.int .i64 c]) (ok := fun _ => True) (okp := fun _ => True) ?hr ?hp (fun _ hk => hk) trivial (Below.refl _ _) (Nat.le_refl _) (by simp) ?_; (case hd => rfl); (case hg => rfl); (case hr => first | (go_simp; done) | (go_simp; rfl)); (case hp => exact (Reps.one (show Kd.M (Kd.int .i64) _ _ _ c [.int .i64 c] from rfl) (Reps.none _ _))); intro v3 w3 ho4 hb4 hg_ hnew_; have HC := Aside0.mk (HCALL.out _ w1 g cap w2 w3 v3 rfl HS1.out HB1.out HW2.out ho4 hb4); clear ho4 hb4 hg_ hnew_))
 refine HC.out.mono ?_
 rintro e w4 ⟨rfl, hfin⟩
 have HFIN := Aside0.mk hfin
 clear hfin HC
 dsimp only
 go_wp2
 go_ret
 exact ⟨rfl, HFIN.out⟩
def longestM.l0 : Nat → List (List Int) → List Int → List Int → Int → Option (List Int)
 | 0, _, _, _, _ => none
 | k + 1, near, cells, out, i => if i < (cells.length : Int) then (if 0 ≤ i then ((impl_graph_from.f k near cells (rd cells i) out).bind fun b => (if b.2.length = cells.length then some b.2 else longestM.l0 k near cells b.2 (wrap64 (i + 1)))) else none) else some out
def longestM.f (k : Nat) (near : List (List Int)) (cells : List Int) : Option (List Int) := longestM.l0 k near cells [] 0
set_option maxHeartbeats 8000000 in
set_option maxRecDepth 100000 in
theorem longestM.calls (gb : Nat) (a0_0 a0_1 : Int) (A0_2 : Option Addr) (c0_2 : Nat) (l0_2 : List Int) (a1_0 a1_1 : Int) (A5 : Option Addr) (c5 : Nat) (cells : List Int) (A6 : Option Addr) (c6 : Nat) (near : List (List Int)) (k : Nat) (r : List Int) (w : World)
  (hg : w.heap[gb]? = some (.cells #[.int .i64 a0_0, .int .i64 a0_1, .slice A0_2 l0_2.length c0_2, .int .i64 a1_0, .int .i64 a1_1, .slice A5 cells.length c5, .slice A6 near.length c6] 78 (0, 0)))
  (hC : Kd.C (Kd.int .i64) w A5 cells.length cells) (hN : Kd.C (Kd.slice 3 (Kd.int .i64)) w A6 near.length near) (h : longestM.f k near cells = some r) :
  Calls Try.prog 46 #[.pointer (some ⟨gb, 0, none⟩), .func (.func 47) #[] #[]] w fun e w' => ∃ v : Value, e = .returned v ∧ Kd.R (Kd.int .i64) 3 w' w.heap.size (fun _ => True) v r ∧ Below w.heap.size w w' := by
 have HN := Aside0.mk hN
 have HC := Aside0.mk hC
 have HG := Aside0.mk hg
 have HH := Aside0.mk (show longestM.l0 k near cells [] 0 = some r from h)
 clear hN hC hg h
 go_enter Try.func46, Try.ntmps46
 go_wp2_with (first | ((with_reducible refine gate_dst (N := 2) rfl ?_); refine box_event ?hg (N := 2) ?hd (cs := #[.pointer (some ⟨gb, 0, none⟩)]) (t := 58) ?hr ?_; (case hd => rfl); (case hg => rfl); (case hr => first | (go_simp; done) | (go_simp; rfl)); intro b2 b2_ wa hbox_b2 hb_b2; have B2a := Aside0.mk hbox_b2; have HBa := Aside0.mk hb_b2; have HGa := Aside0.mk (blk_below HG.out hb_b2); clear hbox_b2 hb_b2 b2_) | ((with_reducible refine gate_dst (N := 3) rfl ?_); refine box_event ?hg (N := 3) ?hd (cs := #[.func (.func 47) #[] #[]]) (t := 45) ?hr ?_; (case hd => rfl); (case hg => rfl); (case hr => first | (go_simp; done) | (go_simp; rfl)); intro b3 b3_ wb hbox_b3 hb_b3; have B2b := Aside0.mk (blk_below B2a.out hb_b3); have B3b := Aside0.mk hbox_b3; have HBb := Aside0.mk (below_step HBa.out hb_b3); have HGb := Aside0.mk (blk_below HGa.out hb_b3); clear hbox_b3 hb_b3 b3_) | ((with_reducible refine gate_dst (N := 5) rfl ?_); refine box_event ?hg (N := 5) ?hd (cs := #[.slice none 0 0]) (t := 22) ?hr ?_; (case hd => rfl); (case hg => rfl); (case hr => first | (go_simp; done) | (go_simp; rfl)); intro ob ob_ wc hbox_ob hb_ob; have B2 := Aside0.mk (blk_below B2b.out hb_ob); have B3 := Aside0.mk (blk_below B3b.out hb_ob); have HB := Aside0.mk (below_step HBb.out hb_ob); have HGc := Aside0.mk (blk_below HGb.out hb_ob); have HO := Aside0.mk hbox_ob; have HOB := Aside0.mk (show w.heap.size ≤ ob by rw [ob_]; exact HBb.out.size); have x2 : wc.cell? ⟨b2, 0, none⟩ = some (.pointer (some ⟨gb, 0, none⟩)) := (blk_cell B2.out 0).trans rfl; have xg5 : wc.cell? ⟨gb, 5, none⟩ = some (.slice A5 cells.length c5) := (blk_cell HGc.out 5).trans rfl; clear hbox_ob hb_ob ob_ B2a HBa HGa B2b B3b HBb HGb))
 have hmf : ∀ (fn : Fn) (first cap : Array Value) (w : World), (Instr.makeFunc fn first cap).run Try.prog w = .ok (.func fn first cap) w := fun _ _ _ _ => rfl
 go_loopg [13] k (fun kq v13 w' => ∃ (i : Int) (out1 : List Int), v13 = .int .i64 i ∧ Aside0 (longestM.l0 kq near cells out1 i = some r) ∧ Aside0 (kq ≤ k) ∧ Aside0 (∃ u, w'.heap[ob]? = some (.cells #[u] 22 (0, 0)) ∧ Kd.R (Kd.int .i64) 3 w' w.heap.size (fun _ => True) u out1) ∧ Aside0 (w'.heap[gb]? = some (.cells #[.int .i64 a0_0, .int .i64 a0_1, .slice A0_2 l0_2.length c0_2, .int .i64 a1_0, .int .i64 a1_1, .slice A5 cells.length c5, .slice A6 near.length c6] 78 (0, 0))) ∧ Aside0 (w'.heap[b2]? = some (.cells #[.pointer (some ⟨gb, 0, none⟩)] 58 (0, 0))) ∧ Aside0 (w'.heap[b3]? = some (.cells #[.func (.func 47) #[] #[]] 45 (0, 0))) ∧ Aside0 (Below w.heap.size w w'))
 case atStart => exact ⟨0, [], rfl, HH, ⟨Nat.le_refl _⟩, ⟨⟨_, HO.out, Kd.R_nil _ _ _ _ _⟩⟩, HGc, B2, B3, HB⟩
 case round =>
  obtain ⟨i, out1, rfl, HA, HK1, HU, HGw, H2w, H3w, HBw⟩ := hrel
  cases gk with
  | zero => exact absurd HA.out (by simp [longestM.l0])
  | succ k1 =>
  have h := HA.out
  clear HA x2 xg5
  simp only [longestM.l0] at h
  obtain ⟨u1, hu1, hr1⟩ := HU.out
  have HU1 := Aside0.mk hu1
  have HR1 := Aside0.mk hr1
  clear HU hu1 hr1
  have x4 : wr.cell? ⟨ob, 0, none⟩ = some u1 := (blk_cell HU1.out 0).trans rfl
  by_cases d1 : i < (cells.length : Int)
  rotate_left
  · rw [if_neg d1] at h
    simp only [Option.some.injEq] at h
    subst h
    have d1b : decide (i < (cells.length : Int)) = false := decide_eq_false d1
    go_wp2
    go_ret
    exact ⟨_, rfl, HR1.out, HBw.out⟩
  rw [if_pos d1] at h
  by_cases d2 : 0 ≤ i
  rotate_left
  · rw [if_neg d2] at h; exact absurd h (by simp)
  rw [if_pos d2] at h
  obtain ⟨⟨t1, t2⟩, hF, hh⟩ := Option.bind_eq_some_iff.1 h
  clear h
  dsimp only at hh
  have HF := Aside0.mk hF
  clear hF
  have HH1 := Aside0.mk hh
  clear hh
  obtain ⟨c, hc⟩ : ∃ c, rd cells i = c := ⟨_, rfl⟩
  obtain ⟨ad10, e10, hx10⟩ := Kd.at_int HC.out i d2 d1
  subst e10
  replace hx10 := (HBw.out.cell (World.block_lt_of_cell? w _ hx10)).trans hx10
  have hFROM := (impl_graph_from.calls gb b2 b3 ob a0_0 a0_1 A0_2 c0_2 l0_2 a1_0 a1_1 (some ad10) c5 cells A6 c6 near w HOB.out HN.out k1 (rd cells i) u1 out1 t1 t2 wr (fun _ => True) HBw.out HGw.out H2w.out H3w.out HU1.out HR1.out HF.out)
  rw [hc] at hFROM hx10
  have HFROM := Aside0.mk hFROM
  have KG := Aside0.mk (blk_aparts_ HGw.out HU1.out (by decide))
  have K2 := Aside0.mk (blk_aparts_ H2w.out HU1.out (by decide))
  have K3 := Aside0.mk (blk_aparts_ H3w.out HU1.out (by decide))
  clear hFROM
  have x2 : wr.cell? ⟨b2, 0, none⟩ = some (.pointer (some ⟨gb, 0, none⟩)) := (blk_cell H2w.out 0).trans rfl
  have d1b : decide (i < (cells.length : Int)) = true := decide_eq_true d1
  replace d1 := eq_true d1
  replace d2 := eq_true d2
  go_wp2_with (fail)
  refine HFROM.out.mono ?_
  rintro e w4 ⟨rfl, ⟨u, hu, hr⟩, hb, hk⟩
  obtain ⟨Au, cu, eu⟩ := Kd.R_slice hr
  subst eu
  have HU4 := Aside0.mk hu
  have HR4 := Aside0.mk hr
  have HB4 := Aside0.mk hb
  have HG4 := Aside0.mk (blk_kept HGw.out hk KG.out)
  have H24 := Aside0.mk (blk_kept H2w.out hk K2.out)
  have H34 := Aside0.mk (blk_kept H3w.out hk K3.out)
  clear hu hr hb hk
  have y4 : w4.cell? ⟨ob, 0, none⟩ = some (.slice Au t2.length cu) := (blk_cell HU4.out 0).trans rfl
  have y2 : w4.cell? ⟨b2, 0, none⟩ = some (.pointer (some ⟨gb, 0, none⟩)) := (blk_cell H24.out 0).trans rfl
  have yg : w4.cell? ⟨gb, 5, none⟩ = some (.slice (some ad10) cells.length c5) := (blk_cell HG4.out 5).trans rfl
  dsimp only
  have hbl := beq_len t2.length cells.length
  by_cases d3 : t2.length = cells.length
  · have hh := HH1.out
    rw [if_pos d3] at hh
    simp only [Option.some.injEq] at hh
    subst hh
    have d3b : decide (t2.length = cells.length) = true := decide_eq_true d3
    have D3 := Aside0.mk d3
    clear d3
    go_wp2
    go_quiet (fail)
    have y5 : (w4.drewN nq).cell? ⟨ob, 0, none⟩ = some (.slice Au t2.length cu) := y4
    go_wp2
    go_ret
    exact ⟨_, rfl, Kd.R_mono (Kd.R_drewN HR4.out _) (fun _ _ => trivial), pw_below_drewN HB4.out _⟩
  · have hh := HH1.out
    rw [if_neg d3] at hh
    have HH2 := Aside0.mk hh
    clear hh
    have d3b : decide (t2.length = cells.length) = false := decide_eq_false d3
    have D3 := Aside0.mk d3
    clear d3
    go_wp2
    go_quiet (fail)
    go_wp2
    go_roundg k1
    case measure => have := HK1.out; omega
    case rel => exact ⟨wrap64 (i + 1), t2, by first | rfl | (simp; done) | (simp [*]; done), HH2, ⟨by have := HK1.out; omega⟩, ⟨⟨_, blk_drewN HU4.out _, Kd.R_mono (Kd.R_drewN HR4.out _) (fun _ _ => trivial)⟩⟩, ⟨blk_drewN HG4.out _⟩, ⟨blk_drewN H24.out _⟩, ⟨blk_drewN H34.out _⟩, ⟨pw_below_drewN HB4.out _⟩⟩
theorem impl_graph_walks.mono_l : ∀ k, (∀ y0 y1 y2 y3 y4 y5 y6, LeO (impl_graph_walks.l0 k y0 y1 y2 y3 y4 y5 y6) (impl_graph_walks.l0 (k + 1) y0 y1 y2 y3 y4 y5 y6)) ∧ (∀ y0 y1 y2 y3 y4, LeO (impl_graph_walks.f k y0 y1 y2 y3 y4) (impl_graph_walks.f (k + 1) y0 y1 y2 y3 y4))
 | 0 => ⟨fun _ _ _ _ _ _ _ r h => by simp [impl_graph_walks.l0] at h, fun _ _ _ _ _ r h => by simp [impl_graph_walks.f] at h⟩
 | k + 1 => by
  obtain ⟨ih0, ih1⟩ := impl_graph_walks.mono_l k
  refine ⟨?_, ?_⟩
  · intro y0 y1 y2 y3 y4 y5 y6
    unfold impl_graph_walks.l0
    repeat' first
    | exact ih0 _ _ _ _ _ _ _
    | exact ih1 _ _ _ _ _
    | exact LeO.refl _
    | exact LeO.none _
    | refine LeO.ite ?_ ?_
    | refine LeO.bind ?_ (fun _ => ?_)
  · intro y0 y1 y2 y3 y4
    unfold impl_graph_walks.f
    repeat' first
    | exact ih0 _ _ _ _ _ _ _
    | exact ih1 _ _ _ _ _
    | exact LeO.refl _
    | exact LeO.none _
    | refine LeO.ite ?_ ?_
    | refine LeO.bind ?_ (fun _ => ?_)
theorem impl_graph_from.mono (k : Nat) (near : List (List Int)) (cells : List Int) (c : Int) (out : List Int) : LeO (impl_graph_from.f k near cells c out) (impl_graph_from.f (k + 1) near cells c out) := by
  unfold impl_graph_from.f
  repeat' first
  | exact (impl_graph_walks.mono_l k).2 _ _ _ _ _
  | exact LeO.refl _
  | exact LeO.none _
  | refine LeO.ite ?_ ?_
  | refine LeO.bind ?_ (fun _ => ?_)
theorem longestM.mono_l : ∀ k, (∀ y0 y1 y2 y3, LeO (longestM.l0 k y0 y1 y2 y3) (longestM.l0 (k + 1) y0 y1 y2 y3))
 | 0 => fun _ _ _ _ r h => by simp [longestM.l0] at h
 | k + 1 => by
  have ih0 := longestM.mono_l k
  intro y0 y1 y2 y3
  unfold longestM.l0
  repeat' first
  | exact ih0 _ _ _ _
  | exact impl_graph_from.mono _ _ _ _ _
  | exact LeO.refl _
  | exact LeO.none _
  | refine LeO.ite ?_ ?_
  | refine LeO.bind ?_ (fun _ => ?_)
def impl_graph_longest.f (k : Nat) (a0_0 : Int) (a0_1 : Int) (l0_2 : List Int) (a0_3 : Int) (a0_4 : Int) (l0_5 : List Int) (l0_6 : List (List Int)) : Option (List Int) := longestM.f k l0_6 l0_5
theorem impl_graph_longest.mono : ∀ a0 a1 a2 a3 a4 a5 a6 k, LeO (impl_graph_longest.f k a0 a1 a2 a3 a4 a5 a6) (impl_graph_longest.f (k + 1) a0 a1 a2 a3 a4 a5 a6) := fun _ _ _ _ _ a5 a6 k => longestM.mono_l k a6 a5 [] 0
theorem impl_graph_longest.calls (k : Nat) (gb0 : Nat) (a0_0 : Int) (a0_1 : Int) (A0_2 : Option Addr) (c0_2 : Nat) (l0_2 : List Int) (a0_3 : Int) (a0_4 : Int) (A0_5 : Option Addr) (c0_5 : Nat) (l0_5 : List Int) (A0_6 : Option Addr) (c0_6 : Nat) (l0_6 : List (List Int)) (r : List Int) (w : World) (hg0 : w.heap[gb0]? = some (.cells #[.int .i64 a0_0, .int .i64 a0_1, .slice A0_2 l0_2.length c0_2, .int .i64 a0_3, .int .i64 a0_4, .slice A0_5 l0_5.length c0_5, .slice A0_6 l0_6.length c0_6] 78 (0, 0))) (hr0_2 : Kd.C (Kd.int .i64) w A0_2 l0_2.length l0_2) (hc0_2 : l0_2.length ≤ c0_2) (hr0_5 : Kd.C (Kd.int .i64) w A0_5 l0_5.length l0_5) (hc0_5 : l0_5.length ≤ c0_5) (hr0_6 : Kd.C (Kd.slice 3 (Kd.int .i64)) w A0_6 l0_6.length l0_6) (hc0_6 : l0_6.length ≤ c0_6) (h : impl_graph_longest.f k a0_0 a0_1 l0_2 a0_3 a0_4 l0_5 l0_6 = some r) :
  Calls Try.prog 46 #[.pointer (some ⟨gb0, 0, none⟩), .func (.func 47) #[] #[]] w fun e w' => ∃ v0_ : Value, e = .returned v0_ ∧ Kd.R (Kd.int .i64) 3 w' w.heap.size (fun _ => True) v0_ r ∧ Below w.heap.size w w' :=
  longestM.calls gb0 a0_0 a0_1 A0_2 c0_2 l0_2 a0_3 a0_4 A0_5 c0_5 l0_5 A0_6 c0_6 l0_6 k r w hg0 hr0_5 hr0_6 h
end Go.Proofs.Ytmfbhhicioepjaa.Q

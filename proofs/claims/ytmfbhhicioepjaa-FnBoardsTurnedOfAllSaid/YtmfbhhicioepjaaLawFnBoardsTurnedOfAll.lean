/- The row of the law FnBoardsTurnedOfAll: whatever the input, the law's function returns true; the plain law and the printed walk are what it stands on. -/
import Derived.Test.YtmfbhhicioepjaaRows
import Derived.Test.YtmfbhhicioepjaaQ14
import Derived.Test.YtmfbhhicioepjaaHLaw
import Derived.Test.YtmfbhhicioepjaaPureFnBoardsTurnedOfAll
import Derived.WalkKit
import Derived.ProofKit
import Derived.OpenShut
import Derived.ShutString
import Derived.ChangeOld
import Derived.Below
import Derived.SizedLaws
import Derived.Lib.SmallJoins
namespace Go.Proofs.Ytmfbhhicioepjaa.fnBoardsTurnedOfAll
open Go.ChangeShapes Go.WideShapes Go.ChangeAt Go.RowKit Go.Joins Go.Proofs.Ytmfbhhicioepjaa.H Go.Proofs.YtmfbhhicioepjaaW.PrintWords
set_option linter.unusedVariables false
theorem own : ownKnob Try.prog.godebug = none := by kernel_rfl
theorem laidOut : laidOutB Try.prog = true := by kernel_rfl
theorem cells30 : Try.prog.cellsOf 30 = 3 := by kernel_rfl
set_option maxHeartbeats 4000000 in
set_option maxRecDepth 100000 in
theorem lifted (os : Os) (started : os.Started) (H : Type) (enc : TypeId × Value → H) :
    ReturnsInHanded {} Try.checked os 4 .any (Rows.fnBoardsTurnedOfAllSpec.pre6 enc Try.prog Try.f4 Rows.fnBoardsTurnedOfAllRow.domain false) (Rows.fnBoardsTurnedOfAllSpec.post enc Try.prog Try.f4 false true false false) := by
  refine returnsInHanded_of_change_sized (C := Try.checked) own started (by kernel_rfl) Try.func4
    (ChangeSpec.witness6 (enc := enc) (C := Try.checked) false ⟨#[], #[.agg #[.int .i64 0, .int .i64 0, .slice none 0 0], .agg #[.int .i64 0, .int .i64 0, .slice none 0 0], .int .i64 0, .agg #[.int .i64 0, .int .i64 0, .slice none 0 0], .string ByteArray.empty, .int .i64 0, .int .i64 0], []⟩ 8 (by kernel_rfl) (by kernel_rfl) (by kernel_rfl) (by kernel_rfl)) ?_
  intro W base args ds gs before hval0 hW hcnd hsz0 _
  have hval : ∀ (j : Nat) t v, Try.f4.params[j]? = some t → args[j]? = some v → Value.okWide Try.prog W .any base t v := hval0
  have hW' := hW
  obtain ⟨p, q, hA0, hV, rfl, hfz, hnd⟩ := hW
  have hA : DataW.TrodAll enc Try.prog W 0 (fun _ => true) true Try.f4.params.toList args.toList ds p := hA0
  rw [Try.params4] at hA hval
  obtain ⟨v0, vs0, d0, ds0, p0, q0, hargs, rfl, rfl, h0, r0⟩ := trodAll_cons hA
  obtain ⟨v1, vs1, d1, ds1, p1, q1, rfl, rfl, rfl, h1, r1⟩ := trodAll_cons r0
  obtain ⟨v2, vs2, d2, ds2, p2, q2, rfl, rfl, rfl, h2, r2⟩ := trodAll_cons r1
  obtain ⟨v3, vs3, d3, ds3, p3, q3, rfl, rfl, rfl, h3, r3⟩ := trodAll_cons r2
  obtain ⟨v4, vs4, d4, ds4, p4, q4, rfl, rfl, rfl, h4, r4⟩ := trodAll_cons r3
  obtain ⟨v5, vs5, d5, ds5, p5, q5, rfl, rfl, rfl, h5, r5⟩ := trodAll_cons r4
  obtain ⟨v6, vs6, d6, ds6, p6, q6, rfl, rfl, rfl, h6, r6⟩ := trodAll_cons r5
  obtain ⟨rfl, rfl, rfl⟩ := trodAll_nil r6
  obtain rfl : args = #[v0, v1, v2, v3, v4, v5, v6] := by cases args; simp_all
  obtain ⟨rfl, rfl⟩ := trodVars_none hV
  have k0 := h0
  have lt0 : ∀ x ∈ p0, x.block < W.heap.size := by obtain ⟨m, hm⟩ := k0; exact DataW.trod_lt m _ _ _ hm
  obtain ⟨u0_0, u0_1, u0_2, y0_0, y0_1, y0_2, m0, rfl, hd0, hp0, hy0_0, hy0_1, hy0_2⟩ := open_agg3 Try.underlying30 (by kernel_rfl) cells30 (hval 0 30 v0 rfl rfl) h0
  obtain ⟨a0_0, e0_0, -, v0_0⟩ := DataW.trod_int Try.underlying3 hy0_0
  obtain rfl : u0_0 = .int .i64 a0_0 := by simpa using e0_0
  have w0_0 := i64_of v0_0
  obtain ⟨a0_1, e0_1, -, v0_1⟩ := DataW.trod_int Try.underlying3 hy0_1
  obtain rfl : u0_1 = .int .i64 a0_1 := by simpa using e0_1
  have w0_1 := i64_of v0_1
  obtain ⟨A0_2, c0_2, l0_2, rfl, hr0_2, hc0_2, w0_2⟩ := ints_row Try.underlying22 Try.underlying3 (by kernel_rfl) hy0_2
  have k1 := h1
  have lt1 : ∀ x ∈ p1, x.block < W.heap.size := by obtain ⟨m, hm⟩ := k1; exact DataW.trod_lt m _ _ _ hm
  obtain ⟨u1_0, u1_1, u1_2, y1_0, y1_1, y1_2, m1, rfl, hd1, hp1, hy1_0, hy1_1, hy1_2⟩ := open_agg3 Try.underlying30 (by kernel_rfl) cells30 (hval 1 30 v1 rfl rfl) h1
  obtain ⟨a1_0, e1_0, -, v1_0⟩ := DataW.trod_int Try.underlying3 hy1_0
  obtain rfl : u1_0 = .int .i64 a1_0 := by simpa using e1_0
  have w1_0 := i64_of v1_0
  obtain ⟨a1_1, e1_1, -, v1_1⟩ := DataW.trod_int Try.underlying3 hy1_1
  obtain rfl : u1_1 = .int .i64 a1_1 := by simpa using e1_1
  have w1_1 := i64_of v1_1
  obtain ⟨A1_2, c1_2, l1_2, rfl, hr1_2, hc1_2, w1_2⟩ := ints_row Try.underlying22 Try.underlying3 (by kernel_rfl) hy1_2
  have k2 := h2
  have lt2 : ∀ x ∈ p2, x.block < W.heap.size := by obtain ⟨m, hm⟩ := k2; exact DataW.trod_lt m _ _ _ hm
  obtain ⟨a2, rfl, -, -, v2⟩ := open_int Try.underlying3 (hval 2 3 v2 rfl rfl) h2
  have w2 := i64_of v2
  have k3 := h3
  have lt3 : ∀ x ∈ p3, x.block < W.heap.size := by obtain ⟨m, hm⟩ := k3; exact DataW.trod_lt m _ _ _ hm
  obtain ⟨u3_0, u3_1, u3_2, y3_0, y3_1, y3_2, m3, rfl, hd3, hp3, hy3_0, hy3_1, hy3_2⟩ := open_agg3 Try.underlying30 (by kernel_rfl) cells30 (hval 3 30 v3 rfl rfl) h3
  obtain ⟨a3_0, e3_0, -, v3_0⟩ := DataW.trod_int Try.underlying3 hy3_0
  obtain rfl : u3_0 = .int .i64 a3_0 := by simpa using e3_0
  have w3_0 := i64_of v3_0
  obtain ⟨a3_1, e3_1, -, v3_1⟩ := DataW.trod_int Try.underlying3 hy3_1
  obtain rfl : u3_1 = .int .i64 a3_1 := by simpa using e3_1
  have w3_1 := i64_of v3_1
  obtain ⟨A3_2, c3_2, l3_2, rfl, hr3_2, hc3_2, w3_2⟩ := ints_row Try.underlying22 Try.underlying3 (by kernel_rfl) hy3_2
  have k4 := h4
  have lt4 : ∀ x ∈ p4, x.block < W.heap.size := by obtain ⟨m, hm⟩ := k4; exact DataW.trod_lt m _ _ _ hm
  obtain ⟨a4, rfl, -, -, -⟩ := Go.ChangeMaps.open_string Try.underlying9 (hval 4 9 v4 rfl rfl) h4
  have k5 := h5
  have lt5 : ∀ x ∈ p5, x.block < W.heap.size := by obtain ⟨m, hm⟩ := k5; exact DataW.trod_lt m _ _ _ hm
  obtain ⟨a5, rfl, -, -, v5⟩ := open_int Try.underlying3 (hval 5 3 v5 rfl rfl) h5
  have w5 := i64_of v5
  have k6 := h6
  have lt6 : ∀ x ∈ p6, x.block < W.heap.size := by obtain ⟨m, hm⟩ := k6; exact DataW.trod_lt m _ _ _ hm
  obtain ⟨a6, rfl, -, -, v6⟩ := open_int Try.underlying3 (hval 6 3 v6 rfl rfl) h6
  have w6 := i64_of v6
  clear hA0 hval0 hsz0
  obtain ⟨k, hk⟩ := Pure.FnBoardsTurnedOfAll _ _ _ _ _ _ _ _ _ _ _ _ _ w0_0 w0_1 hr0_2.2.1 w0_2 w1_0 w1_1 hr1_2.2.1 w1_2 w2 w3_0 w3_1 hr3_2.2.1 w3_2 w5 w6
  refine (Q.laws_FnBoardsTurnedOfAll.calls (k := k) (a0_0 := a0_0) (a0_1 := a0_1) (A0_2 := A0_2) (c0_2 := c0_2) (l0_2 := l0_2) (hr0_2 := hr0_2) (hc0_2 := hc0_2) (a1_0 := a1_0) (a1_1 := a1_1) (A1_2 := A1_2) (c1_2 := c1_2) (l1_2 := l1_2) (hr1_2 := hr1_2) (hc1_2 := hc1_2) (a2 := a2) (a3_0 := a3_0) (a3_1 := a3_1) (A3_2 := A3_2) (c3_2 := c3_2) (l3_2 := l3_2) (hr3_2 := hr3_2) (hc3_2 := hc3_2) (a4 := a4) (a5 := a5) (a6 := a6) (r := true) (w := W) (h := hk)).mono fun e W' ⟨he, bel⟩ => ?_
  subst he
  exact ⟨_, rfl, _, _, _, [], _, [], hW', trodAll_mk1 (shut_bool Try.underlying4 _), (trodAll_cons_mk (Below.trod laidOut (by kernel_rfl) (of_decide_eq_true (by kernel_rfl)) k0 bel lt0) (trodAll_cons_mk (Below.trod laidOut (by kernel_rfl) (of_decide_eq_true (by kernel_rfl)) k1 bel lt1) (trodAll_cons_mk (Below.trod laidOut (by kernel_rfl) (of_decide_eq_true (by kernel_rfl)) k2 bel lt2) (trodAll_cons_mk (Below.trod laidOut (by kernel_rfl) (of_decide_eq_true (by kernel_rfl)) k3 bel lt3) (trodAll_cons_mk (Below.trod laidOut (by kernel_rfl) (of_decide_eq_true (by kernel_rfl)) k4 bel lt4) (trodAll_cons_mk (Below.trod laidOut (by kernel_rfl) (of_decide_eq_true (by kernel_rfl)) k5 bel lt5) (trodAll_cons_mk (Below.trod laidOut (by kernel_rfl) (of_decide_eq_true (by kernel_rfl)) k6 bel lt6) trodAll_mk0))))))), rfl, bel.frame _, fun h => by cases h⟩
theorem over : Rows.fnBoardsTurnedOfAllRow.holds Try.pinned (OpenSpec.ofChange Rows.fnBoardsTurnedOfAllSpec) :=
  OpenClaim.holds_of_wide 4 Try.f4 rfl rfl rfl rfl rfl rfl rfl ⟨rfl, rfl, rfl, rfl, rfl⟩ rfl rfl rfl rfl rfl (by kernel_rfl) Try.func4 (by kernel_rfl)
    (of_decide_eq_true (by kernel_rfl)) (by unfold Func.isWrapper; first | (rw [if_pos (by decide +kernel)]; kernel_rfl) | (rw [if_neg (by decide +kernel)]; exact ⟨rfl, rfl⟩))
    (fun os started H enc _ => lifted os started H enc)
theorem proved : Rows.FnBoardsTurnedOfAllSaid := over
end Go.Proofs.Ytmfbhhicioepjaa.fnBoardsTurnedOfAll
namespace Go.Proofs.Ytmfbhhicioepjaa
/-- The row, under a short name, for the claim. -/
theorem fnBoardsTurnedOfAll_holds : Rows.FnBoardsTurnedOfAllSaid := fnBoardsTurnedOfAll.proved
#print axioms fnBoardsTurnedOfAll_holds
end Go.Proofs.Ytmfbhhicioepjaa

/- The row of the law FnExactLongestWalk: whatever the input, the law's function returns true; the plain law and the printed walk are what it stands on. -/
import Derived.Test.YtmfbhhicioepjaaRows
import Derived.Test.YtmfbhhicioepjaaQ8
import Derived.Test.YtmfbhhicioepjaaHLaw
import Derived.Test.YtmfbhhicioepjaaPureFnExactLongestWalk
import Derived.WalkKit
import Derived.ProofKit
import Derived.OpenShut
import Derived.ShutString
import Derived.ChangeOld
import Derived.Below
import Derived.SizedLaws
import Derived.Lib.SmallJoins
namespace Go.Proofs.Ytmfbhhicioepjaa.fnExactLongestWalk
open Go.ChangeShapes Go.WideShapes Go.ChangeAt Go.RowKit Go.Joins Go.Proofs.Ytmfbhhicioepjaa.H Go.Proofs.YtmfbhhicioepjaaW.PrintWords
set_option linter.unusedVariables false
theorem own : ownKnob Try.prog.godebug = none := by kernel_rfl
theorem laidOut : laidOutB Try.prog = true := by kernel_rfl
theorem cells24 : Try.prog.cellsOf 24 = 3 := by kernel_rfl
theorem cells26 : Try.prog.cellsOf 26 = 2 := by kernel_rfl
set_option maxHeartbeats 4000000 in
set_option maxRecDepth 100000 in
theorem lifted (os : Os) (started : os.Started) (H : Type) (enc : TypeId × Value → H) :
    ReturnsInHanded {} Try.checked os 3 .any (Rows.fnExactLongestWalkSpec.pre6 enc Try.prog Try.f3 Rows.fnExactLongestWalkRow.domain false) (Rows.fnExactLongestWalkSpec.post enc Try.prog Try.f3 false true false false) := by
  refine returnsInHanded_of_change_sized (C := Try.checked) own started (by kernel_rfl) Try.func3
    (ChangeSpec.witness6 (enc := enc) (C := Try.checked) false ⟨#[], #[.agg #[.int .i64 0, .int .i64 0, .slice none 0 0], .agg #[.int .i64 0, .int .i64 0]], []⟩ 8 (by kernel_rfl) (by kernel_rfl) (by kernel_rfl) (by kernel_rfl)) ?_
  intro W base args ds gs before hval0 hW hcnd hsz0 _
  have hval : ∀ (j : Nat) t v, Try.f3.params[j]? = some t → args[j]? = some v → Value.okWide Try.prog W .any base t v := hval0
  have hW' := hW
  obtain ⟨p, q, hA0, hV, rfl, hfz, hnd⟩ := hW
  have hA : DataW.TrodAll enc Try.prog W 0 (fun _ => true) true Try.f3.params.toList args.toList ds p := hA0
  rw [Try.params3] at hA hval
  obtain ⟨v0, vs0, d0, ds0, p0, q0, hargs, rfl, rfl, h0, r0⟩ := trodAll_cons hA
  obtain ⟨v1, vs1, d1, ds1, p1, q1, rfl, rfl, rfl, h1, r1⟩ := trodAll_cons r0
  obtain ⟨rfl, rfl, rfl⟩ := trodAll_nil r1
  obtain rfl : args = #[v0, v1] := by cases args; simp_all
  obtain ⟨rfl, rfl⟩ := trodVars_none hV
  have k0 := h0
  have lt0 : ∀ x ∈ p0, x.block < W.heap.size := by obtain ⟨m, hm⟩ := k0; exact DataW.trod_lt m _ _ _ hm
  obtain ⟨u0_0, u0_1, u0_2, y0_0, y0_1, y0_2, m0, rfl, hd0, hp0, hy0_0, hy0_1, hy0_2⟩ := open_agg3 Try.underlying24 (by kernel_rfl) cells24 (hval 0 24 v0 rfl rfl) h0
  obtain ⟨a0_0, e0_0, -, v0_0⟩ := DataW.trod_int Try.underlying3 hy0_0
  obtain rfl : u0_0 = .int .i64 a0_0 := by simpa using e0_0
  have w0_0 := i64_of v0_0
  obtain ⟨a0_1, e0_1, -, v0_1⟩ := DataW.trod_int Try.underlying3 hy0_1
  obtain rfl : u0_1 = .int .i64 a0_1 := by simpa using e0_1
  have w0_1 := i64_of v0_1
  obtain ⟨A0_2, c0_2, l0_2, rfl, hr0_2, hc0_2, w0_2⟩ := ints_row Try.underlying22 Try.underlying3 (by kernel_rfl) hy0_2
  have k1 := h1
  have lt1 : ∀ x ∈ p1, x.block < W.heap.size := by obtain ⟨m, hm⟩ := k1; exact DataW.trod_lt m _ _ _ hm
  obtain ⟨u1_0, u1_1, y1_0, y1_1, m1, rfl, hd1, hp1, hy1_0, hy1_1⟩ := open_agg2 Try.underlying26 (by kernel_rfl) cells26 (hval 1 26 v1 rfl rfl) h1
  obtain ⟨a1_0, e1_0, -, v1_0⟩ := DataW.trod_int Try.underlying3 hy1_0
  obtain rfl : u1_0 = .int .i64 a1_0 := by simpa using e1_0
  have w1_0 := i64_of v1_0
  obtain ⟨a1_1, e1_1, -, v1_1⟩ := DataW.trod_int Try.underlying3 hy1_1
  obtain rfl : u1_1 = .int .i64 a1_1 := by simpa using e1_1
  have w1_1 := i64_of v1_1
  clear hA0 hval0 hsz0
  obtain ⟨k, hk⟩ := Pure.FnExactLongestWalk _ _ _ _ _ w0_0 w0_1 hr0_2.2.1 w0_2 w1_0 w1_1
  refine (Q.laws_FnExactLongestWalk.calls (k := k) (a0_0 := a0_0) (a0_1 := a0_1) (A0_2 := A0_2) (c0_2 := c0_2) (l0_2 := l0_2) (hr0_2 := hr0_2) (hc0_2 := hc0_2) (a1_0 := a1_0) (a1_1 := a1_1) (r := true) (w := W) (h := hk)).mono fun e W' ⟨he, bel⟩ => ?_
  subst he
  exact ⟨_, rfl, _, _, _, [], _, [], hW', trodAll_mk1 (shut_bool Try.underlying4 _), (trodAll_cons_mk (Below.trod laidOut (by kernel_rfl) (of_decide_eq_true (by kernel_rfl)) k0 bel lt0) (trodAll_cons_mk (Below.trod laidOut (by kernel_rfl) (of_decide_eq_true (by kernel_rfl)) k1 bel lt1) trodAll_mk0)), rfl, bel.frame _, fun h => by cases h⟩
theorem over : Rows.fnExactLongestWalkRow.holds Try.pinned (OpenSpec.ofChange Rows.fnExactLongestWalkSpec) :=
  OpenClaim.holds_of_wide 3 Try.f3 rfl rfl rfl rfl rfl rfl rfl ⟨rfl, rfl, rfl, rfl, rfl⟩ rfl rfl rfl rfl rfl (by kernel_rfl) Try.func3 (by kernel_rfl)
    (of_decide_eq_true (by kernel_rfl)) (by unfold Func.isWrapper; first | (rw [if_pos (by decide +kernel)]; kernel_rfl) | (rw [if_neg (by decide +kernel)]; exact ⟨rfl, rfl⟩))
    (fun os started H enc _ => lifted os started H enc)
theorem proved : Rows.FnExactLongestWalkSaid := over
end Go.Proofs.Ytmfbhhicioepjaa.fnExactLongestWalk
namespace Go.Proofs.Ytmfbhhicioepjaa
/-- The row, under a short name, for the claim. -/
theorem fnExactLongestWalk_holds : Rows.FnExactLongestWalkSaid := fnExactLongestWalk.proved
#print axioms fnExactLongestWalk_holds
end Go.Proofs.Ytmfbhhicioepjaa

/- The row of the law FnExactCountByAround: whatever the input, the law's function returns true; the plain law and the printed walk are what it stands on. -/
import Derived.Test.YtekajjhjjnfdpaaRows
import Derived.Test.YtekajjhjjnfdpaaQ46
import Derived.Test.YtekajjhjjnfdpaaHLaw
import Derived.Test.YtekajjhjjnfdpaaPureFnExactCountByAround
import Derived.WalkKit
import Derived.ProofKit
import Derived.OpenShut
import Derived.ShutString
import Derived.ChangeOld
import Derived.Below
import Derived.SizedLaws
import Derived.Lib.SmallJoins
namespace Go.Proofs.Ytekajjhjjnfdpaa.fnExactCountByAround
open Go.ChangeShapes Go.WideShapes Go.ChangeAt Go.RowKit Go.Joins Go.Proofs.Ytekajjhjjnfdpaa.H Go.Proofs.YtekajjhjjnfdpaaW.PrintWords
set_option linter.unusedVariables false
theorem own : ownKnob Try.prog.godebug = none := by kernel_rfl
theorem laidOut : laidOutB Try.prog = true := by kernel_rfl
theorem cells26 : Try.prog.cellsOf 26 = 2 := by kernel_rfl
theorem cells49 : Try.prog.cellsOf 49 = 4 := by kernel_rfl
set_option maxHeartbeats 4000000 in
set_option maxRecDepth 100000 in
theorem lifted (os : Os) (started : os.Started) (H : Type) (enc : TypeId × Value → H) :
    ReturnsInHanded {} Try.checked os 11 .any (Rows.fnExactCountByAroundSpec.pre6 enc Try.prog Try.f11 Rows.fnExactCountByAroundRow.domain false) (Rows.fnExactCountByAroundSpec.post enc Try.prog Try.f11 false true false false) := by
  refine returnsInHanded_of_change_sized (C := Try.checked) own started (by kernel_rfl) Try.func11
    (ChangeSpec.witness6 (enc := enc) (C := Try.checked) false ⟨#[], #[.agg #[.int .i64 0, .int .i64 0, .bool false, .bool false], .agg #[.int .i64 0, .int .i64 0], .int .i64 0], []⟩ 8 (by kernel_rfl) (by kernel_rfl) (by kernel_rfl) (by kernel_rfl)) ?_
  intro W base args ds gs before hval0 hW hcnd hsz0 _
  have hval : ∀ (j : Nat) t v, Try.f11.params[j]? = some t → args[j]? = some v → Value.okWide Try.prog W .any base t v := hval0
  have hW' := hW
  obtain ⟨p, q, hA0, hV, rfl, hfz, hnd⟩ := hW
  have hA : DataW.TrodAll enc Try.prog W 0 (fun _ => true) true Try.f11.params.toList args.toList ds p := hA0
  rw [Try.params11] at hA hval
  obtain ⟨v0, vs0, d0, ds0, p0, q0, hargs, rfl, rfl, h0, r0⟩ := trodAll_cons hA
  obtain ⟨v1, vs1, d1, ds1, p1, q1, rfl, rfl, rfl, h1, r1⟩ := trodAll_cons r0
  obtain ⟨v2, vs2, d2, ds2, p2, q2, rfl, rfl, rfl, h2, r2⟩ := trodAll_cons r1
  obtain ⟨rfl, rfl, rfl⟩ := trodAll_nil r2
  obtain rfl : args = #[v0, v1, v2] := by cases args; simp_all
  obtain ⟨rfl, rfl⟩ := trodVars_none hV
  have k0 := h0
  have lt0 : ∀ x ∈ p0, x.block < W.heap.size := by obtain ⟨m, hm⟩ := k0; exact DataW.trod_lt m _ _ _ hm
  obtain ⟨u0_0, u0_1, u0_2, u0_3, y0_0, y0_1, y0_2, y0_3, m0, rfl, hd0, hp0, hy0_0, hy0_1, hy0_2, hy0_3⟩ := open_agg4 Try.underlying49 (by kernel_rfl) cells49 (hval 0 49 v0 rfl rfl) h0
  obtain ⟨a0_0, e0_0, -, v0_0⟩ := DataW.trod_int Try.underlying3 hy0_0
  obtain rfl : u0_0 = .int .i64 a0_0 := by simpa using e0_0
  have w0_0 := i64_of v0_0
  obtain ⟨a0_1, e0_1, -, v0_1⟩ := DataW.trod_int Try.underlying3 hy0_1
  obtain rfl : u0_1 = .int .i64 a0_1 := by simpa using e0_1
  have w0_1 := i64_of v0_1
  obtain ⟨a0_2, e0_2, -⟩ := DataW.trod_bool Try.underlying4 hy0_2
  obtain rfl : u0_2 = .bool a0_2 := by simpa using e0_2
  obtain ⟨a0_3, e0_3, -⟩ := DataW.trod_bool Try.underlying4 hy0_3
  obtain rfl : u0_3 = .bool a0_3 := by simpa using e0_3
  have k1 := h1
  have lt1 : ∀ x ∈ p1, x.block < W.heap.size := by obtain ⟨m, hm⟩ := k1; exact DataW.trod_lt m _ _ _ hm
  obtain ⟨u1_0, u1_1, y1_0, y1_1, m1, rfl, hd1, hp1, hy1_0, hy1_1⟩ := open_agg2 Try.underlying26 (by kernel_rfl) cells26 (hval 1 26 v1 rfl rfl) h1
  obtain ⟨a1_0, e1_0, -, v1_0⟩ := DataW.trod_int Try.underlying3 hy1_0
  obtain rfl : u1_0 = .int .i64 a1_0 := by simpa using e1_0
  have w1_0 := i64_of v1_0
  obtain ⟨a1_1, e1_1, -, v1_1⟩ := DataW.trod_int Try.underlying3 hy1_1
  obtain rfl : u1_1 = .int .i64 a1_1 := by simpa using e1_1
  have w1_1 := i64_of v1_1
  have k2 := h2
  have lt2 : ∀ x ∈ p2, x.block < W.heap.size := by obtain ⟨m, hm⟩ := k2; exact DataW.trod_lt m _ _ _ hm
  obtain ⟨a2, rfl, -, -, v2⟩ := open_int Try.underlying3 (hval 2 3 v2 rfl rfl) h2
  have w2 := i64_of v2
  clear hA0 hval0 hsz0
  obtain ⟨k, hk⟩ := Pure.FnExactCountByAround _ _ _ _ _ _ _ w0_0 w0_1 w1_0 w1_1 w2
  refine (Q.laws_FnExactCountByAround.calls (k := k) (a0_0 := a0_0) (a0_1 := a0_1) (a0_2 := a0_2) (a0_3 := a0_3) (a1_0 := a1_0) (a1_1 := a1_1) (a2 := a2) (r := true) (w := W) (h := hk)).mono fun e W' ⟨he, bel⟩ => ?_
  subst he
  exact ⟨_, rfl, _, _, _, [], _, [], hW', trodAll_mk1 (shut_bool Try.underlying4 _), (trodAll_cons_mk (Below.trod laidOut (by kernel_rfl) (of_decide_eq_true (by kernel_rfl)) k0 bel lt0) (trodAll_cons_mk (Below.trod laidOut (by kernel_rfl) (of_decide_eq_true (by kernel_rfl)) k1 bel lt1) (trodAll_cons_mk (Below.trod laidOut (by kernel_rfl) (of_decide_eq_true (by kernel_rfl)) k2 bel lt2) trodAll_mk0))), rfl, bel.frame _, fun h => by cases h⟩
theorem over : Rows.fnExactCountByAroundRow.holds Try.pinned (OpenSpec.ofChange Rows.fnExactCountByAroundSpec) :=
  OpenClaim.holds_of_wide 11 Try.f11 rfl rfl rfl rfl rfl rfl rfl ⟨rfl, rfl, rfl, rfl, rfl⟩ rfl rfl rfl rfl rfl (by kernel_rfl) Try.func11 (by kernel_rfl)
    (of_decide_eq_true (by kernel_rfl)) (by unfold Func.isWrapper; first | (rw [if_pos (by decide +kernel)]; kernel_rfl) | (rw [if_neg (by decide +kernel)]; exact ⟨rfl, rfl⟩))
    (fun os started H enc _ => lifted os started H enc)
theorem proved : Rows.FnExactCountByAroundSaid := over
end Go.Proofs.Ytekajjhjjnfdpaa.fnExactCountByAround
namespace Go.Proofs.Ytekajjhjjnfdpaa
/-- The row, under a short name, for the claim. -/
theorem fnExactCountByAround_holds : Rows.FnExactCountByAroundSaid := fnExactCountByAround.proved
#print axioms fnExactCountByAround_holds
end Go.Proofs.Ytekajjhjjnfdpaa

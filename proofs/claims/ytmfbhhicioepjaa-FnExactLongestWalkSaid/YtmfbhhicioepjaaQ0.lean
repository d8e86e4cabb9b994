/- Written by a program of this session: functions of the translation as plain Lean functions, each with a proof that the call does what the plain function says; the conditions stand in each theorem. -/
import Derived.Test.YtmfbhhicioepjaaProg
import Derived.Below
import Derived.Deep.Draws
import Derived.Deep.AppendLies
import Derived.Maps.AppendAt
import Derived.OwnWalk
import Derived.Laws.BytesArg
import Derived.Laws.MakeOwn
import Derived.Laws.OwnMore
import Derived.Deep.OwnRows
import Derived.Tactics
import Derived.Lib.ConvBytes
import Derived.Laws.Slices
import Derived.WalkKit
import Derived.KernelRfl
import Derived.RowKit3
import Derived.Deep.LoopGhost
import Derived.Deep.QuietTactic
import Derived.BigQuiet
import Derived.WideLaws
import Derived.Deep.DeepCutAuto
import Derived.Deep.CutBlock
import Derived.Deep.RegionHeld3
import Derived.Laws.Rows
import Derived.Lib.AppendStr
import Derived.ArgAppend
import Derived.Laws.IdiomCopy
import Derived.OrdersHeld
import Derived.Laws.BitsLemmas
import Derived.RowKit
import Derived.Test.YtmfbhhicioepjaaWWords
import Derived.Test.YtmfbhhicioepjaaWLast
import Derived.Test.YtmfbhhicioepjaaWTab
import Derived.Test.YtmfbhhicioepjaaWFour
import Derived.Test.YtmfbhhicioepjaaWQPut
import Derived.Test.YtmfbhhicioepjaaWApart
import Derived.Test.YtmfbhhicioepjaaWArr
import Derived.Test.YtmfbhhicioepjaaWZeros
import Derived.Test.YtmfbhhicioepjaaWFoot
import Derived.Test.YtmfbhhicioepjaaWKept
import Derived.Test.YtmfbhhicioepjaaWShare
import Derived.Test.YtmfbhhicioepjaaWN
import Derived.Test.YtmfbhhicioepjaaWFootNe
import Derived.Test.YtmfbhhicioepjaaWAt
import Derived.Test.YtmfbhhicioepjaaWEqStruct
import Derived.Test.YtmfbhhicioepjaaWRepsOne
import Derived.Test.YtmfbhhicioepjaaWInv
import Derived.Test.YtmfbhhicioepjaaWInvWords
import Derived.Test.YtmfbhhicioepjaaWGuard
import Derived.Test.YtmfbhhicioepjaaWNEv
import Derived.Test.YtmfbhhicioepjaaWMore
namespace Go.Proofs.Ytmfbhhicioepjaa.Q
open Go.RowKit Go.Proofs.YtmfbhhicioepjaaW.PrintWords Go.Proofs.YtmfbhhicioepjaaW.PrintLast Go.Proofs.YtmfbhhicioepjaaW.PrintMore
attribute [local go_sem] max2_int min2_int max_two min_two max_three min_three max_four min_four   -- for this text's walks alone
set_option linter.unusedVariables false
set_option linter.unusedSimpArgs false

def errW : Option Int → Value
  | none => .nilIface
  | some c => .iface 0 (.int .i64 c)
theorem errW_none : errW none = .nilIface := rfl
theorem errW_some (c : Int) : errW (some c) = .iface 0 (.int .i64 c) := rfl

/-- What hands back a pointer to a graph, or nil: the pointer's value, and the block behind it. -/
def GPT (ok : Bool) (pv : Value) (w w' : World) (cs : Array Value) : Prop :=
  (ok = true → ∃ g, pv = .pointer (some ⟨g, 0, none⟩) ∧ w'.heap[g]? = some (.cells cs 78 (0, 0)) ∧ w.heap.size ≤ g) ∧ (ok = false → pv = .pointer none)

/-- Of the blocks between two numbers, and of the others. -/
def rngIn (a b k : Nat) : Nat := if a ≤ k ∧ k < b then k else k + 1
def rngOut (a b k : Nat) : Nat := if a ≤ k ∧ k < b then k + 1 else k
theorem nb_at {W w' : World} {m n : Nat} (hq : W.drewN m = w') (h : n ≤ W.heap.size) : n ≤ w'.heap.size := by subst hq; exact h
theorem rng_of {B : Nat} {W w : World} (_h : Below B W w) : ∃ a b, W.heap.size = a ∧ w.heap.size = b := ⟨_, _, rfl, rfl⟩
theorem rng_lt {n a b k : Nat} (h : n = a) (hk : k < n) : k ≠ rngIn a b k := by unfold rngIn; split <;> omega
theorem rng_mid {n m a b k : Nat} (h : n = a) (h2 : m = b) (hk : n ≤ k) (hk2 : k < m) : k ≠ rngOut a b k := by unfold rngOut; split <;> omega
theorem rng_fresh {n a b k : Nat} (h : b ≤ n) (hk : n ≤ k) : k ≠ rngIn a b k := by unfold rngIn; split <;> omega
theorem rng_apart {a b k : Nat} (h : k ≠ rngOut a b k) (h2 : k ≠ rngIn a b k) : False := by unfold rngOut at h; unfold rngIn at h2; split at h <;> simp_all
theorem rng_new {α : Type} {d : Kd α} {e a b : Nat} {W w : World} {ok : Nat → Prop} {v : Value} {xs : List α} (h : Kd.S d e w W.heap.size ok v xs) (ha : W.heap.size = a) (hb : w.heap.size = b) : Kd.S d e w W.heap.size (fun k_ => ok k_ ∧ k_ ≠ rngOut a b k_) v xs :=
  Kd.S_mono (Kd.S_bound h) (fun _ hk => ⟨hk.1, rng_mid ha hb hk.2.1 hk.2.2.1⟩)

theorem info3 : (Try.prog.info? 3).map (fun i => (i.zero, i.size, i.bytes)) = some (some (.int .i64 0), 1, 8) := by kernel_rfl
theorem info22 : (Try.prog.info? 22).map (fun i => (i.zero, i.size, i.bytes)) = some (some (.slice none 0 0), 1, 24) := by kernel_rfl
-- the values' own types
def rd_L1 (xs : List (List Int)) (i : Int) : (List Int) := xs.getD i.toNat ([] : List Int)
theorem at_L1 {w : World} {A : Option Addr} {n : Nat} {xs : List (List Int)} (h : Kd.C (Kd.slice 3 (Kd.int .i64)) w A n xs) (i : Int) (h0 : 0 ≤ i) (h1 : i < n) : ∃ ad A0 c0, A = some ad ∧ w.cell? (ad.add i.toNat) = some (.slice A0 (rd_L1 xs i).length c0) ∧ (rd_L1 xs i).length ≤ c0 ∧ (Kd.int .i64).C w A0 (rd_L1 xs i).length (rd_L1 xs i) := by
 obtain ⟨ad, c, e, _, hK, hc0⟩ := Kd.C_get h ([] : List Int) i h0 h1
 have hc : ∀ j u, c[j]? = some u → w.cell? (ad.add (i.toNat * 1 + j)) = some u := hc0
 obtain ⟨A0, c0, rfl, l0, g0⟩ := hK
 exact ⟨ad, A0, c0, e, by have hq := hc 0 _ rfl; rwa [Nat.mul_one, Nat.add_zero] at hq, l0, g0⟩

end Go.Proofs.Ytmfbhhicioepjaa.Q

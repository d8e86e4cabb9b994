/- slices.Reverse's loop turns a list around; the condition is the list's length. -/
import Derived.Test.YtbecdckdbeoomaaHBase
import Derived.Test.YtbecdckdbeoomaaQ18
namespace Go.Proofs.Ytbecdckdbeoomaa.H
open Go.RowKit Go.IntWalk Go.Proofs.Ytbecdckdbeoomaa.Q Go.Proofs.YtbecdckdbeoomaaW.PrintWords Go.Proofs.YtbecdckdbeoomaaW.PrintMore
set_option linter.unusedVariables false
set_option linter.unusedSimpArgs false
theorem reverse_loop : ∀ (n : Nat) (mid pre post : List Int), mid.length ≤ n → (pre ++ mid ++ post).length ≤ 4611686018427387904 →
    Ev (fun k => slices_Reverse_int_int.l0 k (pre ++ mid ++ post) (pre.length : Int) ((pre.length : Int) + (mid.length : Int) - 1)) (pre ++ mid.reverse ++ post) := by
  intro n
  induction n with
  | zero =>
    intro mid pre post h1 h2
    obtain rfl : mid = [] := List.eq_nil_of_length_eq_zero (by omega)
    refine Ev.step (fun k => by rw [slices_Reverse_int_int.l0]) ?_
    have h3 : ¬ ((pre.length : Int) < (pre.length : Int) + (([] : List Int).length : Int) - 1) := by simp; omega
    simp only [h3, if_false]
    simpa using Ev.now _
  | succ n ih =>
    intro mid pre post h1 h2
    rcases mid with _ | ⟨a, m⟩
    · exact ih [] pre post (by simp) h2
    · rcases List.eq_nil_or_concat m with rfl | ⟨m', b, rfl⟩
      · refine Ev.step (fun k => by rw [slices_Reverse_int_int.l0]) ?_
        have h3 : ¬ ((pre.length : Int) < (pre.length : Int) + (([a] : List Int).length : Int) - 1) := by simp
        simp only [h3, if_false]
        simpa using Ev.now _
      · simp only [List.concat_eq_append] at h1 h2 ⊢
        refine Ev.step (fun k => by rw [slices_Reverse_int_int.l0]) ?_
        have hlen : ((a :: (m' ++ [b])).length : Int) = (m'.length : Int) + 2 := by simp <;> omega
        have hsz : pre.length + (m'.length + 2) + post.length ≤ 4611686018427387904 := by simp at h2; omega
        have h3 : (pre.length : Int) < (pre.length : Int) + ((a :: (m' ++ [b])).length : Int) - 1 := by omega
        have h4 : 0 ≤ (pre.length : Int) + ((a :: (m' ++ [b])).length : Int) - 1 := by omega
        have h5 : (pre.length : Int) + ((a :: (m' ++ [b])).length : Int) - 1 < ((pre ++ a :: (m' ++ [b]) ++ post).length : Int) := by simp; omega
        have h6 : (0 : Int) ≤ (pre.length : Int) := by omega
        have h7 : (pre.length : Int) < ((pre ++ a :: (m' ++ [b]) ++ post).length : Int) := by simp; omega
        have e1 : rd (pre ++ a :: (m' ++ [b]) ++ post) (pre.length : Int) = a := by
          have := rd_mid pre a ((m' ++ [b]) ++ post)
          simpa using this
        have e2 : rd (pre ++ a :: (m' ++ [b]) ++ post) ((pre.length : Int) + ((a :: (m' ++ [b])).length : Int) - 1) = b := by
          have := rd_mid (pre ++ a :: m') b post
          have e : (pre.length : Int) + ((a :: (m' ++ [b])).length : Int) - 1 = ((pre ++ a :: m').length : Int) := by simp; omega
          rw [e]
          simpa using this
        have e3 : wrap64 ((pre.length : Int) + 1) = ((pre ++ [b]).length : Int) := by rw [w_succ (by omega)]; simp
        have e4 : wrap64 ((pre.length : Int) + ((a :: (m' ++ [b])).length : Int) - 1 - 1) = ((pre ++ [b]).length : Int) + (m'.length : Int) - 1 := by
          rw [wrap64_in _ (by omega)]; simp; omega
        have e5 : ((pre ++ a :: (m' ++ [b]) ++ post).set ((pre.length : Int)).toNat b).set ((pre.length : Int) + ((a :: (m' ++ [b])).length : Int) - 1).toNat a = (pre ++ [b]) ++ m' ++ (a :: post) := by
          have f1 : (pre ++ a :: (m' ++ [b]) ++ post).set ((pre.length : Int)).toNat b = (pre ++ b :: m') ++ b :: post := by simp
          have f2 : ((pre.length : Int) + ((a :: (m' ++ [b])).length : Int) - 1).toNat = (pre ++ b :: m').length := by simp; omega
          rw [f1, f2]
          simp
        simp only [h3, h4, h5, h6, h7, e1, e2, e3, e4, e5, if_true]
        have := ih m' (pre ++ [b]) (a :: post) (by simp at h1; omega) (by simp; omega)
        have e6 : pre ++ (a :: (m' ++ [b])).reverse ++ post = (pre ++ [b]) ++ m'.reverse ++ (a :: post) := by simp
        rw [e6]
        exact this
theorem reverse_ev (l : List Int) (hl : l.length ≤ 1048576) : Ev (fun k => slices_Reverse_int_int.f k l) l.reverse := by
  unfold slices_Reverse_int_int.f
  have e : wrap64 ((l.length : Int) - 1) = (l.length : Int) - 1 := wrap64_in _ (by omega)
  rw [e]
  have := reverse_loop l.length l [] [] (by omega) (by simp; omega)
  simpa using this
end Go.Proofs.Ytbecdckdbeoomaa.H

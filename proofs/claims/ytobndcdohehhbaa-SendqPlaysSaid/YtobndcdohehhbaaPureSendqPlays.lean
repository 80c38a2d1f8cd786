/- A queue from any number on, of any room, under any calls answers, call by call, as the document has it; a fork goes its own way: for every first number, every room and every list of calls. No further conditions. -/
import Derived.Test.YtobndcdohehhbaaPSendqPlaysx11
set_option linter.unusedVariables false
set_option linter.unusedSimpArgs false
namespace Go.Proofs.Ytobndcdohehhbaa.Pure
open Go Go.RowKit Go.Proofs.Ytobndcdohehhbaa.PSendqPlays Go.Proofs.YtobndcdohehhbaaW.PrintWords Go.Proofs.YtobndcdohehhbaaW.PrintLast Go.Proofs.YtobndcdohehhbaaW.PrintMore
attribute [local irreducible] shl shr Go.bits
theorem wf64 {n : Int} (h : (Lit.int .i64 n).wf = true) : -9223372036854775808 ≤ n ∧ n < 9223372036854775808 := by
  have e : (Lit.int .i64 n).wf = decide (IntKind.i64.min ≤ n ∧ n ≤ 9223372036854775807) := by simp [Lit.wf]
  have e2 : IntKind.i64.min = -9223372036854775808 := by decide
  rw [e, e2] at h
  have := of_decide_eq_true h
  omega
theorem SendqPlays : sternpostlaw15_SendqPlays.Pure := fun a0 a1 l _ _ h => ⟨0, by
  unfold sternpostlaw15_SendqPlays.f sternpostlaw15_SendqPlays_tail.f
  rw [if_pos (List.all_eq_true.2 fun x hx => by
    have h2 := wf64 (h.2 x hx).2.1
    exact decide_eq_true h2)]⟩
end Go.Proofs.Ytobndcdohehhbaa.Pure

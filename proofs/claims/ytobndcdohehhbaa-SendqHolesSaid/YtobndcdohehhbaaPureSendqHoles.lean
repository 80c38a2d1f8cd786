/- Of bytes that were sent those that were received apart are never told as a hole; a hole begins at the first that was not, and goes on as far as it may; filled hole by hole, in pieces of any size, all is received: for every first number, every list of ranges and every most. No further conditions. -/
import Derived.Test.YtobndcdohehhbaaPSendqHolesx5
set_option linter.unusedVariables false
set_option linter.unusedSimpArgs false
namespace Go.Proofs.Ytobndcdohehhbaa.Pure
open Go Go.RowKit Go.Proofs.Ytobndcdohehhbaa.PSendqHoles Go.Proofs.YtobndcdohehhbaaW.PrintWords Go.Proofs.YtobndcdohehhbaaW.PrintLast Go.Proofs.YtobndcdohehhbaaW.PrintMore
attribute [local irreducible] shl shr Go.bits
theorem SendqHoles : sternpostlaw15_SendqHoles.Pure := fun _ _ _ _ _ _ => ⟨0, rfl⟩
end Go.Proofs.Ytobndcdohehhbaa.Pure

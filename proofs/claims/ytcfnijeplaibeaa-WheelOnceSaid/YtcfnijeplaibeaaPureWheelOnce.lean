/- Timers that are set, set anew and dropped, as the wheel goes on: each is told just once, at the first turn that is not ahead of its tick, in order; what was dropped is not told: for every list of acts. No further conditions. -/
import Derived.Test.YtcfnijeplaibeaaPWheelOncex4
set_option linter.unusedVariables false
set_option linter.unusedSimpArgs false
namespace Go.Proofs.Ytcfnijeplaibeaa.Pure
open Go Go.RowKit Go.Proofs.Ytcfnijeplaibeaa.PWheelOnce Go.Proofs.YtcfnijeplaibeaaW.PrintWords Go.Proofs.YtcfnijeplaibeaaW.PrintLast Go.Proofs.YtcfnijeplaibeaaW.PrintMore
attribute [local irreducible] shl shr Go.bits
theorem WheelOnce : sternpostlaw14_WheelOnce.Pure := fun _ _ => ⟨0, rfl⟩
end Go.Proofs.Ytcfnijeplaibeaa.Pure

/- What is cleared goes out never; what comes behind that goes out as ever: for all lists that the statement lets in. -/
import Derived.Test.YtcmpkgmhcbnmbaaPGateClearsx3
set_option linter.unusedVariables false
set_option linter.unusedSimpArgs false
namespace Go.Proofs.Ytcmpkgmhcbnmbaa.Pure
open Go Go.RowKit Go.Proofs.Ytcmpkgmhcbnmbaa.PGateClears Go.Proofs.YtcmpkgmhcbnmbaaW.PrintWords Go.Proofs.YtcmpkgmhcbnmbaaW.PrintLast Go.Proofs.YtcmpkgmhcbnmbaaW.PrintMore
attribute [local irreducible] shl shr Go.bits
theorem GateClears : sternpostlaw25_GateClears.Pure := fun _ _ _ _ _ _ _ _ => ⟨0, rfl⟩
end Go.Proofs.Ytcmpkgmhcbnmbaa.Pure

/- a gate plays as the plain account of it, call by call -/
import Derived.Test.YtcmpkgmhcbnmbaaPGatePlaysx5
set_option linter.unusedVariables false
set_option linter.unusedSimpArgs false
namespace Go.Proofs.Ytcmpkgmhcbnmbaa.Pure
open Go Go.RowKit Go.Proofs.Ytcmpkgmhcbnmbaa.PGatePlays Go.Proofs.YtcmpkgmhcbnmbaaW.PrintWords Go.Proofs.YtcmpkgmhcbnmbaaW.PrintLast Go.Proofs.YtcmpkgmhcbnmbaaW.PrintMore
attribute [local irreducible] shl shr Go.bits
theorem GatePlays : sternpostlaw25_GatePlays.Pure := fun _ _ _ _ => ⟨0, rfl⟩
end Go.Proofs.Ytcmpkgmhcbnmbaa.Pure

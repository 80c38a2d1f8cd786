/- a gate lets every byte through once: its whole play is the plain account of it -/
import Derived.Test.YtcmpkgmhcbnmbaaDoorPGateOncex3
set_option linter.unusedVariables false
set_option linter.unusedSimpArgs false
namespace Go.Proofs.YtcmpkgmhcbnmbaaDoor.Pure
open Go Go.RowKit Go.Proofs.YtcmpkgmhcbnmbaaDoor.PGateOnce Go.Proofs.YtcmpkgmhcbnmbaaDoorW.PrintWords Go.Proofs.YtcmpkgmhcbnmbaaDoorW.PrintLast Go.Proofs.YtcmpkgmhcbnmbaaDoorW.PrintMore
attribute [local irreducible] shl shr Go.bits
theorem GateOnce : sternpostlaw25_GateOnce.Pure := fun _ _ => ⟨0, rfl⟩
end Go.Proofs.YtcmpkgmhcbnmbaaDoor.Pure

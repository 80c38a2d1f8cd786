/- A gate holds no more than there is room for; what it holds are the first ones; all others are counted as lost: for all numbers and lists that the statement lets in; the library's tables read as they are laid by the program's own text. -/
import Derived.Test.YtcmpkgmhcbnmbaaDoorPGateRoomx3
set_option linter.unusedVariables false
set_option linter.unusedSimpArgs false
namespace Go.Proofs.YtcmpkgmhcbnmbaaDoor.Pure
open Go Go.RowKit Go.Proofs.YtcmpkgmhcbnmbaaDoor.PGateRoom Go.Proofs.YtcmpkgmhcbnmbaaDoorW.PrintWords Go.Proofs.YtcmpkgmhcbnmbaaDoorW.PrintLast Go.Proofs.YtcmpkgmhcbnmbaaDoorW.PrintMore
attribute [local irreducible] shl shr Go.bits
theorem GateRoom : sternpostlaw25_GateRoom.Pure := fun _ _ _ _ _ _ => ⟨0, rfl⟩
end Go.Proofs.YtcmpkgmhcbnmbaaDoor.Pure

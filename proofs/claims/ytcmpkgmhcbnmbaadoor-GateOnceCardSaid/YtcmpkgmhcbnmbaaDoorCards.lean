/-
  DERIVED. GIVEN WITH THE SEED: THE CARDS: each row of YtcmpkgmhcbnmbaaDoorRows.lean that lists a variable, with what it lists TIED to the program's text (the seventh form; the later family's looks); each row that meets fmt, with fmt's text TOLD by the authors' own Lean function (tested against real Go, not proved from fmt's source: count such statements apart). THE CARD IS WHAT COUNTS. Prove the row's statement (the work); the ties are given (YtcmpkgmhcbnmbaaDoorTie.lean); close each card by the builder's one call (the guide's Derived/Test/ToyasCard.lean, 'card_holds'). Laid BY PROGRAM, IN A SANDBOX (cutbox-door.mjs). By AI agents, Wed Nov 11 2026. No macro, syntax, notation, axiom, sorry.
-/
import Derived.Test.YtcmpkgmhcbnmbaaDoorRows
import GoSem.ClaimSeven
namespace Go.Proofs.YtcmpkgmhcbnmbaaDoor
namespace Rows

/-- THE TIED CARD OF 'sternpostlaw25.GateOnce'. -/
def gateOnceCard : Claim7 := { stood := { row := gateOnceRow, standIns := [], harness := (true, "29d3a22e3e731e7293d66aa474c1207b5f64a6db412b0b275b454274af35327b"), looks := false }, kinds := [], alts := [], laidByText := true, laidKinds := [.data, .data, .data], laidTests := true, laidLooks := .later }
def GateOnceCardSaid : Prop := Claim7.holds Tryd.pinned (.plain (OpenSpec.ofChange gateOnceSpec)) gateOnceCard

/-- THE TIED CARD OF 'sternpostlaw25.GateRoom'. -/
def gateRoomCard : Claim7 := { stood := { row := gateRoomRow, standIns := [], harness := (true, "29d3a22e3e731e7293d66aa474c1207b5f64a6db412b0b275b454274af35327b"), looks := false }, kinds := [], alts := [], laidByText := true, laidKinds := [.data, .data, .data], laidTests := true, laidLooks := .later }
def GateRoomCardSaid : Prop := Claim7.holds Tryd.pinned (.plain (OpenSpec.ofChange gateRoomSpec)) gateRoomCard

/-- THE SECOND FORM's CARD OF 'sternpostlaw25.GateOnce'. -/
def gateOnceUptoCard : Claim7 := { stood := { row := gateOnceUptoRow, standIns := [], harness := (true, "29d3a22e3e731e7293d66aa474c1207b5f64a6db412b0b275b454274af35327b"), looks := false }, kinds := [], alts := [], laidByText := true, laidKinds := [.data, .data, .data], laidTests := true, laidLooks := .later }
def GateOnceUptoCardSaid : Prop := Claim7.holds Tryd.pinned (.plain (OpenSpec.upto gateOnceSpec)) gateOnceUptoCard

/-- THE SECOND FORM's CARD OF 'sternpostlaw25.GateRoom'. -/
def gateRoomUptoCard : Claim7 := { stood := { row := gateRoomUptoRow, standIns := [], harness := (true, "29d3a22e3e731e7293d66aa474c1207b5f64a6db412b0b275b454274af35327b"), looks := false }, kinds := [], alts := [], laidByText := true, laidKinds := [.data, .data, .data], laidTests := true, laidLooks := .later }
def GateRoomUptoCardSaid : Prop := Claim7.holds Tryd.pinned (.plain (OpenSpec.upto gateRoomSpec)) gateRoomUptoCard
end Rows
end Go.Proofs.YtcmpkgmhcbnmbaaDoor

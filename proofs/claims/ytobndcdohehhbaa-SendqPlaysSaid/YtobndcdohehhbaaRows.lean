/-
  No cell of these rows narrows 'for every input' (looked for: loops, veiled, ifaces, maps, wideKeys, modest, calm, conditions, laid).
  DERIVED. THE GIVEN ROWS OF THIS SEAT. 4 by the template 'for every input the law returns true; each argument reads behind the call as it read before'; 0 by the template 'total and deterministic' (their statements: YtobndcdohehhbaaTotals.lean).
  GIVEN WITH THE SEED: the statements are not yours to turn. If you find one false, say at which input.
  Laid BY PROGRAM, IN A SANDBOX (cutbox-rows.mjs): the forced cells as the released guide's own fill.sh prints them over the translation 783fa0935e937e93… (all of the seat's roots in one cut). By AI agents, Wed Nov 11 2026. No macro, syntax, notation, axiom, sorry.
-/
import Derived.Test.YtobndcdohehhbaaChecked
import GoSem.Claim
import GoSem.ClaimJoined
import GoSem.ClaimMapViews
import Derived.JoinedTies
import Derived.KernelRfl
namespace Go.Proofs.Ytobndcdohehhbaa
/- THE CELL 'sum', in the pinned program and in every row, IS THE sha256 OF THE DUMP (.gsa) THAT YtobndcdohehhbaaProg.lean LOADS. Nothing in Lean hashes anything: it is a label: what it is worth is what the hold of that sum in a sandbox is worth. -/
noncomputable def Try.pinned : Pinned := { name := "ytobndcdohehhbaa", sum := "783fa0935e937e93cccea10e3d1b67854be0f8c449d8e2cfc64e0add73048051", checked := Try.checked }
namespace Rows
def none {H : Type} : Left H := { results := [], args := [] }

/-- 'sternpostlaw15.SendqProbes': WHATEVER THE INPUT: true; the input reads as it did. -/
def sendqProbesSpec : ChangeSpec := { name := "sendqProbes", fn := fun _ => fun
  | [d1, d2] => { results := [.lit (.bool true)], args := [d1, d2] }
  | _ => none }
def sendqProbesRow : OpenClaim := { program := "ytobndcdohehhbaa", sum := "783fa0935e937e93cccea10e3d1b67854be0f8c449d8e2cfc64e0add73048051", func := "sternpost/sternpostlaw15.SendqProbes", spec := "sendqProbes", apart := false }
def SendqProbesSaid : Prop := sendqProbesRow.holds Try.pinned (OpenSpec.ofChange sendqProbesSpec)

/-- ITS FALSE NEIGHBOUR: 'it returns false'. Refute it at one input. -/
def sendqProbesWrong : ChangeSpec := { name := "sendqProbes", fn := fun _ => fun
  | [d1, d2] => { results := [.lit (.bool false)], args := [d1, d2] }
  | _ => none }
def SendqProbesWrongFalsely : Prop := sendqProbesRow.holds Try.pinned (OpenSpec.ofChange sendqProbesWrong)

/-- 'sternpostlaw15.SendqStream': WHATEVER THE INPUT: true; the input reads as it did. -/
def sendqStreamSpec : ChangeSpec := { name := "sendqStream", fn := fun _ => fun
  | [d1, d2] => { results := [.lit (.bool true)], args := [d1, d2] }
  | _ => none }
def sendqStreamRow : OpenClaim := { program := "ytobndcdohehhbaa", sum := "783fa0935e937e93cccea10e3d1b67854be0f8c449d8e2cfc64e0add73048051", func := "sternpost/sternpostlaw15.SendqStream", spec := "sendqStream", apart := false }
def SendqStreamSaid : Prop := sendqStreamRow.holds Try.pinned (OpenSpec.ofChange sendqStreamSpec)

/-- ITS FALSE NEIGHBOUR: 'it returns false'. Refute it at one input. -/
def sendqStreamWrong : ChangeSpec := { name := "sendqStream", fn := fun _ => fun
  | [d1, d2] => { results := [.lit (.bool false)], args := [d1, d2] }
  | _ => none }
def SendqStreamWrongFalsely : Prop := sendqStreamRow.holds Try.pinned (OpenSpec.ofChange sendqStreamWrong)

/-- 'sternpostlaw15.SendqHoles': WHATEVER THE INPUT: true; the input reads as it did. -/
def sendqHolesSpec : ChangeSpec := { name := "sendqHoles", fn := fun _ => fun
  | [d1, d2, d3] => { results := [.lit (.bool true)], args := [d1, d2, d3] }
  | _ => none }
def sendqHolesRow : OpenClaim := { program := "ytobndcdohehhbaa", sum := "783fa0935e937e93cccea10e3d1b67854be0f8c449d8e2cfc64e0add73048051", func := "sternpost/sternpostlaw15.SendqHoles", spec := "sendqHoles", unfollowed := true, recurses := true, apart := false }
def SendqHolesSaid : Prop := sendqHolesRow.holds Try.pinned (OpenSpec.ofChange sendqHolesSpec)

/-- ITS FALSE NEIGHBOUR: 'it returns false'. Refute it at one input. -/
def sendqHolesWrong : ChangeSpec := { name := "sendqHoles", fn := fun _ => fun
  | [d1, d2, d3] => { results := [.lit (.bool false)], args := [d1, d2, d3] }
  | _ => none }
def SendqHolesWrongFalsely : Prop := sendqHolesRow.holds Try.pinned (OpenSpec.ofChange sendqHolesWrong)

/-- 'sternpostlaw15.SendqPlays': WHATEVER THE INPUT: true; the input reads as it did. -/
def sendqPlaysSpec : ChangeSpec := { name := "sendqPlays", fn := fun _ => fun
  | [d1, d2, d3] => { results := [.lit (.bool true)], args := [d1, d2, d3] }
  | _ => none }
def sendqPlaysRow : OpenClaim := { program := "ytobndcdohehhbaa", sum := "783fa0935e937e93cccea10e3d1b67854be0f8c449d8e2cfc64e0add73048051", func := "sternpost/sternpostlaw15.SendqPlays", spec := "sendqPlays", unfollowed := true, recurses := true, apart := false }
def SendqPlaysSaid : Prop := sendqPlaysRow.holds Try.pinned (OpenSpec.ofChange sendqPlaysSpec)

/-- ITS FALSE NEIGHBOUR: 'it returns false'. Refute it at one input. -/
def sendqPlaysWrong : ChangeSpec := { name := "sendqPlays", fn := fun _ => fun
  | [d1, d2, d3] => { results := [.lit (.bool false)], args := [d1, d2, d3] }
  | _ => none }
def SendqPlaysWrongFalsely : Prop := sendqPlaysRow.holds Try.pinned (OpenSpec.ofChange sendqPlaysWrong)

/- THE SECOND FORM. 'bulk': how many values and letters a reading holds, each counted each time it is reached (what is shared counts as often as it is met; a slice's spare places count too). A statement '..UptoSaid' is the law's where the arguments, and the package variables that the reading takes, are together of bulk at most 1048576: NARROWER than '..Said'. Prove '..Said' where nothing that the law and all that it calls make is longer than what came in: it says more and counts as full. Else prove '..UptoSaid'. A law counts once. -/
mutual
def uptoBulk {H : Type} : DataW H → Nat
  | .lit (.string bytes) => bytes.length + 1
  | .lit _ => 1
  | .nil => 1
  | .ptr d => uptoBulk d + 1
  | .slice elems spare => uptoBulkAll elems + uptoBulkAll spare + 1
  | .agg parts => uptoBulkAll parts + 1
  | .iface _ d => uptoBulk d + 1
  | .map entries => uptoBulkEntries entries + 1
  | .held _ => 1
def uptoBulkAll {H : Type} : List (DataW H) → Nat
  | [] => 0
  | d :: r => uptoBulk d + uptoBulkAll r
def uptoBulkEntries {H : Type} : List (Lit × DataW H) → Nat
  | [] => 0
  | x :: r => uptoBulkEntry x + uptoBulkEntries r
def uptoBulkEntry {H : Type} : Lit × DataW H → Nat
  | (.string bytes, d) => bytes.length + uptoBulk d + 1
  | (_, d) => uptoBulk d + 1
 end
def uptoSmall : (H : Type) → List (DataW H) → Bool := fun _ ds => decide (uptoBulkAll ds ≤ 1048576)
def OpenSpec.upto (s : _root_.Go.ChangeSpec) : _root_.Go.OpenSpec := { _root_.Go.OpenSpec.ofChange s with cond := some uptoSmall }

/-- 'sternpostlaw15.SendqProbes', WHERE WHAT IT READS IS OF BULK AT MOST 1048576: true; the input reads as it did. -/
def sendqProbesUptoRow : OpenClaim := { program := "ytobndcdohehhbaa", sum := "783fa0935e937e93cccea10e3d1b67854be0f8c449d8e2cfc64e0add73048051", func := "sternpost/sternpostlaw15.SendqProbes", spec := "sendqProbes", apart := false, narrowed := true }
def SendqProbesUptoSaid : Prop := sendqProbesUptoRow.holds Try.pinned (OpenSpec.upto sendqProbesSpec)

/-- 'sternpostlaw15.SendqStream', WHERE WHAT IT READS IS OF BULK AT MOST 1048576: true; the input reads as it did. -/
def sendqStreamUptoRow : OpenClaim := { program := "ytobndcdohehhbaa", sum := "783fa0935e937e93cccea10e3d1b67854be0f8c449d8e2cfc64e0add73048051", func := "sternpost/sternpostlaw15.SendqStream", spec := "sendqStream", apart := false, narrowed := true }
def SendqStreamUptoSaid : Prop := sendqStreamUptoRow.holds Try.pinned (OpenSpec.upto sendqStreamSpec)

/-- 'sternpostlaw15.SendqHoles', WHERE WHAT IT READS IS OF BULK AT MOST 1048576: true; the input reads as it did. -/
def sendqHolesUptoRow : OpenClaim := { program := "ytobndcdohehhbaa", sum := "783fa0935e937e93cccea10e3d1b67854be0f8c449d8e2cfc64e0add73048051", func := "sternpost/sternpostlaw15.SendqHoles", spec := "sendqHoles", unfollowed := true, recurses := true, apart := false, narrowed := true }
def SendqHolesUptoSaid : Prop := sendqHolesUptoRow.holds Try.pinned (OpenSpec.upto sendqHolesSpec)

/-- 'sternpostlaw15.SendqPlays', WHERE WHAT IT READS IS OF BULK AT MOST 1048576: true; the input reads as it did. -/
def sendqPlaysUptoRow : OpenClaim := { program := "ytobndcdohehhbaa", sum := "783fa0935e937e93cccea10e3d1b67854be0f8c449d8e2cfc64e0add73048051", func := "sternpost/sternpostlaw15.SendqPlays", spec := "sendqPlays", unfollowed := true, recurses := true, apart := false, narrowed := true }
def SendqPlaysUptoSaid : Prop := sendqPlaysUptoRow.holds Try.pinned (OpenSpec.upto sendqPlaysSpec)

end Rows
end Go.Proofs.Ytobndcdohehhbaa

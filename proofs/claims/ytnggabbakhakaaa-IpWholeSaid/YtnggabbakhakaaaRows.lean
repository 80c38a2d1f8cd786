/-
  No cell of these rows narrows 'for every input' (looked for: loops, veiled, ifaces, maps, wideKeys, modest, calm, conditions, laid).
  DERIVED. THE GIVEN ROWS OF THIS SEAT. 5 by the template 'for every input the law returns true; each argument reads behind the call as it read before'; 0 by the template 'total and deterministic' (their statements: YtnggabbakhakaaaTotals.lean).
  GIVEN WITH THE SEED: the statements are not yours to turn. If you find one false, say at which input.
  Laid BY PROGRAM, IN A SANDBOX (cutbox-rows.mjs): the forced cells as the released guide's own fill.sh prints them over the translation 98f167f10a865d53… (all of the seat's roots in one cut). By AI agents, Wed Nov 11 2026. No macro, syntax, notation, axiom, sorry.
-/
import Derived.Test.YtnggabbakhakaaaChecked
import GoSem.Claim
import GoSem.ClaimJoined
import GoSem.ClaimMapViews
import Derived.JoinedTies
import Derived.KernelRfl
namespace Go.Proofs.Ytnggabbakhakaaa
/- THE CELL 'sum', in the pinned program and in every row, IS THE sha256 OF THE DUMP (.gsa) THAT YtnggabbakhakaaaProg.lean LOADS. Nothing in Lean hashes anything: it is a label: what it is worth is what the hold of that sum in a sandbox is worth. -/
noncomputable def Try.pinned : Pinned := { name := "ytnggabbakhakaaa", sum := "98f167f10a865d530c3ff085fcc2e6a4bc0a3b0c1cdef64ca1648886f5903a67", checked := Try.checked }
namespace Rows
def none {H : Type} : Left H := { results := [], args := [] }

/-- 'sternpostlaw05.IpWrites': WHATEVER THE INPUT: true; the input reads as it did. -/
def ipWritesSpec : ChangeSpec := { name := "ipWrites", fn := fun _ => fun
  | [d] => { results := [.lit (.bool true)], args := [d] }
  | _ => none }
def ipWritesRow : OpenClaim := { program := "ytnggabbakhakaaa", sum := "98f167f10a865d530c3ff085fcc2e6a4bc0a3b0c1cdef64ca1648886f5903a67", func := "sternpost/sternpostlaw05.IpWrites", spec := "ipWrites", apart := false }
def IpWritesSaid : Prop := ipWritesRow.holds Try.pinned (OpenSpec.ofChange ipWritesSpec)

/-- ITS FALSE NEIGHBOUR: 'it returns false'. Refute it at one input. -/
def ipWritesWrong : ChangeSpec := { name := "ipWrites", fn := fun _ => fun
  | [d] => { results := [.lit (.bool false)], args := [d] }
  | _ => none }
def IpWritesWrongFalsely : Prop := ipWritesRow.holds Try.pinned (OpenSpec.ofChange ipWritesWrong)

/-- 'sternpostlaw05.IpWhole': WHATEVER THE INPUT: true; the input reads as it did. -/
def ipWholeSpec : ChangeSpec := { name := "ipWhole", fn := fun _ => fun
  | [d1, d2] => { results := [.lit (.bool true)], args := [d1, d2] }
  | _ => none }
def ipWholeRow : OpenClaim := { program := "ytnggabbakhakaaa", sum := "98f167f10a865d530c3ff085fcc2e6a4bc0a3b0c1cdef64ca1648886f5903a67", func := "sternpost/sternpostlaw05.IpWhole", spec := "ipWhole", unfollowed := true, recurses := true, apart := false }
def IpWholeSaid : Prop := ipWholeRow.holds Try.pinned (OpenSpec.ofChange ipWholeSpec)

/-- ITS FALSE NEIGHBOUR: 'it returns false'. Refute it at one input. -/
def ipWholeWrong : ChangeSpec := { name := "ipWhole", fn := fun _ => fun
  | [d1, d2] => { results := [.lit (.bool false)], args := [d1, d2] }
  | _ => none }
def IpWholeWrongFalsely : Prop := ipWholeRow.holds Try.pinned (OpenSpec.ofChange ipWholeWrong)

/-- 'sternpostlaw05.IpReads': WHATEVER THE INPUT: true; the input reads as it did. -/
def ipReadsSpec : ChangeSpec := { name := "ipReads", fn := fun _ => fun
  | [d] => { results := [.lit (.bool true)], args := [d] }
  | _ => none }
def ipReadsRow : OpenClaim := { program := "ytnggabbakhakaaa", sum := "98f167f10a865d530c3ff085fcc2e6a4bc0a3b0c1cdef64ca1648886f5903a67", func := "sternpost/sternpostlaw05.IpReads", spec := "ipReads", unfollowed := true, recurses := true, apart := false }
def IpReadsSaid : Prop := ipReadsRow.holds Try.pinned (OpenSpec.ofChange ipReadsSpec)

/-- ITS FALSE NEIGHBOUR: 'it returns false'. Refute it at one input. -/
def ipReadsWrong : ChangeSpec := { name := "ipReads", fn := fun _ => fun
  | [d] => { results := [.lit (.bool false)], args := [d] }
  | _ => none }
def IpReadsWrongFalsely : Prop := ipReadsRow.holds Try.pinned (OpenSpec.ofChange ipReadsWrong)

/-- 'sternpostlaw05.IpBack': WHATEVER THE INPUT: true; the input reads as it did. -/
def ipBackSpec : ChangeSpec := { name := "ipBack", fn := fun _ => fun
  | [d1, d2, d3] => { results := [.lit (.bool true)], args := [d1, d2, d3] }
  | _ => none }
def ipBackRow : OpenClaim := { program := "ytnggabbakhakaaa", sum := "98f167f10a865d530c3ff085fcc2e6a4bc0a3b0c1cdef64ca1648886f5903a67", func := "sternpost/sternpostlaw05.IpBack", spec := "ipBack", unfollowed := true, recurses := true, apart := false }
def IpBackSaid : Prop := ipBackRow.holds Try.pinned (OpenSpec.ofChange ipBackSpec)

/-- ITS FALSE NEIGHBOUR: 'it returns false'. Refute it at one input. -/
def ipBackWrong : ChangeSpec := { name := "ipBack", fn := fun _ => fun
  | [d1, d2, d3] => { results := [.lit (.bool false)], args := [d1, d2, d3] }
  | _ => none }
def IpBackWrongFalsely : Prop := ipBackRow.holds Try.pinned (OpenSpec.ofChange ipBackWrong)

/-- 'sternpostlaw05.IpTurned': WHATEVER THE INPUT: true; the input reads as it did. -/
def ipTurnedSpec : ChangeSpec := { name := "ipTurned", fn := fun _ => fun
  | [d1, d2] => { results := [.lit (.bool true)], args := [d1, d2] }
  | _ => none }
def ipTurnedRow : OpenClaim := { program := "ytnggabbakhakaaa", sum := "98f167f10a865d530c3ff085fcc2e6a4bc0a3b0c1cdef64ca1648886f5903a67", func := "sternpost/sternpostlaw05.IpTurned", spec := "ipTurned", unfollowed := true, recurses := true, apart := false }
def IpTurnedSaid : Prop := ipTurnedRow.holds Try.pinned (OpenSpec.ofChange ipTurnedSpec)

/-- ITS FALSE NEIGHBOUR: 'it returns false'. Refute it at one input. -/
def ipTurnedWrong : ChangeSpec := { name := "ipTurned", fn := fun _ => fun
  | [d1, d2] => { results := [.lit (.bool false)], args := [d1, d2] }
  | _ => none }
def IpTurnedWrongFalsely : Prop := ipTurnedRow.holds Try.pinned (OpenSpec.ofChange ipTurnedWrong)

/- THE SECOND FORM. 'bulk': how many values and letters a reading holds, each counted each time it is reached (what is shared counts as often as it is met; a slice's spare places count too). A statement '..UptoSaid' is the law's where the arguments, and the package variables that the reading takes, are together of bulk at most 1048576: NARROWER than '..Said'. Prove '..Said' where nothing that the law and all that it calls make is longer than what came in: it says more and counts as full. Else prove '..UptoSaid'. A law counts once. -/
mutual
def uptoBulk {H : Type} : DataW H → Nat
  | .lit (.string bytes) => bytes.length + 1
  | .lit _ => 1
  | .nil => 1
  | .ptr d => uptoBulk d + 1
  | .slice elems spare => uptoBulkAll elems + uptoBulkAll spare + 1
  | .agg parts => uptoBulkAll parts + 1
  | .iface _ d => uptoBulk d + 1
  | .map entries => uptoBulkEntries entries + 1
  | .held _ => 1
def uptoBulkAll {H : Type} : List (DataW H) → Nat
  | [] => 0
  | d :: r => uptoBulk d + uptoBulkAll r
def uptoBulkEntries {H : Type} : List (Lit × DataW H) → Nat
  | [] => 0
  | x :: r => uptoBulkEntry x + uptoBulkEntries r
def uptoBulkEntry {H : Type} : Lit × DataW H → Nat
  | (.string bytes, d) => bytes.length + uptoBulk d + 1
  | (_, d) => uptoBulk d + 1
 end
def uptoSmall : (H : Type) → List (DataW H) → Bool := fun _ ds => decide (uptoBulkAll ds ≤ 1048576)
def OpenSpec.upto (s : _root_.Go.ChangeSpec) : _root_.Go.OpenSpec := { _root_.Go.OpenSpec.ofChange s with cond := some uptoSmall }

/-- 'sternpostlaw05.IpWrites', WHERE WHAT IT READS IS OF BULK AT MOST 1048576: true; the input reads as it did. -/
def ipWritesUptoRow : OpenClaim := { program := "ytnggabbakhakaaa", sum := "98f167f10a865d530c3ff085fcc2e6a4bc0a3b0c1cdef64ca1648886f5903a67", func := "sternpost/sternpostlaw05.IpWrites", spec := "ipWrites", apart := false, narrowed := true }
def IpWritesUptoSaid : Prop := ipWritesUptoRow.holds Try.pinned (OpenSpec.upto ipWritesSpec)

/-- 'sternpostlaw05.IpWhole', WHERE WHAT IT READS IS OF BULK AT MOST 1048576: true; the input reads as it did. -/
def ipWholeUptoRow : OpenClaim := { program := "ytnggabbakhakaaa", sum := "98f167f10a865d530c3ff085fcc2e6a4bc0a3b0c1cdef64ca1648886f5903a67", func := "sternpost/sternpostlaw05.IpWhole", spec := "ipWhole", unfollowed := true, recurses := true, apart := false, narrowed := true }
def IpWholeUptoSaid : Prop := ipWholeUptoRow.holds Try.pinned (OpenSpec.upto ipWholeSpec)

/-- 'sternpostlaw05.IpReads', WHERE WHAT IT READS IS OF BULK AT MOST 1048576: true; the input reads as it did. -/
def ipReadsUptoRow : OpenClaim := { program := "ytnggabbakhakaaa", sum := "98f167f10a865d530c3ff085fcc2e6a4bc0a3b0c1cdef64ca1648886f5903a67", func := "sternpost/sternpostlaw05.IpReads", spec := "ipReads", unfollowed := true, recurses := true, apart := false, narrowed := true }
def IpReadsUptoSaid : Prop := ipReadsUptoRow.holds Try.pinned (OpenSpec.upto ipReadsSpec)

/-- 'sternpostlaw05.IpBack', WHERE WHAT IT READS IS OF BULK AT MOST 1048576: true; the input reads as it did. -/
def ipBackUptoRow : OpenClaim := { program := "ytnggabbakhakaaa", sum := "98f167f10a865d530c3ff085fcc2e6a4bc0a3b0c1cdef64ca1648886f5903a67", func := "sternpost/sternpostlaw05.IpBack", spec := "ipBack", unfollowed := true, recurses := true, apart := false, narrowed := true }
def IpBackUptoSaid : Prop := ipBackUptoRow.holds Try.pinned (OpenSpec.upto ipBackSpec)

/-- 'sternpostlaw05.IpTurned', WHERE WHAT IT READS IS OF BULK AT MOST 1048576: true; the input reads as it did. -/
def ipTurnedUptoRow : OpenClaim := { program := "ytnggabbakhakaaa", sum := "98f167f10a865d530c3ff085fcc2e6a4bc0a3b0c1cdef64ca1648886f5903a67", func := "sternpost/sternpostlaw05.IpTurned", spec := "ipTurned", unfollowed := true, recurses := true, apart := false, narrowed := true }
def IpTurnedUptoSaid : Prop := ipTurnedUptoRow.holds Try.pinned (OpenSpec.upto ipTurnedSpec)

end Rows
end Go.Proofs.Ytnggabbakhakaaa

/-
  No cell of these rows narrows 'for every input' (looked for: loops, veiled, ifaces, maps, wideKeys, modest, calm, conditions, laid).
  DERIVED. THE GIVEN ROWS OF THIS SEAT. 6 by the template 'for every input the law returns true; each argument reads behind the call as it read before'; 0 by the template 'total and deterministic' (their statements: YtakajeoeijnmhaaTotals.lean).
  GIVEN WITH THE SEED: the statements are not yours to turn. If you find one false, say at which input.
  Laid BY PROGRAM, IN A SANDBOX (cutbox-rows.mjs): the forced cells as the released guide's own fill.sh prints them over the translation 3f3585a3bb4f6f7b… (all of the seat's roots in one cut). By AI agents, Wed Nov 11 2026. No macro, syntax, notation, axiom, sorry.
-/
import Derived.Test.YtakajeoeijnmhaaChecked
import GoSem.Claim
import GoSem.ClaimJoined
import GoSem.ClaimMapViews
import Derived.JoinedTies
import Derived.KernelRfl
namespace Go.Proofs.Ytakajeoeijnmhaa
/- THE CELL 'sum', in the pinned program and in every row, IS THE sha256 OF THE DUMP (.gsa) THAT YtakajeoeijnmhaaProg.lean LOADS. Nothing in Lean hashes anything: it is a label: what it is worth is what the hold of that sum in a sandbox is worth. -/
noncomputable def Try.pinned : Pinned := { name := "ytakajeoeijnmhaa", sum := "3f3585a3bb4f6f7bed1b6ca8a039135db5800a3bfb1e0437c9d063179178bb00", checked := Try.checked }
namespace Rows
def none {H : Type} : Left H := { results := [], args := [] }

/-- 'sternpostlaw08.SegSame': WHATEVER THE INPUT: true; the input reads as it did. -/
def segSameSpec : ChangeSpec := { name := "segSame", fn := fun _ => fun
  | [d1, d2] => { results := [.lit (.bool true)], args := [d1, d2] }
  | _ => none }
def segSameRow : OpenClaim := { program := "ytakajeoeijnmhaa", sum := "3f3585a3bb4f6f7bed1b6ca8a039135db5800a3bfb1e0437c9d063179178bb00", func := "sternpost/sternpostlaw08.SegSame", spec := "segSame", inPlace := ["internal/abi.NoEscape", "internal/bytealg.MakeNoZero"], unfollowed := true, recurses := true, apart := false }
def SegSameSaid : Prop := segSameRow.holds Try.pinned (OpenSpec.ofChange segSameSpec)

/-- ITS FALSE NEIGHBOUR: 'it returns false'. Refute it at one input. -/
def segSameWrong : ChangeSpec := { name := "segSame", fn := fun _ => fun
  | [d1, d2] => { results := [.lit (.bool false)], args := [d1, d2] }
  | _ => none }
def SegSameWrongFalsely : Prop := segSameRow.holds Try.pinned (OpenSpec.ofChange segSameWrong)

/-- 'sternpostlaw08.SegResets': WHATEVER THE INPUT: true; the input reads as it did. -/
def segResetsSpec : ChangeSpec := { name := "segResets", fn := fun _ => fun
  | [d] => { results := [.lit (.bool true)], args := [d] }
  | _ => none }
def segResetsRow : OpenClaim := { program := "ytakajeoeijnmhaa", sum := "3f3585a3bb4f6f7bed1b6ca8a039135db5800a3bfb1e0437c9d063179178bb00", func := "sternpost/sternpostlaw08.SegResets", spec := "segResets", inPlace := ["internal/abi.NoEscape", "internal/bytealg.MakeNoZero"], unfollowed := true, recurses := true, apart := false }
def SegResetsSaid : Prop := segResetsRow.holds Try.pinned (OpenSpec.ofChange segResetsSpec)

/-- ITS FALSE NEIGHBOUR: 'it returns false'. Refute it at one input. -/
def segResetsWrong : ChangeSpec := { name := "segResets", fn := fun _ => fun
  | [d] => { results := [.lit (.bool false)], args := [d] }
  | _ => none }
def SegResetsWrongFalsely : Prop := segResetsRow.holds Try.pinned (OpenSpec.ofChange segResetsWrong)

/-- 'sternpostlaw08.SegWrites': WHATEVER THE INPUT: true; the input reads as it did. -/
def segWritesSpec : ChangeSpec := { name := "segWrites", fn := fun _ => fun
  | [d1, d2, d3] => { results := [.lit (.bool true)], args := [d1, d2, d3] }
  | _ => none }
def segWritesRow : OpenClaim := { program := "ytakajeoeijnmhaa", sum := "3f3585a3bb4f6f7bed1b6ca8a039135db5800a3bfb1e0437c9d063179178bb00", func := "sternpost/sternpostlaw08.SegWrites", spec := "segWrites", inPlace := ["internal/abi.NoEscape", "internal/bytealg.MakeNoZero"], unfollowed := true, recurses := true, apart := false }
def SegWritesSaid : Prop := segWritesRow.holds Try.pinned (OpenSpec.ofChange segWritesSpec)

/-- ITS FALSE NEIGHBOUR: 'it returns false'. Refute it at one input. -/
def segWritesWrong : ChangeSpec := { name := "segWrites", fn := fun _ => fun
  | [d1, d2, d3] => { results := [.lit (.bool false)], args := [d1, d2, d3] }
  | _ => none }
def SegWritesWrongFalsely : Prop := segWritesRow.holds Try.pinned (OpenSpec.ofChange segWritesWrong)

/-- 'sternpostlaw08.SegWhole': WHATEVER THE INPUT: true; the input reads as it did. -/
def segWholeSpec : ChangeSpec := { name := "segWhole", fn := fun _ => fun
  | [d1, d2] => { results := [.lit (.bool true)], args := [d1, d2] }
  | _ => none }
def segWholeRow : OpenClaim := { program := "ytakajeoeijnmhaa", sum := "3f3585a3bb4f6f7bed1b6ca8a039135db5800a3bfb1e0437c9d063179178bb00", func := "sternpost/sternpostlaw08.SegWhole", spec := "segWhole", inPlace := ["internal/abi.NoEscape", "internal/bytealg.MakeNoZero"], unfollowed := true, recurses := true, apart := false }
def SegWholeSaid : Prop := segWholeRow.holds Try.pinned (OpenSpec.ofChange segWholeSpec)

/-- ITS FALSE NEIGHBOUR: 'it returns false'. Refute it at one input. -/
def segWholeWrong : ChangeSpec := { name := "segWhole", fn := fun _ => fun
  | [d1, d2] => { results := [.lit (.bool false)], args := [d1, d2] }
  | _ => none }
def SegWholeWrongFalsely : Prop := segWholeRow.holds Try.pinned (OpenSpec.ofChange segWholeWrong)

/-- 'sternpostlaw08.SegReads': WHATEVER THE INPUT: true; the input reads as it did. -/
def segReadsSpec : ChangeSpec := { name := "segReads", fn := fun _ => fun
  | [d1, d2] => { results := [.lit (.bool true)], args := [d1, d2] }
  | _ => none }
def segReadsRow : OpenClaim := { program := "ytakajeoeijnmhaa", sum := "3f3585a3bb4f6f7bed1b6ca8a039135db5800a3bfb1e0437c9d063179178bb00", func := "sternpost/sternpostlaw08.SegReads", spec := "segReads", inPlace := ["internal/abi.NoEscape", "internal/bytealg.MakeNoZero"], unfollowed := true, recurses := true, apart := false }
def SegReadsSaid : Prop := segReadsRow.holds Try.pinned (OpenSpec.ofChange segReadsSpec)

/-- ITS FALSE NEIGHBOUR: 'it returns false'. Refute it at one input. -/
def segReadsWrong : ChangeSpec := { name := "segReads", fn := fun _ => fun
  | [d1, d2] => { results := [.lit (.bool false)], args := [d1, d2] }
  | _ => none }
def SegReadsWrongFalsely : Prop := segReadsRow.holds Try.pinned (OpenSpec.ofChange segReadsWrong)

/-- 'sternpostlaw08.SegBack': WHATEVER THE INPUT: true; the input reads as it did. -/
def segBackSpec : ChangeSpec := { name := "segBack", fn := fun _ => fun
  | [d1, d2, d3] => { results := [.lit (.bool true)], args := [d1, d2, d3] }
  | _ => none }
def segBackRow : OpenClaim := { program := "ytakajeoeijnmhaa", sum := "3f3585a3bb4f6f7bed1b6ca8a039135db5800a3bfb1e0437c9d063179178bb00", func := "sternpost/sternpostlaw08.SegBack", spec := "segBack", inPlace := ["internal/abi.NoEscape", "internal/bytealg.MakeNoZero"], unfollowed := true, recurses := true, apart := false }
def SegBackSaid : Prop := segBackRow.holds Try.pinned (OpenSpec.ofChange segBackSpec)

/-- ITS FALSE NEIGHBOUR: 'it returns false'. Refute it at one input. -/
def segBackWrong : ChangeSpec := { name := "segBack", fn := fun _ => fun
  | [d1, d2, d3] => { results := [.lit (.bool false)], args := [d1, d2, d3] }
  | _ => none }
def SegBackWrongFalsely : Prop := segBackRow.holds Try.pinned (OpenSpec.ofChange segBackWrong)

/- THE SECOND FORM. 'bulk': how many values and letters a reading holds, each counted each time it is reached (what is shared counts as often as it is met; a slice's spare places count too). A statement '..UptoSaid' is the law's where the arguments, and the package variables that the reading takes, are together of bulk at most 1048576: NARROWER than '..Said'. Prove '..Said' where nothing that the law and all that it calls make is longer than what came in: it says more and counts as full. Else prove '..UptoSaid'. A law counts once. -/
mutual
def uptoBulk {H : Type} : DataW H → Nat
  | .lit (.string bytes) => bytes.length + 1
  | .lit _ => 1
  | .nil => 1
  | .ptr d => uptoBulk d + 1
  | .slice elems spare => uptoBulkAll elems + uptoBulkAll spare + 1
  | .agg parts => uptoBulkAll parts + 1
  | .iface _ d => uptoBulk d + 1
  | .map entries => uptoBulkEntries entries + 1
  | .held _ => 1
def uptoBulkAll {H : Type} : List (DataW H) → Nat
  | [] => 0
  | d :: r => uptoBulk d + uptoBulkAll r
def uptoBulkEntries {H : Type} : List (Lit × DataW H) → Nat
  | [] => 0
  | x :: r => uptoBulkEntry x + uptoBulkEntries r
def uptoBulkEntry {H : Type} : Lit × DataW H → Nat
  | (.string bytes, d) => bytes.length + uptoBulk d + 1
  | (_, d) => uptoBulk d + 1
 end
def uptoSmall : (H : Type) → List (DataW H) → Bool := fun _ ds => decide (uptoBulkAll ds ≤ 1048576)
def OpenSpec.upto (s : _root_.Go.ChangeSpec) : _root_.Go.OpenSpec := { _root_.Go.OpenSpec.ofChange s with cond := some uptoSmall }

/-- 'sternpostlaw08.SegSame', WHERE WHAT IT READS IS OF BULK AT MOST 1048576: true; the input reads as it did. -/
def segSameUptoRow : OpenClaim := { program := "ytakajeoeijnmhaa", sum := "3f3585a3bb4f6f7bed1b6ca8a039135db5800a3bfb1e0437c9d063179178bb00", func := "sternpost/sternpostlaw08.SegSame", spec := "segSame", inPlace := ["internal/abi.NoEscape", "internal/bytealg.MakeNoZero"], unfollowed := true, recurses := true, apart := false, narrowed := true }
def SegSameUptoSaid : Prop := segSameUptoRow.holds Try.pinned (OpenSpec.upto segSameSpec)

/-- 'sternpostlaw08.SegResets', WHERE WHAT IT READS IS OF BULK AT MOST 1048576: true; the input reads as it did. -/
def segResetsUptoRow : OpenClaim := { program := "ytakajeoeijnmhaa", sum := "3f3585a3bb4f6f7bed1b6ca8a039135db5800a3bfb1e0437c9d063179178bb00", func := "sternpost/sternpostlaw08.SegResets", spec := "segResets", inPlace := ["internal/abi.NoEscape", "internal/bytealg.MakeNoZero"], unfollowed := true, recurses := true, apart := false, narrowed := true }
def SegResetsUptoSaid : Prop := segResetsUptoRow.holds Try.pinned (OpenSpec.upto segResetsSpec)

/-- 'sternpostlaw08.SegWrites', WHERE WHAT IT READS IS OF BULK AT MOST 1048576: true; the input reads as it did. -/
def segWritesUptoRow : OpenClaim := { program := "ytakajeoeijnmhaa", sum := "3f3585a3bb4f6f7bed1b6ca8a039135db5800a3bfb1e0437c9d063179178bb00", func := "sternpost/sternpostlaw08.SegWrites", spec := "segWrites", inPlace := ["internal/abi.NoEscape", "internal/bytealg.MakeNoZero"], unfollowed := true, recurses := true, apart := false, narrowed := true }
def SegWritesUptoSaid : Prop := segWritesUptoRow.holds Try.pinned (OpenSpec.upto segWritesSpec)

/-- 'sternpostlaw08.SegWhole', WHERE WHAT IT READS IS OF BULK AT MOST 1048576: true; the input reads as it did. -/
def segWholeUptoRow : OpenClaim := { program := "ytakajeoeijnmhaa", sum := "3f3585a3bb4f6f7bed1b6ca8a039135db5800a3bfb1e0437c9d063179178bb00", func := "sternpost/sternpostlaw08.SegWhole", spec := "segWhole", inPlace := ["internal/abi.NoEscape", "internal/bytealg.MakeNoZero"], unfollowed := true, recurses := true, apart := false, narrowed := true }
def SegWholeUptoSaid : Prop := segWholeUptoRow.holds Try.pinned (OpenSpec.upto segWholeSpec)

/-- 'sternpostlaw08.SegReads', WHERE WHAT IT READS IS OF BULK AT MOST 1048576: true; the input reads as it did. -/
def segReadsUptoRow : OpenClaim := { program := "ytakajeoeijnmhaa", sum := "3f3585a3bb4f6f7bed1b6ca8a039135db5800a3bfb1e0437c9d063179178bb00", func := "sternpost/sternpostlaw08.SegReads", spec := "segReads", inPlace := ["internal/abi.NoEscape", "internal/bytealg.MakeNoZero"], unfollowed := true, recurses := true, apart := false, narrowed := true }
def SegReadsUptoSaid : Prop := segReadsUptoRow.holds Try.pinned (OpenSpec.upto segReadsSpec)

/-- 'sternpostlaw08.SegBack', WHERE WHAT IT READS IS OF BULK AT MOST 1048576: true; the input reads as it did. -/
def segBackUptoRow : OpenClaim := { program := "ytakajeoeijnmhaa", sum := "3f3585a3bb4f6f7bed1b6ca8a039135db5800a3bfb1e0437c9d063179178bb00", func := "sternpost/sternpostlaw08.SegBack", spec := "segBack", inPlace := ["internal/abi.NoEscape", "internal/bytealg.MakeNoZero"], unfollowed := true, recurses := true, apart := false, narrowed := true }
def SegBackUptoSaid : Prop := segBackUptoRow.holds Try.pinned (OpenSpec.upto segBackSpec)

end Rows
end Go.Proofs.Ytakajeoeijnmhaa

/-
  No cell of these rows narrows 'for every input' (looked for: loops, veiled, ifaces, maps, wideKeys, modest, calm, conditions, laid).
  DERIVED. THE GIVEN ROWS OF THIS SEAT. 6 by the template 'for every input the law returns true; each argument reads behind the call as it read before'; 0 by the template 'total and deterministic' (their statements: YtckgcjjehahkiaaTotals.lean).
  GIVEN WITH THE SEED: the statements are not yours to turn. If you find one false, say at which input.
  Laid BY PROGRAM, IN A SANDBOX (cutbox-rows.mjs): the forced cells as the released guide's own fill.sh prints them over the translation 8a442b5a9b3b9e55… (all of the seat's roots in one cut). By AI agents, Wed Nov 11 2026. No macro, syntax, notation, axiom, sorry.
-/
import Derived.Test.YtckgcjjehahkiaaChecked
import GoSem.Claim
import GoSem.ClaimJoined
import GoSem.ClaimMapViews
import Derived.JoinedTies
import Derived.KernelRfl
namespace Go.Proofs.Ytckgcjjehahkiaa
/- THE CELL 'sum', in the pinned program and in every row, IS THE sha256 OF THE DUMP (.gsa) THAT YtckgcjjehahkiaaProg.lean LOADS. Nothing in Lean hashes anything: it is a label: what it is worth is what the hold of that sum in a sandbox is worth. -/
noncomputable def Try.pinned : Pinned := { name := "ytckgcjjehahkiaa", sum := "8a442b5a9b3b9e55a4531c3563b3bae38c873307f40ba90b303c43ae5b019287", checked := Try.checked }
namespace Rows
def none {H : Type} : Left H := { results := [], args := [] }

/-- 'sternpostlaw06.IcmpWrites': WHATEVER THE INPUT: true; the input reads as it did. -/
def icmpWritesSpec : ChangeSpec := { name := "icmpWrites", fn := fun _ => fun
  | [d] => { results := [.lit (.bool true)], args := [d] }
  | _ => none }
def icmpWritesRow : OpenClaim := { program := "ytckgcjjehahkiaa", sum := "8a442b5a9b3b9e55a4531c3563b3bae38c873307f40ba90b303c43ae5b019287", func := "sternpost/sternpostlaw06.IcmpWrites", spec := "icmpWrites", apart := false }
def IcmpWritesSaid : Prop := icmpWritesRow.holds Try.pinned (OpenSpec.ofChange icmpWritesSpec)

/-- ITS FALSE NEIGHBOUR: 'it returns false'. Refute it at one input. -/
def icmpWritesWrong : ChangeSpec := { name := "icmpWrites", fn := fun _ => fun
  | [d] => { results := [.lit (.bool false)], args := [d] }
  | _ => none }
def IcmpWritesWrongFalsely : Prop := icmpWritesRow.holds Try.pinned (OpenSpec.ofChange icmpWritesWrong)

/-- 'sternpostlaw06.IcmpSame': WHATEVER THE INPUT: true; the input reads as it did. -/
def icmpSameSpec : ChangeSpec := { name := "icmpSame", fn := fun _ => fun
  | [d1, d2, d3] => { results := [.lit (.bool true)], args := [d1, d2, d3] }
  | _ => none }
def icmpSameRow : OpenClaim := { program := "ytckgcjjehahkiaa", sum := "8a442b5a9b3b9e55a4531c3563b3bae38c873307f40ba90b303c43ae5b019287", func := "sternpost/sternpostlaw06.IcmpSame", spec := "icmpSame", apart := false }
def IcmpSameSaid : Prop := icmpSameRow.holds Try.pinned (OpenSpec.ofChange icmpSameSpec)

/-- ITS FALSE NEIGHBOUR: 'it returns false'. Refute it at one input. -/
def icmpSameWrong : ChangeSpec := { name := "icmpSame", fn := fun _ => fun
  | [d1, d2, d3] => { results := [.lit (.bool false)], args := [d1, d2, d3] }
  | _ => none }
def IcmpSameWrongFalsely : Prop := icmpSameRow.holds Try.pinned (OpenSpec.ofChange icmpSameWrong)

/-- 'sternpostlaw06.IcmpReads': WHATEVER THE INPUT: true; the input reads as it did. -/
def icmpReadsSpec : ChangeSpec := { name := "icmpReads", fn := fun _ => fun
  | [d] => { results := [.lit (.bool true)], args := [d] }
  | _ => none }
def icmpReadsRow : OpenClaim := { program := "ytckgcjjehahkiaa", sum := "8a442b5a9b3b9e55a4531c3563b3bae38c873307f40ba90b303c43ae5b019287", func := "sternpost/sternpostlaw06.IcmpReads", spec := "icmpReads", apart := false }
def IcmpReadsSaid : Prop := icmpReadsRow.holds Try.pinned (OpenSpec.ofChange icmpReadsSpec)

/-- ITS FALSE NEIGHBOUR: 'it returns false'. Refute it at one input. -/
def icmpReadsWrong : ChangeSpec := { name := "icmpReads", fn := fun _ => fun
  | [d] => { results := [.lit (.bool false)], args := [d] }
  | _ => none }
def IcmpReadsWrongFalsely : Prop := icmpReadsRow.holds Try.pinned (OpenSpec.ofChange icmpReadsWrong)

/-- 'sternpostlaw06.IcmpBack': WHATEVER THE INPUT: true; the input reads as it did. -/
def icmpBackSpec : ChangeSpec := { name := "icmpBack", fn := fun _ => fun
  | [d1, d2] => { results := [.lit (.bool true)], args := [d1, d2] }
  | _ => none }
def icmpBackRow : OpenClaim := { program := "ytckgcjjehahkiaa", sum := "8a442b5a9b3b9e55a4531c3563b3bae38c873307f40ba90b303c43ae5b019287", func := "sternpost/sternpostlaw06.IcmpBack", spec := "icmpBack", apart := false }
def IcmpBackSaid : Prop := icmpBackRow.holds Try.pinned (OpenSpec.ofChange icmpBackSpec)

/-- ITS FALSE NEIGHBOUR: 'it returns false'. Refute it at one input. -/
def icmpBackWrong : ChangeSpec := { name := "icmpBack", fn := fun _ => fun
  | [d1, d2] => { results := [.lit (.bool false)], args := [d1, d2] }
  | _ => none }
def IcmpBackWrongFalsely : Prop := icmpBackRow.holds Try.pinned (OpenSpec.ofChange icmpBackWrong)

/-- 'sternpostlaw06.IcmpTells': WHATEVER THE INPUT: true; the input reads as it did. -/
def icmpTellsSpec : ChangeSpec := { name := "icmpTells", fn := fun _ => fun
  | [d1, d2, d3] => { results := [.lit (.bool true)], args := [d1, d2, d3] }
  | _ => none }
def icmpTellsRow : OpenClaim := { program := "ytckgcjjehahkiaa", sum := "8a442b5a9b3b9e55a4531c3563b3bae38c873307f40ba90b303c43ae5b019287", func := "sternpost/sternpostlaw06.IcmpTells", spec := "icmpTells", apart := false }
def IcmpTellsSaid : Prop := icmpTellsRow.holds Try.pinned (OpenSpec.ofChange icmpTellsSpec)

/-- ITS FALSE NEIGHBOUR: 'it returns false'. Refute it at one input. -/
def icmpTellsWrong : ChangeSpec := { name := "icmpTells", fn := fun _ => fun
  | [d1, d2, d3] => { results := [.lit (.bool false)], args := [d1, d2, d3] }
  | _ => none }
def IcmpTellsWrongFalsely : Prop := icmpTellsRow.holds Try.pinned (OpenSpec.ofChange icmpTellsWrong)

/-- 'sternpostlaw06.IcmpAbout': WHATEVER THE INPUT: true; the input reads as it did. -/
def icmpAboutSpec : ChangeSpec := { name := "icmpAbout", fn := fun _ => fun
  | [d1, d2] => { results := [.lit (.bool true)], args := [d1, d2] }
  | _ => none }
def icmpAboutRow : OpenClaim := { program := "ytckgcjjehahkiaa", sum := "8a442b5a9b3b9e55a4531c3563b3bae38c873307f40ba90b303c43ae5b019287", func := "sternpost/sternpostlaw06.IcmpAbout", spec := "icmpAbout", apart := false }
def IcmpAboutSaid : Prop := icmpAboutRow.holds Try.pinned (OpenSpec.ofChange icmpAboutSpec)

/-- ITS FALSE NEIGHBOUR: 'it returns false'. Refute it at one input. -/
def icmpAboutWrong : ChangeSpec := { name := "icmpAbout", fn := fun _ => fun
  | [d1, d2] => { results := [.lit (.bool false)], args := [d1, d2] }
  | _ => none }
def IcmpAboutWrongFalsely : Prop := icmpAboutRow.holds Try.pinned (OpenSpec.ofChange icmpAboutWrong)

/- THE SECOND FORM. 'bulk': how many values and letters a reading holds, each counted each time it is reached (what is shared counts as often as it is met; a slice's spare places count too). A statement '..UptoSaid' is the law's where the arguments, and the package variables that the reading takes, are together of bulk at most 1048576: NARROWER than '..Said'. Prove '..Said' where nothing that the law and all that it calls make is longer than what came in: it says more and counts as full. Else prove '..UptoSaid'. A law counts once. -/
mutual
def uptoBulk {H : Type} : DataW H → Nat
  | .lit (.string bytes) => bytes.length + 1
  | .lit _ => 1
  | .nil => 1
  | .ptr d => uptoBulk d + 1
  | .slice elems spare => uptoBulkAll elems + uptoBulkAll spare + 1
  | .agg parts => uptoBulkAll parts + 1
  | .iface _ d => uptoBulk d + 1
  | .map entries => uptoBulkEntries entries + 1
  | .held _ => 1
def uptoBulkAll {H : Type} : List (DataW H) → Nat
  | [] => 0
  | d :: r => uptoBulk d + uptoBulkAll r
def uptoBulkEntries {H : Type} : List (Lit × DataW H) → Nat
  | [] => 0
  | x :: r => uptoBulkEntry x + uptoBulkEntries r
def uptoBulkEntry {H : Type} : Lit × DataW H → Nat
  | (.string bytes, d) => bytes.length + uptoBulk d + 1
  | (_, d) => uptoBulk d + 1
 end
def uptoSmall : (H : Type) → List (DataW H) → Bool := fun _ ds => decide (uptoBulkAll ds ≤ 1048576)
def OpenSpec.upto (s : _root_.Go.ChangeSpec) : _root_.Go.OpenSpec := { _root_.Go.OpenSpec.ofChange s with cond := some uptoSmall }

/-- 'sternpostlaw06.IcmpWrites', WHERE WHAT IT READS IS OF BULK AT MOST 1048576: true; the input reads as it did. -/
def icmpWritesUptoRow : OpenClaim := { program := "ytckgcjjehahkiaa", sum := "8a442b5a9b3b9e55a4531c3563b3bae38c873307f40ba90b303c43ae5b019287", func := "sternpost/sternpostlaw06.IcmpWrites", spec := "icmpWrites", apart := false, narrowed := true }
def IcmpWritesUptoSaid : Prop := icmpWritesUptoRow.holds Try.pinned (OpenSpec.upto icmpWritesSpec)

/-- 'sternpostlaw06.IcmpSame', WHERE WHAT IT READS IS OF BULK AT MOST 1048576: true; the input reads as it did. -/
def icmpSameUptoRow : OpenClaim := { program := "ytckgcjjehahkiaa", sum := "8a442b5a9b3b9e55a4531c3563b3bae38c873307f40ba90b303c43ae5b019287", func := "sternpost/sternpostlaw06.IcmpSame", spec := "icmpSame", apart := false, narrowed := true }
def IcmpSameUptoSaid : Prop := icmpSameUptoRow.holds Try.pinned (OpenSpec.upto icmpSameSpec)

/-- 'sternpostlaw06.IcmpReads', WHERE WHAT IT READS IS OF BULK AT MOST 1048576: true; the input reads as it did. -/
def icmpReadsUptoRow : OpenClaim := { program := "ytckgcjjehahkiaa", sum := "8a442b5a9b3b9e55a4531c3563b3bae38c873307f40ba90b303c43ae5b019287", func := "sternpost/sternpostlaw06.IcmpReads", spec := "icmpReads", apart := false, narrowed := true }
def IcmpReadsUptoSaid : Prop := icmpReadsUptoRow.holds Try.pinned (OpenSpec.upto icmpReadsSpec)

/-- 'sternpostlaw06.IcmpBack', WHERE WHAT IT READS IS OF BULK AT MOST 1048576: true; the input reads as it did. -/
def icmpBackUptoRow : OpenClaim := { program := "ytckgcjjehahkiaa", sum := "8a442b5a9b3b9e55a4531c3563b3bae38c873307f40ba90b303c43ae5b019287", func := "sternpost/sternpostlaw06.IcmpBack", spec := "icmpBack", apart := false, narrowed := true }
def IcmpBackUptoSaid : Prop := icmpBackUptoRow.holds Try.pinned (OpenSpec.upto icmpBackSpec)

/-- 'sternpostlaw06.IcmpTells', WHERE WHAT IT READS IS OF BULK AT MOST 1048576: true; the input reads as it did. -/
def icmpTellsUptoRow : OpenClaim := { program := "ytckgcjjehahkiaa", sum := "8a442b5a9b3b9e55a4531c3563b3bae38c873307f40ba90b303c43ae5b019287", func := "sternpost/sternpostlaw06.IcmpTells", spec := "icmpTells", apart := false, narrowed := true }
def IcmpTellsUptoSaid : Prop := icmpTellsUptoRow.holds Try.pinned (OpenSpec.upto icmpTellsSpec)

/-- 'sternpostlaw06.IcmpAbout', WHERE WHAT IT READS IS OF BULK AT MOST 1048576: true; the input reads as it did. -/
def icmpAboutUptoRow : OpenClaim := { program := "ytckgcjjehahkiaa", sum := "8a442b5a9b3b9e55a4531c3563b3bae38c873307f40ba90b303c43ae5b019287", func := "sternpost/sternpostlaw06.IcmpAbout", spec := "icmpAbout", apart := false, narrowed := true }
def IcmpAboutUptoSaid : Prop := icmpAboutUptoRow.holds Try.pinned (OpenSpec.upto icmpAboutSpec)

end Rows
end Go.Proofs.Ytckgcjjehahkiaa

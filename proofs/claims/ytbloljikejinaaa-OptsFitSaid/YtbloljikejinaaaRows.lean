/-
  No cell of these rows narrows 'for every input' (looked for: loops, veiled, ifaces, maps, wideKeys, modest, calm, conditions, laid).
  DERIVED. THE GIVEN ROWS OF THIS SEAT. 6 by the template 'for every input the law returns true; each argument reads behind the call as it read before'; 0 by the template 'total and deterministic' (their statements: YtbloljikejinaaaTotals.lean).
  GIVEN WITH THE SEED: the statements are not yours to turn. If you find one false, say at which input.
  Laid BY PROGRAM, IN A SANDBOX (cutbox-rows.mjs): the forced cells as the released guide's own fill.sh prints them over the translation b3311490f87318f7… (all of the seat's roots in one cut). By AI agents, Wed Nov 11 2026. No macro, syntax, notation, axiom, sorry.
-/
import Derived.Test.YtbloljikejinaaaChecked
import GoSem.Claim
import GoSem.ClaimJoined
import GoSem.ClaimMapViews
import Derived.JoinedTies
import Derived.KernelRfl
namespace Go.Proofs.Ytbloljikejinaaa
/- THE CELL 'sum', in the pinned program and in every row, IS THE sha256 OF THE DUMP (.gsa) THAT YtbloljikejinaaaProg.lean LOADS. Nothing in Lean hashes anything: it is a label: what it is worth is what the hold of that sum in a sandbox is worth. -/
noncomputable def Try.pinned : Pinned := { name := "ytbloljikejinaaa", sum := "b3311490f87318f74eeb96f1a3712cb1baf98be36d0ef3c641fc3c625f6f10c1", checked := Try.checked }
namespace Rows
def none {H : Type} : Left H := { results := [], args := [] }

/-- 'sternpostlaw07.OptsSame': WHATEVER THE INPUT: true; the input reads as it did. -/
def optsSameSpec : ChangeSpec := { name := "optsSame", fn := fun _ => fun
  | [d1, d2] => { results := [.lit (.bool true)], args := [d1, d2] }
  | _ => none }
def optsSameRow : OpenClaim := { program := "ytbloljikejinaaa", sum := "b3311490f87318f74eeb96f1a3712cb1baf98be36d0ef3c641fc3c625f6f10c1", func := "sternpost/sternpostlaw07.OptsSame", spec := "optsSame", inPlace := ["internal/abi.NoEscape", "internal/bytealg.MakeNoZero"], unfollowed := true, recurses := true, apart := false }
def OptsSameSaid : Prop := optsSameRow.holds Try.pinned (OpenSpec.ofChange optsSameSpec)

/-- ITS FALSE NEIGHBOUR: 'it returns false'. Refute it at one input. -/
def optsSameWrong : ChangeSpec := { name := "optsSame", fn := fun _ => fun
  | [d1, d2] => { results := [.lit (.bool false)], args := [d1, d2] }
  | _ => none }
def OptsSameWrongFalsely : Prop := optsSameRow.holds Try.pinned (OpenSpec.ofChange optsSameWrong)

/-- 'sternpostlaw07.OptsWrite': WHATEVER THE INPUT: true; the input reads as it did. -/
def optsWriteSpec : ChangeSpec := { name := "optsWrite", fn := fun _ => fun
  | [d1, d2] => { results := [.lit (.bool true)], args := [d1, d2] }
  | _ => none }
def optsWriteRow : OpenClaim := { program := "ytbloljikejinaaa", sum := "b3311490f87318f74eeb96f1a3712cb1baf98be36d0ef3c641fc3c625f6f10c1", func := "sternpost/sternpostlaw07.OptsWrite", spec := "optsWrite", inPlace := ["internal/abi.NoEscape", "internal/bytealg.MakeNoZero"], unfollowed := true, recurses := true, apart := false }
def OptsWriteSaid : Prop := optsWriteRow.holds Try.pinned (OpenSpec.ofChange optsWriteSpec)

/-- ITS FALSE NEIGHBOUR: 'it returns false'. Refute it at one input. -/
def optsWriteWrong : ChangeSpec := { name := "optsWrite", fn := fun _ => fun
  | [d1, d2] => { results := [.lit (.bool false)], args := [d1, d2] }
  | _ => none }
def OptsWriteWrongFalsely : Prop := optsWriteRow.holds Try.pinned (OpenSpec.ofChange optsWriteWrong)

/-- 'sternpostlaw07.OptsFit': WHATEVER THE INPUT: true; the input reads as it did. -/
def optsFitSpec : ChangeSpec := { name := "optsFit", fn := fun _ => fun
  | [d1, d2] => { results := [.lit (.bool true)], args := [d1, d2] }
  | _ => none }
def optsFitRow : OpenClaim := { program := "ytbloljikejinaaa", sum := "b3311490f87318f74eeb96f1a3712cb1baf98be36d0ef3c641fc3c625f6f10c1", func := "sternpost/sternpostlaw07.OptsFit", spec := "optsFit", inPlace := ["internal/abi.NoEscape", "internal/bytealg.MakeNoZero"], unfollowed := true, recurses := true, apart := false }
def OptsFitSaid : Prop := optsFitRow.holds Try.pinned (OpenSpec.ofChange optsFitSpec)

/-- ITS FALSE NEIGHBOUR: 'it returns false'. Refute it at one input. -/
def optsFitWrong : ChangeSpec := { name := "optsFit", fn := fun _ => fun
  | [d1, d2] => { results := [.lit (.bool false)], args := [d1, d2] }
  | _ => none }
def OptsFitWrongFalsely : Prop := optsFitRow.holds Try.pinned (OpenSpec.ofChange optsFitWrong)

/-- 'sternpostlaw07.OptsRead': WHATEVER THE INPUT: true; the input reads as it did. -/
def optsReadSpec : ChangeSpec := { name := "optsRead", fn := fun _ => fun
  | [d] => { results := [.lit (.bool true)], args := [d] }
  | _ => none }
def optsReadRow : OpenClaim := { program := "ytbloljikejinaaa", sum := "b3311490f87318f74eeb96f1a3712cb1baf98be36d0ef3c641fc3c625f6f10c1", func := "sternpost/sternpostlaw07.OptsRead", spec := "optsRead", inPlace := ["internal/abi.NoEscape", "internal/bytealg.MakeNoZero"], unfollowed := true, recurses := true, apart := false }
def OptsReadSaid : Prop := optsReadRow.holds Try.pinned (OpenSpec.ofChange optsReadSpec)

/-- ITS FALSE NEIGHBOUR: 'it returns false'. Refute it at one input. -/
def optsReadWrong : ChangeSpec := { name := "optsRead", fn := fun _ => fun
  | [d] => { results := [.lit (.bool false)], args := [d] }
  | _ => none }
def OptsReadWrongFalsely : Prop := optsReadRow.holds Try.pinned (OpenSpec.ofChange optsReadWrong)

/-- 'sternpostlaw07.OptsTail': WHATEVER THE INPUT: true; the input reads as it did. -/
def optsTailSpec : ChangeSpec := { name := "optsTail", fn := fun _ => fun
  | [d1, d2] => { results := [.lit (.bool true)], args := [d1, d2] }
  | _ => none }
def optsTailRow : OpenClaim := { program := "ytbloljikejinaaa", sum := "b3311490f87318f74eeb96f1a3712cb1baf98be36d0ef3c641fc3c625f6f10c1", func := "sternpost/sternpostlaw07.OptsTail", spec := "optsTail", inPlace := ["internal/abi.NoEscape", "internal/bytealg.MakeNoZero"], unfollowed := true, recurses := true, apart := false }
def OptsTailSaid : Prop := optsTailRow.holds Try.pinned (OpenSpec.ofChange optsTailSpec)

/-- ITS FALSE NEIGHBOUR: 'it returns false'. Refute it at one input. -/
def optsTailWrong : ChangeSpec := { name := "optsTail", fn := fun _ => fun
  | [d1, d2] => { results := [.lit (.bool false)], args := [d1, d2] }
  | _ => none }
def OptsTailWrongFalsely : Prop := optsTailRow.holds Try.pinned (OpenSpec.ofChange optsTailWrong)

/-- 'sternpostlaw07.OptsBack': WHATEVER THE INPUT: true; the input reads as it did. -/
def optsBackSpec : ChangeSpec := { name := "optsBack", fn := fun _ => fun
  | [d1, d2] => { results := [.lit (.bool true)], args := [d1, d2] }
  | _ => none }
def optsBackRow : OpenClaim := { program := "ytbloljikejinaaa", sum := "b3311490f87318f74eeb96f1a3712cb1baf98be36d0ef3c641fc3c625f6f10c1", func := "sternpost/sternpostlaw07.OptsBack", spec := "optsBack", inPlace := ["internal/abi.NoEscape", "internal/bytealg.MakeNoZero"], unfollowed := true, recurses := true, apart := false }
def OptsBackSaid : Prop := optsBackRow.holds Try.pinned (OpenSpec.ofChange optsBackSpec)

/-- ITS FALSE NEIGHBOUR: 'it returns false'. Refute it at one input. -/
def optsBackWrong : ChangeSpec := { name := "optsBack", fn := fun _ => fun
  | [d1, d2] => { results := [.lit (.bool false)], args := [d1, d2] }
  | _ => none }
def OptsBackWrongFalsely : Prop := optsBackRow.holds Try.pinned (OpenSpec.ofChange optsBackWrong)

/- THE SECOND FORM. 'bulk': how many values and letters a reading holds, each counted each time it is reached (what is shared counts as often as it is met; a slice's spare places count too). A statement '..UptoSaid' is the law's where the arguments, and the package variables that the reading takes, are together of bulk at most 1048576: NARROWER than '..Said'. Prove '..Said' where nothing that the law and all that it calls make is longer than what came in: it says more and counts as full. Else prove '..UptoSaid'. A law counts once. -/
mutual
def uptoBulk {H : Type} : DataW H → Nat
  | .lit (.string bytes) => bytes.length + 1
  | .lit _ => 1
  | .nil => 1
  | .ptr d => uptoBulk d + 1
  | .slice elems spare => uptoBulkAll elems + uptoBulkAll spare + 1
  | .agg parts => uptoBulkAll parts + 1
  | .iface _ d => uptoBulk d + 1
  | .map entries => uptoBulkEntries entries + 1
  | .held _ => 1
def uptoBulkAll {H : Type} : List (DataW H) → Nat
  | [] => 0
  | d :: r => uptoBulk d + uptoBulkAll r
def uptoBulkEntries {H : Type} : List (Lit × DataW H) → Nat
  | [] => 0
  | x :: r => uptoBulkEntry x + uptoBulkEntries r
def uptoBulkEntry {H : Type} : Lit × DataW H → Nat
  | (.string bytes, d) => bytes.length + uptoBulk d + 1
  | (_, d) => uptoBulk d + 1
 end
def uptoSmall : (H : Type) → List (DataW H) → Bool := fun _ ds => decide (uptoBulkAll ds ≤ 1048576)
def OpenSpec.upto (s : _root_.Go.ChangeSpec) : _root_.Go.OpenSpec := { _root_.Go.OpenSpec.ofChange s with cond := some uptoSmall }

/-- 'sternpostlaw07.OptsSame', WHERE WHAT IT READS IS OF BULK AT MOST 1048576: true; the input reads as it did. -/
def optsSameUptoRow : OpenClaim := { program := "ytbloljikejinaaa", sum := "b3311490f87318f74eeb96f1a3712cb1baf98be36d0ef3c641fc3c625f6f10c1", func := "sternpost/sternpostlaw07.OptsSame", spec := "optsSame", inPlace := ["internal/abi.NoEscape", "internal/bytealg.MakeNoZero"], unfollowed := true, recurses := true, apart := false, narrowed := true }
def OptsSameUptoSaid : Prop := optsSameUptoRow.holds Try.pinned (OpenSpec.upto optsSameSpec)

/-- 'sternpostlaw07.OptsWrite', WHERE WHAT IT READS IS OF BULK AT MOST 1048576: true; the input reads as it did. -/
def optsWriteUptoRow : OpenClaim := { program := "ytbloljikejinaaa", sum := "b3311490f87318f74eeb96f1a3712cb1baf98be36d0ef3c641fc3c625f6f10c1", func := "sternpost/sternpostlaw07.OptsWrite", spec := "optsWrite", inPlace := ["internal/abi.NoEscape", "internal/bytealg.MakeNoZero"], unfollowed := true, recurses := true, apart := false, narrowed := true }
def OptsWriteUptoSaid : Prop := optsWriteUptoRow.holds Try.pinned (OpenSpec.upto optsWriteSpec)

/-- 'sternpostlaw07.OptsFit', WHERE WHAT IT READS IS OF BULK AT MOST 1048576: true; the input reads as it did. -/
def optsFitUptoRow : OpenClaim := { program := "ytbloljikejinaaa", sum := "b3311490f87318f74eeb96f1a3712cb1baf98be36d0ef3c641fc3c625f6f10c1", func := "sternpost/sternpostlaw07.OptsFit", spec := "optsFit", inPlace := ["internal/abi.NoEscape", "internal/bytealg.MakeNoZero"], unfollowed := true, recurses := true, apart := false, narrowed := true }
def OptsFitUptoSaid : Prop := optsFitUptoRow.holds Try.pinned (OpenSpec.upto optsFitSpec)

/-- 'sternpostlaw07.OptsRead', WHERE WHAT IT READS IS OF BULK AT MOST 1048576: true; the input reads as it did. -/
def optsReadUptoRow : OpenClaim := { program := "ytbloljikejinaaa", sum := "b3311490f87318f74eeb96f1a3712cb1baf98be36d0ef3c641fc3c625f6f10c1", func := "sternpost/sternpostlaw07.OptsRead", spec := "optsRead", inPlace := ["internal/abi.NoEscape", "internal/bytealg.MakeNoZero"], unfollowed := true, recurses := true, apart := false, narrowed := true }
def OptsReadUptoSaid : Prop := optsReadUptoRow.holds Try.pinned (OpenSpec.upto optsReadSpec)

/-- 'sternpostlaw07.OptsTail', WHERE WHAT IT READS IS OF BULK AT MOST 1048576: true; the input reads as it did. -/
def optsTailUptoRow : OpenClaim := { program := "ytbloljikejinaaa", sum := "b3311490f87318f74eeb96f1a3712cb1baf98be36d0ef3c641fc3c625f6f10c1", func := "sternpost/sternpostlaw07.OptsTail", spec := "optsTail", inPlace := ["internal/abi.NoEscape", "internal/bytealg.MakeNoZero"], unfollowed := true, recurses := true, apart := false, narrowed := true }
def OptsTailUptoSaid : Prop := optsTailUptoRow.holds Try.pinned (OpenSpec.upto optsTailSpec)

/-- 'sternpostlaw07.OptsBack', WHERE WHAT IT READS IS OF BULK AT MOST 1048576: true; the input reads as it did. -/
def optsBackUptoRow : OpenClaim := { program := "ytbloljikejinaaa", sum := "b3311490f87318f74eeb96f1a3712cb1baf98be36d0ef3c641fc3c625f6f10c1", func := "sternpost/sternpostlaw07.OptsBack", spec := "optsBack", inPlace := ["internal/abi.NoEscape", "internal/bytealg.MakeNoZero"], unfollowed := true, recurses := true, apart := false, narrowed := true }
def OptsBackUptoSaid : Prop := optsBackUptoRow.holds Try.pinned (OpenSpec.upto optsBackSpec)

end Rows
end Go.Proofs.Ytbloljikejinaaa

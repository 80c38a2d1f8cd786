-- Laid by this claim's own program over the print's words.
import Derived.Test.YtckgcjjehahkiaaProg
import Derived.Below
import Derived.Deep.Draws
import Derived.Deep.AppendLies
import Derived.Maps.AppendAt
import Derived.OwnWalk
import Derived.Laws.BytesArg
import Derived.Laws.MakeOwn
import Derived.Laws.OwnMore
import Derived.Deep.OwnRows
import Derived.Tactics
import Derived.Lib.ConvBytes
import Derived.Laws.Slices
import Derived.WalkKit
import Derived.KernelRfl
import Derived.RowKit3
import Derived.Deep.LoopGhost
import Derived.Deep.QuietTactic
import Derived.BigQuiet
import Derived.WideLaws
import Derived.Deep.DeepCutAuto
import Derived.Deep.CutBlock
import Derived.Deep.RegionHeld3
import Derived.Laws.Rows
import Derived.Lib.AppendStr
import Derived.ArgAppend
import Derived.Laws.IdiomCopy
import Derived.OrdersHeld
import Derived.Laws.BitsLemmas
import Derived.RowKit
import Derived.Test.YtckgcjjehahkiaaWWords
import Derived.Test.YtckgcjjehahkiaaWLast
import Derived.Test.YtckgcjjehahkiaaWTab
import Derived.Test.YtckgcjjehahkiaaWFour
import Derived.Test.YtckgcjjehahkiaaWQPut
import Derived.Test.YtckgcjjehahkiaaWApart
import Derived.Test.YtckgcjjehahkiaaWArr
import Derived.Test.YtckgcjjehahkiaaWZeros
import Derived.Test.YtckgcjjehahkiaaWFoot
import Derived.Test.YtckgcjjehahkiaaWKept
import Derived.Test.YtckgcjjehahkiaaWShare
import Derived.Test.YtckgcjjehahkiaaWN
import Derived.Test.YtckgcjjehahkiaaWFootNe
import Derived.Test.YtckgcjjehahkiaaWAt
import Derived.Test.YtckgcjjehahkiaaWEqStruct
import Derived.Test.YtckgcjjehahkiaaWRepsOne
import Derived.Test.YtckgcjjehahkiaaWInv
import Derived.Test.YtckgcjjehahkiaaWInvWords
import Derived.Test.YtckgcjjehahkiaaWGuard
import Derived.Test.YtckgcjjehahkiaaWNEv
import Derived.Test.YtckgcjjehahkiaaWMore
import Derived.Test.YtckgcjjehahkiaaMine
namespace Go.Proofs.Ytckgcjjehahkiaa.PIcmpReads
open Go.RowKit Go.Proofs.YtckgcjjehahkiaaW.PrintWords Go.Proofs.YtckgcjjehahkiaaW.PrintLast Go.Proofs.YtckgcjjehahkiaaW.PrintMore
attribute [local go_sem] max2_int min2_int max_two min_two max_three min_three max_four min_four extract_cut   -- for this text's walks alone
set_option linter.unusedVariables false
set_option linter.unusedSimpArgs false



def errW : Option Int → Value
  | none => .nilIface
  | some c => .iface 0 (.int .i64 c)
theorem errW_none : errW none = .nilIface := rfl
theorem errW_some (c : Int) : errW (some c) = .iface 0 (.int .i64 c) := rfl

theorem info5 : (Try.prog.info? 5).map (fun i => (i.zero, i.size, i.bytes)) = some (some (.int .u8 0), 1, 1) := by kernel_rfl
theorem info9 : (Try.prog.info? 9).map (fun i => (i.zero, i.size, i.bytes)) = some (some (.string ⟨#[]⟩), 1, 16) := by kernel_rfl
-- the values' own types

end Go.Proofs.Ytckgcjjehahkiaa.PIcmpReads

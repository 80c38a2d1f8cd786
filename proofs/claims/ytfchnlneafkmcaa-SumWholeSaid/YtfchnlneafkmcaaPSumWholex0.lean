-- Laid by this claim's own program over the print's words.
import Derived.Test.YtfchnlneafkmcaaProg
import Derived.Below
import Derived.Deep.Draws
import Derived.Deep.AppendLies
import Derived.Maps.AppendAt
import Derived.OwnWalk
import Derived.Laws.BytesArg
import Derived.Laws.MakeOwn
import Derived.Laws.OwnMore
import Derived.Deep.OwnRows
import Derived.Tactics
import Derived.Lib.ConvBytes
import Derived.Laws.Slices
import Derived.WalkKit
import Derived.KernelRfl
import Derived.RowKit3
import Derived.Deep.LoopGhost
import Derived.Deep.QuietTactic
import Derived.BigQuiet
import Derived.WideLaws
import Derived.Deep.DeepCutAuto
import Derived.Deep.CutBlock
import Derived.Deep.RegionHeld3
import Derived.Laws.Rows
import Derived.Lib.AppendStr
import Derived.ArgAppend
import Derived.Laws.IdiomCopy
import Derived.OrdersHeld
import Derived.Laws.BitsLemmas
import Derived.RowKit
import Derived.Test.YtfchnlneafkmcaaWWords
import Derived.Test.YtfchnlneafkmcaaWLast
import Derived.Test.YtfchnlneafkmcaaWTab
import Derived.Test.YtfchnlneafkmcaaWFour
import Derived.Test.YtfchnlneafkmcaaWQPut
import Derived.Test.YtfchnlneafkmcaaWApart
import Derived.Test.YtfchnlneafkmcaaWArr
import Derived.Test.YtfchnlneafkmcaaWZeros
import Derived.Test.YtfchnlneafkmcaaWFoot
import Derived.Test.YtfchnlneafkmcaaWKept
import Derived.Test.YtfchnlneafkmcaaWShare
import Derived.Test.YtfchnlneafkmcaaWN
import Derived.Test.YtfchnlneafkmcaaWFootNe
import Derived.Test.YtfchnlneafkmcaaWAt
import Derived.Test.YtfchnlneafkmcaaWEqStruct
import Derived.Test.YtfchnlneafkmcaaWRepsOne
import Derived.Test.YtfchnlneafkmcaaWInv
import Derived.Test.YtfchnlneafkmcaaWInvWords
import Derived.Test.YtfchnlneafkmcaaWGuard
import Derived.Test.YtfchnlneafkmcaaWNEv
import Derived.Test.YtfchnlneafkmcaaWMore
import Derived.Test.YtfchnlneafkmcaaMine
namespace Go.Proofs.Ytfchnlneafkmcaa.PSumWhole
open Go.RowKit Go.Proofs.YtfchnlneafkmcaaW.PrintWords Go.Proofs.YtfchnlneafkmcaaW.PrintLast Go.Proofs.YtfchnlneafkmcaaW.PrintMore
attribute [local go_sem] max2_int min2_int max_two min_two max_three min_three max_four min_four extract_cut   -- for this text's walks alone
set_option linter.unusedVariables false
set_option linter.unusedSimpArgs false



def errW : Option Int → Value
  | none => .nilIface
  | some c => .iface 0 (.int .i64 c)
theorem errW_none : errW none = .nilIface := rfl
theorem errW_some (c : Int) : errW (some c) = .iface 0 (.int .i64 c) := rfl

theorem info5 : (Try.prog.info? 5).map (fun i => (i.zero, i.size, i.bytes)) = some (some (.int .u8 0), 1, 1) := by kernel_rfl
theorem info9 : (Try.prog.info? 9).map (fun i => (i.zero, i.size, i.bytes)) = some (some (.string ⟨#[]⟩), 1, 16) := by kernel_rfl
-- the values' own types

end Go.Proofs.Ytfchnlneafkmcaa.PSumWhole

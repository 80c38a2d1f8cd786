/- Words of this claim's own beside the print's: a cut of a string under a name of its own, so that a walk does not look into its size. -/
import Derived.Test.YtfchnlneafkmcaaWMore
namespace Go.Proofs.YtfchnlneafkmcaaW.PrintMore
/-- a cut of a string -/
def cutS (s : ByteArray) (a b : Nat) : ByteArray := s.extract a b
theorem extract_cut (s : ByteArray) (a b : Nat) : s.extract a b = cutS s a b := rfl
end Go.Proofs.YtfchnlneafkmcaaW.PrintMore

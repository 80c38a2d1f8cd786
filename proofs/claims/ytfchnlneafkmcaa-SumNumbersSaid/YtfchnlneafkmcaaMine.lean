/- Words of this claim's own beside the print's: a cut of a string under a name of its own, so that a walk does not look into its size. -/
import Derived.Test.YtfchnlneafkmcaaWMore
import Derived.LoopTactic
import Derived.Lib.ConvBytes
set_option linter.unusedVariables false
namespace Go.Proofs.YtfchnlneafkmcaaW.PrintMore
open Go.RowKit
/-- a cut of a string -/
def cutS (s : ByteArray) (a b : Nat) : ByteArray := s.extract a b
theorem extract_cut (s : ByteArray) (a b : Nat) : s.extract a b = cutS s a b := rfl
/-- the number of bytes, as Go's shifts and ors tell it -/
def orNum (l : List UInt8) : Int := l.foldl (fun n c => Go.bits .or .i64 (wrap64 (n * 256)) (wrap64 (c.toNat : Int))) 0
theorem orNum_snoc (l : List UInt8) (c : UInt8) : orNum (l ++ [c]) = Go.bits .or .i64 (wrap64 (orNum l * 256)) (wrap64 (c.toNat : Int)) := by simp [orNum]
theorem below_bytes (s : ByteArray) (w : World) (e : TypeId) : Below w.heap.size w (Go.Lib.bytesWorld w e s) :=
  ⟨rfl, rfl, rfl, by rw [Go.Lib.bytesWorld_size]; omega, fun k hk => Go.Lib.bytesWorld_at_old w e s k hk⟩
theorem take_snoc (s : ByteArray) (k : Nat) (h : k < s.size) : s.data.toList.take (k + 1) = s.data.toList.take k ++ [s.data.toList.getD k 0] := by
  have h' : k < s.data.toList.length := by rw [Array.length_toList]; exact h
  rw [List.take_succ_eq_append_getElem h', List.getD_eq_getElem?_getD, List.getElem?_eq_getElem h']; rfl
end Go.Proofs.YtfchnlneafkmcaaW.PrintMore

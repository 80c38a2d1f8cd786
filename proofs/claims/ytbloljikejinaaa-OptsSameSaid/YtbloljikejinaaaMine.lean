/- Words of this claim's own beside the print's: a cut of a string under a name of its own, so that a walk does not look into its size. -/
import Derived.Test.YtbloljikejinaaaWMore
import Derived.Test.YtbloljikejinaaaAny
import Derived.LoopTactic
import Derived.Lib.ConvBytes
import Derived.ChangeKeysEq

set_option linter.unusedVariables false
namespace Go.Proofs.YtbloljikejinaaaW.PrintMore
open Go.RowKit Go.Proofs.YtbloljikejinaaaW.PrintWords
/-- a cut of a string -/
def cutS (s : ByteArray) (a b : Nat) : ByteArray := s.extract a b
theorem extract_cut (s : ByteArray) (a b : Nat) : s.extract a b = cutS s a b := rfl
/-- a rest of a length -/
theorem tmod_nat_lit (n m : Nat) : Int.tmod (n : Int) (no_index (OfNat.ofNat m)) = (n : Int) % (OfNat.ofNat m : Int) := Int.tmod_eq_emod_of_nonneg (by omega)
/-- the number of bytes, as Go's shifts and ors tell it -/
def orNum (l : List UInt8) : Int := l.foldl (fun n c => Go.bits .or .i64 (wrap64 (n * 256)) (wrap64 (c.toNat : Int))) 0
theorem orNum_snoc (l : List UInt8) (c : UInt8) : orNum (l ++ [c]) = Go.bits .or .i64 (wrap64 (orNum l * 256)) (wrap64 (c.toNat : Int)) := by simp [orNum]
theorem below_bytes (s : ByteArray) (w : World) (e : TypeId) : Below w.heap.size w (Go.Lib.bytesWorld w e s) :=
  ⟨rfl, rfl, rfl, by rw [Go.Lib.bytesWorld_size]; omega, fun k hk => Go.Lib.bytesWorld_at_old w e s k hk⟩
theorem bytesWorld_free (w : World) (e : TypeId) (s : ByteArray) (j : Nat) (hj : j < s.size) : (Go.Lib.bytesWorld w e s).frozen? ⟨w.heap.size, j, none⟩ = false := by
  have hz : s.size ≤ (Go.Lib.bytesCells w e s).size := by simp [Go.Lib.bytesCells]
  simp [World.frozen?, Go.Lib.bytesWorld_at_new]
  omega
/-- a string with one bit turned -/
def flipL (s : ByteArray) (q r : Nat) : List Int := (bytesOf s).set q (Go.bits .xor .u8 ((s.data.toList.getD q 0).toNat : Int) (2 ^ r % 256))
def flipS (s : ByteArray) (q r : Nat) : ByteArray := strOfNums (flipL s q r)
theorem flipL_len (s : ByteArray) (q r : Nat) : (flipL s q r).length = s.size := by rw [flipL, List.length_set, bytesOf, List.length_map, Array.length_toList]; rfl
theorem set_getD_self (l : List Int) (q : Nat) (x : Int) (h : q < l.length) : (l.set q x).getD q 0 = x := by rw [List.getD_eq_getElem?_getD, List.getElem?_set_self h]; rfl
theorem set_getD_ne (l : List Int) (q i : Nat) (x : Int) (h : ¬ q = i) : (l.set q x).getD i 0 = l.getD i 0 := by rw [List.getD_eq_getElem?_getD, List.getElem?_set_ne h, ← List.getD_eq_getElem?_getD]
theorem flip_cells (W : World) (g : Nat) (s : ByteArray) (q r : Nat) (hq : q < s.size) (h : ∀ j, j < s.size → W.cell? ⟨g, j, none⟩ = some (.int .u8 (s.data.toList.getD j 0).toNat)) (x : Int) (hx : x = Go.bits .xor .u8 ((s.data.toList.getD q 0).toNat : Int) (2 ^ r % 256)) :
    ∀ i, i < s.size → (World.drew (World.setCell W ⟨g, q, none⟩ (.int .u8 x))).cell? ⟨g, 0 + i, none⟩ = some (.int .u8 ((flipL s q r).getD i 0)) := by
  intro i hi
  have hl : i < s.data.toList.length := by rw [Array.length_toList]; exact hi
  rw [Nat.zero_add]
  show (World.setCell W ⟨g, q, none⟩ (.int .u8 x)).cell? ⟨g, i, none⟩ = _
  by_cases e : q = i
  · subst e
    rw [World.cell?_setCell_same W _ _ (h q hq), hx]
    rw [show (flipL s q r).getD q 0 = _ from set_getD_self _ q _ (by rw [bytesOf, List.length_map]; exact hl)]
  · rw [World.cell?_setCell_other W _ _ _ (by intro h'; exact e (by injection h')), h i hi]
    rw [show (flipL s q r).getD i 0 = (bytesOf s).getD i 0 from set_getD_ne _ q i _ e]
    congr 2
    simp only [bytesOf]
    rw [List.getD_eq_getElem?_getD, List.getD_eq_getElem?_getD, List.getElem?_map, List.getElem?_eq_getElem hl]
    rfl
theorem take_snoc (s : ByteArray) (k : Nat) (h : k < s.size) : s.data.toList.take (k + 1) = s.data.toList.take k ++ [s.data.toList.getD k 0] := by
  have h' : k < s.data.toList.length := by rw [Array.length_toList]; exact h
  rw [List.take_succ_eq_append_getElem h', List.getD_eq_getElem?_getD, List.getElem?_eq_getElem h']; rfl
/-! arrays compared -/
theorem eqi_nil {P : Program} {w : World} {d : Nat} {e : TypeId} {c : Nat} {xs ys : Array Value} : (Op.eqItems d e c xs ys []).run P w = .ok true w := by simp [Op.eqItems]
theorem eqi_cons {P : Program} {w : World} {d : Nat} {e : TypeId} {c i : Nat} {is : List Nat} {xs ys : Array Value} {a b : Value} {r s : Bool} (ha : (part e xs (i * c)).run P w = .ok a w) (hb : (part e ys (i * c)).run P w = .ok b w) (he : (Op.equalIn d e a b).run P w = .ok r w) (hr : (Op.eqItems d e c xs ys is).run P w = .ok s w) : (Op.eqItems d e c xs ys (i :: is)).run P w = .ok (r && s) w := by
  rw [Op.eqItems]
  simp only [Sem.run_bind, ha, hb, he, Result.andThen_ok]
  cases r
  · simp
  · simpa using hr
theorem eqi_last {P : Program} {w : World} {d : Nat} {e : TypeId} {c i : Nat} {xs ys : Array Value} {a b : Value} {r : Bool} (ha : (part e xs (i * c)).run P w = .ok a w) (hb : (part e ys (i * c)).run P w = .ok b w) (he : (Op.equalIn d e a b).run P w = .ok r w) : (Op.eqItems d e c xs ys [i]).run P w = .ok r w := by
  have h := eqi_cons (is := []) ha hb he (eqi_nil (P := P) (w := w) (d := d) (e := e) (c := c) (xs := xs) (ys := ys))
  rwa [Bool.and_true] at h
theorem eqR_of {P : Program} {w : World} {d n : Nat} {t e : TypeId} {xs ys : Array Value} {r : Bool} (hu : P.underlying t = some (.array n e)) (hi : (P.info? e).isSome = true) (is : List Nat) (his : List.range n = is) (hc : P.cellsOf e = 1) (h : (Op.eqItems d e 1 xs ys is).run P w = .ok r w) : (Op.equalIn (d + 1) t (.agg xs) (.agg ys)).run P w = .ok r w := by
  obtain ⟨i, hi⟩ := Option.isSome_iff_exists.mp hi
  rw [run_equalIn_array w d xs ys hu hi, his, hc]
  exact h
end Go.Proofs.YtbloljikejinaaaW.PrintMore

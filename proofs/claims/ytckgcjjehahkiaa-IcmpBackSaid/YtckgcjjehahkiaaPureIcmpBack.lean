/- There and back: what is encoded is decoded as the packet; with a bit turned it is none; an answer has just what was asked, and is no question: for every packet and bit. -/
import Derived.Test.YtckgcjjehahkiaaPIcmpBackx3
set_option linter.unusedVariables false
set_option linter.unusedSimpArgs false
namespace Go.Proofs.Ytckgcjjehahkiaa.Pure
open Go Go.RowKit Go.Proofs.Ytckgcjjehahkiaa.PIcmpBack Go.Proofs.YtckgcjjehahkiaaW.PrintWords Go.Proofs.YtckgcjjehahkiaaW.PrintLast Go.Proofs.YtckgcjjehahkiaaW.PrintMore
attribute [local irreducible] shl shr Go.bits
/-! ### plain words on numbers and bytes -/
namespace SP
/-- what is above 16 bits, added again -/
def canon (n : Nat) : Nat := if n = 0 then 0 else (n - 1) % 65535 + 1
theorem canon_le (n : Nat) : canon n ≤ 65535 := by unfold canon; split <;> omega
theorem canon_small {n : Nat} (h : n ≤ 65535) : canon n = n := by unfold canon; split <;> omega
theorem canon_step {n : Nat} (h : 65535 < n) : canon (n / 65536 + n % 65536) = canon n := by unfold canon; split <;> split <;> omega
theorem canon_add (a b : Nat) : canon (canon a + b) = canon (a + b) := by unfold canon; split <;> split <;> split <;> omega
theorem canon_mod (n : Nat) : canon n % 65535 = n % 65535 := by unfold canon; split <;> omega
theorem canon_zero {n : Nat} : canon n = 0 ↔ n = 0 := by unfold canon; split <;> omega
theorem canon_eq {a b : Nat} (h : a % 65535 = b % 65535) (h0 : a = 0 ↔ b = 0) : canon a = canon b := by unfold canon; split <;> split <;> omega
/-- a byte's weight at a place -/
def wt (p : Nat) (b : Nat) : Nat := if p % 2 = 0 then 256 * b else b
/-- the weights of bytes from a place on -/
def ws : Nat → List UInt8 → Nat
  | _, [] => 0
  | p, b :: l => wt p b.toNat + ws (p + 1) l
theorem wt_le (p : Nat) (b : UInt8) : wt p b.toNat ≤ 65280 := by have := b.toNat_lt; unfold wt; split <;> omega
theorem ws_le (l : List UInt8) : ∀ p, ws p l ≤ 65280 * l.length := by
  induction l with
  | nil => intro p; simp [ws]
  | cons b l ih => intro p; have := ih (p + 1); have := wt_le p b; simp only [ws, List.length_cons]; omega
theorem ws_append (a b : List UInt8) : ∀ p, ws p (a ++ b) = ws p a + ws (p + a.length) b := by
  induction a with
  | nil => intro p; simp [ws]
  | cons x l ih => intro p; simp only [List.cons_append, ws, ih, List.length_cons]; rw [show p + 1 + l.length = p + (l.length + 1) from by omega]; omega
theorem wt_parity {p q : Nat} (h : p % 2 = q % 2) (b : Nat) : wt p b = wt q b := by unfold wt; rw [h]
theorem ws_parity (l : List UInt8) : ∀ {p q : Nat}, p % 2 = q % 2 → ws p l = ws q l := by
  induction l with
  | nil => intros; rfl
  | cons x l ih => intro p q h; simp only [ws, wt_parity h]; rw [ih (p := p + 1) (q := q + 1) (by omega)]
/-- a string's bytes -/
abbrev by_ (s : ByteArray) : List UInt8 := s.data.toList
theorem by_len (s : ByteArray) : (by_ s).length = s.size := by
  show s.data.toList.length = s.data.size; exact Array.length_toList
theorem by_append (s t : ByteArray) : by_ (s ++ t) = by_ s ++ by_ t := by
  show (s ++ t).data.toList = _; rw [ByteArray.data_append, Array.toList_append]
theorem by_extract (s : ByteArray) (i j : Nat) : by_ (s.extract i j) = ((by_ s).drop i).take (j - i) := by
  simp [by_, ByteArray.data_extract, List.extract_eq_take_drop]
theorem by_ext {s t : ByteArray} (h : by_ s = by_ t) : s = t := by
  cases s; cases t; simp only [by_] at h; congr; exact Array.toList_inj.mp h
/-- byte i of a list -/
def nth (l : List UInt8) (i : Nat) : Nat := (l.getD i 0).toNat
theorem nth_lt (l : List UInt8) (i : Nat) : nth l i < 256 := (l.getD i 0).toNat_lt
theorem drop_cons {l : List UInt8} {i : Nat} (h : i < l.length) : l.drop i = l.getD i 0 :: l.drop (i + 1) := by
  rw [List.drop_eq_getElem_cons h]; simp [List.getD, h]
theorem ws_drop {l : List UInt8} {i : Nat} (p : Nat) (h : i < l.length) : ws p (l.drop i) = wt p (nth l i) + ws (p + 1) (l.drop (i + 1)) := by
  rw [drop_cons h]; rfl
theorem ws_drop_end {l : List UInt8} {i : Nat} (p : Nat) (h : l.length ≤ i) : ws p (l.drop i) = 0 := by
  rw [List.drop_eq_nil_of_le h]; rfl
/-- a number's bytes, k of them -/
def bytesN (n : Nat) : Nat → List UInt8
  | 0 => []
  | k + 1 => UInt8.ofNat (n / 2 ^ (8 * k) % 256) :: bytesN n k
theorem bytesN_len (n k : Nat) : (bytesN n k).length = k := by induction k with
  | zero => rfl
  | succ k ih => simp [bytesN, ih]
/-- the number of bytes -/
def num (l : List UInt8) : Nat := l.foldl (fun n b => n * 256 + b.toNat) 0
theorem num_acc (l : List UInt8) : ∀ a : Nat, l.foldl (fun n b => n * 256 + b.toNat) a = a * 256 ^ l.length + num l := by
  induction l with
  | nil => intro a; show a = a * 256 ^ 0 + 0; omega
  | cons b l ih =>
    intro a
    have h0 : num (b :: l) = l.foldl (fun n b => n * 256 + b.toNat) (0 * 256 + b.toNat) := rfl
    rw [h0, List.foldl_cons, ih, ih, List.length_cons, Nat.pow_succ, Nat.zero_mul, Nat.zero_add, Nat.add_mul, Nat.mul_assoc, Nat.mul_comm 256]
    omega
theorem num_cons (b : UInt8) (l : List UInt8) : num (b :: l) = b.toNat * 256 ^ l.length + num l := by
  have := num_acc l b.toNat; simp only [num, List.foldl_cons, Nat.zero_mul, Nat.zero_add]; exact this
theorem num_append (a b : List UInt8) : num (a ++ b) = num a * 256 ^ b.length + num b := by
  unfold num; rw [List.foldl_append, num_acc]; rfl
theorem num_lt (l : List UInt8) : num l < 256 ^ l.length := by
  induction l with
  | nil => simp [num]
  | cons b l ih => rw [num_cons, List.length_cons, Nat.pow_succ]; have := b.toNat_lt; have h : b.toNat * 256 ^ l.length ≤ 255 * 256 ^ l.length := Nat.mul_le_mul_right _ (by omega); omega
theorem num_bytesN (n k : Nat) : num (bytesN n k) = n % 256 ^ k := by
  induction k with
  | zero => simp [bytesN, num, Nat.mod_one]
  | succ k ih =>
    rw [bytesN, num_cons, ih, bytesN_len]
    have e : (2 : Nat) ^ (8 * k) = 256 ^ k := by rw [Nat.pow_mul]
    rw [e, Nat.pow_succ, Nat.mod_mul, Nat.mul_comm (256 ^ k)]
    have : (UInt8.ofNat (n / 256 ^ k % 256)).toNat = n / 256 ^ k % 256 := by simp [UInt8.toNat_ofNat']
    rw [this]; omega
theorem bytesN_num (l : List UInt8) : bytesN (num l) l.length = l := by
  induction l with
  | nil => rfl
  | cons b l ih =>
    have key : ∀ (m k : Nat), bytesN (m * 256 ^ l.length + num l) k = bytesN (num l) k ∨ l.length < k := by
      intro m k
      by_cases hk : l.length < k
      · exact .inr hk
      · left
        induction k with
        | zero => rfl
        | succ k ihk =>
          rw [bytesN, bytesN, ihk (by omega)]
          have e : (2 : Nat) ^ (8 * k) = 256 ^ k := by rw [Nat.pow_mul]
          obtain ⟨d, hd⟩ : ∃ d, l.length = k + 1 + d := ⟨l.length - (k + 1), by omega⟩
          rw [e]
          have : (m * 256 ^ l.length + num l) / 256 ^ k % 256 = num l / 256 ^ k % 256 := by
            rw [hd, Nat.pow_add, Nat.pow_succ]
            rw [show m * (256 ^ k * 256 * 256 ^ d) = 256 ^ k * (256 * (m * 256 ^ d)) from by ac_rfl]
            rw [Nat.mul_add_div (Nat.pow_pos (by omega)), Nat.mul_add_mod]
          rw [this]
    rw [List.length_cons, num_cons, bytesN]
    have e : (2 : Nat) ^ (8 * l.length) = 256 ^ l.length := by rw [Nat.pow_mul]
    have hl := num_lt l
    have h1 : (b.toNat * 256 ^ l.length + num l) / 2 ^ (8 * l.length) % 256 = b.toNat := by
      rw [e, Nat.mul_comm, Nat.mul_add_div (Nat.pow_pos (by omega)), Nat.div_eq_of_lt hl]; have := b.toNat_lt; omega
    rw [h1]
    rcases key b.toNat l.length with h | h
    · rw [h, ih]; congr 1; exact UInt8.toNat_inj.mp (by simp)
    · omega
end SP
theorem Ev.pos {α : Type} {c : Prop} [Decidable c] {g f : Nat → Option α} {r : α} (hc : c) (h : Ev g r) : Ev (fun k => if c then g k else f k) r := by
  simp only [if_pos hc]; exact h
theorem Ev.neg {α : Type} {c : Prop} [Decidable c] {g f : Nat → Option α} {r : α} (hc : ¬ c) (h : Ev f r) : Ev (fun k => if c then g k else f k) r := by
  simp only [if_neg hc]; exact h
theorem wf64 {n : Int} (h : (Lit.int .i64 n).wf = true) : -9223372036854775808 ≤ n ∧ n < 9223372036854775808 := by
  have e : (Lit.int .i64 n).wf = decide (IntKind.i64.min ≤ n ∧ n ≤ 9223372036854775807) := by simp [Lit.wf]
  have e2 : IntKind.i64.min = -9223372036854775808 := by decide
  rw [e, e2] at h
  have := of_decide_eq_true h
  omega
/-! ### package sum and the reference's, as the words above -/
theorem and_mask (n m : Nat) (h : n < 2 ^ 63) (i : Nat) (hi : m = 2 ^ i - 1) (hi2 : i ≤ 63) : bits .and .i64 (n : Int) (m : Int) = ((n % 2 ^ i : Nat) : Int) := by
  subst hi
  have hw : ∀ n : Int, 0 ≤ n → n < 9223372036854775808 → IntKind.i64.wrap n = n := by
    intro n h0 h1; rw [IntKind.wrap_i64]; have : (2 : Int) ^ 62 = 4611686018427387904 := by decide
    omega
  have := bits_mask .i64 63 (by decide) hw i hi2 (n : Int) (by omega) (by exact_mod_cast h)
  have e : ((2 ^ i - 1 : Nat) : Int) = (2 : Int) ^ i - 1 := by
    have : 1 ≤ 2 ^ i := Nat.one_le_two_pow
    rw [Int.ofNat_sub this]; simp
  rw [e, this]; simp
theorem bits16 (n : Nat) (h : n < 2 ^ 63) : bits .and .i64 (n : Int) 65535 = ((n % 65536 : Nat) : Int) := and_mask n 65535 h 16 rfl (by omega)
theorem bt_nth (s : ByteArray) (i : Nat) : bt s (i : Int) = ((SP.nth (SP.by_ s) i : Nat) : Int) := by
  unfold bt SP.nth
  simp only [Int.toNat_natCast]
  split
  · rename_i h
    congr 1
    have h' : i < (SP.by_ s).length := by rw [SP.by_len]; exact h
    rw [List.getD_eq_getElem?_getD, List.getElem?_eq_getElem h']
    rfl
  · rename_i h
    rw [List.getD_eq_getElem?_getD, List.getElem?_eq_none (by rw [SP.by_len]; omega)]; rfl
theorem w64 {n : Int} (h0 : -9223372036854775808 ≤ n) (h1 : n < 9223372036854775808) : wrap64 n = n := by unfold wrap64; omega
theorem tmod2 (n : Nat) : Int.tmod (n : Int) 2 = ((n % 2 : Nat) : Int) := by rw [Int.tmod_eq_emod_of_nonneg (by omega)]; omega

theorem carry_ev : ∀ (n : Nat), n < 9223372036854775808 → Ev (fun k => sum_carry.f k (n : Int)) ((SP.canon n : Nat) : Int) := by
  intro n
  induction n using Nat.strongRecOn with
  | _ n ih =>
    intro h
    show Ev (fun k => sum_carry.l0 k (n : Int)) _
    by_cases h1 : 65535 < n
    · refine Ev.step (f := fun k => sum_carry.l0 k ((n / 65536 + n % 65536 : Nat) : Int)) (fun k => ?_) ?_
      · simp only [sum_carry.l0]; rw [if_pos (by omega), bits16 n h, w64 (by omega) (by omega)]; congr 1
      · rw [← SP.canon_step h1]; exact ih _ (by omega) (by omega)
    · refine Ev.step (f := fun _ => some (n : Int)) (fun k => ?_) ?_
      · simp only [sum_carry.l0]; rw [if_neg (by omega)]
      · rw [SP.canon_small (by omega)]; exact Ev.now _
theorem shl_wt (p b : Nat) (hb : b < 256) : shl .i64 (wrap64 (b : Int)) (wrap64 (8 - (wrap64 ((Int.tmod (p : Int) 2) * 8)))) = ((SP.wt p b : Nat) : Int) := by
  rw [tmod2]
  unfold SP.wt shl
  rw [IntKind.wrap_i64, w64 (n := (b : Int)) (by omega) (by omega)]
  split
  · rename_i h; rw [h]; simp [wrap64, IntKind.bits]; omega
  · rename_i h; rw [show p % 2 = 1 from by omega]; simp [wrap64, IntKind.bits]; omega
theorem shamt (p : Nat) : 0 ≤ (wrap64 (8 - (wrap64 ((Int.tmod (p : Int) 2) * 8)))) := by
  rw [tmod2]; unfold wrap64; omega
section
variable {s : ByteArray} {x8 : List ByteArray} {x9 x10 r : Int}
theorem total_l1 (hs : s.size < 9223372036854775808) : ∀ (d i n p : Nat), s.size - i = d → i ≤ s.size → n + SP.ws p ((SP.by_ s).drop i) < 9223372036854775808 → p + (s.size - i) < 9223372036854775808 →
    Ev (fun k => sum_total.l0 k ((n + SP.ws p ((SP.by_ s).drop i) : Nat) : Int) ((p + (s.size - i) : Nat) : Int) x8 x9 (wrap64 (x10 + 1))) r →
    Ev (fun k => sum_total.l1 k (n : Int) (p : Int) s x8 x9 x10 (s.size : Int) (i : Int)) r := by
  intro d
  induction d with
  | zero =>
    intro i n p hd hi hn hp h
    refine Ev.step (fun k => ?_) h
    simp only [sum_total.l1]; rw [if_neg (by omega), SP.ws_drop_end p (by rw [SP.by_len]; omega), show s.size - i = 0 from hd]; simp
  | succ d ih =>
    intro i n p hd hi hn hp h
    have hlt : i < (SP.by_ s).length := by rw [SP.by_len]; omega
    rw [SP.ws_drop p hlt] at hn h
    have hb := SP.nth_lt (SP.by_ s) i
    have hsz := SP.by_len s
    refine Ev.step (f := fun k => sum_total.l1 k ((n + SP.wt p (SP.nth (SP.by_ s) i) : Nat) : Int) ((p + 1 : Nat) : Int) s x8 x9 x10 (s.size : Int) ((i + 1 : Nat) : Int)) (fun k => ?_) (ih (i + 1) (n + SP.wt p (SP.nth (SP.by_ s) i)) (p + 1) (by omega) (by omega) (by omega) (by omega) ?_)
    · simp only [sum_total.l1]
      rw [if_pos (by omega), if_pos (by omega), if_pos (by omega), if_pos (shamt p), bt_nth, shl_wt p _ hb]
      rw [w64 (n := (p : Int) + 1) (by omega) (by omega), w64 (n := (i : Int) + 1) (by omega) (by omega), w64 (by omega) (by omega)]
      congr 1
    · rw [show n + SP.wt p (SP.nth (SP.by_ s) i) + SP.ws (p + 1) ((SP.by_ s).drop (i + 1)) = n + (SP.wt p (SP.nth (SP.by_ s) i) + SP.ws (p + 1) ((SP.by_ s).drop (i + 1))) from by omega, show p + 1 + (s.size - (i + 1)) = p + (s.size - i) from by omega]
      exact h
end
/-- pieces, one behind the other -/
def SPflat (l : List ByteArray) : List UInt8 := l.flatMap SP.by_
theorem flat_drop {l : List ByteArray} {i : Nat} (h : i < l.length) : SPflat (l.drop i) = SP.by_ (l.getD i ByteArray.empty) ++ SPflat (l.drop (i + 1)) := by
  rw [List.drop_eq_getElem_cons h, SPflat, List.flatMap_cons, List.getD_eq_getElem?_getD, List.getElem?_eq_getElem h]; rfl
theorem total_l0 (l : List ByteArray) (hl : l.length < 9223372036854775808) : ∀ (d i n p : Nat), l.length - i = d → i ≤ l.length → n + SP.ws p (SPflat (l.drop i)) < 9223372036854775808 → p + (SPflat (l.drop i)).length < 9223372036854775808 →
    Ev (fun k => sum_total.l0 k (n : Int) (p : Int) l (l.length : Int) (i : Int)) ((SP.canon (n + SP.ws p (SPflat (l.drop i))) : Nat) : Int) := by
  intro d
  induction d with
  | zero =>
    intro i n p hd hi hn hp
    rw [List.drop_eq_nil_of_le (by omega)] at hn ⊢
    refine Ev.step (f := fun k => (sum_carry.f k (n : Int)).bind fun t => some t) (fun k => ?_) ?_
    · simp only [sum_total.l0]; rw [if_neg (by omega)]
    · exact Ev.bind (carry_ev n (by simpa [SPflat, SP.ws] using hn)) (Ev.now _)
  | succ d ih =>
    intro i n p hd hi hn hp
    have hlt : i < l.length := by omega
    rw [flat_drop hlt] at hn hp ⊢
    rw [SP.ws_append] at hn ⊢
    rw [List.length_append] at hp
    refine Ev.step (f := fun k => sum_total.l1 k (n : Int) (p : Int) (l.getD i ByteArray.empty) l (l.length : Int) (i : Int) ((l.getD i ByteArray.empty).size : Int) ((0 : Nat) : Int)) (fun k => ?_) ?_
    · simp only [sum_total.l0]; rw [if_pos (by omega), if_pos (by omega), if_pos (by omega)]; simp [rdOf]
    · rw [SP.by_len] at hn hp
      refine total_l1 (by omega) _ 0 n p rfl (by omega) (by simp only [List.drop_zero]; omega) (by omega) ?_
      rw [w64 (by omega) (by omega), SP.by_len]
      have := ih (i + 1) (n + SP.ws p (SP.by_ (l.getD i ByteArray.empty))) (p + (l.getD i ByteArray.empty).size) (by omega) (by omega) (by omega) (by omega)
      simp only [List.drop_zero, Nat.sub_zero]
      rw [← Nat.add_assoc]
      exact this
/-- what 'total' tells of pieces -/
theorem total_ev (l : List ByteArray) (hl : l.length < 1152921504606846976) (h : (SPflat l).length ≤ 140737488351232) : Ev (fun k => sum_total.f k l) ((SP.canon (SP.ws 0 (SPflat l)) : Nat) : Int) := by
  have hw := SP.ws_le (SPflat l) 0
  have := total_l0 l (by omega) l.length 0 0 0 (by omega) (by omega) (by simp only [List.drop_zero]; omega) (by simp only [List.drop_zero]; omega)
  rw [Nat.zero_add, List.drop_zero] at this
  exact this
theorem nat_toNat (n : Nat) : ((n : Int) : Int).toNat = n := Int.toNat_natCast n
theorem rdOf_nat {α : Type} (d : α) (xs : List α) (i : Nat) : rdOf d xs (i : Int) = xs.getD i d := by simp [rdOf]
def mkB (l : List UInt8) : ByteArray := ⟨l.toArray⟩
theorem by_mkB (l : List UInt8) : SP.by_ (mkB l) = l := rfl
theorem mkB_by (s : ByteArray) : mkB (SP.by_ s) = s := SP.by_ext rfl
theorem mkB_size (l : List UInt8) : (mkB l).size = l.length := rfl
theorem mkB_append (a b : List UInt8) : mkB a ++ mkB b = mkB (a ++ b) := SP.by_ext (by rw [SP.by_append]; rfl)
theorem shr_pow (n k : Nat) (hk : k ≤ 64) : shr .i64 (n : Int) (k : Int) = ((n / 2 ^ k : Nat) : Int) := by
  unfold shr
  rw [Int.toNat_natCast, show min k IntKind.i64.bits = k from Nat.min_eq_left (by simpa [IntKind.bits] using hk)]
  simp
def PutS (n b : Int) : ByteArray × Int := if b < 1 ∨ 6 < b ∨ n < 0 ∨ (256 : Int) ^ b.toNat ≤ n then (⟨#[]⟩, 1) else (mkB (SP.bytesN n.toNat b.toNat), 0)
/-- the numbers that 'Put' has laid after i rounds -/
def putRow (n b i : Nat) : List Int := (List.range b).map fun j => if j < i then ((n / 2 ^ (8 * (b - 1 - j)) % 256 : Nat) : Int) else 0
theorem putRow_set (n b i : Nat) (_h : i < b) : (putRow n b i).set i ((n / 2 ^ (8 * (b - 1 - i)) % 256 : Nat) : Int) = putRow n b (i + 1) := by
  apply List.ext_getElem
  · simp [putRow]
  · intro j h1 h2
    simp only [putRow, List.getElem_set, List.getElem_map, List.getElem_range]
    by_cases e : i = j
    · subst e; simp
    · rw [if_neg e]
      by_cases h3 : j < i
      · rw [if_pos h3, if_pos (by omega)]
      · rw [if_neg h3, if_neg (by omega)]
theorem bytesN_range (n : Nat) : ∀ b : Nat, SP.bytesN n b = (List.range b).map fun j => UInt8.ofNat (n / 2 ^ (8 * (b - 1 - j)) % 256) := by
  intro b
  induction b with
  | zero => rfl
  | succ b ih =>
    rw [SP.bytesN, ih, List.range_succ_eq_map, List.map_cons, List.map_map]
    congr 1
    apply List.map_congr_left
    intro j hj
    have := List.mem_range.mp hj
    simp only [Function.comp_def]
    rw [show b - 1 - j = b + 1 - 1 - (j + 1) from by omega]
theorem putRow_str (n b : Nat) : strOfNums (putRow n b b) = mkB (SP.bytesN n b) := by
  unfold strOfNums mkB
  rw [bytesN_range]
  congr 2
  simp only [putRow, List.map_map]
  apply List.map_congr_left
  intro j hj
  have := List.mem_range.mp hj
  simp only [Function.comp_def]
  rw [if_pos this, Int.toNat_natCast]
theorem put_l0 (n b : Nat) (hb : b ≤ 6) : ∀ (d i : Nat), b - i = d → i ≤ b → Ev (fun k => sum_Put.l0 k (n : Int) (b : Int) (putRow n b i) (b : Int) (i : Int)) (mkB (SP.bytesN n b), 0) := by
  intro d
  induction d with
  | zero =>
    intro i hd hi
    obtain rfl : i = b := by omega
    refine Ev.step (f := fun _ => some (strOfNums (putRow n i i), 0)) (fun k => ?_) ?_
    · simp only [sum_Put.l0]; rw [if_neg (by omega)]
    · rw [putRow_str]; exact Ev.now _
  | succ d ih =>
    intro i hd hi
    refine Ev.step (f := fun k => sum_Put.l0 k (n : Int) (b : Int) (putRow n b (i + 1)) (b : Int) ((i + 1 : Nat) : Int)) (fun k => ?_) (ih (i + 1) (by omega) (by omega))
    simp only [sum_Put.l0]
    have e : wrap64 (8 * (wrap64 ((wrap64 ((b : Int) - 1)) - (i : Int)))) = ((8 * (b - 1 - i) : Nat) : Int) := by unfold wrap64; omega
    rw [if_pos (by omega), e, if_pos (by omega), if_pos (by omega), if_pos (by simp [putRow]; omega), shr_pow _ _ (by omega), w64 (by omega) (by omega), Int.toNat_natCast]
    rw [← putRow_set n b i (by omega)]
    congr 1
theorem put_ev (n b : Int) (hn : -9223372036854775808 ≤ n ∧ n < 9223372036854775808) (hb : -9223372036854775808 ≤ b ∧ b < 9223372036854775808) : Ev (fun k => sum_Put.f k n b) (PutS n b) := by
  have bad : (b < 1 ∨ 6 < b ∨ n < 0 ∨ (256 : Int) ^ b.toNat ≤ n) → Ev (fun k => sum_Put.j0 k n b true) (PutS n b) := by
    intro h
    refine Ev.step (f := fun _ => some (⟨#[]⟩, 1)) (fun k => ?_) ?_
    · simp only [sum_Put.j0]; rw [if_pos trivial]
    · rw [PutS, if_pos h]; exact Ev.now _
  by_cases h1 : b < 1
  · refine Ev.congr (fun k => ?_) (bad (.inl h1)); unfold sum_Put.f; rw [if_pos h1]
  by_cases h2 : 6 < b
  · refine Ev.congr (fun k => ?_) (bad (.inr (.inl h2))); unfold sum_Put.f; rw [if_neg h1, if_pos h2]
  by_cases h3 : n < 0
  · refine Ev.congr (fun k => ?_) (bad (.inr (.inr (.inl h3)))); unfold sum_Put.f; rw [if_neg h1, if_neg (by omega), if_pos h3]
  obtain ⟨m, rfl⟩ := Int.eq_ofNat_of_zero_le (show 0 ≤ n by omega)
  obtain ⟨c, rfl⟩ := Int.eq_ofNat_of_zero_le (show 0 ≤ b by omega)
  have e : wrap64 (8 * (c : Int)) = ((8 * c : Nat) : Int) := by unfold wrap64; omega
  have e2 : (shr .i64 (m : Int) ((8 * c : Nat) : Int) > 0) ↔ (256 : Int) ^ ((c : Int)).toNat ≤ (m : Int) := by
    rw [shr_pow _ _ (by omega), Int.toNat_natCast, Nat.pow_mul, show (2 : Nat) ^ 8 = 256 from rfl, show (256 : Int) ^ c = ((256 ^ c : Nat) : Int) from (Int.natCast_pow 256 c).symm]
    constructor
    · intro hh
      have h3 : 0 < m / 256 ^ c := by omega
      exact Int.ofNat_le.mpr (Nat.div_pos_iff.mp h3).2
    · intro hh
      have h3 : 0 < m / 256 ^ c := Nat.div_pos (Int.ofNat_le.mp hh) (Nat.pow_pos (by omega))
      omega
  by_cases h4 : (256 : Int) ^ ((c : Int)).toNat ≤ (m : Int)
  · refine Ev.congr (fun k => ?_) (bad (.inr (.inr (.inr h4)))); unfold sum_Put.f; rw [if_neg h1, if_neg (by omega), if_neg h3, e, if_pos (by omega), decide_eq_true (e2.mpr h4)]
  · refine Ev.congr (f := fun k => sum_Put.j0 k (m : Int) (c : Int) false) (fun k => ?_) ?_
    · unfold sum_Put.f; rw [if_neg h1, if_neg (by omega), if_neg h3, e, if_pos (by omega), decide_eq_false (fun h => h4 (e2.mp h))]
    · have e3 : List.replicate ((c : Int)).toNat (0 : Int) = putRow m c 0 := by
        apply List.ext_getElem
        · simp [putRow]
        · intro j h1 h2; simp [putRow]
      refine Ev.step (f := fun k => sum_Put.l0 k (m : Int) (c : Int) (putRow m c 0) (c : Int) ((0 : Nat) : Int)) (fun k => ?_) ?_
      · simp only [sum_Put.j0]; rw [if_neg (by decide), if_pos (by omega), if_pos (by omega)]
        simp only [Option.bind_some]; rw [e3]; simp [putRow]
      · rw [PutS, if_neg (by omega), Int.toNat_natCast, Int.toNat_natCast]; exact put_l0 m c (by omega) c 0 rfl (by omega)
theorem put_ok (n b : Nat) (hb1 : 1 ≤ b) (hb : b ≤ 6) (h : n < 256 ^ b) (hn : n < 9223372036854775808) : Ev (fun k => sum_Put.f k (n : Int) (b : Int)) (mkB (SP.bytesN n b), 0) := by
  have := put_ev (n : Int) (b : Int) (by omega) (by omega)
  rw [PutS, nat_toNat, nat_toNat, if_neg] at this
  · exact this
  · have e : (256 : Int) ^ b = ((256 ^ b : Nat) : Int) := (Int.natCast_pow 256 b).symm
    rw [e]; omega
theorem mn_lt (a b c : Int) : mn a b < c ↔ a < c ∨ b < c := by unfold mn; split <;> omega
theorem mx_gt (a b c : Int) : mx a b > c ↔ a > c ∨ b > c := by unfold mx; split <;> omega
theorem among_ev (x n : Int) (hn : 0 < n) (hx : -9223372036854775808 ≤ x ∧ x < 9223372036854775808) (hn2 : n < 4611686018427387904) : sternpostbook_Among.f x n = some (x % n) := by
  unfold sternpostbook_Among.f
  rw [if_neg (by omega)]
  congr 1
  have h1 : Int.tmod x n = if 0 ≤ x ∨ x % n = 0 then x % n else x % n - n := by
    by_cases h : 0 ≤ x
    · rw [Int.tmod_eq_emod_of_nonneg h, if_pos (.inl h)]
    · rw [Int.tmod_eq_emod]
      by_cases h2 : x % n = 0
      · rw [if_pos (.inr (Int.dvd_of_emod_eq_zero h2)), if_pos (.inr h2)]; omega
      · rw [if_neg (by intro hh; rcases hh with hh | hh; exact h hh; exact h2 (Int.emod_eq_zero_of_dvd hh)), if_neg (by intro hh; rcases hh with hh | hh; exact h hh; exact h2 hh)]; omega
  have h2 := Int.emod_nonneg x (show n ≠ 0 by omega)
  have h3 := Int.emod_lt_of_pos x hn
  rw [h1]
  split
  · rw [w64 (by omega) (by omega), Int.tmod_eq_emod_of_nonneg (by omega), Int.add_emod_right, Int.emod_emod_of_dvd _ (Int.dvd_refl n)]
  · rw [w64 (by omega) (by omega), Int.tmod_eq_emod_of_nonneg (by omega), Int.sub_add_cancel, Int.emod_emod_of_dvd _ (Int.dvd_refl n)]
theorem cut_mk (s : ByteArray) (i j : Nat) : cutS s i j = mkB (((SP.by_ s).drop i).take (j - i)) := by
  rw [cutS]; exact SP.by_ext (by rw [SP.by_extract, by_mkB])
theorem cut_to (s : ByteArray) (j : Nat) : cutS s 0 j = mkB ((SP.by_ s).take j) := by rw [cut_mk]; simp
theorem cut_from (s : ByteArray) (i : Nat) : cutS s i s.size = mkB ((SP.by_ s).drop i) := by
  rw [cut_mk, List.take_of_length_le (by rw [List.length_drop, SP.by_len]; omega)]
theorem or_byte (n : Nat) (c : UInt8) (h : n < 281474976710656) : Go.bits .or .i64 (wrap64 ((n : Int) * 256)) (wrap64 (c.toNat : Int)) = ((n * 256 + c.toNat : Nat) : Int) := by
  have hc := c.toNat_lt
  have hw : ∀ m : Int, 0 ≤ m → m < 2 ^ 63 → IntKind.i64.wrap m = m := by
    intro m h0 h1; rw [IntKind.wrap_i64]; have : (2 : Int) ^ 63 = 9223372036854775808 := by decide
    omega
  have e63 : (2 : Int) ^ 63 = 9223372036854775808 := by decide
  have e8 : (2 : Int) ^ 8 = 256 := by decide
  rw [w64 (by omega) (by omega), w64 (by omega) (by omega)]
  rw [bits_join .i64 63 (by decide) hw 8 _ _ (by omega) (by rw [e8]; omega) (by rw [e63]; omega) (by omega) (by rw [e8]; omega) (by rw [e63]; omega)]
  omega
theorem orNum_num (l : List UInt8) (h : l.length ≤ 6) : orNum l = ((SP.num l : Nat) : Int) := by
  have key : ∀ (l : List UInt8) (n : Nat), n * 256 ^ l.length + SP.num l < 281474976710656 → l.foldl (fun (n : Int) (c : UInt8) => Go.bits .or .i64 (wrap64 (n * 256)) (wrap64 (c.toNat : Int))) (n : Int) = ((n * 256 ^ l.length + SP.num l : Nat) : Int) := by
    intro l
    induction l with
    | nil => intro n _; show (n : Int) = ((n * 256 ^ 0 + 0 : Nat) : Int); omega
    | cons c l ih =>
      intro n hn
      rw [SP.num_cons, List.length_cons, Nat.pow_succ] at hn ⊢
      rw [List.foldl_cons]
      have e : n * (256 ^ l.length * 256) + (c.toNat * 256 ^ l.length + SP.num l) = (n * 256 + c.toNat) * 256 ^ l.length + SP.num l := by
        rw [Nat.add_mul, Nat.mul_assoc n 256, Nat.mul_comm 256]; omega
      have hp : 0 < 256 ^ l.length := Nat.pow_pos (by omega)
      have h1 : n * 256 + c.toNat ≤ (n * 256 + c.toNat) * 256 ^ l.length := Nat.le_mul_of_pos_right _ hp
      rw [or_byte n c (by omega), ih _ (by omega), e]
  have hl := SP.num_lt l
  have hp : 256 ^ l.length ≤ 256 ^ 6 := Nat.pow_le_pow_right (by omega) h
  have e6 : 256 ^ 6 = 281474976710656 := by decide
  have := key l 0 (by omega)
  rw [Nat.zero_mul, Nat.zero_add] at this
  exact this
def GetS (s : ByteArray) (a b : Int) : Int × Int := if b < 1 ∨ 6 < b ∨ a < 0 ∨ (s.size : Int) < a + b then (0, 1) else ((SP.num (((SP.by_ s).drop a.toNat).take b.toNat) : Int), 0)
theorem get_ev (s : ByteArray) (hs : s.size ≤ 281474976710656) (a b : Int) (ha : -9223372036854775808 ≤ a ∧ a < 9223372036854775808) (hb : -9223372036854775808 ≤ b ∧ b < 9223372036854775808) : sum_Get.f s a b = some (GetS s a b) := by
  unfold sum_Get.f GetS
  by_cases h1 : b < 1
  · rw [if_pos h1, if_pos (.inl h1)]
  by_cases h2 : 6 < b
  · rw [if_neg h1, if_pos h2, if_pos (.inr (.inl h2))]
  by_cases h3 : a < 0
  · rw [if_neg h1, if_neg h2, if_pos h3, if_pos (.inr (.inr (.inl h3)))]
  rw [if_neg h1, if_neg h2, if_neg h3, w64 (by omega) (by omega)]
  by_cases h4 : (s.size : Int) < a + b
  · rw [if_pos (by omega), if_pos (.inr (.inr (.inr h4)))]
  · rw [if_neg (by omega), w64 (by omega) (by omega), if_pos ⟨by omega, by omega, by omega⟩, if_neg (by omega), cut_mk]
    obtain ⟨x, rfl⟩ := Int.eq_ofNat_of_zero_le (show 0 ≤ a by omega)
    obtain ⟨y, rfl⟩ := Int.eq_ofNat_of_zero_le (show 0 ≤ b by omega)
    have e : ((x : Int) + (y : Int)).toNat = x + y := by omega
    rw [e, Int.toNat_natCast, Int.toNat_natCast, Nat.add_sub_cancel_left]
    show some (orNum (SP.by_ (mkB _)), (0 : Int)) = _
    rw [by_mkB, orNum_num _ (by rw [List.length_take]; omega)]
theorem canon_put (c : Nat) (hc : c ≤ 65535) : PutS (65535 - (c : Int)) 2 = (mkB (SP.bytesN (65535 - c) 2), 0) := by
  have e : (65535 - (c : Int)).toNat = 65535 - c := by omega
  have e2 : (2 : Int).toNat = 2 := rfl
  have e3 : (256 : Int) ^ 2 = 65536 := rfl
  rw [PutS, e2, e3, if_neg (by omega), e]
/-- bytes with the sum at a place -/
def sealB (l : List UInt8) (o : Nat) : List UInt8 := l.take o ++ SP.bytesN (65535 - SP.canon (SP.ws 0 (l.take o ++ [0, 0] ++ l.drop (o + 2)))) 2 ++ l.drop (o + 2)
theorem sealB_len (l : List UInt8) (o : Nat) (h : o + 2 ≤ l.length) : (sealB l o).length = l.length := by
  simp only [sealB, List.length_append, List.length_take, SP.bytesN_len, List.length_drop]; omega
def SealS (s : ByteArray) (o : Int) : ByteArray × Int := if o < 0 ∨ o % 2 = 1 ∨ (s.size : Int) < o + 2 then (⟨#[]⟩, 1) else if 65536 < s.size then (⟨#[]⟩, 2) else (mkB (sealB (SP.by_ s) o.toNat), 0)
theorem seal_tests (s : ByteArray) (hs : s.size ≤ 281474976710656) (o : Int) (ho : -9223372036854775808 ≤ o ∧ o < 9223372036854775808) : (o < 0 ∨ Int.tmod o 2 = 1 ∨ o > wrap64 ((s.size : Int) - 2)) ↔ (o < 0 ∨ o % 2 = 1 ∨ (s.size : Int) < o + 2) := by
  rw [w64 (by omega) (by omega)]
  by_cases h : o < 0
  · simp [h]
  · rw [Int.tmod_eq_emod_of_nonneg (by omega)]; omega
theorem seal_ev (s : ByteArray) (hs : s.size ≤ 281474976710656) (o : Int) (ho : -9223372036854775808 ≤ o ∧ o < 9223372036854775808) : Ev (fun k => sum_Seal.f k s o) (SealS s o) := by
  have ht := seal_tests s hs o ho
  have bad : (o < 0 ∨ o % 2 = 1 ∨ (s.size : Int) < o + 2) → Ev (fun k => sum_Seal.j0 k s o true) (SealS s o) := by
    intro h
    refine Ev.step (f := fun _ => some (⟨#[]⟩, 1)) (fun k => ?_) ?_
    · simp only [sum_Seal.j0]; rw [if_pos trivial]
    · rw [SealS, if_pos h]; exact Ev.now _
  by_cases h1 : o < 0
  · refine Ev.congr (fun k => ?_) (bad (.inl h1)); unfold sum_Seal.f; rw [if_pos h1]
  by_cases h2 : Int.tmod o 2 = 1
  · refine Ev.congr (fun k => ?_) (bad (ht.mp (.inr (.inl h2)))); unfold sum_Seal.f; rw [if_neg h1, if_pos h2]
  by_cases h3 : o > wrap64 ((s.size : Int) - 2)
  · refine Ev.congr (fun k => ?_) (bad (ht.mp (.inr (.inr h3)))); unfold sum_Seal.f; rw [if_neg h1, if_neg h2, decide_eq_true h3]
  have hn : ¬ (o < 0 ∨ o % 2 = 1 ∨ (s.size : Int) < o + 2) := fun h => by rcases ht.mpr h with h | h | h <;> contradiction
  obtain ⟨m, rfl⟩ := Int.eq_ofNat_of_zero_le (show 0 ≤ o by omega)
  refine Ev.congr (f := fun k => sum_Seal.j0 k s (m : Int) false) (fun k => ?_) ?_
  · unfold sum_Seal.f; rw [if_neg h1, if_neg h2, decide_eq_false h3]
  by_cases h4 : 65536 < s.size
  · refine Ev.step (f := fun _ => some (⟨#[]⟩, 2)) (fun k => ?_) ?_
    · simp only [sum_Seal.j0]; rw [if_neg (by decide), if_pos (by omega)]
    · rw [SealS, if_neg hn, if_pos h4]; exact Ev.now _
  have hl := SP.by_len s
  have e2 : wrap64 ((m : Int) + 2) = ((m + 2 : Nat) : Int) := by rw [w64 (by omega) (by omega)]; rfl
  have ex1 := cut_to s m
  have ex2 := cut_from s (m + 2)
  have hc := SP.canon_le (SP.ws 0 ((SP.by_ s).take m ++ [0, 0] ++ (SP.by_ s).drop (m + 2)))
  have hfl : SPflat [mkB ((SP.by_ s).take m), ⟨#[0, 0]⟩, mkB ((SP.by_ s).drop (m + 2))] = (SP.by_ s).take m ++ [0, 0] ++ (SP.by_ s).drop (m + 2) := by
    simp only [SPflat, List.flatMap_cons, List.flatMap_nil, by_mkB, List.append_nil, List.append_assoc]
  have htot := total_ev [mkB ((SP.by_ s).take m), ⟨#[0, 0]⟩, mkB ((SP.by_ s).drop (m + 2))] (by simp only [List.length_cons, List.length_nil]; omega) (by
    rw [hfl]; simp only [List.length_append, List.length_take, List.length_drop, List.length_cons, List.length_nil]; omega)
  rw [hfl] at htot
  have hput := put_ev (65535 - ((SP.canon (SP.ws 0 ((SP.by_ s).take m ++ [0, 0] ++ (SP.by_ s).drop (m + 2))) : Nat) : Int)) 2 (by omega) (by omega)
  rw [canon_put _ hc] at hput
  refine Ev.step (f := ?fz) (fun k => ?hz) ?hk
  case hz =>
    simp only [sum_Seal.j0]
    rw [if_neg (by decide), if_neg (by omega), if_pos (by omega), if_pos (by omega), e2, if_pos (by omega), if_pos (by omega), nat_toNat, nat_toNat, ex1, ex2]
  case hk =>
    have hb := SP.bytesN_len (65535 - SP.canon (SP.ws 0 ((SP.by_ s).take m ++ [0, 0] ++ (SP.by_ s).drop (m + 2)))) 2
    refine Ev.bind htot ?_
    try dsimp only
    rw [w64 (by omega) (by omega)]
    refine Ev.bind hput ?_
    try dsimp only
    rw [if_pos (by rw [mkB_size, mkB_size, hb, List.length_take]; omega), mkB_append, if_pos (by rw [mkB_size, mkB_size, List.length_append, hb, List.length_take, List.length_drop]; omega), mkB_append]
    rw [SealS, if_neg hn, if_neg h4, nat_toNat]
    exact Ev.now _
theorem zero_ws (a b : List UInt8) (h : a.length % 2 = 0) (n : Nat) (hn : n < 65536) : SP.ws 0 (a ++ SP.bytesN n 2 ++ b) = SP.ws 0 a + n + SP.ws (a.length + 2) b := by
  have lp := SP.bytesN_len n 2
  have e : SP.ws a.length (SP.bytesN n 2) = n := by
    have h2 : SP.bytesN n 2 = [UInt8.ofNat (n / 2 ^ 8 % 256), UInt8.ofNat (n / 2 ^ 0 % 256)] := rfl
    have u1 : (UInt8.ofNat (n / 2 ^ 8 % 256)).toNat = n / 256 := by rw [UInt8.toNat_ofNat']; omega
    have u2 : (UInt8.ofNat (n / 2 ^ 0 % 256)).toNat = n % 256 := by rw [UInt8.toNat_ofNat']; omega
    rw [h2]; simp only [SP.ws, SP.wt, u1, u2]
    rw [if_pos h, if_neg (by omega)]; omega
  rw [List.append_assoc, SP.ws_append, SP.ws_append, lp, Nat.zero_add, e]; omega
theorem canon_whole (W : Nat) : SP.canon (W + (65535 - SP.canon W)) = 65535 := by unfold SP.canon; split <;> split <;> omega
/-- what is sealed is whole -/
theorem sealB_whole (l : List UInt8) (o : Nat) (ho : o % 2 = 0) (hle : o + 2 ≤ l.length) : SP.canon (SP.ws 0 (sealB l o)) = 65535 := by
  have la : (l.take o).length = o := by rw [List.length_take]; omega
  have z : ([0, 0] : List UInt8) = SP.bytesN 0 2 := rfl
  unfold sealB
  rw [z, zero_ws _ _ (by omega) 0 (by omega), Nat.add_zero]
  have hc := SP.canon_le (SP.ws 0 (l.take o) + SP.ws ((l.take o).length + 2) (l.drop (o + 2)))
  rw [zero_ws _ _ (by omega) _ (by omega)]
  have := canon_whole (SP.ws 0 (l.take o) + SP.ws ((l.take o).length + 2) (l.drop (o + 2)))
  rw [← this]; congr 1; omega
theorem sealB_take (l : List UInt8) (o : Nat) (hle : o + 2 ≤ l.length) : (sealB l o).take o = l.take o := by
  have la : (l.take o).length = o := by rw [List.length_take]; omega
  unfold sealB
  rw [List.append_assoc, List.take_append_of_le_length (by omega), List.take_take, Nat.min_self]
theorem sealB_drop (l : List UInt8) (o : Nat) (hle : o + 2 ≤ l.length) : (sealB l o).drop (o + 2) = l.drop (o + 2) := by
  have la : (l.take o).length = o := by rw [List.length_take]; omega
  have lb := SP.bytesN_len (65535 - SP.canon (SP.ws 0 (l.take o ++ [0, 0] ++ l.drop (o + 2)))) 2
  unfold sealB
  rw [List.drop_append, List.drop_of_length_le (by rw [List.length_append, la, lb]; omega), List.nil_append, List.length_append, la, lb, Nat.sub_self, List.drop_zero]
theorem sealB_again (l : List UInt8) (o : Nat) (hle : o + 2 ≤ l.length) : sealB (sealB l o) o = sealB l o := by
  have h : sealB (sealB l o) o = (sealB l o).take o ++ SP.bytesN (65535 - SP.canon (SP.ws 0 ((sealB l o).take o ++ [0, 0] ++ (sealB l o).drop (o + 2)))) 2 ++ (sealB l o).drop (o + 2) := rfl
  rw [h, sealB_take l o hle, sealB_drop l o hle]; rfl
theorem seal_ok (s : ByteArray) (o : Nat) (hs : s.size ≤ 65536) (ho : o % 2 = 0) (hle : o + 2 ≤ s.size) : Ev (fun k => sum_Seal.f k s (o : Int)) (mkB (sealB (SP.by_ s) o), 0) := by
  have := seal_ev s (by omega) (o : Int) (by omega)
  rw [SealS, if_neg (by omega), if_neg (by omega), nat_toNat] at this
  exact this
theorem whole_ev (s : ByteArray) (h : s.size ≤ 140737488351232) : Ev (fun k => sum_Whole.f k s) (decide (SP.canon (SP.ws 0 (SP.by_ s)) = 65535)) := by
  have hw := total_ev [s] (by simp only [List.length_cons, List.length_nil]; omega) (by simp only [SPflat, List.flatMap_cons, List.flatMap_nil, List.append_nil, SP.by_len]; omega)
  simp only [SPflat, List.flatMap_cons, List.flatMap_nil, List.append_nil] at hw
  unfold sum_Whole.f
  refine Ev.bind hw ?_
  have e : (((SP.canon (SP.ws 0 (SP.by_ s)) : Nat) : Int) == 65535) = decide (SP.canon (SP.ws 0 (SP.by_ s)) = 65535) := by
    rw [Bool.eq_iff_iff, beq_iff_eq, decide_eq_true_iff]; omega
  rw [e]; exact Ev.now _
theorem bits_xor_u8 (a b : Nat) (ha : a < 256) (hb : b < 256) : Go.bits .xor .u8 (a : Int) (b : Int) = ((a ^^^ b : Nat) : Int) := by
  have hx : a ^^^ b < 2 ^ 8 := Nat.xor_lt_two_pow (by omega) (by omega)
  have h1 : (BitVec.ofInt 8 (a : Int)).toNat = a := by
    rw [BitVec.ofInt_natCast, BitVec.toNat_ofNat]; exact Nat.mod_eq_of_lt (by omega)
  have h2 : (BitVec.ofInt 8 (b : Int)).toNat = b := by
    rw [BitVec.ofInt_natCast, BitVec.toNat_ofNat]; exact Nat.mod_eq_of_lt (by omega)
  have e : Go.bits .xor .u8 (a : Int) (b : Int) = IntKind.u8.wrap ((BitVec.ofInt 8 (a : Int) ^^^ BitVec.ofInt 8 (b : Int)).toNat : Int) := by
    unfold Go.bits; rfl
  rw [e, BitVec.toNat_xor, h1, h2, IntKind.wrap_u8]
  omega
theorem xor_bit (a r : Nat) (ha : a < 256) (hr : r < 8) : (a ^^^ 2 ^ r) < 256 ∧ ((a ^^^ 2 ^ r) = a + 2 ^ r ∨ (a ^^^ 2 ^ r) + 2 ^ r = a) ∧ ((a ^^^ 2 ^ r) ^^^ 2 ^ r) = a := by
  have key : ∀ (x : Fin 256) (y : Fin 8), (x.val ^^^ 2 ^ y.val) < 256 ∧ ((x.val ^^^ 2 ^ y.val) = x.val + 2 ^ y.val ∨ (x.val ^^^ 2 ^ y.val) + 2 ^ y.val = x.val) ∧ ((x.val ^^^ 2 ^ y.val) ^^^ 2 ^ y.val) = x.val := by decide +kernel
  exact key ⟨a, ha⟩ ⟨r, hr⟩
theorem pow_bits {r : Nat} (h : r < 8) : 2 ^ r < 256 ∧ 0 < 2 ^ r := ⟨by have : 2 ^ r ≤ 2 ^ 7 := Nat.pow_le_pow_right (by omega) (by omega); omega, Nat.pow_pos (by omega)⟩
/-- bytes with one bit turned -/
def flipB (l : List UInt8) (q r : Nat) : List UInt8 := l.set q (UInt8.ofNat (SP.nth l q ^^^ 2 ^ r))
theorem flipS_mk (s : ByteArray) (q r : Nat) (hr : r < 8) (hq : q < s.size) : flipS s q r = mkB (flipB (SP.by_ s) q r) := by
  have hp := pow_bits hr
  have hx := xor_bit (SP.nth (SP.by_ s) q) r (SP.nth_lt _ _) hr
  have e : Go.bits .xor .u8 ((s.data.toList.getD q 0).toNat : Int) (2 ^ r % 256) = ((SP.nth (SP.by_ s) q ^^^ 2 ^ r : Nat) : Int) := by
    have h1 : ((2 : Int) ^ r % 256) = ((2 ^ r : Nat) : Int) := by
      rw [show (2 : Int) ^ r = ((2 ^ r : Nat) : Int) from (Int.natCast_pow 2 r).symm]; omega
    rw [h1]
    exact bits_xor_u8 _ _ (SP.nth_lt _ _) hp.1
  unfold flipS flipL strOfNums mkB flipB
  rw [e]
  congr 2
  rw [List.map_set, bytesOf, List.map_map]
  congr 1
  · rw [show ((fun n : Int => UInt8.ofNat n.toNat) ∘ fun b : UInt8 => (b.toNat : Int)) = id from by
      funext b; simp [Function.comp]]
    rw [List.map_id]
theorem ws_set (l : List UInt8) : ∀ (p q : Nat) (b : UInt8), q < l.length → SP.ws p (l.set q b) + SP.wt (p + q) (SP.nth l q) = SP.ws p l + SP.wt (p + q) b.toNat := by
  induction l with
  | nil => intro p q b h; simp at h
  | cons x l ih =>
    intro p q b h
    cases q with
    | zero => simp only [List.set_cons_zero, SP.ws, SP.nth, List.getD_cons_zero, Nat.add_zero]; omega
    | succ q =>
      have := ih (p + 1) q b (by simpa using h)
      simp only [List.set_cons_succ, SP.ws]
      have e : SP.nth (x :: l) (q + 1) = SP.nth l q := rfl
      rw [e, show p + (q + 1) = p + 1 + q from by omega]; omega
/-- one bit turned: the sum of the weights is another one -/
theorem ws_flip (l : List UInt8) (p q r : Nat) (hq : q < l.length) (hr : r < 8) : SP.ws p (flipB l q r) % 65535 ≠ SP.ws p l % 65535 := by
  obtain ⟨h1, h2, _⟩ := xor_bit (SP.nth l q) r (SP.nth_lt _ _) hr
  have hp := pow_bits hr
  have h3 := ws_set l p q (UInt8.ofNat (SP.nth l q ^^^ 2 ^ r)) hq
  have h4 : (UInt8.ofNat (SP.nth l q ^^^ 2 ^ r)).toNat = SP.nth l q ^^^ 2 ^ r := by rw [UInt8.toNat_ofNat']; exact Nat.mod_eq_of_lt h1
  rw [h4] at h3
  unfold flipB
  generalize SP.ws p (l.set q (UInt8.ofNat (SP.nth l q ^^^ 2 ^ r))) = A at h3 ⊢
  generalize SP.ws p l = B at h3 ⊢
  generalize SP.nth l q ^^^ 2 ^ r = y at *
  generalize SP.nth l q = x at *
  generalize 2 ^ r = z at *
  unfold SP.wt at h3
  split at h3 <;> omega
theorem flipB_len (l : List UInt8) (q r : Nat) : (flipB l q r).length = l.length := List.length_set
theorem Ev.ite {α : Type} {c : Prop} [Decidable c] {g f : Nat → Option α} {r : α} (h : c → Ev g r) (h' : ¬ c → Ev f r) : Ev (fun k => if c then g k else f k) r := by
  by_cases hc : c
  · exact Ev.pos hc (h hc)
  · exact Ev.neg hc (h' hc)
theorem Ev.val {α : Type} {g : Nat → Option α} {r r' : α} (h : Ev g r) (e : r = r') : Ev g r' := e ▸ h
theorem ite_same {α : Type} {p q : Prop} [Decidable p] [Decidable q] (h : p ↔ q) {x y : α} : (if p then x else y) = if q then x else y := by
  by_cases hp : p
  · rw [if_pos hp, if_pos (h.1 hp)]
  · rw [if_neg hp, if_neg (fun hq => hp (h.2 hq))]
def icmpOk (t c a b : Int) (d : ByteArray) : Prop := 0 ≤ t ∧ t ≤ 255 ∧ 0 ≤ c ∧ c ≤ 255 ∧ 0 ≤ a ∧ a ≤ 65535 ∧ 0 ≤ b ∧ b ≤ 65535 ∧ d.size ≤ 65500
instance (t c a b : Int) (d : ByteArray) : Decidable (icmpOk t c a b d) := by unfold icmpOk; infer_instance
def icmpC (t c a b : Int) (d : ByteArray) : Int := if icmpOk t c a b d then 0 else 60
theorem icmpcheck (t c a b : Int) (d : ByteArray) : icmp_Check.f t c a b d = some (icmpC t c a b d) := by
  unfold icmp_Check.f
  by_cases h1 : mn (mn (mn t c) a) b < 0
  · rw [if_pos h1]; rw [mn_lt, mn_lt, mn_lt] at h1; rw [icmpC, if_neg (by unfold icmpOk; omega)]
  by_cases h2 : mx t c > 255
  · rw [if_neg h1, if_pos h2]; rw [mx_gt] at h2; rw [icmpC, if_neg (by unfold icmpOk; omega)]
  by_cases h3 : mx a b > 65535
  · rw [if_neg h1, if_neg h2, if_pos h3]; rw [mx_gt] at h3; rw [icmpC, if_neg (by unfold icmpOk; omega)]
  by_cases h4 : (d.size : Int) > 65500
  · rw [if_neg h1, if_neg h2, if_neg h3, if_pos h4, icmpC, if_neg (by unfold icmpOk; omega)]
  · rw [if_neg h1, if_neg h2, if_neg h3, if_neg h4]
    rw [mn_lt, mn_lt, mn_lt] at h1; rw [mx_gt] at h2 h3
    rw [icmpC, if_pos (by unfold icmpOk; omega)]
/-- a packet's bytes ahead of the seal -/
def icmpRaw (t c a b : Nat) (d : List UInt8) : List UInt8 := [UInt8.ofNat t, UInt8.ofNat c, 0, 0] ++ SP.bytesN a 2 ++ SP.bytesN b 2 ++ d
theorem icmpRaw_len (t c a b : Nat) (d : List UInt8) : (icmpRaw t c a b d).length = 8 + d.length := by
  unfold icmpRaw; simp only [List.length_append, SP.bytesN_len, List.length_cons, List.length_nil]
def icmpE (t c a b : Int) (d : ByteArray) : ByteArray × Int := if icmpOk t c a b d then (mkB (sealB (icmpRaw t.toNat c.toNat a.toNat b.toNat (SP.by_ d)) 2), 0) else (⟨#[]⟩, 60)
theorem four_mk (t c : Nat) (ht : t < 256) (hc : c < 256) : strOfNums [((t : Nat) : Int) % 256, ((c : Nat) : Int) % 256, 0, 0] = mkB [UInt8.ofNat t, UInt8.ofNat c, 0, 0] := by
  unfold strOfNums mkB
  simp only [List.map_cons, List.map_nil]
  rw [show ((t : Int) % 256).toNat = t from by omega, show ((c : Int) % 256).toNat = c from by omega]; rfl
theorem icmpenc_ev (t c a b : Int) (d : ByteArray) : Ev (fun k => icmp_Encode.f k t c a b d) (icmpE t c a b d) := by
  unfold icmp_Encode.f
  rw [icmpcheck]
  simp only [Option.bind_some]
  by_cases h : icmpOk t c a b d
  · rw [icmpC, if_pos h, icmpE, if_pos h]
    simp only [if_true]
    unfold icmpOk at h
    obtain ⟨t, rfl⟩ := Int.eq_ofNat_of_zero_le (show 0 ≤ t by omega)
    obtain ⟨c, rfl⟩ := Int.eq_ofNat_of_zero_le (show 0 ≤ c by omega)
    obtain ⟨a, rfl⟩ := Int.eq_ofNat_of_zero_le (show 0 ≤ a by omega)
    obtain ⟨b, rfl⟩ := Int.eq_ofNat_of_zero_le (show 0 ≤ b by omega)
    rw [four_mk t c (by omega) (by omega)]
    simp only [nat_toNat]
    have l1 := SP.bytesN_len a 2
    have l2 := SP.bytesN_len b 2
    have ld := SP.by_len d
    refine Ev.bind (put_ok a 2 (by omega) (by omega) (by omega) (by omega)) (Ev.bind (put_ok b 2 (by omega) (by omega) (by omega) (by omega)) ?_)
    try dsimp only
    refine Ev.pos (by rw [mkB_size, mkB_size, l1]; simp) ?_
    rw [mkB_append]
    refine Ev.pos (by rw [mkB_size, mkB_size, l2, List.length_append, l1]; simp) ?_
    rw [mkB_append]
    refine Ev.pos (by rw [mkB_size, List.length_append, List.length_append, l1, l2]; simp only [List.length_cons, List.length_nil]; omega) ?_
    have e : mkB ([UInt8.ofNat t, UInt8.ofNat c, 0, 0] ++ SP.bytesN a 2 ++ SP.bytesN b 2) ++ d = mkB (icmpRaw t c a b (SP.by_ d)) := by
      rw [← mkB_by d, mkB_append, by_mkB]; rfl
    rw [e]
    have lr := icmpRaw_len t c a b (SP.by_ d)
    have := seal_ok (mkB (icmpRaw t c a b (SP.by_ d))) 2 (by rw [mkB_size, lr]; omega) (by omega) (by rw [mkB_size, lr]; omega)
    rw [by_mkB] at this
    exact Ev.bind this (Ev.now _)
  · rw [icmpC, if_neg h, icmpE, if_neg h]
    simp only [show ((60 : Int) = 0) = False from by simp, if_false]
    exact Ev.now _
def icmpA (t c a b : Int) (d : ByteArray) : Int × Int × Int × Int × ByteArray × Int := if icmpOk t c a b d ∧ t = 8 ∧ c = 0 then (0, 0, a, b, d, 0) else (0, 0, 0, 0, ⟨#[]⟩, 60)
/-- a packet's bytes, sealed -/
def icmpB (t c a b : Nat) (d : List UInt8) : List UInt8 := sealB (icmpRaw t c a b d) 2
theorem icmpB_len (t c a b : Nat) (d : List UInt8) : (icmpB t c a b d).length = 8 + d.length := by
  have := icmpRaw_len t c a b d
  unfold icmpB; rw [sealB_len _ _ (by omega), this]
theorem icmpB_drop (t c a b : Nat) (d : List UInt8) : (icmpB t c a b d).drop 4 = SP.bytesN a 2 ++ SP.bytesN b 2 ++ d := by
  have := icmpRaw_len t c a b d
  unfold icmpB
  rw [show (4 : Nat) = 2 + 2 from rfl, sealB_drop _ _ (by omega)]
  unfold icmpRaw; simp
theorem icmpB_take (t c a b : Nat) (d : List UInt8) : (icmpB t c a b d).take 2 = [UInt8.ofNat t, UInt8.ofNat c] := by
  have := icmpRaw_len t c a b d
  unfold icmpB
  rw [sealB_take _ _ (by omega)]
  unfold icmpRaw; simp
theorem nth_take (l : List UInt8) (n i : Nat) (h : i < n) : SP.nth (l.take n) i = SP.nth l i := by
  unfold SP.nth; rw [List.getD_eq_getElem?_getD, List.getD_eq_getElem?_getD, List.getElem?_take_of_lt h]
theorem icmpB_0 (t c a b : Nat) (d : List UInt8) (h : t < 256) : SP.nth (icmpB t c a b d) 0 = t := by
  rw [← nth_take _ 2 0 (by omega), icmpB_take]; unfold SP.nth; simp only [List.getD_cons_zero, UInt8.toNat_ofNat']; omega
theorem icmpB_1 (t c a b : Nat) (d : List UInt8) (h : c < 256) : SP.nth (icmpB t c a b d) 1 = c := by
  rw [← nth_take _ 2 1 (by omega), icmpB_take]; unfold SP.nth; simp only [List.getD_cons_zero, List.getD_cons_succ, UInt8.toNat_ofNat']; omega
theorem icmpE_ok {t c a b : Int} {d : ByteArray} (h : icmpOk t c a b d) : icmpE t c a b d = (mkB (icmpB t.toNat c.toNat a.toNat b.toNat (SP.by_ d)), 0) := by rw [icmpE, if_pos h]; rfl
theorem icmpE_no {t c a b : Int} {d : ByteArray} (h : ¬ icmpOk t c a b d) : icmpE t c a b d = (⟨#[]⟩, 60) := by rw [icmpE, if_neg h]
theorem icmpans (t c a b : Int) (d : ByteArray) : icmp_Answer.f t c a b d = some (icmpA t c a b d) := by
  unfold icmp_Answer.f
  rw [icmpcheck, Option.bind_some]
  by_cases h : icmpOk t c a b d
  · rw [icmpC, if_pos h, if_pos rfl]
    by_cases h1 : t = 8
    · rw [if_pos h1]
      by_cases h2 : c > 0
      · rw [if_pos h2, icmpA, if_neg (by omega)]
      · unfold icmpOk at h
        obtain rfl : c = 0 := by omega
        rw [if_neg h2, icmpA, if_pos ⟨by unfold icmpOk; exact h, h1, rfl⟩]
    · rw [if_neg h1, icmpA, if_neg (by omega)]
  · rw [icmpC, if_neg h, if_neg (by decide), icmpA, if_neg (fun hh => h hh.1)]
def icmpD (s : ByteArray) : Int × Int × Int × Int × ByteArray × Int := if s.size < 8 ∨ 65508 < s.size then (0, 0, 0, 0, ⟨#[]⟩, 60) else if SP.canon (SP.ws 0 (SP.by_ s)) = 65535 then ((SP.nth (SP.by_ s) 0 : Nat), (SP.nth (SP.by_ s) 1 : Nat), ((SP.num (((SP.by_ s).drop 4).take 2) : Nat) : Int), ((SP.num (((SP.by_ s).drop 6).take 2) : Nat) : Int), mkB ((SP.by_ s).drop 8), 0) else (0, 0, 0, 0, ⟨#[]⟩, 20)
theorem byte_w (s : ByteArray) (i : Nat) : wrap64 (bt s (i : Int)) = ((SP.nth (SP.by_ s) i : Nat) : Int) := by
  have := SP.nth_lt (SP.by_ s) i
  rw [bt_nth, w64 (by omega) (by omega)]
theorem byte_w0 (s : ByteArray) : wrap64 (bt s 0) = ((SP.nth (SP.by_ s) 0 : Nat) : Int) := byte_w s 0
theorem byte_w1 (s : ByteArray) : wrap64 (bt s 1) = ((SP.nth (SP.by_ s) 1 : Nat) : Int) := byte_w s 1
theorem icmpdec_ev (s : ByteArray) (hs : s.size ≤ 140737488351232) : Ev (fun k => icmp_Decode.f k s) (icmpD s) := by
  have bad : (s.size < 8 ∨ 65508 < s.size) → Ev (fun k => icmp_Decode.j0 k s true) (icmpD s) := by
    intro h
    refine Ev.step (f := fun _ => some (0, 0, 0, 0, (⟨#[]⟩ : ByteArray), 60)) (fun k => ?_) ?_
    · simp only [icmp_Decode.j0]; rw [if_pos trivial]
    · rw [icmpD, if_pos h]; exact Ev.now _
  by_cases h1 : s.size < 8
  · refine Ev.congr (fun k => ?_) (bad (.inl h1)); unfold icmp_Decode.f; rw [if_pos (by omega)]
  by_cases h2 : 65508 < s.size
  · refine Ev.congr (fun k => ?_) (bad (.inr h2)); unfold icmp_Decode.f; rw [if_neg (by omega), decide_eq_true (by omega)]
  refine Ev.congr (f := fun k => icmp_Decode.j0 k s false) (fun k => ?_) ?_
  · unfold icmp_Decode.f; rw [if_neg (by omega), decide_eq_false (by omega)]
  refine Ev.step (f := ?fz) (fun k => ?hz) ?hk
  case hz => simp only [icmp_Decode.j0]; rw [if_neg (by decide)]
  case hk =>
    refine Ev.bind (whole_ev s hs) ?_
    by_cases hc : SP.canon (SP.ws 0 (SP.by_ s)) = 65535
    · rw [decide_eq_true hc]
      refine Ev.pos rfl (Ev.pos (by omega) (Ev.pos (by omega) (Ev.pos (by omega) ?_)))
      rw [get_ev s (by omega) 4 2 (by omega) (by omega), get_ev s (by omega) 6 2 (by omega) (by omega)]
      simp only [Option.bind_some]
      rw [byte_w0, byte_w1, cut_from, GetS, if_neg (by omega), GetS, if_neg (by omega), icmpD, if_neg (by omega), if_pos hc]
      exact Ev.now _
    · rw [decide_eq_false hc]
      refine Ev.neg (by decide) ?_
      rw [icmpD, if_neg (by omega), if_neg hc]
      exact Ev.now _
theorem works_ev : Ev (fun k => sternpostlaw06_works.f k) true := by
  have h := icmpenc_ev 8 0 1 2 ⟨#[]⟩
  have e : icmpE 8 0 1 2 ⟨#[]⟩ = (mkB [8, 0, 247, 252, 0, 1, 0, 2], 0) := by decide +kernel
  rw [e] at h
  unfold sternpostlaw06_works.f
  refine Ev.bind h ?_
  simp only [if_true]
  have e2 : ((mkB [8, 0, 247, 252, 0, 1, 0, 2]).toList == ([8, 0, 247, 252, 0, 1, 0, 2] : List UInt8)) = true := by decide +kernel
  rw [e2]
  exact Ev.now _
theorem icmpB_num (t c a b : Nat) (d : List UInt8) (ha : a < 65536) (hb : b < 65536) : SP.num (((icmpB t c a b d).drop 4).take 2) = a ∧ SP.num (((icmpB t c a b d).drop 6).take 2) = b ∧ (icmpB t c a b d).drop 8 = d := by
  have e4 := icmpB_drop t c a b d
  have l1 := SP.bytesN_len a 2
  have l2 := SP.bytesN_len b 2
  have d6 : (icmpB t c a b d).drop 6 = SP.bytesN b 2 ++ d := by
    rw [show (6 : Nat) = 4 + 2 from rfl, ← List.drop_drop, e4, List.append_assoc, List.drop_append, List.drop_of_length_le (by omega), List.nil_append, l1]; rfl
  have d8 : (icmpB t c a b d).drop 8 = d := by
    rw [show (8 : Nat) = 6 + 2 from rfl, ← List.drop_drop, d6, List.drop_append, List.drop_of_length_le (by omega), List.nil_append, l2]; rfl
  refine ⟨?_, ?_, d8⟩
  · rw [e4, List.append_assoc, List.take_append_of_le_length (by omega), List.take_of_length_le (by omega), SP.num_bytesN]; omega
  · rw [d6, List.take_append_of_le_length (by omega), List.take_of_length_le (by omega), SP.num_bytesN]; omega
theorem IcmpBack : sternpostlaw06_IcmpBack.Pure := by
  intro t c a b d bit _ _ _ _ _ hbit
  refine Ev.rounds ?_
  unfold sternpostlaw06_IcmpBack.f
  refine Ev.bind works_ev (Ev.pos rfl (Ev.bind (icmpenc_ev t c a b d) ?_))
  by_cases h : icmpOk t c a b d
  rotate_left
  · rw [icmpE_no h]
    exact Ev.neg (by decide) (Ev.val (Ev.now _) (by decide +kernel))
  rw [icmpE_ok h]
  have h' := h
  unfold icmpOk at h'
  obtain ⟨t, rfl⟩ := Int.eq_ofNat_of_zero_le (show 0 ≤ t by omega)
  obtain ⟨c, rfl⟩ := Int.eq_ofNat_of_zero_le (show 0 ≤ c by omega)
  obtain ⟨a, rfl⟩ := Int.eq_ofNat_of_zero_le (show 0 ≤ a by omega)
  obtain ⟨b, rfl⟩ := Int.eq_ofNat_of_zero_le (show 0 ≤ b by omega)
  simp only [nat_toNat]
  have ld := SP.by_len d
  have lB := icmpB_len t c a b (SP.by_ d)
  have whole : SP.canon (SP.ws 0 (icmpB t c a b (SP.by_ d))) = 65535 := sealB_whole _ 2 (by omega) (by rw [icmpRaw_len]; omega)
  have n0 := icmpB_0 t c a b (SP.by_ d) (by omega)
  have n1 := icmpB_1 t c a b (SP.by_ d) (by omega)
  obtain ⟨n2, n3, n4⟩ := icmpB_num t c a b (SP.by_ d) (by omega) (by omega)
  generalize icmpB t c a b (SP.by_ d) = B at lB whole n0 n1 n2 n3 n4 ⊢
  have sB : (mkB B).size = 8 + d.size := by rw [mkB_size]; omega
  have hd := icmpdec_ev (mkB B) (by omega)
  rw [icmpD, if_neg (by omega), by_mkB, if_pos whole, n0, n1, n2, n3, n4, mkB_by] at hd
  refine Ev.pos (by first | rfl | trivial) (Ev.bind hd ?_)
  unfold sternpostlaw06_IcmpBack_tail.f
  refine Ev.pos ⟨rfl, rfl, rfl, rfl, rfl, rfl⟩ ?_
  have hb' := wf64 hbit
  try dsimp only
  rw [show wrap64 (8 * ((mkB B).size : Int)) = ((8 * (mkB B).size : Nat) : Int) from by rw [w64 (by omega) (by omega)]; omega]
  have am := among_ev bit ((8 * (mkB B).size : Nat) : Int) (by omega) hb' (by omega)
  have hk1 := Int.emod_nonneg bit (show ((8 * (mkB B).size : Nat) : Int) ≠ 0 by omega)
  have hk2 := Int.emod_lt_of_pos bit (show (0 : Int) < ((8 * (mkB B).size : Nat) : Int) by omega)
  obtain ⟨m, hm⟩ := Int.eq_ofNat_of_zero_le hk1
  rw [hm] at am hk2
  clear hm hk1
  have am' : Ev (fun _ => sternpostbook_Among.f bit ((8 * (mkB B).size : Nat) : Int)) (m : Int) := by rw [am]; exact Ev.now _
  refine Ev.bind am' (Ev.pos ⟨by omega, by omega, by omega⟩ ?_)
  rw [show ((m : Int) / 8).toNat = m / 8 from by omega, show ((m : Int) % 8).toNat = m % 8 from by omega, flipS_mk _ _ _ (by omega) (by omega), by_mkB]
  have hf := icmpdec_ev (mkB (flipB B (m / 8) (m % 8))) (by rw [mkB_size, flipB_len]; omega)
  rw [icmpD, if_neg (by rw [mkB_size, flipB_len]; omega), by_mkB, if_neg ?no] at hf
  case no =>
    intro hc
    have h5 := ws_flip B 0 (m / 8) (m % 8) (by omega) (by omega)
    have h6 := SP.canon_mod (SP.ws 0 (flipB B (m / 8) (m % 8)))
    have h7 := SP.canon_mod (SP.ws 0 B)
    rw [hc] at h6; rw [whole] at h7
    omega
  refine Ev.bind hf (Ev.pos rfl ?_)
  have an : ∀ (t c a b : Int) (d : ByteArray), Ev (fun _ => icmp_Answer.f t c a b d) (icmpA t c a b d) := fun t c a b d => by rw [icmpans]; exact Ev.now _
  refine Ev.bind (an _ _ _ _ _) ?_
  by_cases hq : icmpOk (t : Int) (c : Int) (a : Int) (b : Int) d ∧ (t : Int) = 8 ∧ (c : Int) = 0
  · rw [icmpA, if_pos hq]
    have a2 : icmpA 0 0 (a : Int) (b : Int) d = (0, 0, 0, 0, ⟨#[]⟩, 60) := by rw [icmpA, if_neg (fun hh => absurd hh.2.1 (by decide))]
    have an2 := an 0 0 (a : Int) (b : Int) d
    rw [a2] at an2
    exact Ev.pos rfl (Ev.bind an2 (Ev.pos ⟨rfl, rfl, rfl, rfl, rfl⟩ (Ev.now _)))
  · rw [icmpA, if_neg hq]
    exact Ev.neg (by decide) (Ev.pos ⟨rfl, rfl, rfl, rfl, rfl⟩ (Ev.now _))
end Go.Proofs.Ytckgcjjehahkiaa.Pure

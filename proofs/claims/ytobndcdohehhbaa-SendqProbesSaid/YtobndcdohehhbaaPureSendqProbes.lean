/- Where the window is shut nothing is sent, but the one byte that asks, the same again and again, until it is acknowledged: for any number and any text that fits in memory. -/
import Derived.Test.YtobndcdohehhbaaPSendqProbesx2
set_option linter.unusedVariables false
set_option linter.unusedSimpArgs false
namespace Go.Proofs.Ytobndcdohehhbaa.Pure
open Go Go.RowKit Go.Proofs.Ytobndcdohehhbaa.PSendqProbes Go.Proofs.YtobndcdohehhbaaW.PrintWords Go.Proofs.YtobndcdohehhbaaW.PrintLast Go.Proofs.YtobndcdohehhbaaW.PrintMore
attribute [local irreducible] shl shr Go.bits
/-! ### plain words on numbers and bytes -/
namespace SP
/-- what is above 16 bits, added again -/
def canon (n : Nat) : Nat := if n = 0 then 0 else (n - 1) % 65535 + 1
theorem canon_le (n : Nat) : canon n ≤ 65535 := by unfold canon; split <;> omega
theorem canon_small {n : Nat} (h : n ≤ 65535) : canon n = n := by unfold canon; split <;> omega
theorem canon_step {n : Nat} (h : 65535 < n) : canon (n / 65536 + n % 65536) = canon n := by unfold canon; split <;> split <;> omega
theorem canon_add (a b : Nat) : canon (canon a + b) = canon (a + b) := by unfold canon; split <;> split <;> split <;> omega
theorem canon_mod (n : Nat) : canon n % 65535 = n % 65535 := by unfold canon; split <;> omega
theorem canon_zero {n : Nat} : canon n = 0 ↔ n = 0 := by unfold canon; split <;> omega
theorem canon_eq {a b : Nat} (h : a % 65535 = b % 65535) (h0 : a = 0 ↔ b = 0) : canon a = canon b := by unfold canon; split <;> split <;> omega
/-- a byte's weight at a place -/
def wt (p : Nat) (b : Nat) : Nat := if p % 2 = 0 then 256 * b else b
/-- the weights of bytes from a place on -/
def ws : Nat → List UInt8 → Nat
  | _, [] => 0
  | p, b :: l => wt p b.toNat + ws (p + 1) l
theorem wt_le (p : Nat) (b : UInt8) : wt p b.toNat ≤ 65280 := by have := b.toNat_lt; unfold wt; split <;> omega
theorem ws_le (l : List UInt8) : ∀ p, ws p l ≤ 65280 * l.length := by
  induction l with
  | nil => intro p; simp [ws]
  | cons b l ih => intro p; have := ih (p + 1); have := wt_le p b; simp only [ws, List.length_cons]; omega
theorem ws_append (a b : List UInt8) : ∀ p, ws p (a ++ b) = ws p a + ws (p + a.length) b := by
  induction a with
  | nil => intro p; simp [ws]
  | cons x l ih => intro p; simp only [List.cons_append, ws, ih, List.length_cons]; rw [show p + 1 + l.length = p + (l.length + 1) from by omega]; omega
theorem wt_parity {p q : Nat} (h : p % 2 = q % 2) (b : Nat) : wt p b = wt q b := by unfold wt; rw [h]
theorem ws_parity (l : List UInt8) : ∀ {p q : Nat}, p % 2 = q % 2 → ws p l = ws q l := by
  induction l with
  | nil => intros; rfl
  | cons x l ih => intro p q h; simp only [ws, wt_parity h]; rw [ih (p := p + 1) (q := q + 1) (by omega)]
/-- a string's bytes -/
abbrev by_ (s : ByteArray) : List UInt8 := s.data.toList
theorem by_len (s : ByteArray) : (by_ s).length = s.size := by
  show s.data.toList.length = s.data.size; exact Array.length_toList
theorem by_append (s t : ByteArray) : by_ (s ++ t) = by_ s ++ by_ t := by
  show (s ++ t).data.toList = _; rw [ByteArray.data_append, Array.toList_append]
theorem by_extract (s : ByteArray) (i j : Nat) : by_ (s.extract i j) = ((by_ s).drop i).take (j - i) := by
  simp [by_, ByteArray.data_extract, List.extract_eq_take_drop]
theorem by_ext {s t : ByteArray} (h : by_ s = by_ t) : s = t := by
  cases s; cases t; simp only [by_] at h; congr; exact Array.toList_inj.mp h
/-- byte i of a list -/
def nth (l : List UInt8) (i : Nat) : Nat := (l.getD i 0).toNat
theorem nth_lt (l : List UInt8) (i : Nat) : nth l i < 256 := (l.getD i 0).toNat_lt
theorem drop_cons {l : List UInt8} {i : Nat} (h : i < l.length) : l.drop i = l.getD i 0 :: l.drop (i + 1) := by
  rw [List.drop_eq_getElem_cons h]; simp [List.getD, h]
theorem ws_drop {l : List UInt8} {i : Nat} (p : Nat) (h : i < l.length) : ws p (l.drop i) = wt p (nth l i) + ws (p + 1) (l.drop (i + 1)) := by
  rw [drop_cons h]; rfl
theorem ws_drop_end {l : List UInt8} {i : Nat} (p : Nat) (h : l.length ≤ i) : ws p (l.drop i) = 0 := by
  rw [List.drop_eq_nil_of_le h]; rfl
/-- a number's bytes, k of them -/
def bytesN (n : Nat) : Nat → List UInt8
  | 0 => []
  | k + 1 => UInt8.ofNat (n / 2 ^ (8 * k) % 256) :: bytesN n k
theorem bytesN_len (n k : Nat) : (bytesN n k).length = k := by induction k with
  | zero => rfl
  | succ k ih => simp [bytesN, ih]
/-- the number of bytes -/
def num (l : List UInt8) : Nat := l.foldl (fun n b => n * 256 + b.toNat) 0
theorem num_acc (l : List UInt8) : ∀ a : Nat, l.foldl (fun n b => n * 256 + b.toNat) a = a * 256 ^ l.length + num l := by
  induction l with
  | nil => intro a; show a = a * 256 ^ 0 + 0; omega
  | cons b l ih =>
    intro a
    have h0 : num (b :: l) = l.foldl (fun n b => n * 256 + b.toNat) (0 * 256 + b.toNat) := rfl
    rw [h0, List.foldl_cons, ih, ih, List.length_cons, Nat.pow_succ, Nat.zero_mul, Nat.zero_add, Nat.add_mul, Nat.mul_assoc, Nat.mul_comm 256]
    omega
theorem num_cons (b : UInt8) (l : List UInt8) : num (b :: l) = b.toNat * 256 ^ l.length + num l := by
  have := num_acc l b.toNat; simp only [num, List.foldl_cons, Nat.zero_mul, Nat.zero_add]; exact this
theorem num_append (a b : List UInt8) : num (a ++ b) = num a * 256 ^ b.length + num b := by
  unfold num; rw [List.foldl_append, num_acc]; rfl
theorem num_lt (l : List UInt8) : num l < 256 ^ l.length := by
  induction l with
  | nil => simp [num]
  | cons b l ih => rw [num_cons, List.length_cons, Nat.pow_succ]; have := b.toNat_lt; have h : b.toNat * 256 ^ l.length ≤ 255 * 256 ^ l.length := Nat.mul_le_mul_right _ (by omega); omega
theorem num_bytesN (n k : Nat) : num (bytesN n k) = n % 256 ^ k := by
  induction k with
  | zero => simp [bytesN, num, Nat.mod_one]
  | succ k ih =>
    rw [bytesN, num_cons, ih, bytesN_len]
    have e : (2 : Nat) ^ (8 * k) = 256 ^ k := by rw [Nat.pow_mul]
    rw [e, Nat.pow_succ, Nat.mod_mul, Nat.mul_comm (256 ^ k)]
    have : (UInt8.ofNat (n / 256 ^ k % 256)).toNat = n / 256 ^ k % 256 := by simp [UInt8.toNat_ofNat']
    rw [this]; omega
theorem bytesN_num (l : List UInt8) : bytesN (num l) l.length = l := by
  induction l with
  | nil => rfl
  | cons b l ih =>
    have key : ∀ (m k : Nat), bytesN (m * 256 ^ l.length + num l) k = bytesN (num l) k ∨ l.length < k := by
      intro m k
      by_cases hk : l.length < k
      · exact .inr hk
      · left
        induction k with
        | zero => rfl
        | succ k ihk =>
          rw [bytesN, bytesN, ihk (by omega)]
          have e : (2 : Nat) ^ (8 * k) = 256 ^ k := by rw [Nat.pow_mul]
          obtain ⟨d, hd⟩ : ∃ d, l.length = k + 1 + d := ⟨l.length - (k + 1), by omega⟩
          rw [e]
          have : (m * 256 ^ l.length + num l) / 256 ^ k % 256 = num l / 256 ^ k % 256 := by
            rw [hd, Nat.pow_add, Nat.pow_succ]
            rw [show m * (256 ^ k * 256 * 256 ^ d) = 256 ^ k * (256 * (m * 256 ^ d)) from by ac_rfl]
            rw [Nat.mul_add_div (Nat.pow_pos (by omega)), Nat.mul_add_mod]
          rw [this]
    rw [List.length_cons, num_cons, bytesN]
    have e : (2 : Nat) ^ (8 * l.length) = 256 ^ l.length := by rw [Nat.pow_mul]
    have hl := num_lt l
    have h1 : (b.toNat * 256 ^ l.length + num l) / 2 ^ (8 * l.length) % 256 = b.toNat := by
      rw [e, Nat.mul_comm, Nat.mul_add_div (Nat.pow_pos (by omega)), Nat.div_eq_of_lt hl]; have := b.toNat_lt; omega
    rw [h1]
    rcases key b.toNat l.length with h | h
    · rw [h, ih]; congr 1; exact UInt8.toNat_inj.mp (by simp)
    · omega
end SP
theorem Ev.pos {α : Type} {c : Prop} [Decidable c] {g f : Nat → Option α} {r : α} (hc : c) (h : Ev g r) : Ev (fun k => if c then g k else f k) r := by
  simp only [if_pos hc]; exact h
theorem Ev.neg {α : Type} {c : Prop} [Decidable c] {g f : Nat → Option α} {r : α} (hc : ¬ c) (h : Ev f r) : Ev (fun k => if c then g k else f k) r := by
  simp only [if_neg hc]; exact h
theorem wf64 {n : Int} (h : (Lit.int .i64 n).wf = true) : -9223372036854775808 ≤ n ∧ n < 9223372036854775808 := by
  have e : (Lit.int .i64 n).wf = decide (IntKind.i64.min ≤ n ∧ n ≤ 9223372036854775807) := by simp [Lit.wf]
  have e2 : IntKind.i64.min = -9223372036854775808 := by decide
  rw [e, e2] at h
  have := of_decide_eq_true h
  omega
/-! ### package sum and the reference's, as the words above -/
theorem and_mask (n m : Nat) (h : n < 2 ^ 63) (i : Nat) (hi : m = 2 ^ i - 1) (hi2 : i ≤ 63) : bits .and .i64 (n : Int) (m : Int) = ((n % 2 ^ i : Nat) : Int) := by
  subst hi
  have hw : ∀ n : Int, 0 ≤ n → n < 9223372036854775808 → IntKind.i64.wrap n = n := by
    intro n h0 h1; rw [IntKind.wrap_i64]; have : (2 : Int) ^ 62 = 4611686018427387904 := by decide
    omega
  have := bits_mask .i64 63 (by decide) hw i hi2 (n : Int) (by omega) (by exact_mod_cast h)
  have e : ((2 ^ i - 1 : Nat) : Int) = (2 : Int) ^ i - 1 := by
    have : 1 ≤ 2 ^ i := Nat.one_le_two_pow
    rw [Int.ofNat_sub this]; simp
  rw [e, this]; simp
theorem bits16 (n : Nat) (h : n < 2 ^ 63) : bits .and .i64 (n : Int) 65535 = ((n % 65536 : Nat) : Int) := and_mask n 65535 h 16 rfl (by omega)
theorem bt_nth (s : ByteArray) (i : Nat) : bt s (i : Int) = ((SP.nth (SP.by_ s) i : Nat) : Int) := by
  unfold bt SP.nth
  simp only [Int.toNat_natCast]
  split
  · rename_i h
    congr 1
    have h' : i < (SP.by_ s).length := by rw [SP.by_len]; exact h
    rw [List.getD_eq_getElem?_getD, List.getElem?_eq_getElem h']
    rfl
  · rename_i h
    rw [List.getD_eq_getElem?_getD, List.getElem?_eq_none (by rw [SP.by_len]; omega)]; rfl
theorem w64 {n : Int} (h0 : -9223372036854775808 ≤ n) (h1 : n < 9223372036854775808) : wrap64 n = n := by unfold wrap64; omega
theorem tmod2 (n : Nat) : Int.tmod (n : Int) 2 = ((n % 2 : Nat) : Int) := by rw [Int.tmod_eq_emod_of_nonneg (by omega)]; omega
theorem nat_toNat (n : Nat) : ((n : Int) : Int).toNat = n := Int.toNat_natCast n
theorem rdOf_nat {α : Type} (d : α) (xs : List α) (i : Nat) : rdOf d xs (i : Int) = xs.getD i d := by simp [rdOf]
def mkB (l : List UInt8) : ByteArray := ⟨l.toArray⟩
theorem by_mkB (l : List UInt8) : SP.by_ (mkB l) = l := rfl
theorem mkB_by (s : ByteArray) : mkB (SP.by_ s) = s := SP.by_ext rfl
theorem mkB_size (l : List UInt8) : (mkB l).size = l.length := rfl
theorem mkB_append (a b : List UInt8) : mkB a ++ mkB b = mkB (a ++ b) := SP.by_ext (by rw [SP.by_append]; rfl)
theorem shr_pow (n k : Nat) (hk : k ≤ 64) : shr .i64 (n : Int) (k : Int) = ((n / 2 ^ k : Nat) : Int) := by
  unfold shr
  rw [Int.toNat_natCast, show min k IntKind.i64.bits = k from Nat.min_eq_left (by simpa [IntKind.bits] using hk)]
  simp
theorem mn_lt (a b c : Int) : mn a b < c ↔ a < c ∨ b < c := by unfold mn; split <;> omega
theorem mx_gt (a b c : Int) : mx a b > c ↔ a > c ∨ b > c := by unfold mx; split <;> omega
theorem among_ev (x n : Int) (hn : 0 < n) (hx : -9223372036854775808 ≤ x ∧ x < 9223372036854775808) (hn2 : n < 4611686018427387904) : sternpostbook_Among.f x n = some (x % n) := by
  unfold sternpostbook_Among.f
  rw [if_neg (by omega)]
  congr 1
  have h1 : Int.tmod x n = if 0 ≤ x ∨ x % n = 0 then x % n else x % n - n := by
    by_cases h : 0 ≤ x
    · rw [Int.tmod_eq_emod_of_nonneg h, if_pos (.inl h)]
    · rw [Int.tmod_eq_emod]
      by_cases h2 : x % n = 0
      · rw [if_pos (.inr (Int.dvd_of_emod_eq_zero h2)), if_pos (.inr h2)]; omega
      · rw [if_neg (by intro hh; rcases hh with hh | hh; exact h hh; exact h2 (Int.emod_eq_zero_of_dvd hh)), if_neg (by intro hh; rcases hh with hh | hh; exact h hh; exact h2 hh)]; omega
  have h2 := Int.emod_nonneg x (show n ≠ 0 by omega)
  have h3 := Int.emod_lt_of_pos x hn
  rw [h1]
  split
  · rw [w64 (by omega) (by omega), Int.tmod_eq_emod_of_nonneg (by omega), Int.add_emod_right, Int.emod_emod_of_dvd _ (Int.dvd_refl n)]
  · rw [w64 (by omega) (by omega), Int.tmod_eq_emod_of_nonneg (by omega), Int.sub_add_cancel, Int.emod_emod_of_dvd _ (Int.dvd_refl n)]
theorem cut_mk (s : ByteArray) (i j : Nat) : cutS s i j = mkB (((SP.by_ s).drop i).take (j - i)) := by
  rw [cutS]; exact SP.by_ext (by rw [SP.by_extract, by_mkB])
theorem cut_to (s : ByteArray) (j : Nat) : cutS s 0 j = mkB ((SP.by_ s).take j) := by rw [cut_mk]; simp
theorem cut_from (s : ByteArray) (i : Nat) : cutS s i s.size = mkB ((SP.by_ s).drop i) := by
  rw [cut_mk, List.take_of_length_le (by rw [List.length_drop, SP.by_len]; omega)]
theorem Ev.ite {α : Type} {c : Prop} [Decidable c] {g f : Nat → Option α} {r : α} (h : c → Ev g r) (h' : ¬ c → Ev f r) : Ev (fun k => if c then g k else f k) r := by
  by_cases hc : c
  · exact Ev.pos hc (h hc)
  · exact Ev.neg hc (h' hc)
theorem Ev.val {α : Type} {g : Nat → Option α} {r r' : α} (h : Ev g r) (e : r = r') : Ev g r' := e ▸ h
theorem ite_same {α : Type} {p q : Prop} [Decidable p] [Decidable q] (h : p ↔ q) {x y : α} : (if p then x else y) = if q then x else y := by
  by_cases hp : p
  · rw [if_pos hp, if_pos (h.1 hp)]
  · rw [if_neg hp, if_neg (fun hq => hp (h.2 hq))]
/-! ### package seq: is a number one of a sequence's -/
theorem and_low (a : Int) (_h0 : -9223372036854775808 ≤ a) (_h1 : a < 9223372036854775808) (i : Nat) (hi : i ≤ 62) : Go.bits .and .i64 a ((2 ^ i - 1 : Nat) : Int) = a % ((2 ^ i : Nat) : Int) := by
  have hp : 0 < 2 ^ i := Nat.two_pow_pos i
  have hle : 2 ^ i ≤ 2 ^ 62 := Nat.pow_le_pow_right (by decide) hi
  have e62 : (2 : Nat) ^ 62 = 4611686018427387904 := by decide
  have eb : IntKind.i64.bits = 64 := rfl
  have e64 : (2 : Nat) ^ 64 = 18446744073709551616 := by decide
  have hm : (2 ^ i - 1) % 2 ^ IntKind.i64.bits = 2 ^ i - 1 := Nat.mod_eq_of_lt (by rw [eb, e64]; omega)
  simp only [Go.bits, BitVec.ofInt_natCast, BitVec.toNat_and, BitVec.toNat_ofNat, hm, BitVec.toNat_ofInt]
  rw [Nat.and_two_pow_sub_one_eq_mod, IntKind.wrap_i64, eb]
  have hd : 2 ^ 64 = 2 ^ i * 2 ^ (64 - i) := by rw [← Nat.pow_add]; congr 1; omega
  have key : (((a % ((2 ^ 64 : Nat) : Int)).toNat % 2 ^ i : Nat) : Int) = a % ((2 ^ i : Nat) : Int) := by
    rw [Int.natCast_emod, Int.toNat_of_nonneg (Int.emod_nonneg _ (by omega))]
    exact Int.emod_emod_of_dvd _ ⟨((2 ^ (64 - i) : Nat) : Int), by rw [hd, Int.natCast_mul]⟩
  have r0 := Int.emod_nonneg a (b := ((2 ^ i : Nat) : Int)) (by omega)
  have r1 := Int.emod_lt_of_pos a (b := ((2 ^ i : Nat) : Int)) (by omega)
  have key2 : (((a % (2 ^ 64 : Int)).toNat % 2 ^ i : Nat) : Int) = a % ((2 ^ i : Nat) : Int) := key
  first | rw [key] | rw [key2]
  omega
def seqOk (n : Int) : Prop := 0 ≤ n ∧ n ≤ 4294967295
instance (n : Int) : Decidable (seqOk n) := inferInstanceAs (Decidable (0 ≤ n ∧ n ≤ 4294967295))
def seqC (n : Int) : Int := if seqOk n then 0 else 1
theorem seqcheck_is (n : Int) (h0 : -9223372036854775808 ≤ n) (h1 : n < 9223372036854775808) : seq_Check.f n = some (seqC n) := by
  unfold seq_Check.f seqC
  have := and_low n h0 h1 32 (by omega)
  rw [show ((2 ^ 32 - 1 : Nat) : Int) = 4294967295 from by decide, show ((2 ^ 32 : Nat) : Int) = 4294967296 from by decide] at this
  rw [this]
  by_cases h : seqOk n
  · have h' := h
    unfold seqOk at h'
    rw [if_pos (by omega), if_pos h]
  · have h' := h
    unfold seqOk at h'
    rw [if_neg (by omega), if_neg h]
theorem seqadd_is (a b : Int) (ha : seqOk a) (hb : 0 ≤ b ∧ b ≤ 4294967296) : seq_Add.f a b = some ((a + b) % 4294967296, 0) := by
  have ha' := ha
  unfold seqOk at ha'
  unfold seq_Add.f seq_within.f
  rw [seqcheck_is a (by omega) (by omega), seqC, if_pos ha]
  simp only [Option.bind_some]
  rw [if_pos trivial, if_pos (by omega)]
  simp only [Option.bind_some]
  rw [if_pos (decide_eq_true (by omega)), w64 (by omega) (by omega)]
  have := and_low (a + b) (by omega) (by omega) 32 (by omega)
  rw [show ((2 ^ 32 - 1 : Nat) : Int) = 4294967295 from by decide, show ((2 ^ 32 : Nat) : Int) = 4294967296 from by decide] at this
  rw [this]
theorem seqdist_is (a b : Int) (ha : seqOk a) (hb : seqOk b) : seq_Distance.f a b = some ((b - a) % 4294967296, 0) := by
  have ha' := ha
  have hb' := hb
  unfold seqOk at ha' hb'
  unfold seq_Distance.f seq_both.f
  rw [seqcheck_is a (by omega) (by omega), seqcheck_is b (by omega) (by omega), seqC, if_pos ha, seqC, if_pos hb]
  simp only [Option.bind_some]
  rw [if_pos (by decide), w64 (by omega) (by omega)]
  have := and_low (b - a) (by omega) (by omega) 32 (by omega)
  rw [show ((2 ^ 32 - 1 : Nat) : Int) = 4294967295 from by decide, show ((2 ^ 32 : Nat) : Int) = 4294967296 from by decide] at this
  rw [this]
/-! ### a queue of which nothing was received apart -/
theorem sq_at (le se ro : Int) (s : ByteArray) (l : List S73) (n : Int) (h : seqOk le) (hn : 0 ≤ n ∧ n ≤ 4294967296) : sendq_Queue_at.f le se ro s l n = some ((le + n) % 4294967296, le, se, ro, s) := by
  unfold sendq_Queue_at.f
  rw [seqadd_is le n h hn]; rfl
theorem bl_toList (s : ByteArray) : s.toList = SP.by_ s := by
  have key : ∀ (d i : Nat) (r : List UInt8), s.size - i = d → i ≤ s.size → ByteArray.toList.loop s i r = r.reverse ++ (SP.by_ s).drop i := by
    intro d
    induction d with
    | zero =>
      intro i r hd hi
      rw [ByteArray.toList.loop, if_neg (by omega), List.drop_of_length_le (by rw [SP.by_len]; omega), List.append_nil]
    | succ d ih =>
      intro i r hd hi
      have hlt : i < (SP.by_ s).length := by rw [SP.by_len]; omega
      rw [ByteArray.toList.loop, if_pos (by omega), ih (i + 1) _ (by omega) (by omega), SP.drop_cons hlt]
      have hsz : i < s.data.size := by simpa using hlt
      simp [ByteArray.get!, SP.by_, getElem!_pos s.data i hsz, Array.getElem?_eq_getElem hsz]
  have := key s.size 0 [] rfl (by omega)
  simpa [ByteArray.toList] using this
theorem sq_probe (le se ro : Int) (S : List UInt8) (hS : S ≠ []) (hl : S.length < 9223372036854775808) : sendq_Queue_Probe.f le se ro (mkB S) [] = some (le, mkB (S.take 1), le, mx se 1, ro, mkB S) := by
  unfold sendq_Queue_Probe.f
  have hlen : 0 < S.length := List.length_pos_iff.mpr hS
  have hne : ¬ (mkB S).toList = ([] : List UInt8) := by
    intro h
    have e := bl_toList (mkB S)
    rw [h, by_mkB] at e
    exact hS e.symm
  rw [if_neg hne, if_pos (by decide), if_pos (by rw [mkB_size]; omega)]
  rw [cut_to, by_mkB]
theorem sq_probe_none (le se ro : Int) : sendq_Queue_Probe.f le se ro (mkB []) [] = some (le, (⟨#[]⟩ : ByteArray), le, se, ro, mkB []) := by
  unfold sendq_Queue_Probe.f
  rw [if_pos (by decide +kernel)]
theorem sq_next0 (le se ro : Int) (s : ByteArray) (m : Int) (h : seqOk le) (hse : 0 ≤ se ∧ se ≤ 4294967296) : sendq_Queue_Next.f le se ro s [] 0 m = some ((le + se) % 4294967296, (⟨#[]⟩ : ByteArray), le, se, ro, s) := by
  unfold sendq_Queue_Next.f
  rw [sq_at le se ro s [] se h hse]
  simp only [Option.bind_some]
  rw [if_pos (by rw [mn_lt]; omega)]
theorem sq_ack (le se ro : Int) (S : List UInt8) (a d : Int) (hle : seqOk le) (ha : seqOk a) (hd : (a - le) % 4294967296 = d) (h1 : d ≤ se) (h2 : d ≤ (S.length : Int)) (hse : se < 9223372036854775808) : sendq_Queue_Ack.f le se ro (mkB S) a = some (d, 0, a, se - d, mkB (S.drop d.toNat)) := by
  unfold sendq_Queue_Ack.f
  rw [seqdist_is le a hle ha, hd]
  simp only [Option.bind_some]
  have h0 : 0 ≤ d := by rw [← hd]; exact Int.emod_nonneg _ (by decide)
  rw [if_pos ⟨trivial, h1⟩, if_pos ⟨h0, by rw [mkB_size]; exact h2⟩, cut_from, by_mkB, w64 (by omega) (by omega)]
theorem works15 : sternpostlaw15_works.f = some true := by decide +kernel
theorem probes_l (n : Int) (hn : seqOk n) (t : List UInt8) (ht : t.length ≤ 40) : ∀ (d i : Nat), t.length - i = d → i ≤ t.length →
    Ev (fun k => sternpostlaw15_SendqProbes_tail.l k n (mkB t) i ((n + i) % 4294967296) 0 100 (mkB (t.drop i))) true := by
  have hn' := hn
  unfold seqOk at hn'
  intro d
  induction d with
  | zero =>
    intro i hd hi
    have hle : i = t.length := by omega
    refine Ev.step (fun k => by simp only [sternpostlaw15_SendqProbes_tail.l]; rfl) ?_
    refine Ev.neg (by rw [mkB_size]; omega) ?_
    rw [hle, List.drop_length, sq_probe_none]
    refine Ev.bind (Ev.now _) ?_
    exact Ev.pos rfl (Ev.now _)
  | succ d ih =>
    intro i hd hi
    have hlt : i < t.length := by omega
    have ih := ih (i + 1) (by omega) (by omega)
    generalize hle : (n + i) % 4294967296 = le
    have hs : seqOk le := by unfold seqOk; omega
    have hs2 : seqOk ((le + 1) % 4294967296) := by unfold seqOk; omega
    have hne : t.drop i ≠ [] := by intro h; have := congrArg List.length h; simp at this; omega
    have hl : (t.drop i).length = t.length - i := List.length_drop
    refine Ev.step (fun k => by simp only [sternpostlaw15_SendqProbes_tail.l]; rfl) ?_
    refine Ev.pos (by rw [mkB_size]; exact hlt) ?_
    rw [seqadd_is n i hn (by omega), hle]
    refine Ev.bind (Ev.now _) ?_
    rw [sq_next0 le 0 100 _ 10 hs (by omega)]
    refine Ev.bind (Ev.now _) ?_
    dsimp only
    rw [sq_probe le 0 100 _ hne (by omega)]
    refine Ev.bind (Ev.now _) ?_
    dsimp only
    rw [show mx 0 1 = 1 from rfl, sq_probe le 1 100 _ hne (by omega)]
    refine Ev.bind (Ev.now _) ?_
    dsimp only
    rw [seqadd_is le 1 hs (by omega)]
    refine Ev.bind (Ev.now _) ?_
    dsimp only
    rw [show mx 1 1 = 1 from rfl, sq_ack le 1 100 _ ((le + 1) % 4294967296) 1 hs hs2 (by unfold seqOk at hs; omega) (by omega) (by omega) (by omega)]
    refine Ev.bind (Ev.now _) ?_
    dsimp only
    refine Ev.pos ⟨by unfold seqOk at hs; omega, rfl, rfl, rfl, ?_, rfl, rfl, rfl, by rw [mkB_size]; omega⟩ ?_
    · rw [cut_mk, by_mkB, show i + 1 - i = 1 from by omega]
    · rw [List.drop_drop, show i + (1 : Int).toNat = i + 1 from rfl]
      have e : (le + 1) % 4294967296 = (n + ((i + 1 : Nat) : Int)) % 4294967296 := by omega
      rw [e]
      exact ih
theorem SendqProbes : sternpostlaw15_SendqProbes.Pure := by
  intro x0 x1 h0 h1
  have h0 := wf64 h0
  refine Ev.rounds ?_
  unfold sternpostlaw15_SendqProbes.f sternpostlaw15_SendqProbes_tail.f
  rw [works15]
  refine Ev.bind (Ev.now _) (Ev.pos rfl ?_)
  rw [among_ev x0 4294967296 (by omega) h0 (by omega)]
  refine Ev.bind (Ev.now _) ?_
  have hn : seqOk (x0 % 4294967296) := by unfold seqOk; omega
  generalize x0 % 4294967296 = n at hn ⊢
  have hn' := hn
  unfold seqOk at hn'
  rw [seqcheck_is n (by omega) (by omega), seqC, if_pos hn]
  refine Ev.bind (Ev.now _) (Ev.pos rfl ?_)
  refine Ev.ite (fun _ => Ev.now _) (fun h40 => ?_)
  have hx : x1 = mkB (SP.by_ x1) := (mkB_by x1).symm
  have hl := SP.by_len x1
  have hw : sendq_Queue_Write.f n 0 100 (⟨#[]⟩ : ByteArray) [] x1 = some ((x1.size : Int), 0, x1) := by
    unfold sendq_Queue_Write.f
    have e : mn (x1.size : Int) (wrap64 (100 - (((⟨#[]⟩ : ByteArray).size : Nat) : Int))) = (x1.size : Int) := by
      rw [show (((⟨#[]⟩ : ByteArray).size : Nat) : Int) = 0 from rfl, w64 (by omega) (by omega)]; unfold mn; split <;> omega
    rw [e]
    have hc : cutS x1 0 (x1.size : Int).toNat = x1 := by rw [Int.toNat_natCast, cut_to, List.take_of_length_le (by omega), mkB_by]
    rw [hc, if_neg ?_, if_pos ⟨by omega, by omega, by rw [show (⟨#[]⟩ : ByteArray).size = 0 from rfl]; omega⟩]
    · rw [show (⟨#[]⟩ : ByteArray) ++ x1 = x1 from SP.by_ext (by rw [SP.by_append]; rfl)]
    · rintro ⟨hz, hne⟩
      apply hne
      have : SP.by_ x1 = [] := List.length_eq_zero_iff.mp (by omega)
      rw [bl_toList, this]
  rw [hw]
  refine Ev.bind (Ev.now _) ?_
  dsimp only
  have h := probes_l n hn (SP.by_ x1) (by omega) _ 0 rfl (by omega)
  rw [List.drop_zero, mkB_by, show (n + ((0 : Nat) : Int)) % 4294967296 = n from by omega] at h
  exact h
end Go.Proofs.Ytobndcdohehhbaa.Pure

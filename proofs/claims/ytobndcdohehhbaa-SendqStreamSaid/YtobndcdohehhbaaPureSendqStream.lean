/- What a stream through the queue shows, as the statement says it. -/
import Derived.Test.YtobndcdohehhbaaPSendqStreamx2
set_option linter.unusedVariables false
set_option linter.unusedSimpArgs false
namespace Go.Proofs.Ytobndcdohehhbaa.Pure
open Go Go.RowKit Go.Proofs.Ytobndcdohehhbaa.PSendqStream Go.Proofs.YtobndcdohehhbaaW.PrintWords Go.Proofs.YtobndcdohehhbaaW.PrintLast Go.Proofs.YtobndcdohehhbaaW.PrintMore
attribute [local irreducible] shl shr Go.bits
/-! ### plain words on numbers and bytes -/
namespace SP
/-- what is above 16 bits, added again -/
def canon (n : Nat) : Nat := if n = 0 then 0 else (n - 1) % 65535 + 1
theorem canon_le (n : Nat) : canon n ≤ 65535 := by unfold canon; split <;> omega
theorem canon_small {n : Nat} (h : n ≤ 65535) : canon n = n := by unfold canon; split <;> omega
theorem canon_step {n : Nat} (h : 65535 < n) : canon (n / 65536 + n % 65536) = canon n := by unfold canon; split <;> split <;> omega
theorem canon_add (a b : Nat) : canon (canon a + b) = canon (a + b) := by unfold canon; split <;> split <;> split <;> omega
theorem canon_mod (n : Nat) : canon n % 65535 = n % 65535 := by unfold canon; split <;> omega
theorem canon_zero {n : Nat} : canon n = 0 ↔ n = 0 := by unfold canon; split <;> omega
theorem canon_eq {a b : Nat} (h : a % 65535 = b % 65535) (h0 : a = 0 ↔ b = 0) : canon a = canon b := by unfold canon; split <;> split <;> omega
/-- a byte's weight at a place -/
def wt (p : Nat) (b : Nat) : Nat := if p % 2 = 0 then 256 * b else b
/-- the weights of bytes from a place on -/
def ws : Nat → List UInt8 → Nat
  | _, [] => 0
  | p, b :: l => wt p b.toNat + ws (p + 1) l
theorem wt_le (p : Nat) (b : UInt8) : wt p b.toNat ≤ 65280 := by have := b.toNat_lt; unfold wt; split <;> omega
theorem ws_le (l : List UInt8) : ∀ p, ws p l ≤ 65280 * l.length := by
  induction l with
  | nil => intro p; simp [ws]
  | cons b l ih => intro p; have := ih (p + 1); have := wt_le p b; simp only [ws, List.length_cons]; omega
theorem ws_append (a b : List UInt8) : ∀ p, ws p (a ++ b) = ws p a + ws (p + a.length) b := by
  induction a with
  | nil => intro p; simp [ws]
  | cons x l ih => intro p; simp only [List.cons_append, ws, ih, List.length_cons]; rw [show p + 1 + l.length = p + (l.length + 1) from by omega]; omega
theorem wt_parity {p q : Nat} (h : p % 2 = q % 2) (b : Nat) : wt p b = wt q b := by unfold wt; rw [h]
theorem ws_parity (l : List UInt8) : ∀ {p q : Nat}, p % 2 = q % 2 → ws p l = ws q l := by
  induction l with
  | nil => intros; rfl
  | cons x l ih => intro p q h; simp only [ws, wt_parity h]; rw [ih (p := p + 1) (q := q + 1) (by omega)]
/-- a string's bytes -/
abbrev by_ (s : ByteArray) : List UInt8 := s.data.toList
theorem by_len (s : ByteArray) : (by_ s).length = s.size := by
  show s.data.toList.length = s.data.size; exact Array.length_toList
theorem by_append (s t : ByteArray) : by_ (s ++ t) = by_ s ++ by_ t := by
  show (s ++ t).data.toList = _; rw [ByteArray.data_append, Array.toList_append]
theorem by_extract (s : ByteArray) (i j : Nat) : by_ (s.extract i j) = ((by_ s).drop i).take (j - i) := by
  simp [by_, ByteArray.data_extract, List.extract_eq_take_drop]
theorem by_ext {s t : ByteArray} (h : by_ s = by_ t) : s = t := by
  cases s; cases t; simp only [by_] at h; congr; exact Array.toList_inj.mp h
/-- byte i of a list -/
def nth (l : List UInt8) (i : Nat) : Nat := (l.getD i 0).toNat
theorem nth_lt (l : List UInt8) (i : Nat) : nth l i < 256 := (l.getD i 0).toNat_lt
theorem drop_cons {l : List UInt8} {i : Nat} (h : i < l.length) : l.drop i = l.getD i 0 :: l.drop (i + 1) := by
  rw [List.drop_eq_getElem_cons h]; simp [List.getD, h]
theorem ws_drop {l : List UInt8} {i : Nat} (p : Nat) (h : i < l.length) : ws p (l.drop i) = wt p (nth l i) + ws (p + 1) (l.drop (i + 1)) := by
  rw [drop_cons h]; rfl
theorem ws_drop_end {l : List UInt8} {i : Nat} (p : Nat) (h : l.length ≤ i) : ws p (l.drop i) = 0 := by
  rw [List.drop_eq_nil_of_le h]; rfl
/-- a number's bytes, k of them -/
def bytesN (n : Nat) : Nat → List UInt8
  | 0 => []
  | k + 1 => UInt8.ofNat (n / 2 ^ (8 * k) % 256) :: bytesN n k
theorem bytesN_len (n k : Nat) : (bytesN n k).length = k := by induction k with
  | zero => rfl
  | succ k ih => simp [bytesN, ih]
/-- the number of bytes -/
def num (l : List UInt8) : Nat := l.foldl (fun n b => n * 256 + b.toNat) 0
theorem num_acc (l : List UInt8) : ∀ a : Nat, l.foldl (fun n b => n * 256 + b.toNat) a = a * 256 ^ l.length + num l := by
  induction l with
  | nil => intro a; show a = a * 256 ^ 0 + 0; omega
  | cons b l ih =>
    intro a
    have h0 : num (b :: l) = l.foldl (fun n b => n * 256 + b.toNat) (0 * 256 + b.toNat) := rfl
    rw [h0, List.foldl_cons, ih, ih, List.length_cons, Nat.pow_succ, Nat.zero_mul, Nat.zero_add, Nat.add_mul, Nat.mul_assoc, Nat.mul_comm 256]
    omega
theorem num_cons (b : UInt8) (l : List UInt8) : num (b :: l) = b.toNat * 256 ^ l.length + num l := by
  have := num_acc l b.toNat; simp only [num, List.foldl_cons, Nat.zero_mul, Nat.zero_add]; exact this
theorem num_append (a b : List UInt8) : num (a ++ b) = num a * 256 ^ b.length + num b := by
  unfold num; rw [List.foldl_append, num_acc]; rfl
theorem num_lt (l : List UInt8) : num l < 256 ^ l.length := by
  induction l with
  | nil => simp [num]
  | cons b l ih => rw [num_cons, List.length_cons, Nat.pow_succ]; have := b.toNat_lt; have h : b.toNat * 256 ^ l.length ≤ 255 * 256 ^ l.length := Nat.mul_le_mul_right _ (by omega); omega
theorem num_bytesN (n k : Nat) : num (bytesN n k) = n % 256 ^ k := by
  induction k with
  | zero => simp [bytesN, num, Nat.mod_one]
  | succ k ih =>
    rw [bytesN, num_cons, ih, bytesN_len]
    have e : (2 : Nat) ^ (8 * k) = 256 ^ k := by rw [Nat.pow_mul]
    rw [e, Nat.pow_succ, Nat.mod_mul, Nat.mul_comm (256 ^ k)]
    have : (UInt8.ofNat (n / 256 ^ k % 256)).toNat = n / 256 ^ k % 256 := by simp [UInt8.toNat_ofNat']
    rw [this]; omega
theorem bytesN_num (l : List UInt8) : bytesN (num l) l.length = l := by
  induction l with
  | nil => rfl
  | cons b l ih =>
    have key : ∀ (m k : Nat), bytesN (m * 256 ^ l.length + num l) k = bytesN (num l) k ∨ l.length < k := by
      intro m k
      by_cases hk : l.length < k
      · exact .inr hk
      · left
        induction k with
        | zero => rfl
        | succ k ihk =>
          rw [bytesN, bytesN, ihk (by omega)]
          have e : (2 : Nat) ^ (8 * k) = 256 ^ k := by rw [Nat.pow_mul]
          obtain ⟨d, hd⟩ : ∃ d, l.length = k + 1 + d := ⟨l.length - (k + 1), by omega⟩
          rw [e]
          have : (m * 256 ^ l.length + num l) / 256 ^ k % 256 = num l / 256 ^ k % 256 := by
            rw [hd, Nat.pow_add, Nat.pow_succ]
            rw [show m * (256 ^ k * 256 * 256 ^ d) = 256 ^ k * (256 * (m * 256 ^ d)) from by ac_rfl]
            rw [Nat.mul_add_div (Nat.pow_pos (by omega)), Nat.mul_add_mod]
          rw [this]
    rw [List.length_cons, num_cons, bytesN]
    have e : (2 : Nat) ^ (8 * l.length) = 256 ^ l.length := by rw [Nat.pow_mul]
    have hl := num_lt l
    have h1 : (b.toNat * 256 ^ l.length + num l) / 2 ^ (8 * l.length) % 256 = b.toNat := by
      rw [e, Nat.mul_comm, Nat.mul_add_div (Nat.pow_pos (by omega)), Nat.div_eq_of_lt hl]; have := b.toNat_lt; omega
    rw [h1]
    rcases key b.toNat l.length with h | h
    · rw [h, ih]; congr 1; exact UInt8.toNat_inj.mp (by simp)
    · omega
end SP
theorem Ev.pos {α : Type} {c : Prop} [Decidable c] {g f : Nat → Option α} {r : α} (hc : c) (h : Ev g r) : Ev (fun k => if c then g k else f k) r := by
  simp only [if_pos hc]; exact h
theorem Ev.neg {α : Type} {c : Prop} [Decidable c] {g f : Nat → Option α} {r : α} (hc : ¬ c) (h : Ev f r) : Ev (fun k => if c then g k else f k) r := by
  simp only [if_neg hc]; exact h
theorem wf64 {n : Int} (h : (Lit.int .i64 n).wf = true) : -9223372036854775808 ≤ n ∧ n < 9223372036854775808 := by
  have e : (Lit.int .i64 n).wf = decide (IntKind.i64.min ≤ n ∧ n ≤ 9223372036854775807) := by simp [Lit.wf]
  have e2 : IntKind.i64.min = -9223372036854775808 := by decide
  rw [e, e2] at h
  have := of_decide_eq_true h
  omega
/-! ### package sum and the reference's, as the words above -/
theorem and_mask (n m : Nat) (h : n < 2 ^ 63) (i : Nat) (hi : m = 2 ^ i - 1) (hi2 : i ≤ 63) : bits .and .i64 (n : Int) (m : Int) = ((n % 2 ^ i : Nat) : Int) := by
  subst hi
  have hw : ∀ n : Int, 0 ≤ n → n < 9223372036854775808 → IntKind.i64.wrap n = n := by
    intro n h0 h1; rw [IntKind.wrap_i64]; have : (2 : Int) ^ 62 = 4611686018427387904 := by decide
    omega
  have := bits_mask .i64 63 (by decide) hw i hi2 (n : Int) (by omega) (by exact_mod_cast h)
  have e : ((2 ^ i - 1 : Nat) : Int) = (2 : Int) ^ i - 1 := by
    have : 1 ≤ 2 ^ i := Nat.one_le_two_pow
    rw [Int.ofNat_sub this]; simp
  rw [e, this]; simp
theorem bits16 (n : Nat) (h : n < 2 ^ 63) : bits .and .i64 (n : Int) 65535 = ((n % 65536 : Nat) : Int) := and_mask n 65535 h 16 rfl (by omega)
theorem bt_nth (s : ByteArray) (i : Nat) : bt s (i : Int) = ((SP.nth (SP.by_ s) i : Nat) : Int) := by
  unfold bt SP.nth
  simp only [Int.toNat_natCast]
  split
  · rename_i h
    congr 1
    have h' : i < (SP.by_ s).length := by rw [SP.by_len]; exact h
    rw [List.getD_eq_getElem?_getD, List.getElem?_eq_getElem h']
    rfl
  · rename_i h
    rw [List.getD_eq_getElem?_getD, List.getElem?_eq_none (by rw [SP.by_len]; omega)]; rfl
theorem w64 {n : Int} (h0 : -9223372036854775808 ≤ n) (h1 : n < 9223372036854775808) : wrap64 n = n := by unfold wrap64; omega
theorem tmod2 (n : Nat) : Int.tmod (n : Int) 2 = ((n % 2 : Nat) : Int) := by rw [Int.tmod_eq_emod_of_nonneg (by omega)]; omega
theorem nat_toNat (n : Nat) : ((n : Int) : Int).toNat = n := Int.toNat_natCast n
theorem rdOf_nat {α : Type} (d : α) (xs : List α) (i : Nat) : rdOf d xs (i : Int) = xs.getD i d := by simp [rdOf]
def mkB (l : List UInt8) : ByteArray := ⟨l.toArray⟩
theorem by_mkB (l : List UInt8) : SP.by_ (mkB l) = l := rfl
theorem mkB_by (s : ByteArray) : mkB (SP.by_ s) = s := SP.by_ext rfl
theorem mkB_size (l : List UInt8) : (mkB l).size = l.length := rfl
theorem mkB_append (a b : List UInt8) : mkB a ++ mkB b = mkB (a ++ b) := SP.by_ext (by rw [SP.by_append]; rfl)
theorem shr_pow (n k : Nat) (hk : k ≤ 64) : shr .i64 (n : Int) (k : Int) = ((n / 2 ^ k : Nat) : Int) := by
  unfold shr
  rw [Int.toNat_natCast, show min k IntKind.i64.bits = k from Nat.min_eq_left (by simpa [IntKind.bits] using hk)]
  simp
theorem mn_lt (a b c : Int) : mn a b < c ↔ a < c ∨ b < c := by unfold mn; split <;> omega
theorem mx_gt (a b c : Int) : mx a b > c ↔ a > c ∨ b > c := by unfold mx; split <;> omega
theorem among_ev (x n : Int) (hn : 0 < n) (hx : -9223372036854775808 ≤ x ∧ x < 9223372036854775808) (hn2 : n < 4611686018427387904) : sternpostbook_Among.f x n = some (x % n) := by
  unfold sternpostbook_Among.f
  rw [if_neg (by omega)]
  congr 1
  have h1 : Int.tmod x n = if 0 ≤ x ∨ x % n = 0 then x % n else x % n - n := by
    by_cases h : 0 ≤ x
    · rw [Int.tmod_eq_emod_of_nonneg h, if_pos (.inl h)]
    · rw [Int.tmod_eq_emod]
      by_cases h2 : x % n = 0
      · rw [if_pos (.inr (Int.dvd_of_emod_eq_zero h2)), if_pos (.inr h2)]; omega
      · rw [if_neg (by intro hh; rcases hh with hh | hh; exact h hh; exact h2 (Int.emod_eq_zero_of_dvd hh)), if_neg (by intro hh; rcases hh with hh | hh; exact h hh; exact h2 hh)]; omega
  have h2 := Int.emod_nonneg x (show n ≠ 0 by omega)
  have h3 := Int.emod_lt_of_pos x hn
  rw [h1]
  split
  · rw [w64 (by omega) (by omega), Int.tmod_eq_emod_of_nonneg (by omega), Int.add_emod_right, Int.emod_emod_of_dvd _ (Int.dvd_refl n)]
  · rw [w64 (by omega) (by omega), Int.tmod_eq_emod_of_nonneg (by omega), Int.sub_add_cancel, Int.emod_emod_of_dvd _ (Int.dvd_refl n)]
theorem cut_mk (s : ByteArray) (i j : Nat) : cutS s i j = mkB (((SP.by_ s).drop i).take (j - i)) := by
  rw [cutS]; exact SP.by_ext (by rw [SP.by_extract, by_mkB])
theorem cut_to (s : ByteArray) (j : Nat) : cutS s 0 j = mkB ((SP.by_ s).take j) := by rw [cut_mk]; simp
theorem cut_from (s : ByteArray) (i : Nat) : cutS s i s.size = mkB ((SP.by_ s).drop i) := by
  rw [cut_mk, List.take_of_length_le (by rw [List.length_drop, SP.by_len]; omega)]
theorem Ev.ite {α : Type} {c : Prop} [Decidable c] {g f : Nat → Option α} {r : α} (h : c → Ev g r) (h' : ¬ c → Ev f r) : Ev (fun k => if c then g k else f k) r := by
  by_cases hc : c
  · exact Ev.pos hc (h hc)
  · exact Ev.neg hc (h' hc)
theorem Ev.val {α : Type} {g : Nat → Option α} {r r' : α} (h : Ev g r) (e : r = r') : Ev g r' := e ▸ h
theorem ite_same {α : Type} {p q : Prop} [Decidable p] [Decidable q] (h : p ↔ q) {x y : α} : (if p then x else y) = if q then x else y := by
  by_cases hp : p
  · rw [if_pos hp, if_pos (h.1 hp)]
  · rw [if_neg hp, if_neg (fun hq => hp (h.2 hq))]
/-! ### package seq: is a number one of a sequence's -/
theorem and_low (a : Int) (_h0 : -9223372036854775808 ≤ a) (_h1 : a < 9223372036854775808) (i : Nat) (hi : i ≤ 62) : Go.bits .and .i64 a ((2 ^ i - 1 : Nat) : Int) = a % ((2 ^ i : Nat) : Int) := by
  have hp : 0 < 2 ^ i := Nat.two_pow_pos i
  have hle : 2 ^ i ≤ 2 ^ 62 := Nat.pow_le_pow_right (by decide) hi
  have e62 : (2 : Nat) ^ 62 = 4611686018427387904 := by decide
  have eb : IntKind.i64.bits = 64 := rfl
  have e64 : (2 : Nat) ^ 64 = 18446744073709551616 := by decide
  have hm : (2 ^ i - 1) % 2 ^ IntKind.i64.bits = 2 ^ i - 1 := Nat.mod_eq_of_lt (by rw [eb, e64]; omega)
  simp only [Go.bits, BitVec.ofInt_natCast, BitVec.toNat_and, BitVec.toNat_ofNat, hm, BitVec.toNat_ofInt]
  rw [Nat.and_two_pow_sub_one_eq_mod, IntKind.wrap_i64, eb]
  have hd : 2 ^ 64 = 2 ^ i * 2 ^ (64 - i) := by rw [← Nat.pow_add]; congr 1; omega
  have key : (((a % ((2 ^ 64 : Nat) : Int)).toNat % 2 ^ i : Nat) : Int) = a % ((2 ^ i : Nat) : Int) := by
    rw [Int.natCast_emod, Int.toNat_of_nonneg (Int.emod_nonneg _ (by omega))]
    exact Int.emod_emod_of_dvd _ ⟨((2 ^ (64 - i) : Nat) : Int), by rw [hd, Int.natCast_mul]⟩
  have r0 := Int.emod_nonneg a (b := ((2 ^ i : Nat) : Int)) (by omega)
  have r1 := Int.emod_lt_of_pos a (b := ((2 ^ i : Nat) : Int)) (by omega)
  have key2 : (((a % (2 ^ 64 : Int)).toNat % 2 ^ i : Nat) : Int) = a % ((2 ^ i : Nat) : Int) := key
  first | rw [key] | rw [key2]
  omega
def seqOk (n : Int) : Prop := 0 ≤ n ∧ n ≤ 4294967295
instance (n : Int) : Decidable (seqOk n) := inferInstanceAs (Decidable (0 ≤ n ∧ n ≤ 4294967295))
def seqC (n : Int) : Int := if seqOk n then 0 else 1
theorem seqcheck_is (n : Int) (h0 : -9223372036854775808 ≤ n) (h1 : n < 9223372036854775808) : seq_Check.f n = some (seqC n) := by
  unfold seq_Check.f seqC
  have := and_low n h0 h1 32 (by omega)
  rw [show ((2 ^ 32 - 1 : Nat) : Int) = 4294967295 from by decide, show ((2 ^ 32 : Nat) : Int) = 4294967296 from by decide] at this
  rw [this]
  by_cases h : seqOk n
  · have h' := h
    unfold seqOk at h'
    rw [if_pos (by omega), if_pos h]
  · have h' := h
    unfold seqOk at h'
    rw [if_neg (by omega), if_neg h]
theorem seqadd_is (a b : Int) (ha : seqOk a) (hb : 0 ≤ b ∧ b ≤ 4294967296) : seq_Add.f a b = some ((a + b) % 4294967296, 0) := by
  have ha' := ha
  unfold seqOk at ha'
  unfold seq_Add.f seq_within.f
  rw [seqcheck_is a (by omega) (by omega), seqC, if_pos ha]
  simp only [Option.bind_some]
  rw [if_pos trivial, if_pos (by omega)]
  simp only [Option.bind_some]
  rw [if_pos (decide_eq_true (by omega)), w64 (by omega) (by omega)]
  have := and_low (a + b) (by omega) (by omega) 32 (by omega)
  rw [show ((2 ^ 32 - 1 : Nat) : Int) = 4294967295 from by decide, show ((2 ^ 32 : Nat) : Int) = 4294967296 from by decide] at this
  rw [this]
theorem seqdist_is (a b : Int) (ha : seqOk a) (hb : seqOk b) : seq_Distance.f a b = some ((b - a) % 4294967296, 0) := by
  have ha' := ha
  have hb' := hb
  unfold seqOk at ha' hb'
  unfold seq_Distance.f seq_both.f
  rw [seqcheck_is a (by omega) (by omega), seqcheck_is b (by omega) (by omega), seqC, if_pos ha, seqC, if_pos hb]
  simp only [Option.bind_some]
  rw [if_pos (by decide), w64 (by omega) (by omega)]
  have := and_low (b - a) (by omega) (by omega) 32 (by omega)
  rw [show ((2 ^ 32 - 1 : Nat) : Int) = 4294967295 from by decide, show ((2 ^ 32 : Nat) : Int) = 4294967296 from by decide] at this
  rw [this]
/-! ### a queue of which nothing was received apart -/
theorem sq_at (le se ro : Int) (s : ByteArray) (l : List S73) (n : Int) (h : seqOk le) (hn : 0 ≤ n ∧ n ≤ 4294967296) : sendq_Queue_at.f le se ro s l n = some ((le + n) % 4294967296, le, se, ro, s) := by
  unfold sendq_Queue_at.f
  rw [seqadd_is le n h hn]; rfl
theorem bl_toList (s : ByteArray) : s.toList = SP.by_ s := by
  have key : ∀ (d i : Nat) (r : List UInt8), s.size - i = d → i ≤ s.size → ByteArray.toList.loop s i r = r.reverse ++ (SP.by_ s).drop i := by
    intro d
    induction d with
    | zero =>
      intro i r hd hi
      rw [ByteArray.toList.loop, if_neg (by omega), List.drop_of_length_le (by rw [SP.by_len]; omega), List.append_nil]
    | succ d ih =>
      intro i r hd hi
      have hlt : i < (SP.by_ s).length := by rw [SP.by_len]; omega
      rw [ByteArray.toList.loop, if_pos (by omega), ih (i + 1) _ (by omega) (by omega), SP.drop_cons hlt]
      have hsz : i < s.data.size := by simpa using hlt
      simp [ByteArray.get!, SP.by_, getElem!_pos s.data i hsz, Array.getElem?_eq_getElem hsz]
  have := key s.size 0 [] rfl (by omega)
  simpa [ByteArray.toList] using this
theorem sq_next0 (le se ro : Int) (s : ByteArray) (m : Int) (h : seqOk le) (hse : 0 ≤ se ∧ se ≤ 4294967296) : sendq_Queue_Next.f le se ro s [] 0 m = some ((le + se) % 4294967296, (⟨#[]⟩ : ByteArray), le, se, ro, s) := by
  unfold sendq_Queue_Next.f
  rw [sq_at le se ro s [] se h hse]
  simp only [Option.bind_some]
  rw [if_pos (by rw [mn_lt]; omega)]
theorem sq_ack (le se ro : Int) (S : List UInt8) (a d : Int) (hle : seqOk le) (ha : seqOk a) (hd : (a - le) % 4294967296 = d) (h1 : d ≤ se) (h2 : d ≤ (S.length : Int)) (hse : se < 9223372036854775808) : sendq_Queue_Ack.f le se ro (mkB S) a = some (d, 0, a, se - d, mkB (S.drop d.toNat)) := by
  unfold sendq_Queue_Ack.f
  rw [seqdist_is le a hle ha, hd]
  simp only [Option.bind_some]
  have h0 : 0 ≤ d := by rw [← hd]; exact Int.emod_nonneg _ (by decide)
  rw [if_pos ⟨trivial, h1⟩, if_pos ⟨h0, by rw [mkB_size]; exact h2⟩, cut_from, by_mkB, w64 (by omega) (by omega)]
/-! ### a stream through a queue of which nothing was received apart -/
theorem works15 : sternpostlaw15_works.f = some true := by decide +kernel
theorem sqs_if {α : Type} {p : Prop} [Decidable p] {x : Nat → Option α} {r : α} (h : p) (hx : Ev x r) : Ev (fun k => sternpostlaw15_SendqStream_tail.if_ p (x k) none) r := by
  unfold sternpostlaw15_SendqStream_tail.if_
  exact Ev.pos h hx
theorem mn_is (a b : Int) : mn a b = if a ≤ b then a else b := by unfold mn; split <;> split <;> omega
theorem mx_is (a b : Int) : mx a b = if b ≤ a then a else b := by unfold mx; split <;> split <;> omega
theorem sqs_write (le se : Int) (S : List UInt8) (x : ByteArray) (hS : S.length ≤ 1000) (hx : x.size ≤ 500) : ∃ (m : Nat) (e : Int), sendq_Queue_Write.f le se 1000 (mkB S) [] x = some ((m : Int), e, mkB (S ++ (SP.by_ x).take m)) ∧ m ≤ x.size ∧ S.length + m ≤ 1000 ∧ (e = 0 ∨ m = 0) ∧ (m = x.size ∨ S.length + m = 1000) := by
  have hb : (SP.by_ x).length = x.size := SP.by_len x
  have hn : mn (x.size : Int) (wrap64 (1000 - ((mkB S).size : Int))) = ((min x.size (1000 - S.length) : Nat) : Int) := by
    rw [mkB_size, w64 (by omega) (by omega), mn_is]
    split <;> omega
  unfold sendq_Queue_Write.f
  rw [hn]
  generalize hm : min x.size (1000 - S.length) = m
  by_cases h : (m : Int) = 0 ∧ x.toList ≠ []
  · refine ⟨m, 150, ?_, by omega, by omega, .inr (by omega), by omega⟩
    rw [if_pos h]
    have : m = 0 := by omega
    subst this
    simp
  · refine ⟨m, 0, ?_, by omega, by omega, .inl rfl, by omega⟩
    have hc : cutS x 0 (m : Int).toNat = mkB ((SP.by_ x).take m) := by rw [cut_to]; rfl
    rw [if_neg h, hc, if_pos ⟨by omega, by omega, by rw [mkB_size, mkB_size, List.length_take]; omega⟩, mkB_append]
theorem sqs_next (le : Int) (se : Nat) (S : List UInt8) (win m : Int) (h : seqOk le) (h1 : se ≤ S.length) (h2 : S.length ≤ 1000) (hw : 0 ≤ win ∧ win < 600) (hm : 1 ≤ m ∧ m ≤ 100) : ∃ c : Nat, sendq_Queue_Next.f le (se : Int) 1000 (mkB S) [] win m = some ((le + se) % 4294967296, mkB ((S.drop se).take c), le, ((se + c : Nat) : Int), 1000, mkB S) ∧ se + c ≤ S.length ∧ (c = 0 ∨ ((se + c : Nat) : Int) ≤ win) := by
  unfold sendq_Queue_Next.f
  rw [sq_at le se 1000 _ [] se h (by omega)]
  simp only [Option.bind_some]
  by_cases a : mn win m < 1
  · refine ⟨0, ?_, by omega, .inl rfl⟩
    rw [if_pos a]; simp; rfl
  rw [if_neg a]
  by_cases b : win ≤ (se : Int)
  · refine ⟨0, ?_, by omega, .inl rfl⟩
    rw [if_pos b]; simp; rfl
  rw [if_neg b]
  have hn : mn (mn (wrap64 (((mkB S).size : Int) - (se : Int))) m) (wrap64 (win - (se : Int))) = ((min (min (S.length - se) m.toNat) (win - se).toNat : Nat) : Int) := by
    rw [mkB_size, w64 (by omega) (by omega), w64 (by omega) (by omega), mn_is, mn_is]
    split <;> split <;> omega
  rw [hn]
  generalize hc : min (min (S.length - se) m.toNat) (win - se).toNat = c
  refine ⟨c, ?_, by omega, by omega⟩
  rw [w64 (by omega) (by omega), if_pos (by omega), if_pos (by omega), if_pos (by rw [mkB_size]; omega)]
  have e : cutS (mkB S) ((se : Int)).toNat ((se : Int) + (c : Int)).toNat = mkB ((S.drop se).take c) := by
    rw [cut_mk, by_mkB, show ((se : Int) + (c : Int)).toNat - ((se : Int)).toNat = c from by omega]; rfl
  have e2 : (mkB ((S.drop se).take c)).size = c := by rw [mkB_size, List.length_take, List.length_drop]; omega
  rw [e, e2, w64 (by omega) (by omega)]
  rfl
theorem sqs_hole (le : Int) (se : Nat) (S : List UInt8) (h : seqOk le) (h1 : se ≤ S.length) (h2 : S.length ≤ 1000) : sendq_Queue_Hole.f le (se : Int) 1000 (mkB S) 1000 = some (le, mkB (S.take se)) := by
  unfold sendq_Queue_Hole.f
  have hn : mn (se : Int) (wrap64 (0 + (mx 0 (mn 1000 (se : Int))))) = (se : Int) := by
    have h3 : mn 1000 (se : Int) = se := by rw [mn_is]; split <;> omega
    have h4 : mx 0 (se : Int) = se := by rw [mx_is]; split <;> omega
    rw [h3, h4, w64 (by omega) (by omega), mn_is, if_pos (by omega)]; 
  rw [hn]
  by_cases a : (se : Int) ≤ 0
  · have : se = 0 := by omega
    subst this
    rw [if_pos a]; rfl
  · rw [if_neg a, if_pos (by rw [mkB_size]; omega), seqadd_is le 0 h (by omega)]
    simp only [Option.bind_some]
    have h' := h
    unfold seqOk at h'
    rw [cut_to, by_mkB, show (le + 0) % 4294967296 = le from by omega]; rfl
theorem sqs_r (rec : Nat → ByteArray → ByteArray → Int → Int → Int → Int → ByteArray → Option Bool) (n : Int) (hn : seqOk n) (W : List UInt8) (a q j : Nat) (h1 : a + j ≤ q) (h2 : q ≤ W.length) (h3 : W.length - a ≤ 1000) (h4 : W.length ≤ 20000)
    (H : Ev (fun k => rec k (mkB W) (mkB (W.take q)) ((a + j : Nat) : Int) ((n + (a + j : Nat)) % 4294967296) ((q - (a + j) : Nat) : Int) 1000 (mkB (W.drop (a + j)))) true) :
    Ev (fun k => sternpostlaw15_SendqStream_tail.r (rec k) n (mkB W) (mkB (W.take q)) (a : Int) (j : Int) ((n + a) % 4294967296) ((q - a : Nat) : Int) 1000 (mkB (W.drop a))) true := by
  have hn' := hn
  unfold seqOk at hn'
  unfold sternpostlaw15_SendqStream_tail.r
  have s1 : seqOk ((n + a) % 4294967296) := by unfold seqOk; omega
  have s2 : seqOk ((n + (a + j : Nat)) % 4294967296) := by unfold seqOk; omega
  have hl : (W.drop a).length = W.length - a := List.length_drop
  have hl2 : (W.drop (a + j)).length = W.length - (a + j) := List.length_drop
  have hq : (mkB (W.take q)).size = q := by rw [mkB_size, List.length_take]; omega
  rw [w64 (by omega) (by omega), show ((a : Int) + (j : Int)) = ((a + j : Nat) : Int) from by omega]
  rw [seqadd_is n _ hn (by omega)]
  refine Ev.bind (Ev.now _) ?_
  dsimp only
  rw [sq_ack _ _ _ _ _ (j : Int) s1 s2 (by omega) (by omega) (by omega) (by omega)]
  refine Ev.bind (Ev.now _) ?_
  refine sqs_if ⟨⟨rfl, rfl⟩, rfl⟩ ?_
  dsimp only
  rw [List.drop_drop, show a + (j : Int).toNat = a + j from by omega, show ((q - a : Nat) : Int) - (j : Int) = ((q - (a + j) : Nat) : Int) from by omega]
  rw [sqs_hole _ _ _ s2 (by omega) (by omega)]
  refine Ev.bind (Ev.now _) ?_
  unfold sendq_Queue_State.f
  rw [seqadd_is _ _ s2 (by omega)]
  refine Ev.bind (Ev.now _) ?_
  dsimp only
  refine sqs_if ⟨⟨rfl, rfl⟩, ?_, ⟨by omega, by rw [hq]; omega⟩, ?_⟩ ?_
  · rw [mkB_size, mkB_size, w64 (by omega) (by omega), hl2]; omega
  · rw [hq, cut_mk, by_mkB, List.drop_take, List.take_take]
    congr 2
    · omega
  rw [seqdist_is _ _ s2 (by unfold seqOk; omega)]
  refine Ev.bind (Ev.now _) ?_
  dsimp only
  refine Ev.pos ⟨rfl, ?_⟩ H
  rw [hq, w64 (by omega) (by omega)]
  omega
theorem sqs_l (n : Int) (hn : seqOk n) (l : List S38) (hw : ∀ x ∈ l, fit38 x) : ∀ (d i : Nat) (W : List UInt8) (a q : Nat), 40 - i = d → i ≤ 40 → a ≤ q → q ≤ W.length → W.length - a ≤ 1000 → W.length ≤ 500 * i →
    Ev (fun k => sternpostlaw15_SendqStream_tail.l k n l i (mkB W) (mkB (W.take q)) (a : Int) ((n + a) % 4294967296) ((q - a : Nat) : Int) 1000 (mkB (W.drop a))) true := by
  have hn' := hn
  unfold seqOk at hn'
  intro d
  induction d with
  | zero =>
    intro i W a q hd hi h1 h2 h3 h4
    refine Ev.step (fun k => by simp only [sternpostlaw15_SendqStream_tail.l]; rfl) ?_
    exact Ev.neg (by omega) (Ev.now _)
  | succ d ih =>
    intro i W a q hd hi h1 h2 h3 h4
    refine Ev.step (fun k => by simp only [sternpostlaw15_SendqStream_tail.l]; rfl) ?_
    by_cases c : (i : Int) < (l.length : Int) ∧ i < 40
    case neg => exact Ev.neg c (Ev.now _)
    refine Ev.pos c ?_
    have hin : i < l.length := by omega
    have hx := hw (rd_T38 l (i : Int)) (by rw [show rd_T38 l (i : Int) = l[i] from by simp [rd_T38, hin]]; exact List.getElem_mem _)
    generalize rd_T38 l (i : Int) = x at hx ⊢
    obtain ⟨f0, f1, f2, f3⟩ := hx
    have f1 := wf64 f1; have f2 := wf64 f2; have f3 := wf64 f3
    unfold sternpostlaw15_SendqStream_tail.b
    by_cases c5 : (x.f0.size : Int) > 500
    case pos => exact Ev.pos c5 (ih (i + 1) W a q (by omega) (by omega) h1 h2 h3 (by omega))
    refine Ev.neg c5 ?_
    have hl : (W.drop a).length = W.length - a := List.length_drop
    obtain ⟨m, e, hf, g1, g2, g3, g4⟩ := sqs_write ((n + a) % 4294967296) ((q - a : Nat) : Int) (W.drop a) x.f0 (by omega) (by omega)
    rw [hf]
    have hcm : cutS x.f0 0 (m : Int).toNat = mkB ((SP.by_ x.f0).take m) := by rw [cut_to]; rfl
    have hX : ((SP.by_ x.f0).take m).length = m := by rw [List.length_take, SP.by_len]; omega
    refine Ev.bind (Ev.now _) ?_
    dsimp only
    refine sqs_if ⟨⟨by omega, by omega⟩, by omega, ?_, ?_⟩ ?_
    · rw [mkB_size, show wrap64 ((W.length : Int) - (a : Int)) = (W.length : Int) - a from w64 (by omega) (by omega), w64 (by omega) (by omega)]; omega
    · rw [hcm, mkB_size, mkB_size, hX]; omega
    rw [hcm, mkB_append]
    generalize (SP.by_ x.f0).take m = X at hX ⊢
    rw [show W.drop a ++ X = (W ++ X).drop a from (List.drop_append_of_le_length (by omega)).symm, show mkB (W.take q) = mkB ((W ++ X).take q) from by rw [List.take_append_of_le_length h2]]
    have hV : (W ++ X).length = W.length + m := by rw [List.length_append, hX]
    generalize W ++ X = V at hV ⊢
    have hvl : (V.drop a).length = V.length - a := List.length_drop
    rw [among_ev x.f1 600 (by omega) f1 (by omega)]
    refine Ev.bind (Ev.now _) ?_
    rw [among_ev x.f2 100 (by omega) f2 (by omega)]
    refine Ev.bind (Ev.now _) ?_
    rw [w64 (by omega) (by omega)]
    have s1 : seqOk ((n + a) % 4294967296) := by unfold seqOk; omega
    obtain ⟨t, hnx, k1, k2⟩ := sqs_next ((n + a) % 4294967296) (q - a) (V.drop a) (x.f1 % 600) (1 + x.f2 % 100) s1 (by omega) (by omega) (by omega) (by omega)
    rw [hnx]
    refine Ev.bind (Ev.now _) ?_
    have hq : (mkB (V.take q)).size = q := by rw [mkB_size, List.length_take]; omega
    have ht : ((V.drop q).take t).length = t := by rw [List.length_take, List.length_drop]; omega
    rw [hq, seqadd_is n q hn (by omega)]
    refine Ev.bind (Ev.now _) ?_
    dsimp only
    rw [List.drop_drop, show a + (q - a) = q from by omega, mkB_append, show V.take q ++ (V.drop q).take t = V.take (q + t) from (List.take_add ..).symm]
    have hq2 : (mkB (V.take (q + t))).size = q + t := by rw [mkB_size, List.length_take]; omega
    refine sqs_if ⟨⟨rfl, by omega⟩, ⟨?_, ?_⟩, ?_, ?_, ?_⟩ ?_
    · rw [hq, mkB_size, ht, w64 (by omega) (by omega)]; omega
    · rw [hq, mkB_size, ht, mkB_size]; omega
    · rw [hq, mkB_size, ht, cut_mk, by_mkB, show q + t - q = t from by omega]
    · by_cases z : t = 0
      · refine .inl ?_
        rw [bl_toList, by_mkB, z, List.take_zero]
      · refine .inr ?_
        rw [hq, mkB_size, ht, show wrap64 ((q : Int) - (a : Int)) = (q : Int) - a from w64 (by omega) (by omega), w64 (by omega) (by omega)]; omega
    · rw [hq, mkB_size, ht]; omega
    rw [hq2, show ((q - a + t : Nat) : Int) = ((q + t - a : Nat) : Int) from by omega]
    have go : ∀ j : Nat, a + j ≤ q + t → Ev (fun k => sternpostlaw15_SendqStream_tail.r (sternpostlaw15_SendqStream_tail.l k n l (i + 1)) n (mkB V) (mkB (V.take (q + t))) (a : Int) (j : Int) ((n + a) % 4294967296) ((q + t - a : Nat) : Int) 1000 (mkB (V.drop a))) true := by
      intro j hj
      exact sqs_r (fun k => sternpostlaw15_SendqStream_tail.l k n l (i + 1)) n hn V a (q + t) j hj (by omega) (by omega) (by omega) (ih (i + 1) V (a + j) (q + t) (by omega) (by omega) hj (by omega) (by omega) (by omega))
    by_cases c9 : (a : Int) < ((q + t : Nat) : Int)
    · refine Ev.pos c9 ?_
      rw [show wrap64 (((q + t : Nat) : Int) - (a : Int)) = ((q + t : Nat) : Int) - a from w64 (by omega) (by omega), w64 (by omega) (by omega), among_ev x.f3 _ (by omega) f3 (by omega)]
      refine Ev.bind (Ev.now _) ?_
      have p1 := Int.emod_nonneg x.f3 (show ((q + t : Nat) : Int) - (a : Int) + 1 ≠ 0 by omega)
      have p2 := Int.emod_lt_of_pos x.f3 (show 0 < ((q + t : Nat) : Int) - (a : Int) + 1 by omega)
      generalize x.f3 % (((q + t : Nat) : Int) - (a : Int) + 1) = j at p1 p2 ⊢
      obtain ⟨j, rfl⟩ := Int.eq_ofNat_of_zero_le p1
      exact go j (by omega)
    · exact Ev.neg c9 (go 0 (by omega))
theorem SendqStream : sternpostlaw15_SendqStream.Pure := by
  intro x0 x1 h0 h1
  have h0 := wf64 h0
  refine Ev.rounds ?_
  unfold sternpostlaw15_SendqStream.f sternpostlaw15_SendqStream_tail.f
  rw [works15]
  refine Ev.bind (Ev.now _) (Ev.pos rfl ?_)
  rw [among_ev x0 4294967296 (by omega) h0 (by omega)]
  refine Ev.bind (Ev.now _) ?_
  have hn : seqOk (x0 % 4294967296) := by unfold seqOk; omega
  generalize x0 % 4294967296 = n at hn ⊢
  have hn' := hn
  unfold seqOk at hn'
  rw [seqcheck_is n (by omega) (by omega), seqC, if_pos hn]
  refine Ev.bind (Ev.now _) (Ev.pos rfl ?_)
  have h := sqs_l n hn x1 h1.2 40 0 [] 0 0 rfl (by omega) (by omega) (by simp) (by simp) (by simp)
  rw [show (n + ((0 : Nat) : Int)) % 4294967296 = n from by omega] at h
  exact h
end Go.Proofs.Ytobndcdohehhbaa.Pure

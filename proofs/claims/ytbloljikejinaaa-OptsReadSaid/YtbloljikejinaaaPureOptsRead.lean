/- OptsRead: what any bytes are as options is as the document has it. -/
import Derived.Test.YtbloljikejinaaaPOptsReadx15
set_option linter.unusedVariables false
set_option linter.unusedSimpArgs false
namespace Go.Proofs.Ytbloljikejinaaa.Pure
open Go Go.RowKit Go.Proofs.Ytbloljikejinaaa.POptsRead Go.Proofs.YtbloljikejinaaaW.PrintWords Go.Proofs.YtbloljikejinaaaW.PrintLast Go.Proofs.YtbloljikejinaaaW.PrintMore
attribute [local irreducible] shl shr Go.bits
/-! ### plain words on numbers and bytes -/
namespace SP
/-- what is above 16 bits, added again -/
def canon (n : Nat) : Nat := if n = 0 then 0 else (n - 1) % 65535 + 1
theorem canon_le (n : Nat) : canon n ≤ 65535 := by unfold canon; split <;> omega
theorem canon_small {n : Nat} (h : n ≤ 65535) : canon n = n := by unfold canon; split <;> omega
theorem canon_step {n : Nat} (h : 65535 < n) : canon (n / 65536 + n % 65536) = canon n := by unfold canon; split <;> split <;> omega
theorem canon_add (a b : Nat) : canon (canon a + b) = canon (a + b) := by unfold canon; split <;> split <;> split <;> omega
theorem canon_mod (n : Nat) : canon n % 65535 = n % 65535 := by unfold canon; split <;> omega
theorem canon_zero {n : Nat} : canon n = 0 ↔ n = 0 := by unfold canon; split <;> omega
theorem canon_eq {a b : Nat} (h : a % 65535 = b % 65535) (h0 : a = 0 ↔ b = 0) : canon a = canon b := by unfold canon; split <;> split <;> omega
/-- a byte's weight at a place -/
def wt (p : Nat) (b : Nat) : Nat := if p % 2 = 0 then 256 * b else b
/-- the weights of bytes from a place on -/
def ws : Nat → List UInt8 → Nat
  | _, [] => 0
  | p, b :: l => wt p b.toNat + ws (p + 1) l
theorem wt_le (p : Nat) (b : UInt8) : wt p b.toNat ≤ 65280 := by have := b.toNat_lt; unfold wt; split <;> omega
theorem ws_le (l : List UInt8) : ∀ p, ws p l ≤ 65280 * l.length := by
  induction l with
  | nil => intro p; simp [ws]
  | cons b l ih => intro p; have := ih (p + 1); have := wt_le p b; simp only [ws, List.length_cons]; omega
theorem ws_append (a b : List UInt8) : ∀ p, ws p (a ++ b) = ws p a + ws (p + a.length) b := by
  induction a with
  | nil => intro p; simp [ws]
  | cons x l ih => intro p; simp only [List.cons_append, ws, ih, List.length_cons]; rw [show p + 1 + l.length = p + (l.length + 1) from by omega]; omega
theorem wt_parity {p q : Nat} (h : p % 2 = q % 2) (b : Nat) : wt p b = wt q b := by unfold wt; rw [h]
theorem ws_parity (l : List UInt8) : ∀ {p q : Nat}, p % 2 = q % 2 → ws p l = ws q l := by
  induction l with
  | nil => intros; rfl
  | cons x l ih => intro p q h; simp only [ws, wt_parity h]; rw [ih (p := p + 1) (q := q + 1) (by omega)]
/-- a string's bytes -/
abbrev by_ (s : ByteArray) : List UInt8 := s.data.toList
theorem by_len (s : ByteArray) : (by_ s).length = s.size := by
  show s.data.toList.length = s.data.size; exact Array.length_toList
theorem by_append (s t : ByteArray) : by_ (s ++ t) = by_ s ++ by_ t := by
  show (s ++ t).data.toList = _; rw [ByteArray.data_append, Array.toList_append]
theorem by_extract (s : ByteArray) (i j : Nat) : by_ (s.extract i j) = ((by_ s).drop i).take (j - i) := by
  simp [by_, ByteArray.data_extract, List.extract_eq_take_drop]
theorem by_ext {s t : ByteArray} (h : by_ s = by_ t) : s = t := by
  cases s; cases t; simp only [by_] at h; congr; exact Array.toList_inj.mp h
/-- byte i of a list -/
def nth (l : List UInt8) (i : Nat) : Nat := (l.getD i 0).toNat
theorem nth_lt (l : List UInt8) (i : Nat) : nth l i < 256 := (l.getD i 0).toNat_lt
theorem drop_cons {l : List UInt8} {i : Nat} (h : i < l.length) : l.drop i = l.getD i 0 :: l.drop (i + 1) := by
  rw [List.drop_eq_getElem_cons h]; simp [List.getD, h]
theorem ws_drop {l : List UInt8} {i : Nat} (p : Nat) (h : i < l.length) : ws p (l.drop i) = wt p (nth l i) + ws (p + 1) (l.drop (i + 1)) := by
  rw [drop_cons h]; rfl
theorem ws_drop_end {l : List UInt8} {i : Nat} (p : Nat) (h : l.length ≤ i) : ws p (l.drop i) = 0 := by
  rw [List.drop_eq_nil_of_le h]; rfl
/-- a number's bytes, k of them -/
def bytesN (n : Nat) : Nat → List UInt8
  | 0 => []
  | k + 1 => UInt8.ofNat (n / 2 ^ (8 * k) % 256) :: bytesN n k
theorem bytesN_len (n k : Nat) : (bytesN n k).length = k := by induction k with
  | zero => rfl
  | succ k ih => simp [bytesN, ih]
/-- the number of bytes -/
def num (l : List UInt8) : Nat := l.foldl (fun n b => n * 256 + b.toNat) 0
theorem num_acc (l : List UInt8) : ∀ a : Nat, l.foldl (fun n b => n * 256 + b.toNat) a = a * 256 ^ l.length + num l := by
  induction l with
  | nil => intro a; show a = a * 256 ^ 0 + 0; omega
  | cons b l ih =>
    intro a
    have h0 : num (b :: l) = l.foldl (fun n b => n * 256 + b.toNat) (0 * 256 + b.toNat) := rfl
    rw [h0, List.foldl_cons, ih, ih, List.length_cons, Nat.pow_succ, Nat.zero_mul, Nat.zero_add, Nat.add_mul, Nat.mul_assoc, Nat.mul_comm 256]
    omega
theorem num_cons (b : UInt8) (l : List UInt8) : num (b :: l) = b.toNat * 256 ^ l.length + num l := by
  have := num_acc l b.toNat; simp only [num, List.foldl_cons, Nat.zero_mul, Nat.zero_add]; exact this
theorem num_append (a b : List UInt8) : num (a ++ b) = num a * 256 ^ b.length + num b := by
  unfold num; rw [List.foldl_append, num_acc]; rfl
theorem num_lt (l : List UInt8) : num l < 256 ^ l.length := by
  induction l with
  | nil => simp [num]
  | cons b l ih => rw [num_cons, List.length_cons, Nat.pow_succ]; have := b.toNat_lt; have h : b.toNat * 256 ^ l.length ≤ 255 * 256 ^ l.length := Nat.mul_le_mul_right _ (by omega); omega
theorem num_bytesN (n k : Nat) : num (bytesN n k) = n % 256 ^ k := by
  induction k with
  | zero => simp [bytesN, num, Nat.mod_one]
  | succ k ih =>
    rw [bytesN, num_cons, ih, bytesN_len]
    have e : (2 : Nat) ^ (8 * k) = 256 ^ k := by rw [Nat.pow_mul]
    rw [e, Nat.pow_succ, Nat.mod_mul, Nat.mul_comm (256 ^ k)]
    have : (UInt8.ofNat (n / 256 ^ k % 256)).toNat = n / 256 ^ k % 256 := by simp [UInt8.toNat_ofNat']
    rw [this]; omega
theorem bytesN_num (l : List UInt8) : bytesN (num l) l.length = l := by
  induction l with
  | nil => rfl
  | cons b l ih =>
    have key : ∀ (m k : Nat), bytesN (m * 256 ^ l.length + num l) k = bytesN (num l) k ∨ l.length < k := by
      intro m k
      by_cases hk : l.length < k
      · exact .inr hk
      · left
        induction k with
        | zero => rfl
        | succ k ihk =>
          rw [bytesN, bytesN, ihk (by omega)]
          have e : (2 : Nat) ^ (8 * k) = 256 ^ k := by rw [Nat.pow_mul]
          obtain ⟨d, hd⟩ : ∃ d, l.length = k + 1 + d := ⟨l.length - (k + 1), by omega⟩
          rw [e]
          have : (m * 256 ^ l.length + num l) / 256 ^ k % 256 = num l / 256 ^ k % 256 := by
            rw [hd, Nat.pow_add, Nat.pow_succ]
            rw [show m * (256 ^ k * 256 * 256 ^ d) = 256 ^ k * (256 * (m * 256 ^ d)) from by ac_rfl]
            rw [Nat.mul_add_div (Nat.pow_pos (by omega)), Nat.mul_add_mod]
          rw [this]
    rw [List.length_cons, num_cons, bytesN]
    have e : (2 : Nat) ^ (8 * l.length) = 256 ^ l.length := by rw [Nat.pow_mul]
    have hl := num_lt l
    have h1 : (b.toNat * 256 ^ l.length + num l) / 2 ^ (8 * l.length) % 256 = b.toNat := by
      rw [e, Nat.mul_comm, Nat.mul_add_div (Nat.pow_pos (by omega)), Nat.div_eq_of_lt hl]; have := b.toNat_lt; omega
    rw [h1]
    rcases key b.toNat l.length with h | h
    · rw [h, ih]; congr 1; exact UInt8.toNat_inj.mp (by simp)
    · omega
end SP
theorem Ev.pos {α : Type} {c : Prop} [Decidable c] {g f : Nat → Option α} {r : α} (hc : c) (h : Ev g r) : Ev (fun k => if c then g k else f k) r := by
  simp only [if_pos hc]; exact h
theorem Ev.neg {α : Type} {c : Prop} [Decidable c] {g f : Nat → Option α} {r : α} (hc : ¬ c) (h : Ev f r) : Ev (fun k => if c then g k else f k) r := by
  simp only [if_neg hc]; exact h
theorem wf64 {n : Int} (h : (Lit.int .i64 n).wf = true) : -9223372036854775808 ≤ n ∧ n < 9223372036854775808 := by
  have e : (Lit.int .i64 n).wf = decide (IntKind.i64.min ≤ n ∧ n ≤ 9223372036854775807) := by simp [Lit.wf]
  have e2 : IntKind.i64.min = -9223372036854775808 := by decide
  rw [e, e2] at h
  have := of_decide_eq_true h
  omega
/-! ### package sum and the reference's, as the words above -/
theorem and_mask (n m : Nat) (h : n < 2 ^ 63) (i : Nat) (hi : m = 2 ^ i - 1) (hi2 : i ≤ 63) : bits .and .i64 (n : Int) (m : Int) = ((n % 2 ^ i : Nat) : Int) := by
  subst hi
  have hw : ∀ n : Int, 0 ≤ n → n < 9223372036854775808 → IntKind.i64.wrap n = n := by
    intro n h0 h1; rw [IntKind.wrap_i64]; have : (2 : Int) ^ 62 = 4611686018427387904 := by decide
    omega
  have := bits_mask .i64 63 (by decide) hw i hi2 (n : Int) (by omega) (by exact_mod_cast h)
  have e : ((2 ^ i - 1 : Nat) : Int) = (2 : Int) ^ i - 1 := by
    have : 1 ≤ 2 ^ i := Nat.one_le_two_pow
    rw [Int.ofNat_sub this]; simp
  rw [e, this]; simp
theorem bits16 (n : Nat) (h : n < 2 ^ 63) : bits .and .i64 (n : Int) 65535 = ((n % 65536 : Nat) : Int) := and_mask n 65535 h 16 rfl (by omega)
theorem bt_nth (s : ByteArray) (i : Nat) : bt s (i : Int) = ((SP.nth (SP.by_ s) i : Nat) : Int) := by
  unfold bt SP.nth
  simp only [Int.toNat_natCast]
  split
  · rename_i h
    congr 1
    have h' : i < (SP.by_ s).length := by rw [SP.by_len]; exact h
    rw [List.getD_eq_getElem?_getD, List.getElem?_eq_getElem h']
    rfl
  · rename_i h
    rw [List.getD_eq_getElem?_getD, List.getElem?_eq_none (by rw [SP.by_len]; omega)]; rfl
theorem w64 {n : Int} (h0 : -9223372036854775808 ≤ n) (h1 : n < 9223372036854775808) : wrap64 n = n := by unfold wrap64; omega
theorem tmod2 (n : Nat) : Int.tmod (n : Int) 2 = ((n % 2 : Nat) : Int) := by rw [Int.tmod_eq_emod_of_nonneg (by omega)]; omega
theorem nat_toNat (n : Nat) : ((n : Int) : Int).toNat = n := Int.toNat_natCast n
theorem rdOf_nat {α : Type} (d : α) (xs : List α) (i : Nat) : rdOf d xs (i : Int) = xs.getD i d := by simp [rdOf]
def mkB (l : List UInt8) : ByteArray := ⟨l.toArray⟩
theorem by_mkB (l : List UInt8) : SP.by_ (mkB l) = l := rfl
theorem mkB_by (s : ByteArray) : mkB (SP.by_ s) = s := SP.by_ext rfl
theorem mkB_size (l : List UInt8) : (mkB l).size = l.length := rfl
theorem mkB_append (a b : List UInt8) : mkB a ++ mkB b = mkB (a ++ b) := SP.by_ext (by rw [SP.by_append]; rfl)
theorem shr_pow (n k : Nat) (hk : k ≤ 64) : shr .i64 (n : Int) (k : Int) = ((n / 2 ^ k : Nat) : Int) := by
  unfold shr
  rw [Int.toNat_natCast, show min k IntKind.i64.bits = k from Nat.min_eq_left (by simpa [IntKind.bits] using hk)]
  simp
theorem mn_lt (a b c : Int) : mn a b < c ↔ a < c ∨ b < c := by unfold mn; split <;> omega
theorem mx_gt (a b c : Int) : mx a b > c ↔ a > c ∨ b > c := by unfold mx; split <;> omega
def PutS (n b : Int) : ByteArray × Int := if b < 1 ∨ 6 < b ∨ n < 0 ∨ (256 : Int) ^ b.toNat ≤ n then (⟨#[]⟩, 1) else (mkB (SP.bytesN n.toNat b.toNat), 0)
/-- the numbers that 'Put' has laid after i rounds -/
def putRow (n b i : Nat) : List Int := (List.range b).map fun j => if j < i then ((n / 2 ^ (8 * (b - 1 - j)) % 256 : Nat) : Int) else 0
theorem putRow_set (n b i : Nat) (_h : i < b) : (putRow n b i).set i ((n / 2 ^ (8 * (b - 1 - i)) % 256 : Nat) : Int) = putRow n b (i + 1) := by
  apply List.ext_getElem
  · simp [putRow]
  · intro j h1 h2
    simp only [putRow, List.getElem_set, List.getElem_map, List.getElem_range]
    by_cases e : i = j
    · subst e; simp
    · rw [if_neg e]
      by_cases h3 : j < i
      · rw [if_pos h3, if_pos (by omega)]
      · rw [if_neg h3, if_neg (by omega)]
theorem bytesN_range (n : Nat) : ∀ b : Nat, SP.bytesN n b = (List.range b).map fun j => UInt8.ofNat (n / 2 ^ (8 * (b - 1 - j)) % 256) := by
  intro b
  induction b with
  | zero => rfl
  | succ b ih =>
    rw [SP.bytesN, ih, List.range_succ_eq_map, List.map_cons, List.map_map]
    congr 1
    apply List.map_congr_left
    intro j hj
    have := List.mem_range.mp hj
    simp only [Function.comp_def]
    rw [show b - 1 - j = b + 1 - 1 - (j + 1) from by omega]
theorem putRow_str (n b : Nat) : strOfNums (putRow n b b) = mkB (SP.bytesN n b) := by
  unfold strOfNums mkB
  rw [bytesN_range]
  congr 2
  simp only [putRow, List.map_map]
  apply List.map_congr_left
  intro j hj
  have := List.mem_range.mp hj
  simp only [Function.comp_def]
  rw [if_pos this, Int.toNat_natCast]
theorem put_l0 (n b : Nat) (hb : b ≤ 6) : ∀ (d i : Nat), b - i = d → i ≤ b → Ev (fun k => sum_Put.l0 k (n : Int) (b : Int) (putRow n b i) (b : Int) (i : Int)) (mkB (SP.bytesN n b), 0) := by
  intro d
  induction d with
  | zero =>
    intro i hd hi
    obtain rfl : i = b := by omega
    refine Ev.step (f := fun _ => some (strOfNums (putRow n i i), 0)) (fun k => ?_) ?_
    · simp only [sum_Put.l0]; rw [if_neg (by omega)]
    · rw [putRow_str]; exact Ev.now _
  | succ d ih =>
    intro i hd hi
    refine Ev.step (f := fun k => sum_Put.l0 k (n : Int) (b : Int) (putRow n b (i + 1)) (b : Int) ((i + 1 : Nat) : Int)) (fun k => ?_) (ih (i + 1) (by omega) (by omega))
    simp only [sum_Put.l0]
    have e : wrap64 (8 * (wrap64 ((wrap64 ((b : Int) - 1)) - (i : Int)))) = ((8 * (b - 1 - i) : Nat) : Int) := by unfold wrap64; omega
    rw [if_pos (by omega), e, if_pos (by omega), if_pos (by omega), if_pos (by simp [putRow]; omega), shr_pow _ _ (by omega), w64 (by omega) (by omega), Int.toNat_natCast]
    rw [← putRow_set n b i (by omega)]
    congr 1
theorem put_ev (n b : Int) (hn : -9223372036854775808 ≤ n ∧ n < 9223372036854775808) (hb : -9223372036854775808 ≤ b ∧ b < 9223372036854775808) : Ev (fun k => sum_Put.f k n b) (PutS n b) := by
  have bad : (b < 1 ∨ 6 < b ∨ n < 0 ∨ (256 : Int) ^ b.toNat ≤ n) → Ev (fun k => sum_Put.j0 k n b true) (PutS n b) := by
    intro h
    refine Ev.step (f := fun _ => some (⟨#[]⟩, 1)) (fun k => ?_) ?_
    · simp only [sum_Put.j0]; rw [if_pos trivial]
    · rw [PutS, if_pos h]; exact Ev.now _
  by_cases h1 : b < 1
  · refine Ev.congr (fun k => ?_) (bad (.inl h1)); unfold sum_Put.f; rw [if_pos h1]
  by_cases h2 : 6 < b
  · refine Ev.congr (fun k => ?_) (bad (.inr (.inl h2))); unfold sum_Put.f; rw [if_neg h1, if_pos h2]
  by_cases h3 : n < 0
  · refine Ev.congr (fun k => ?_) (bad (.inr (.inr (.inl h3)))); unfold sum_Put.f; rw [if_neg h1, if_neg (by omega), if_pos h3]
  obtain ⟨m, rfl⟩ := Int.eq_ofNat_of_zero_le (show 0 ≤ n by omega)
  obtain ⟨c, rfl⟩ := Int.eq_ofNat_of_zero_le (show 0 ≤ b by omega)
  have e : wrap64 (8 * (c : Int)) = ((8 * c : Nat) : Int) := by unfold wrap64; omega
  have e2 : (shr .i64 (m : Int) ((8 * c : Nat) : Int) > 0) ↔ (256 : Int) ^ ((c : Int)).toNat ≤ (m : Int) := by
    rw [shr_pow _ _ (by omega), Int.toNat_natCast, Nat.pow_mul, show (2 : Nat) ^ 8 = 256 from rfl, show (256 : Int) ^ c = ((256 ^ c : Nat) : Int) from (Int.natCast_pow 256 c).symm]
    constructor
    · intro hh
      have h3 : 0 < m / 256 ^ c := by omega
      exact Int.ofNat_le.mpr (Nat.div_pos_iff.mp h3).2
    · intro hh
      have h3 : 0 < m / 256 ^ c := Nat.div_pos (Int.ofNat_le.mp hh) (Nat.pow_pos (by omega))
      omega
  by_cases h4 : (256 : Int) ^ ((c : Int)).toNat ≤ (m : Int)
  · refine Ev.congr (fun k => ?_) (bad (.inr (.inr (.inr h4)))); unfold sum_Put.f; rw [if_neg h1, if_neg (by omega), if_neg h3, e, if_pos (by omega), decide_eq_true (e2.mpr h4)]
  · refine Ev.congr (f := fun k => sum_Put.j0 k (m : Int) (c : Int) false) (fun k => ?_) ?_
    · unfold sum_Put.f; rw [if_neg h1, if_neg (by omega), if_neg h3, e, if_pos (by omega), decide_eq_false (fun h => h4 (e2.mp h))]
    · have e3 : List.replicate ((c : Int)).toNat (0 : Int) = putRow m c 0 := by
        apply List.ext_getElem
        · simp [putRow]
        · intro j h1 h2; simp [putRow]
      refine Ev.step (f := fun k => sum_Put.l0 k (m : Int) (c : Int) (putRow m c 0) (c : Int) ((0 : Nat) : Int)) (fun k => ?_) ?_
      · simp only [sum_Put.j0]; rw [if_neg (by decide), if_pos (by omega), if_pos (by omega)]
        simp only [Option.bind_some]; rw [e3]; simp [putRow]
      · rw [PutS, if_neg (by omega), Int.toNat_natCast, Int.toNat_natCast]; exact put_l0 m c (by omega) c 0 rfl (by omega)
theorem put_ok (n b : Nat) (hb1 : 1 ≤ b) (hb : b ≤ 6) (h : n < 256 ^ b) (hn : n < 9223372036854775808) : Ev (fun k => sum_Put.f k (n : Int) (b : Int)) (mkB (SP.bytesN n b), 0) := by
  have := put_ev (n : Int) (b : Int) (by omega) (by omega)
  rw [PutS, nat_toNat, nat_toNat, if_neg] at this
  · exact this
  · have e : (256 : Int) ^ b = ((256 ^ b : Nat) : Int) := (Int.natCast_pow 256 b).symm
    rw [e]; omega
theorem cut_mk (s : ByteArray) (i j : Nat) : cutS s i j = mkB (((SP.by_ s).drop i).take (j - i)) := by
  rw [cutS]; exact SP.by_ext (by rw [SP.by_extract, by_mkB])
theorem cut_to (s : ByteArray) (j : Nat) : cutS s 0 j = mkB ((SP.by_ s).take j) := by rw [cut_mk]; simp
theorem cut_from (s : ByteArray) (i : Nat) : cutS s i s.size = mkB ((SP.by_ s).drop i) := by
  rw [cut_mk, List.take_of_length_le (by rw [List.length_drop, SP.by_len]; omega)]
theorem or_byte (n : Nat) (c : UInt8) (h : n < 281474976710656) : Go.bits .or .i64 (wrap64 ((n : Int) * 256)) (wrap64 (c.toNat : Int)) = ((n * 256 + c.toNat : Nat) : Int) := by
  have hc := c.toNat_lt
  have hw : ∀ m : Int, 0 ≤ m → m < 2 ^ 63 → IntKind.i64.wrap m = m := by
    intro m h0 h1; rw [IntKind.wrap_i64]; have : (2 : Int) ^ 63 = 9223372036854775808 := by decide
    omega
  have e63 : (2 : Int) ^ 63 = 9223372036854775808 := by decide
  have e8 : (2 : Int) ^ 8 = 256 := by decide
  rw [w64 (by omega) (by omega), w64 (by omega) (by omega)]
  rw [bits_join .i64 63 (by decide) hw 8 _ _ (by omega) (by rw [e8]; omega) (by rw [e63]; omega) (by omega) (by rw [e8]; omega) (by rw [e63]; omega)]
  omega
theorem orNum_num (l : List UInt8) (h : l.length ≤ 6) : orNum l = ((SP.num l : Nat) : Int) := by
  have key : ∀ (l : List UInt8) (n : Nat), n * 256 ^ l.length + SP.num l < 281474976710656 → l.foldl (fun (n : Int) (c : UInt8) => Go.bits .or .i64 (wrap64 (n * 256)) (wrap64 (c.toNat : Int))) (n : Int) = ((n * 256 ^ l.length + SP.num l : Nat) : Int) := by
    intro l
    induction l with
    | nil => intro n _; show (n : Int) = ((n * 256 ^ 0 + 0 : Nat) : Int); omega
    | cons c l ih =>
      intro n hn
      rw [SP.num_cons, List.length_cons, Nat.pow_succ] at hn ⊢
      rw [List.foldl_cons]
      have e : n * (256 ^ l.length * 256) + (c.toNat * 256 ^ l.length + SP.num l) = (n * 256 + c.toNat) * 256 ^ l.length + SP.num l := by
        rw [Nat.add_mul, Nat.mul_assoc n 256, Nat.mul_comm 256]; omega
      have hp : 0 < 256 ^ l.length := Nat.pow_pos (by omega)
      have h1 : n * 256 + c.toNat ≤ (n * 256 + c.toNat) * 256 ^ l.length := Nat.le_mul_of_pos_right _ hp
      rw [or_byte n c (by omega), ih _ (by omega), e]
  have hl := SP.num_lt l
  have hp : 256 ^ l.length ≤ 256 ^ 6 := Nat.pow_le_pow_right (by omega) h
  have e6 : 256 ^ 6 = 281474976710656 := by decide
  have := key l 0 (by omega)
  rw [Nat.zero_mul, Nat.zero_add] at this
  exact this
def GetS (s : ByteArray) (a b : Int) : Int × Int := if b < 1 ∨ 6 < b ∨ a < 0 ∨ (s.size : Int) < a + b then (0, 1) else ((SP.num (((SP.by_ s).drop a.toNat).take b.toNat) : Int), 0)
theorem get_ev (s : ByteArray) (hs : s.size ≤ 281474976710656) (a b : Int) (ha : -9223372036854775808 ≤ a ∧ a < 9223372036854775808) (hb : -9223372036854775808 ≤ b ∧ b < 9223372036854775808) : sum_Get.f s a b = some (GetS s a b) := by
  unfold sum_Get.f GetS
  by_cases h1 : b < 1
  · rw [if_pos h1, if_pos (.inl h1)]
  by_cases h2 : 6 < b
  · rw [if_neg h1, if_pos h2, if_pos (.inr (.inl h2))]
  by_cases h3 : a < 0
  · rw [if_neg h1, if_neg h2, if_pos h3, if_pos (.inr (.inr (.inl h3)))]
  rw [if_neg h1, if_neg h2, if_neg h3, w64 (by omega) (by omega)]
  by_cases h4 : (s.size : Int) < a + b
  · rw [if_pos (by omega), if_pos (.inr (.inr (.inr h4)))]
  · rw [if_neg (by omega), w64 (by omega) (by omega), if_pos ⟨by omega, by omega, by omega⟩, if_neg (by omega), cut_mk]
    obtain ⟨x, rfl⟩ := Int.eq_ofNat_of_zero_le (show 0 ≤ a by omega)
    obtain ⟨y, rfl⟩ := Int.eq_ofNat_of_zero_le (show 0 ≤ b by omega)
    have e : ((x : Int) + (y : Int)).toNat = x + y := by omega
    rw [e, Int.toNat_natCast, Int.toNat_natCast, Nat.add_sub_cancel_left]
    show some (orNum (SP.by_ (mkB _)), (0 : Int)) = _
    rw [by_mkB, orNum_num _ (by rw [List.length_take]; omega)]
theorem Ev.ite {α : Type} {c : Prop} [Decidable c] {g f : Nat → Option α} {r : α} (h : c → Ev g r) (h' : ¬ c → Ev f r) : Ev (fun k => if c then g k else f k) r := by
  by_cases hc : c
  · exact Ev.pos hc (h hc)
  · exact Ev.neg hc (h' hc)
theorem Ev.val {α : Type} {g : Nat → Option α} {r r' : α} (h : Ev g r) (e : r = r') : Ev g r' := e ▸ h
theorem ite_same {α : Type} {p q : Prop} [Decidable p] [Decidable q] (h : p ↔ q) {x y : α} : (if p then x else y) = if q then x else y := by
  by_cases hp : p
  · rw [if_pos hp, if_pos (h.1 hp)]
  · rw [if_neg hp, if_neg (fun hq => hp (h.2 hq))]
/-! ### package seq: is a number one of a sequence's -/
theorem and_low (a : Int) (_h0 : -9223372036854775808 ≤ a) (_h1 : a < 9223372036854775808) (i : Nat) (hi : i ≤ 62) : Go.bits .and .i64 a ((2 ^ i - 1 : Nat) : Int) = a % ((2 ^ i : Nat) : Int) := by
  have hp : 0 < 2 ^ i := Nat.two_pow_pos i
  have hle : 2 ^ i ≤ 2 ^ 62 := Nat.pow_le_pow_right (by decide) hi
  have e62 : (2 : Nat) ^ 62 = 4611686018427387904 := by decide
  have eb : IntKind.i64.bits = 64 := rfl
  have e64 : (2 : Nat) ^ 64 = 18446744073709551616 := by decide
  have hm : (2 ^ i - 1) % 2 ^ IntKind.i64.bits = 2 ^ i - 1 := Nat.mod_eq_of_lt (by rw [eb, e64]; omega)
  simp only [Go.bits, BitVec.ofInt_natCast, BitVec.toNat_and, BitVec.toNat_ofNat, hm, BitVec.toNat_ofInt]
  rw [Nat.and_two_pow_sub_one_eq_mod, IntKind.wrap_i64, eb]
  have hd : 2 ^ 64 = 2 ^ i * 2 ^ (64 - i) := by rw [← Nat.pow_add]; congr 1; omega
  have key : (((a % ((2 ^ 64 : Nat) : Int)).toNat % 2 ^ i : Nat) : Int) = a % ((2 ^ i : Nat) : Int) := by
    rw [Int.natCast_emod, Int.toNat_of_nonneg (Int.emod_nonneg _ (by omega))]
    exact Int.emod_emod_of_dvd _ ⟨((2 ^ (64 - i) : Nat) : Int), by rw [hd, Int.natCast_mul]⟩
  have r0 := Int.emod_nonneg a (b := ((2 ^ i : Nat) : Int)) (by omega)
  have r1 := Int.emod_lt_of_pos a (b := ((2 ^ i : Nat) : Int)) (by omega)
  have key2 : (((a % (2 ^ 64 : Int)).toNat % 2 ^ i : Nat) : Int) = a % ((2 ^ i : Nat) : Int) := key
  first | rw [key] | rw [key2]
  omega
def seqOk (n : Int) : Prop := 0 ≤ n ∧ n ≤ 4294967295
instance (n : Int) : Decidable (seqOk n) := inferInstanceAs (Decidable (0 ≤ n ∧ n ≤ 4294967295))
def seqC (n : Int) : Int := if seqOk n then 0 else 1
theorem seqcheck_is (n : Int) (h0 : -9223372036854775808 ≤ n) (h1 : n < 9223372036854775808) : seq_Check.f n = some (seqC n) := by
  unfold seq_Check.f seqC
  have := and_low n h0 h1 32 (by omega)
  rw [show ((2 ^ 32 - 1 : Nat) : Int) = 4294967295 from by decide, show ((2 ^ 32 : Nat) : Int) = 4294967296 from by decide] at this
  rw [this]
  by_cases h : seqOk n
  · have h' := h
    unfold seqOk at h'
    rw [if_pos (by omega), if_pos h]
  · have h' := h
    unfold seqOk at h'
    rw [if_neg (by omega), if_neg h]
def fit35 (x : S35) : Prop := ((Lit.int .i64 x.f0).wf = true) ∧ (Lit.int .i64 x.f1).wf = true
/-! ### options -/
def rgB (x : S35) : List UInt8 := SP.bytesN x.f0.toNat 4 ++ SP.bytesN x.f1.toNat 4
def rgsB (l : List S35) : List UInt8 := l.flatMap rgB
def opB (kd : Nat) (b : List UInt8) : List UInt8 := UInt8.ofNat kd :: UInt8.ofNat (2 + b.length) :: b
def oMss (m : Int) : List UInt8 := if m > 0 then opB 2 (SP.bytesN m.toNat 2) else []
def oScale (sc : Int) (sd : Bool) : List UInt8 := if sd = true then opB 3 (SP.bytesN sc.toNat 1) else []
def oSack (sk : Bool) : List UInt8 := if sk = true then opB 4 [] else []
def oStamp (st ec : Int) (sp : Bool) : List UInt8 := if sp = true then opB 8 (SP.bytesN st.toNat 4 ++ SP.bytesN ec.toNat 4) else []
def oRgs (l : List S35) : List UInt8 := if 0 < l.length then opB 5 (rgsB l) else []
def bareB (m sc st ec : Int) (sd sk sp : Bool) (l : List S35) : List UInt8 := oMss m ++ oScale sc sd ++ oSack sk ++ oStamp st ec sp ++ oRgs l
def padB (b : List UInt8) : List UInt8 := b ++ List.replicate ((4 - b.length % 4) % 4) 0
def optB (m sc st ec : Int) (sd sk sp : Bool) (l : List S35) : List UInt8 := padB (bareB m sc st ec sd sk sp l)
def rgOk (x : S35) : Prop := seqOk x.f0 ∧ seqOk x.f1 ∧ ¬ x.f0 = x.f1
instance (x : S35) : Decidable (rgOk x) := inferInstanceAs (Decidable (_ ∧ _ ∧ _))
/-- may be, but for how long they are -/
def optFit (m sc st ec : Int) (sd sk sp : Bool) (l : List S35) : Prop :=
  0 ≤ m ∧ m ≤ 65535 ∧ 0 ≤ sc ∧ sc ≤ 14 ∧ l.length ≤ 4 ∧ seqOk st ∧ seqOk ec ∧ (sd = true ∨ sc = 0) ∧ (sp = true ∨ st = 0 ∧ ec = 0) ∧ ∀ x ∈ l, rgOk x
instance (m sc st ec : Int) (sd sk sp : Bool) (l : List S35) : Decidable (optFit m sc st ec sd sk sp l) := inferInstanceAs (Decidable (_ ∧ _ ∧ _ ∧ _ ∧ _ ∧ _ ∧ _ ∧ _ ∧ _ ∧ _))
def optOk (m sc st ec : Int) (sd sk sp : Bool) (l : List S35) : Prop := optFit m sc st ec sd sk sp l ∧ (optB m sc st ec sd sk sp l).length ≤ 40
instance (m sc st ec : Int) (sd sk sp : Bool) (l : List S35) : Decidable (optOk m sc st ec sd sk sp l) := inferInstanceAs (Decidable (_ ∧ _))
theorem rgB_len (x : S35) : (rgB x).length = 8 := by simp [rgB, SP.bytesN_len]
theorem rgsB_len (l : List S35) : (rgsB l).length = 8 * l.length := by
  induction l with
  | nil => rfl
  | cons x l ih => rw [rgsB, List.flatMap_cons, List.length_append, rgB_len, List.length_cons]; rw [rgsB] at ih; omega
theorem opB_len (k : Nat) (b : List UInt8) : (opB k b).length = 2 + b.length := by simp [opB]; omega
theorem oMss_le (m : Int) : (oMss m).length ≤ 4 := by unfold oMss; split <;> simp [opB_len, SP.bytesN_len]
theorem oScale_le (sc : Int) (sd : Bool) : (oScale sc sd).length ≤ 3 := by unfold oScale; split <;> simp [opB_len, SP.bytesN_len]
theorem oSack_le (sk : Bool) : (oSack sk).length ≤ 2 := by unfold oSack; split <;> simp [opB_len]
theorem oStamp_le (st ec : Int) (sp : Bool) : (oStamp st ec sp).length ≤ 10 := by unfold oStamp; split <;> simp [opB_len, SP.bytesN_len]
theorem oRgs_le (l : List S35) : (oRgs l).length ≤ 2 + 8 * l.length := by unfold oRgs; split <;> simp [opB_len, rgsB_len]
theorem optnum_ok (n b : Nat) (hb1 : 1 ≤ b) (hb : b ≤ 6) (h : n < 256 ^ b) (hn : n < 9223372036854775808) : Ev (fun k => opts_num.f k (n : Int) (b : Int)) (mkB (SP.bytesN n b)) := by
  unfold opts_num.f
  exact Ev.bind (put_ok n b hb1 hb h hn) (Ev.now _)
theorem option_is (kd : Nat) (hk : kd < 256) (b : List UInt8) (hb : b.length ≤ 253) : opts_option.f (kd : Int) (mkB b) = some (mkB (opB kd b)) := by
  unfold opts_option.f
  simp only [Option.bind_some]
  rw [mkB_size, w64 (n := 2 + (b.length : Int)) (by omega) (by omega)]
  have e : strOfNums [(kd : Int) % 256, (2 + (b.length : Int)) % 256] = mkB [UInt8.ofNat kd, UInt8.ofNat (2 + b.length)] := by
    unfold strOfNums mkB
    simp only [List.map_cons, List.map_nil]
    rw [show (kd : Int) % 256 = ((kd : Nat) : Int) from by omega, show (2 + (b.length : Int)) % 256 = ((2 + b.length : Nat) : Int) from by omega, nat_toNat, nat_toNat]
  rw [e, mkB_append, if_pos (by simp only [mkB_size, List.length_cons, List.length_nil]; omega)]
  rfl
theorem repeatL_is (a : UInt8) : ∀ n, Go.Lib.repeatL [a] n = List.replicate n a := by
  intro n
  induction n with
  | zero => rfl
  | succ n ih => rw [List.replicate_succ, ← ih]; simp [Go.Lib.repeatL, List.replicate_succ]
theorem optpad_ev (b : List UInt8) (hb : b.length ≤ 1000) : Ev (fun k => opts_text.j5 k (mkB b)) (mkB (padB b)) := by
  refine Ev.step (fun k => by simp only [opts_text.j5]; rfl) ?_
  rw [mkB_size]
  have hm := and_low (-(b.length : Int)) (by omega) (by omega) 2 (by omega)
  rw [show ((2 ^ 2 - 1 : Nat) : Int) = 3 from by decide, show ((2 ^ 2 : Nat) : Int) = 4 from by decide] at hm
  have e : -(b.length : Int) % 4 = (((4 - b.length % 4) % 4 : Nat) : Int) := by omega
  rw [hm, e]
  have hr : strings_Repeat.f (⟨#[0]⟩ : ByteArray) (((4 - b.length % 4) % 4 : Nat) : Int) = some (mkB (List.replicate ((4 - b.length % 4) % 4) 0)) := by
    unfold strings_Repeat.f
    have hs : ((⟨#[0]⟩ : ByteArray).size : Int) = 1 := rfl
    rw [hs, if_pos (by omega), nat_toNat]
    rw [show (⟨#[0]⟩ : ByteArray).data.toList = [0] from rfl, repeatL_is]; rfl
  rw [hr]
  refine Ev.bind (Ev.now _) ?_
  refine Ev.pos (by simp only [mkB_size, List.length_replicate]; omega) ?_
  rw [mkB_append]
  exact Ev.now _
section
variable (m sc st ec : Int) (sd sk sp : Bool) (l : List S35)
theorem optrgs_l0 (p : List UInt8) (hp : p.length ≤ 100) (h4 : l.length ≤ 4) (hl : ∀ x ∈ l, rgOk x) : ∀ (d i : Nat), l.length - i = d → i ≤ l.length →
    Ev (fun k => opts_text.l0 k (mkB p) (mkB (rgsB (l.take i))) l (l.length : Int) (i : Int)) (mkB (padB (p ++ opB 5 (rgsB l)))) := by
  intro d
  induction d with
  | zero =>
    intro i hd hi
    obtain rfl : i = l.length := by omega
    rw [List.take_length]
    have hlen := rgsB_len l
    refine Ev.step (fun k => by simp only [opts_text.l0]; rfl) ?_
    refine Ev.neg (by omega) ?_
    have ho := option_is 5 (by omega) (rgsB l) (by omega)
    rw [show ((5 : Nat) : Int) = 5 from rfl] at ho
    rw [ho]
    refine Ev.bind (Ev.now _) ?_
    have := opB_len 5 (rgsB l)
    refine Ev.pos (by simp only [mkB_size]; omega) ?_
    rw [mkB_append]
    exact optpad_ev _ (by rw [List.length_append]; omega)
  | succ d ih =>
    intro i hd hi
    have hlt : i < l.length := by omega
    have hx := hl l[i] (List.getElem_mem hlt)
    have hrd : rd_T35 l (i : Int) = l[i] := by simp [rd_T35, hlt]
    obtain ⟨h1, h2, h3⟩ := hx
    unfold seqOk at h1 h2
    have ht : rgsB (l.take (i + 1)) = rgsB (l.take i) ++ rgB l[i] := by
      rw [List.take_succ_eq_append_getElem hlt, rgsB, List.flatMap_append, List.flatMap_cons, List.flatMap_nil, List.append_nil, rgsB]
    have hlen := rgsB_len (l.take i)
    rw [List.length_take] at hlen
    refine Ev.step (fun k => by simp only [opts_text.l0]; rfl) ?_
    refine Ev.pos (by omega) ?_
    refine Ev.pos (by omega) ?_
    refine Ev.pos (by omega) ?_
    rw [hrd]
    obtain ⟨a, ha⟩ := Int.eq_ofNat_of_zero_le h1.1
    obtain ⟨b, hb⟩ := Int.eq_ofNat_of_zero_le h2.1
    have hrg : rgB l[i] = SP.bytesN a 4 ++ SP.bytesN b 4 := by rw [rgB, ha, hb, nat_toNat, nat_toNat]
    rw [ha, hb]
    refine Ev.bind (optnum_ok a 4 (by omega) (by omega) (by omega) (by omega)) ?_
    refine Ev.bind (optnum_ok b 4 (by omega) (by omega) (by omega) (by omega)) ?_
    refine Ev.pos (by simp only [mkB_size, SP.bytesN_len]; omega) ?_
    rw [mkB_append, mkB_append, ← hrg]
    refine Ev.pos (by simp only [mkB_size, rgB_len]; omega) ?_
    rw [← ht, w64 (by omega) (by omega)]
    exact ih (i + 1) (by omega) (by omega)
theorem opttext3 (p : List UInt8) (hp : p.length ≤ 100) (h4 : l.length ≤ 4) (hl : ∀ x ∈ l, rgOk x) : Ev (fun k => opts_text.j3 k (mkB p) m sc st ec sd sk sp l) (mkB (padB (p ++ oRgs l))) := by
  refine Ev.step (fun k => by simp only [opts_text.j3]; rfl) ?_
  refine Ev.ite (fun h => ?_) (fun h => ?_)
  · rw [oRgs, if_pos (by omega)]
    have := optrgs_l0 l p hp h4 hl l.length 0 rfl (by omega)
    rw [List.take_zero] at this
    exact this
  · rw [oRgs, if_neg (by omega), List.append_nil]
    exact optpad_ev p (by omega)
theorem opttext2 (p : List UInt8) (hp : p.length ≤ 90) (h4 : l.length ≤ 4) (hl : ∀ x ∈ l, rgOk x) (h1 : seqOk st) (h2 : seqOk ec) : Ev (fun k => opts_text.j2 k (mkB p) m sc st ec sd sk sp l) (mkB (padB (p ++ oStamp st ec sp ++ oRgs l))) := by
  unfold seqOk at h1 h2
  refine Ev.step (fun k => by simp only [opts_text.j2]; rfl) ?_
  refine Ev.ite (fun h => ?_) (fun h => ?_)
  · have hlen := oStamp_le st ec sp
    rw [oStamp, if_pos h] at hlen ⊢
    obtain ⟨a, ha⟩ := Int.eq_ofNat_of_zero_le h1.1
    obtain ⟨b, hb⟩ := Int.eq_ofNat_of_zero_le h2.1
    subst ha hb
    rw [nat_toNat, nat_toNat] at hlen ⊢
    refine Ev.bind (optnum_ok a 4 (by omega) (by omega) (by omega) (by omega)) ?_
    refine Ev.bind (optnum_ok b 4 (by omega) (by omega) (by omega) (by omega)) ?_
    refine Ev.pos (by simp only [mkB_size, SP.bytesN_len]; omega) ?_
    rw [mkB_append]
    have ho := option_is 8 (by omega) (SP.bytesN a 4 ++ SP.bytesN b 4) (by simp [SP.bytesN_len])
    rw [show ((8 : Nat) : Int) = 8 from rfl] at ho
    rw [ho]
    refine Ev.bind (Ev.now _) ?_
    refine Ev.pos (by simp only [mkB_size]; omega) ?_
    rw [mkB_append]
    exact opttext3 m sc a b sd sk sp l _ (by rw [List.length_append]; omega) h4 hl
  · rw [oStamp, if_neg h, List.append_nil]
    exact opttext3 m sc st ec sd sk sp l p (by omega) h4 hl
theorem opttext1 (p : List UInt8) (hp : p.length ≤ 80) (h4 : l.length ≤ 4) (hl : ∀ x ∈ l, rgOk x) (h1 : seqOk st) (h2 : seqOk ec) : Ev (fun k => opts_text.j1 k (mkB p) m sc st ec sd sk sp l) (mkB (padB (p ++ oSack sk ++ oStamp st ec sp ++ oRgs l))) := by
  refine Ev.step (fun k => by simp only [opts_text.j1]; rfl) ?_
  refine Ev.ite (fun h => ?_) (fun h => ?_)
  · have hlen := oSack_le sk
    rw [oSack, if_pos h] at hlen ⊢
    have ho := option_is 4 (by omega) [] (by simp)
    rw [show ((4 : Nat) : Int) = 4 from rfl] at ho
    rw [show (⟨#[]⟩ : ByteArray) = mkB [] from rfl, ho]
    refine Ev.bind (Ev.now _) ?_
    refine Ev.pos (by simp only [mkB_size]; omega) ?_
    rw [mkB_append]
    exact opttext2 m sc st ec sd sk sp l _ (by rw [List.length_append]; omega) h4 hl h1 h2
  · rw [oSack, if_neg h, List.append_nil]
    exact opttext2 m sc st ec sd sk sp l p (by omega) h4 hl h1 h2
theorem opttext0 (p : List UInt8) (hp : p.length ≤ 70) (h4 : l.length ≤ 4) (hl : ∀ x ∈ l, rgOk x) (h1 : seqOk st) (h2 : seqOk ec) (h5 : 0 ≤ sc) (h6 : sc ≤ 14) : Ev (fun k => opts_text.j0 k (mkB p) m sc st ec sd sk sp l) (mkB (padB (p ++ oScale sc sd ++ oSack sk ++ oStamp st ec sp ++ oRgs l))) := by
  refine Ev.step (fun k => by simp only [opts_text.j0]; rfl) ?_
  refine Ev.ite (fun h => ?_) (fun h => ?_)
  · have hlen := oScale_le sc sd
    rw [oScale, if_pos h] at hlen ⊢
    obtain ⟨a, ha⟩ := Int.eq_ofNat_of_zero_le h5
    subst ha
    rw [nat_toNat] at hlen ⊢
    refine Ev.bind (optnum_ok a 1 (by omega) (by omega) (by omega) (by omega)) ?_
    have ho := option_is 3 (by omega) (SP.bytesN a 1) (by simp [SP.bytesN_len])
    rw [show ((3 : Nat) : Int) = 3 from rfl] at ho
    rw [ho]
    refine Ev.bind (Ev.now _) ?_
    refine Ev.pos (by simp only [mkB_size]; omega) ?_
    rw [mkB_append]
    exact opttext1 m a st ec sd sk sp l _ (by rw [List.length_append]; omega) h4 hl h1 h2
  · rw [oScale, if_neg h, List.append_nil]
    exact opttext1 m sc st ec sd sk sp l p (by omega) h4 hl h1 h2
theorem opttext_ev (h : optFit m sc st ec sd sk sp l) : Ev (fun k => opts_text.f k m sc st ec sd sk sp l) (mkB (optB m sc st ec sd sk sp l)) := by
  obtain ⟨m0, m1, s0, s1, h4, h1, h2, _, _, hl⟩ := h
  unfold opts_text.f optB bareB
  refine Ev.ite (fun h => ?_) (fun h => ?_)
  · have hlen := oMss_le m
    rw [oMss, if_pos h] at hlen ⊢
    obtain ⟨a, ha⟩ := Int.eq_ofNat_of_zero_le m0
    subst ha
    rw [nat_toNat] at hlen ⊢
    refine Ev.bind (optnum_ok a 2 (by omega) (by omega) (by omega) (by omega)) ?_
    have ho := option_is 2 (by omega) (SP.bytesN a 2) (by simp [SP.bytesN_len])
    rw [show ((2 : Nat) : Int) = 2 from rfl] at ho
    rw [ho]
    refine Ev.bind (Ev.now _) ?_
    refine Ev.pos (by simp only [mkB_size]; omega) ?_
    rw [show (⟨#[]⟩ : ByteArray) = mkB [] from rfl, mkB_append, List.nil_append]
    exact opttext0 a sc st ec sd sk sp l _ (by omega) h4 hl h1 h2 s0 s1
  · rw [oMss, if_neg h, List.nil_append]
    have := opttext0 m sc st ec sd sk sp l [] (by simp) h4 hl h1 h2 s0 s1
    rw [List.nil_append] at this
    exact this
end
theorem rgfit {x : S35} (h : fit35 x) : (-9223372036854775808 ≤ x.f0 ∧ x.f0 < 9223372036854775808) ∧ -9223372036854775808 ≤ x.f1 ∧ x.f1 < 9223372036854775808 := ⟨wf64 h.1, wf64 h.2⟩
theorem rgtest (x : S35) (h : fit35 x) : api_Range_28.p x = !decide (rgOk x) := by
  obtain ⟨⟨h1, h2⟩, h3, h4⟩ := rgfit h
  unfold api_Range_28.p opts_Check_1.f
  rw [seqcheck_is _ h1 h2, seqcheck_is _ h3 h4]
  simp only [Option.bind_some]
  unfold seqC
  by_cases a : seqOk x.f0
  · by_cases b : seqOk x.f1
    · rw [if_pos a, if_pos b, if_neg (by decide)]
      by_cases c : x.f0 = x.f1
      · rw [decide_eq_false (fun hh => hh.2.2 c)]; simp [c]
      · rw [decide_eq_true (show rgOk x from ⟨a, b, c⟩)]; simp [c]
    · rw [if_pos a, if_neg b, if_pos (by decide), decide_eq_false (fun hh => b hh.2.1)]; rfl
  · by_cases b : seqOk x.f1
    · rw [if_neg a, if_pos b, if_pos (by decide), decide_eq_false (fun hh => a hh.1)]; rfl
    · rw [if_neg a, if_neg b, if_pos (by decide), decide_eq_false (fun hh => a hh.1)]; rfl
theorem rgany (l : List S35) (h : ∀ x ∈ l, fit35 x) : l.any api_Range_28.p = true ↔ ¬ ∀ x ∈ l, rgOk x := by
  rw [List.any_eq_true]
  constructor
  · rintro ⟨x, hx, hp⟩ hall
    rw [rgtest x (h x hx), decide_eq_true (hall x hx)] at hp
    exact absurd hp (by decide)
  · intro hn
    refine Classical.byContradiction fun hc => hn fun x hx => ?_
    refine Classical.byContradiction fun hr => hc ⟨x, hx, ?_⟩
    rw [rgtest x (h x hx), decide_eq_false hr]; rfl
def optC (m sc st ec : Int) (sd sk sp : Bool) (l : List S35) : Int := if optOk m sc st ec sd sk sp l then 0 else 70
section
variable (m sc st ec : Int) (sd sk sp : Bool) (l : List S35)
theorem optC_no (h : ¬ optFit m sc st ec sd sk sp l) : optC m sc st ec sd sk sp l = 70 := by
  unfold optC; rw [if_neg (fun h2 => h h2.1)]
theorem optbad2 : Ev (fun k => opts_Check.j2 k true m sc st ec sd sk sp l) 70 := by
  refine Ev.step (fun k => by simp only [opts_Check.j2]; rfl) ?_
  exact Ev.pos trivial (Ev.now _)
theorem optbad1 : Ev (fun k => opts_Check.j1 k true m sc st ec sd sk sp l) 70 := by
  refine Ev.step (fun k => by simp only [opts_Check.j1]; rfl) ?_
  exact Ev.pos trivial (optbad2 m sc st ec sd sk sp l)
theorem optbad0 : Ev (fun k => opts_Check.j0 k true m sc st ec sd sk sp l) 70 := by
  refine Ev.step (fun k => by simp only [opts_Check.j0]; rfl) ?_
  exact Ev.pos trivial (optbad1 m sc st ec sd sk sp l)
theorem optcheck2 (hl : l.length < 1000000000000000 ∧ ∀ x ∈ l, fit35 x) (h : (∀ x ∈ l, rgOk x) → optFit m sc st ec sd sk sp l) : Ev (fun k => opts_Check.j2 k false m sc st ec sd sk sp l) (optC m sc st ec sd sk sp l) := by
  refine Ev.step (fun k => by simp only [opts_Check.j2]; rfl) ?_
  refine Ev.neg (by decide) ?_
  have hf : api_Range_28.f l 29 = some (l.any api_Range_28.p) := by
    unfold api_Range_28.f
    rw [if_pos ⟨rfl, by omega⟩]
  rw [hf]
  refine Ev.bind (Ev.now _) ?_
  refine Ev.ite (fun ha => ?_) (fun ha => ?_)
  · refine Ev.val (Ev.now _) (optC_no m sc st ec sd sk sp l fun hh => ?_).symm
    exact (rgany l hl.2).mp ha hh.2.2.2.2.2.2.2.2.2
  · have hall : ∀ x ∈ l, rgOk x := Classical.byContradiction fun hn => ha ((rgany l hl.2).mpr hn)
    refine Ev.bind (opttext_ev m sc st ec sd sk sp l (h hall)) ?_
    rw [mkB_size]
    refine Ev.ite (fun hb => ?_) (fun hb => ?_)
    · refine Ev.val (Ev.now _) ?_
      unfold optC; rw [if_neg (fun h2 => by have := h2.2; omega)]
    · refine Ev.val (Ev.now _) ?_
      unfold optC; rw [if_pos ⟨h hall, by omega⟩]
theorem optcheck1 (hl : l.length < 1000000000000000 ∧ ∀ x ∈ l, fit35 x) (m0 : 0 ≤ m) (m1 : m ≤ 65535) (s0 : 0 ≤ sc) (s1 : sc ≤ 14) (h4 : l.length ≤ 4) (h1 : seqOk st) (h2 : seqOk ec) : Ev (fun k => opts_Check.j1 k false m sc st ec sd sk sp l) (optC m sc st ec sd sk sp l) := by
  refine Ev.step (fun k => by simp only [opts_Check.j1]; rfl) ?_
  refine Ev.neg (by decide) ?_
  have h1' := h1
  have h2' := h2
  unfold seqOk at h1' h2'
  have two : (sd = true ∨ sc = 0) → Ev (fun k => if sp = true then opts_Check.j2 k false m sc st ec sd sk sp l else opts_Check.j2 k (decide (mx st ec > 0)) m sc st ec sd sk sp l) (optC m sc st ec sd sk sp l) := by
    intro hsd
    refine Ev.ite (fun hp => ?_) (fun hp => ?_)
    · exact optcheck2 m sc st ec sd sk sp l hl fun hall => ⟨m0, m1, s0, s1, h4, h1, h2, hsd, .inl hp, hall⟩
    · by_cases hz : st = 0 ∧ ec = 0
      · rw [decide_eq_false (fun hh => by rw [mx_gt] at hh; omega)]
        exact optcheck2 m sc st ec sd sk sp l hl fun hall => ⟨m0, m1, s0, s1, h4, h1, h2, hsd, .inr hz, hall⟩
      · rw [decide_eq_true (by rw [mx_gt]; omega)]
        refine Ev.val (optbad2 m sc st ec sd sk sp l) (optC_no m sc st ec sd sk sp l fun hh => ?_).symm
        rcases hh.2.2.2.2.2.2.2.2.1 with h | h
        · exact hp h
        · exact hz h
  refine Ev.ite (fun hd => two (.inl hd)) (fun hd => ?_)
  refine Ev.ite (fun hs => ?_) (fun hs => two (.inr (by omega)))
  refine Ev.val (optbad2 m sc st ec sd sk sp l) (optC_no m sc st ec sd sk sp l fun hh => ?_).symm
  rcases hh.2.2.2.2.2.2.2.1 with h | h
  · exact hd h
  · omega
theorem optcheck_ev (hst : -9223372036854775808 ≤ st ∧ st < 9223372036854775808) (hec : -9223372036854775808 ≤ ec ∧ ec < 9223372036854775808) (hl : l.length < 1000000000000000 ∧ ∀ x ∈ l, fit35 x) : Ev (fun k => opts_Check.f k m sc st ec sd sk sp l) (optC m sc st ec sd sk sp l) := by
  have bad : ¬ optFit m sc st ec sd sk sp l → Ev (fun k => opts_Check.j0 k true m sc st ec sd sk sp l) (optC m sc st ec sd sk sp l) := fun h => Ev.val (optbad0 m sc st ec sd sk sp l) (optC_no m sc st ec sd sk sp l h).symm
  unfold opts_Check.f
  refine Ev.ite (fun h => bad fun hh => by have := hh.1; omega) (fun m0 => ?_)
  refine Ev.ite (fun h => bad fun hh => by have := hh.2.1; omega) (fun m1 => ?_)
  refine Ev.ite (fun h => bad fun hh => by have := hh.2.2.1; omega) (fun s0 => ?_)
  refine Ev.ite (fun h => bad fun hh => by have := hh.2.2.2.1; omega) (fun s1 => ?_)
  by_cases h4 : (l.length : Int) > 4
  · rw [decide_eq_true h4]
    exact bad fun hh => by have := hh.2.2.2.2.1; omega
  · rw [decide_eq_false h4]
    refine Ev.step (fun k => by simp only [opts_Check.j0]; rfl) ?_
    refine Ev.neg (by decide) ?_
    rw [seqcheck_is st hst.1 hst.2, seqcheck_is ec hec.1 hec.2]
    refine Ev.bind (Ev.now _) ?_
    refine Ev.bind (Ev.now _) ?_
    have bad1 : ¬ optFit m sc st ec sd sk sp l → Ev (fun k => opts_Check.j1 k true m sc st ec sd sk sp l) (optC m sc st ec sd sk sp l) := fun h => Ev.val (optbad1 m sc st ec sd sk sp l) (optC_no m sc st ec sd sk sp l h).symm
    unfold seqC
    by_cases a : seqOk st
    · by_cases b : seqOk ec
      · rw [if_pos a, if_pos b, decide_eq_false (by decide)]
        exact optcheck1 m sc st ec sd sk sp l hl (by omega) (by omega) (by omega) (by omega) (by omega) a b
      · rw [if_pos a, if_neg b, decide_eq_true (by decide)]
        exact bad1 fun hh => b hh.2.2.2.2.2.2.1
    · have hx : mx (if seqOk st then 0 else 1) (if seqOk ec then 0 else 1) > 0 := by rw [if_neg a, mx_gt]; omega
      rw [decide_eq_true hx]
      exact bad1 fun hh => a hh.2.2.2.2.2.1
end
section
variable (m sc st ec : Int) (sd sk sp : Bool) (l : List S35)
/-- the bytes of options that may be, and whether they may -/
def optE : ByteArray × Int := if optOk m sc st ec sd sk sp l then (mkB (optB m sc st ec sd sk sp l), 0) else (⟨#[]⟩, 70)
theorem optenc_ev (hst : -9223372036854775808 ≤ st ∧ st < 9223372036854775808) (hec : -9223372036854775808 ≤ ec ∧ ec < 9223372036854775808) (hl : l.length < 1000000000000000 ∧ ∀ x ∈ l, fit35 x) : Ev (fun k => opts_Encode.f k m sc st ec sd sk sp l) (optE m sc st ec sd sk sp l) := by
  unfold opts_Encode.f
  refine Ev.bind (optcheck_ev m sc st ec sd sk sp l hst hec hl) ?_
  by_cases h : optOk m sc st ec sd sk sp l
  · rw [optC, if_pos h, optE, if_pos h]
    refine Ev.pos rfl ?_
    refine Ev.bind (opttext_ev m sc st ec sd sk sp l h.1) (Ev.now _)
  · rw [optC, if_neg h, optE, if_neg h]
    exact Ev.neg (by decide) (Ev.now _)
end
theorem works07 : Ev (fun k => sternpostlaw07_works.f k) true := by
  unfold sternpostlaw07_works.f
  refine Ev.bind (optenc_ev 536 0 0 0 false true false [] (by omega) (by omega) ⟨by decide, fun x hx => absurd hx (by simp)⟩) ?_
  have h : optOk 536 0 0 0 false true false [] := by decide
  rw [optE, if_pos h]
  refine Ev.pos rfl ?_
  refine Ev.val (Ev.now _) ?_
  decide +kernel
instance : DecidableEq S35 := fun x y => decidable_of_iff (x.f0 = y.f0 ∧ x.f1 = y.f1) ⟨fun h => by cases x; cases y; obtain ⟨h1, h2⟩ := h; cases h1; cases h2; rfl, fun h => by subst h; exact ⟨rfl, rfl⟩⟩
def optSame (m sc st ec : Int) (sd sk sp : Bool) (l : List S35) (m' sc' st' ec' : Int) (sd' sk' sp' : Bool) (l' : List S35) : Bool := (m == m' && sc == sc' && st == st' && ec == ec') && (sd == sd' && sk == sk' && sp == sp') && decide (l = l')
theorem rg_ne (x y : S35) : (!(x.f0 == y.f0) || (!(x.f1 == y.f1))) = !decide (x = y) := by
  cases x with
  | mk a b =>
    cases y with
    | mk c d =>
      by_cases h1 : a = c
      · by_cases h2 : b = d
        · subst h1 h2; simp
        · simp [h1, h2]
      · simp [h1]
theorem optSame_iff (m sc st ec : Int) (sd sk sp : Bool) (l : List S35) (m' sc' st' ec' : Int) (sd' sk' sp' : Bool) (l' : List S35) : optSame m sc st ec sd sk sp l m' sc' st' ec' sd' sk' sp' l' = true ↔ m = m' ∧ sc = sc' ∧ st = st' ∧ ec = ec' ∧ sd = sd' ∧ sk = sk' ∧ sp = sp' ∧ l = l' := by
  unfold optSame
  simp only [Bool.and_eq_true, beq_iff_eq, decide_eq_true_eq]
  constructor
  · rintro ⟨⟨⟨⟨⟨a, b⟩, c⟩, d⟩, ⟨e, f⟩, g⟩, h⟩; exact ⟨a, b, c, d, e, f, g, h⟩
  · rintro ⟨a, b, c, d, e, f, g, h⟩; exact ⟨⟨⟨⟨⟨a, b⟩, c⟩, d⟩, ⟨e, f⟩, g⟩, h⟩
theorem text_l0 (n b : Nat) (hb : b ≤ 8) : ∀ (d : Nat), d ≤ b → Ev (fun k => sternpostref02_Text.l0 k (n : Int) ((List.range (b - d)).map fun j => ((n / 2 ^ (8 * (b - 1 - j)) % 256 : Nat) : Int)) ((d : Int) - 1)) (mkB (SP.bytesN n b)) := by
  intro d
  induction d with
  | zero =>
    intro hd
    refine Ev.step (fun k => ?_) (Ev.now _)
    simp only [sternpostref02_Text.l0]; rw [if_neg (by omega)]
    congr 1
    unfold strOfNums mkB
    rw [bytesN_range, List.map_map]
    rfl
  | succ d ih =>
    intro hd
    refine Ev.step (fun k => ?_) (ih (by omega))
    simp only [sternpostref02_Text.l0]
    have e : wrap64 (8 * (((d + 1 : Nat) : Int) - 1)) = ((8 * d : Nat) : Int) := by unfold wrap64; omega
    rw [if_pos (by omega), e, if_pos (by omega), if_pos (by simp; omega), shr_pow _ _ (by omega), w64 (by omega) (by omega)]
    rw [show ((d + 1 : Nat) : Int) - 1 - 1 = (d : Int) - 1 from by omega]
    congr 1
    rw [show b - d = b - (d + 1) + 1 from by omega, List.range_succ, List.map_append]
    congr 1
    simp only [List.map_cons, List.map_nil]
    rw [show b - 1 - (b - (d + 1)) = d from by omega]
    simp
theorem text_ev (n b : Nat) (hb : b ≤ 8) : Ev (fun k => sternpostref02_Text.f k (n : Int) (b : Int)) (mkB (SP.bytesN n b)) := by
  have := text_l0 n b hb b (by omega)
  refine Ev.congr (fun k => ?_) this
  unfold sternpostref02_Text.f
  rw [w64 (by omega) (by omega), Nat.sub_self]; rfl
theorem refnum_l0 (s : ByteArray) (hs : s.size ≤ 6) : ∀ (d i n : Nat), s.size - i = d → i ≤ s.size → n < 256 ^ i →
    Ev (fun k => sternpostref02_Num.l0 k s (n : Int) (i : Int)) ((((SP.by_ s).drop i).foldl (fun n b => n * 256 + b.toNat) n : Nat) : Int) := by
  intro d
  induction d with
  | zero =>
    intro i n hd hi hn
    rw [List.drop_eq_nil_of_le (by rw [SP.by_len]; omega)]
    refine Ev.step (fun k => ?_) (Ev.now _)
    simp only [sternpostref02_Num.l0]; rw [if_neg (by omega)]; rfl
  | succ d ih =>
    intro i n hd hi hn
    have hlt : i < (SP.by_ s).length := by rw [SP.by_len]; omega
    have hb := SP.nth_lt (SP.by_ s) i
    have hp : 256 ^ i ≤ 256 ^ 5 := Nat.pow_le_pow_right (by omega) (by omega)
    have e5 : 256 ^ 5 = 1099511627776 := by decide
    rw [SP.drop_cons hlt, List.foldl_cons]
    refine Ev.step (fun k => ?_) (ih (i + 1) (n * 256 + ((SP.by_ s).getD i 0).toNat) (by omega) (by omega) (by
      rw [Nat.pow_succ]; have : ((SP.by_ s).getD i 0).toNat < 256 := hb; omega))
    simp only [sternpostref02_Num.l0]
    rw [if_pos (by omega), if_pos (by omega), bt_nth, w64 (n := (n : Int) * 256) (by omega) (by omega), w64 (n := (SP.nth (SP.by_ s) i : Int)) (by omega) (by omega), w64 (n := (i : Int) + 1) (by omega) (by omega), w64 (by omega) (by omega)]
    rfl
theorem refnum_ev (s : ByteArray) (hs : s.size ≤ 6) : Ev (fun k => sternpostref02_Num.f k s) ((SP.num (SP.by_ s) : Nat) : Int) := by
  have := refnum_l0 s hs s.size 0 0 rfl (by omega) (by decide)
  rw [List.drop_zero] at this
  exact this
theorem mk_is (l : List UInt8) : (⟨l.toArray⟩ : ByteArray) = mkB l := rfl
section
variable (m sc st ec : Int) (sd sk sp : Bool) (l : List S35)
theorem refrgs_l0 (p : List UInt8) (hp : p.length ≤ 1000) (h4 : l.length ≤ 4) (hl : ∀ x ∈ l, rgOk x) : ∀ (d i : Nat), l.length - i = d → i ≤ l.length →
    Ev (fun k => sternpostref07_bare.l0 k (mkB (p ++ rgsB (l.take i))) (i : Int) m sc st ec sd sk sp l) (mkB (p ++ rgsB l)) := by
  intro d
  induction d with
  | zero =>
    intro i hd hi
    obtain rfl : i = l.length := by omega
    rw [List.take_length]
    refine Ev.step (fun k => by simp only [sternpostref07_bare.l0]; rfl) ?_
    exact Ev.neg (by omega) (Ev.now _)
  | succ d ih =>
    intro i hd hi
    have hlt : i < l.length := by omega
    have hx := hl l[i] (List.getElem_mem hlt)
    have hrd : rd_T35 l (i : Int) = l[i] := by simp [rd_T35, hlt]
    obtain ⟨h1, h2, h3⟩ := hx
    unfold seqOk at h1 h2
    have ht : rgsB (l.take (i + 1)) = rgsB (l.take i) ++ rgB l[i] := by
      rw [List.take_succ_eq_append_getElem hlt, rgsB, List.flatMap_append, List.flatMap_cons, List.flatMap_nil, List.append_nil, rgsB]
    have hlen := rgsB_len (l.take i)
    rw [List.length_take] at hlen
    refine Ev.step (fun k => by simp only [sternpostref07_bare.l0]; rfl) ?_
    refine Ev.pos (by omega) ?_
    refine Ev.pos (by omega) ?_
    rw [hrd]
    obtain ⟨a, ha⟩ := Int.eq_ofNat_of_zero_le h1.1
    obtain ⟨b, hb⟩ := Int.eq_ofNat_of_zero_le h2.1
    have hrg : rgB l[i] = SP.bytesN a 4 ++ SP.bytesN b 4 := by rw [rgB, ha, hb, nat_toNat, nat_toNat]
    rw [ha, hb]
    refine Ev.bind (text_ev a 4 (by omega)) ?_
    refine Ev.bind (text_ev b 4 (by omega)) ?_
    refine Ev.pos (by simp only [mkB_size, SP.bytesN_len]; omega) ?_
    rw [mkB_append, ← hrg]
    refine Ev.pos (by simp only [mkB_size, List.length_append, rgB_len]; omega) ?_
    rw [mkB_append, List.append_assoc, ← ht, w64 (by omega) (by omega)]
    exact ih (i + 1) (by omega) (by omega)
theorem refbare4 (p : List UInt8) (hp : p.length ≤ 1000) (h4 : l.length ≤ 4) (hl : ∀ x ∈ l, rgOk x) : Ev (fun k => sternpostref07_bare.j4 k (mkB p) m sc st ec sd sk sp l) (mkB (p ++ rgsB l)) := by
  refine Ev.step (fun k => by simp only [sternpostref07_bare.j4]; rfl) ?_
  have := refrgs_l0 m sc st ec sd sk sp l p hp h4 hl l.length 0 rfl (by omega)
  rw [List.take_zero, show rgsB ([] : List S35) = [] from rfl, List.append_nil] at this
  exact this
theorem refbare3 (p : List UInt8) (hp : p.length ≤ 900) (h4 : l.length ≤ 4) (hl : ∀ x ∈ l, rgOk x) : Ev (fun k => sternpostref07_bare.j3 k (mkB p) m sc st ec sd sk sp l) (mkB (p ++ oRgs l)) := by
  refine Ev.step (fun k => by simp only [sternpostref07_bare.j3]; rfl) ?_
  refine Ev.ite (fun h => ?_) (fun h => ?_)
  · rw [w64 (n := 8 * (l.length : Int)) (by omega) (by omega), w64 (by omega) (by omega), show (2 + 8 * (l.length : Int)) = ((2 + 8 * l.length : Nat) : Int) from by omega]
    refine Ev.bind (text_ev (2 + 8 * l.length) 1 (by omega)) ?_
    refine Ev.pos (by simp only [mkB_size, SP.bytesN_len]; omega) ?_
    rw [show (⟨#[5]⟩ : ByteArray) = mkB [5] from rfl, mkB_append]
    refine Ev.pos (by simp only [mkB_size, List.length_append, SP.bytesN_len, List.length_cons, List.length_nil]; omega) ?_
    rw [mkB_append]
    have := refbare4 m sc st ec sd sk sp l (p ++ ([5] ++ SP.bytesN (2 + 8 * l.length) 1)) (by simp only [List.length_append, SP.bytesN_len, List.length_cons, List.length_nil]; omega) h4 hl
    have e : p ++ ([5] ++ SP.bytesN (2 + 8 * l.length) 1) ++ rgsB l = p ++ oRgs l := by
      rw [oRgs, if_pos (by omega), opB, rgsB_len, List.append_assoc]
      congr 1
      simp only [SP.bytesN, List.cons_append, List.nil_append]
      rw [show (2 + 8 * l.length) / 2 ^ (8 * 0) % 256 = 2 + 8 * l.length from by simp; omega]
      rfl
    rw [← e]
    exact this
  · have hz : l = [] := List.eq_nil_of_length_eq_zero (by omega)
    subst hz
    have := refbare4 m sc st ec sd sk sp [] p (by omega) h4 hl
    exact this
theorem refbare2 (p : List UInt8) (hp : p.length ≤ 800) (h4 : l.length ≤ 4) (hl : ∀ x ∈ l, rgOk x) (h1 : seqOk st) (h2 : seqOk ec) : Ev (fun k => sternpostref07_bare.j2 k (mkB p) m sc st ec sd sk sp l) (mkB (p ++ oStamp st ec sp ++ oRgs l)) := by
  unfold seqOk at h1 h2
  refine Ev.step (fun k => by simp only [sternpostref07_bare.j2]; rfl) ?_
  refine Ev.ite (fun h => ?_) (fun h => ?_)
  · rw [oStamp, if_pos h]
    obtain ⟨a, ha⟩ := Int.eq_ofNat_of_zero_le h1.1
    obtain ⟨b, hb⟩ := Int.eq_ofNat_of_zero_le h2.1
    subst ha hb
    rw [nat_toNat, nat_toNat]
    refine Ev.bind (text_ev a 4 (by omega)) ?_
    refine Ev.pos (by simp only [mkB_size, SP.bytesN_len]; omega) ?_
    refine Ev.bind (text_ev b 4 (by omega)) ?_
    rw [show (⟨#[8, 10]⟩ : ByteArray) = mkB [8, 10] from rfl, mkB_append]
    refine Ev.pos (by simp only [mkB_size, List.length_append, SP.bytesN_len, List.length_cons, List.length_nil]; omega) ?_
    rw [mkB_append]
    refine Ev.pos (by simp only [mkB_size, List.length_append, SP.bytesN_len, List.length_cons, List.length_nil]; omega) ?_
    rw [mkB_append]
    have e : [8, 10] ++ SP.bytesN a 4 ++ SP.bytesN b 4 = opB 8 (SP.bytesN a 4 ++ SP.bytesN b 4) := by
      rw [opB, List.length_append, SP.bytesN_len, SP.bytesN_len]; rfl
    rw [e]
    exact refbare3 m sc a b sd sk sp l _ (by rw [List.length_append, opB_len, List.length_append, SP.bytesN_len, SP.bytesN_len]; omega) h4 hl
  · rw [oStamp, if_neg h, List.append_nil]
    exact refbare3 m sc st ec sd sk sp l p (by omega) h4 hl
theorem refbare1 (p : List UInt8) (hp : p.length ≤ 700) (h4 : l.length ≤ 4) (hl : ∀ x ∈ l, rgOk x) (h1 : seqOk st) (h2 : seqOk ec) : Ev (fun k => sternpostref07_bare.j1 k (mkB p) m sc st ec sd sk sp l) (mkB (p ++ oSack sk ++ oStamp st ec sp ++ oRgs l)) := by
  refine Ev.step (fun k => by simp only [sternpostref07_bare.j1]; rfl) ?_
  refine Ev.ite (fun h => ?_) (fun h => ?_)
  · rw [oSack, if_pos h]
    refine Ev.pos (by simp only [mkB_size]; omega) ?_
    rw [show (⟨#[4, 2]⟩ : ByteArray) = mkB [4, 2] from rfl, mkB_append, show ([4, 2] : List UInt8) = opB 4 [] from rfl]
    exact refbare2 m sc st ec sd sk sp l _ (by rw [List.length_append, opB_len]; simp; omega) h4 hl h1 h2
  · rw [oSack, if_neg h, List.append_nil]
    exact refbare2 m sc st ec sd sk sp l p (by omega) h4 hl h1 h2
theorem refbare0 (p : List UInt8) (hp : p.length ≤ 600) (h4 : l.length ≤ 4) (hl : ∀ x ∈ l, rgOk x) (h1 : seqOk st) (h2 : seqOk ec) (h5 : 0 ≤ sc) (h6 : sc ≤ 14) : Ev (fun k => sternpostref07_bare.j0 k (mkB p) m sc st ec sd sk sp l) (mkB (p ++ oScale sc sd ++ oSack sk ++ oStamp st ec sp ++ oRgs l)) := by
  refine Ev.step (fun k => by simp only [sternpostref07_bare.j0]; rfl) ?_
  refine Ev.ite (fun h => ?_) (fun h => ?_)
  · rw [oScale, if_pos h]
    obtain ⟨a, ha⟩ := Int.eq_ofNat_of_zero_le h5
    subst ha
    rw [nat_toNat]
    refine Ev.bind (text_ev a 1 (by omega)) ?_
    refine Ev.pos (by simp only [mkB_size, SP.bytesN_len]; omega) ?_
    rw [show (⟨#[3, 3]⟩ : ByteArray) = mkB [3, 3] from rfl, mkB_append]
    refine Ev.pos (by simp only [mkB_size, List.length_append, SP.bytesN_len, List.length_cons, List.length_nil]; omega) ?_
    rw [mkB_append, show ([3, 3] ++ SP.bytesN a 1 : List UInt8) = opB 3 (SP.bytesN a 1) from by rw [opB, SP.bytesN_len]; rfl]
    exact refbare1 m a st ec sd sk sp l _ (by rw [List.length_append, opB_len, SP.bytesN_len]; omega) h4 hl h1 h2
  · rw [oScale, if_neg h, List.append_nil]
    exact refbare1 m sc st ec sd sk sp l p (by omega) h4 hl h1 h2
theorem refbare_ev (h : optFit m sc st ec sd sk sp l) : Ev (fun k => sternpostref07_bare.f k m sc st ec sd sk sp l) (mkB (bareB m sc st ec sd sk sp l)) := by
  obtain ⟨m0, m1, s0, s1, h4, h1, h2, _, _, hl⟩ := h
  unfold sternpostref07_bare.f bareB
  refine Ev.ite (fun h => ?_) (fun h => ?_)
  · rw [oMss, if_neg (by omega), List.nil_append]
    have := refbare0 m sc st ec sd sk sp l [] (by simp) h4 hl h1 h2 s0 s1
    rw [List.nil_append] at this
    exact this
  · rw [oMss, if_pos (by omega)]
    obtain ⟨a, ha⟩ := Int.eq_ofNat_of_zero_le m0
    subst ha
    rw [nat_toNat]
    refine Ev.bind (text_ev a 2 (by omega)) ?_
    refine Ev.pos (by simp only [mkB_size, SP.bytesN_len]; omega) ?_
    rw [show (⟨#[2, 4]⟩ : ByteArray) = mkB [2, 4] from rfl, mkB_append]
    refine Ev.pos (by simp only [mkB_size, List.length_append, SP.bytesN_len, List.length_cons, List.length_nil]; omega) ?_
    rw [show (⟨#[]⟩ : ByteArray) = mkB [] from rfl, mkB_append, List.nil_append, show ([2, 4] ++ SP.bytesN a 2 : List UInt8) = opB 2 (SP.bytesN a 2) from by rw [opB, SP.bytesN_len]; rfl]
    exact refbare0 a sc st ec sd sk sp l _ (by rw [opB_len, SP.bytesN_len]; omega) h4 hl h1 h2 s0 s1
theorem refpad_l0 (b : List UInt8) (hb : b.length ≤ 1000000) : ∀ (d : Nat), (4 - b.length % 4) % 4 = d → Ev (fun k => sternpostref07_Bytes.l0 k (mkB b)) (mkB (b ++ List.replicate d 0)) := by
  intro d
  induction d generalizing b with
  | zero =>
    intro hd
    refine Ev.step (fun k => by simp only [sternpostref07_Bytes.l0]; rfl) ?_
    refine Ev.pos (by rw [mkB_size]; omega) ?_
    rw [List.replicate_zero, List.append_nil]
    exact Ev.now _
  | succ d ih =>
    intro hd
    refine Ev.step (fun k => by simp only [sternpostref07_Bytes.l0]; rfl) ?_
    refine Ev.neg (by rw [mkB_size]; omega) ?_
    refine Ev.pos (by rw [mkB_size]; omega) ?_
    rw [show (⟨#[0]⟩ : ByteArray) = mkB [0] from rfl, mkB_append]
    by_cases hlast : b.length ≤ 999999
    · have := ih (b ++ [0]) (by rw [List.length_append, List.length_cons, List.length_nil]; omega) (by rw [List.length_append, List.length_cons, List.length_nil]; omega)
      rw [List.append_assoc] at this
      exact this
    · exfalso; omega
theorem refoptbytes_ev (h : optFit m sc st ec sd sk sp l) : Ev (fun k => sternpostref07_Bytes.f k m sc st ec sd sk sp l) (mkB (optB m sc st ec sd sk sp l)) := by
  unfold sternpostref07_Bytes.f
  refine Ev.bind (refbare_ev m sc st ec sd sk sp l h) ?_
  have h4 := h.2.2.2.2.1
  have a1 := oMss_le m
  have a2 := oScale_le sc sd
  have a3 := oSack_le sk
  have a4 := oStamp_le st ec sp
  have a5 := oRgs_le l
  have hlen : (bareB m sc st ec sd sk sp l).length ≤ 1000 := by unfold bareB; simp only [List.length_append]; omega
  exact refpad_l0 (bareB m sc st ec sd sk sp l) (by omega) _ rfl
end
theorem refseq_is (n : Int) : sternpostref01_Check.f n = some (seqC n) := by
  unfold sternpostref01_Check.f seqC
  by_cases h : seqOk n
  · have h' := h
    unfold seqOk at h'
    rw [if_neg (by omega), if_neg (by omega), if_pos h]
  · have h' := h
    unfold seqOk at h'
    rw [if_neg h]
    by_cases h2 : n < 0
    · rw [if_pos h2]
    · rw [if_neg h2, if_pos (by omega)]
theorem seqC_zero (n : Int) : seqC n = 0 ↔ seqOk n := by
  unfold seqC
  by_cases h : seqOk n
  · rw [if_pos h]; exact ⟨fun _ => h, fun _ => rfl⟩
  · rw [if_neg h]; exact ⟨fun hh => absurd hh (by decide), fun hh => absurd hh h⟩
section
variable (m sc st ec : Int) (sd sk sp : Bool) (l : List S35)
theorem refoptck_l0 (hl : l.length < 1000000000000000) (h : (∀ x ∈ l, rgOk x) → optFit m sc st ec sd sk sp l) : ∀ (d i : Nat), l.length - i = d → i ≤ l.length → (∀ x ∈ l.take i, rgOk x) →
    Ev (fun k => sternpostref07_Check.l0 k (i : Int) m sc st ec sd sk sp l) (optC m sc st ec sd sk sp l) := by
  intro d
  induction d with
  | zero =>
    intro i hd hi ht
    obtain rfl : i = l.length := by omega
    rw [List.take_length] at ht
    refine Ev.step (fun k => by simp only [sternpostref07_Check.l0]; rfl) ?_
    refine Ev.neg (by omega) ?_
    refine Ev.bind (refoptbytes_ev m sc st ec sd sk sp l (h ht)) ?_
    rw [mkB_size]
    refine Ev.ite (fun hb => ?_) (fun hb => ?_)
    · refine Ev.val (Ev.now _) ?_
      unfold optC; rw [if_neg (fun h2 => by have := h2.2; omega)]
    · refine Ev.val (Ev.now _) ?_
      unfold optC; rw [if_pos ⟨h ht, by omega⟩]
  | succ d ih =>
    intro i hd hi ht
    have hlt : i < l.length := by omega
    have hrd : rd_T35 l (i : Int) = l[i] := by simp [rd_T35, hlt]
    have bad : ¬ rgOk l[i] → Ev (fun k => sternpostref07_Check.j2 k (i : Int) true m sc st ec sd sk sp l) (optC m sc st ec sd sk sp l) := by
      intro hn
      refine Ev.step (fun k => by simp only [sternpostref07_Check.j2]; rfl) ?_
      refine Ev.pos trivial (Ev.val (Ev.now _) (optC_no m sc st ec sd sk sp l fun hh => hn (hh.2.2.2.2.2.2.2.2.2 _ (List.getElem_mem hlt))).symm)
    refine Ev.step (fun k => by simp only [sternpostref07_Check.l0]; rfl) ?_
    refine Ev.pos (by omega) ?_
    refine Ev.pos (by omega) ?_
    rw [hrd, refseq_is, refseq_is]
    refine Ev.bind (Ev.now _) ?_
    refine Ev.ite (fun a => ?_) (fun a => bad fun hh => a ((seqC_zero _).mpr hh.1))
    refine Ev.bind (Ev.now _) ?_
    refine Ev.ite (fun b => ?_) (fun b => bad fun hh => b ((seqC_zero _).mpr hh.2.1))
    by_cases c : l[i].f0 = l[i].f1
    · rw [show (l[i].f0 == l[i].f1) = true from by rw [c]; exact beq_self_eq_true _]
      exact bad fun hh => hh.2.2 c
    · rw [show (l[i].f0 == l[i].f1) = false from beq_eq_false_iff_ne.mpr c]
      refine Ev.step (fun k => by simp only [sternpostref07_Check.j2]; rfl) ?_
      refine Ev.neg (by decide) ?_
      rw [w64 (by omega) (by omega)]
      refine ih (i + 1) (by omega) (by omega) fun x hx => ?_
      rw [List.take_succ_eq_append_getElem hlt, List.mem_append] at hx
      rcases hx with hx | hx
      · exact ht x hx
      · rw [List.mem_singleton] at hx
        subst hx
        exact ⟨(seqC_zero _).mp a, (seqC_zero _).mp b, c⟩
theorem refoptcheck_ev (hl : l.length < 1000000000000000) : Ev (fun k => sternpostref07_Check.f k m sc st ec sd sk sp l) (optC m sc st ec sd sk sp l) := by
  have bad : ¬ optFit m sc st ec sd sk sp l → Ev (fun k => sternpostref07_Check.j0 k true m sc st ec sd sk sp l) (optC m sc st ec sd sk sp l) := by
    intro h
    refine Ev.step (fun k => by simp only [sternpostref07_Check.j0]; rfl) ?_
    exact Ev.pos trivial (Ev.val (Ev.now _) (optC_no m sc st ec sd sk sp l h).symm)
  unfold sternpostref07_Check.f
  refine Ev.ite (fun h => bad fun hh => by have := hh.1; omega) (fun m0 => ?_)
  refine Ev.ite (fun h => bad fun hh => by have := hh.2.1; omega) (fun m1 => ?_)
  refine Ev.ite (fun h => bad fun hh => by have := hh.2.2.1; omega) (fun s0 => ?_)
  refine Ev.ite (fun h => bad fun hh => by have := hh.2.2.2.1; omega) (fun s1 => ?_)
  have last : seqOk st → seqOk ec → (sd = true ∨ sc = 0) → (sp = true ∨ st = 0 ∧ ec = 0) → Ev (fun k => sternpostref07_Check.j0 k (decide ((l.length : Int) > 4)) m sc st ec sd sk sp l) (optC m sc st ec sd sk sp l) := by
    intro h1 h2 h3 h5
    by_cases h4 : (l.length : Int) > 4
    · rw [decide_eq_true h4]; exact bad fun hh => by have := hh.2.2.2.2.1; omega
    · rw [decide_eq_false h4]
      refine Ev.step (fun k => by simp only [sternpostref07_Check.j0]; rfl) ?_
      refine Ev.neg (by decide) ?_
      exact refoptck_l0 m sc st ec sd sk sp l hl (fun hall => ⟨by omega, by omega, by omega, by omega, by omega, h1, h2, h3, h5, hall⟩) l.length 0 rfl (by omega) (fun x hx => absurd hx (by simp))
  have rest : (sd = true ∨ sc = 0) → Ev (fun k => (sternpostref01_Check.f st).bind fun t170 => (if t170 = 0 then ((sternpostref01_Check.f ec).bind fun t171 => (if t171 = 0 then (if sp = true then (sternpostref07_Check.j0 k (decide ((l.length : Int) > 4)) m sc st ec sd sk sp l) else (if st = 0 then (if ec = 0 then (sternpostref07_Check.j0 k (decide ((l.length : Int) > 4)) m sc st ec sd sk sp l) else (sternpostref07_Check.j0 k true m sc st ec sd sk sp l)) else (sternpostref07_Check.j0 k true m sc st ec sd sk sp l))) else (sternpostref07_Check.j0 k true m sc st ec sd sk sp l))) else (sternpostref07_Check.j0 k true m sc st ec sd sk sp l))) (optC m sc st ec sd sk sp l) := by
    intro hsd
    rw [refseq_is, refseq_is]
    refine Ev.bind (Ev.now _) ?_
    refine Ev.ite (fun a => ?_) (fun a => bad fun hh => a ((seqC_zero _).mpr hh.2.2.2.2.2.1))
    refine Ev.bind (Ev.now _) ?_
    refine Ev.ite (fun b => ?_) (fun b => bad fun hh => b ((seqC_zero _).mpr hh.2.2.2.2.2.2.1))
    have a := (seqC_zero _).mp a
    have b := (seqC_zero _).mp b
    refine Ev.ite (fun c => last a b hsd (.inl c)) (fun c => ?_)
    have no : ¬ (st = 0 ∧ ec = 0) → ¬ optFit m sc st ec sd sk sp l := fun hz hh => by
      rcases hh.2.2.2.2.2.2.2.2.1 with h | h
      · exact c h
      · exact hz h
    refine Ev.ite (fun d => ?_) (fun d => bad (no fun hz => d hz.1))
    exact Ev.ite (fun e => last a b hsd (.inr ⟨d, e⟩)) (fun e => bad (no fun hz => e hz.2))
  refine Ev.ite (fun hd => rest (.inl hd)) (fun hd => ?_)
  refine Ev.ite (fun hz => rest (.inr hz)) (fun hz => bad fun hh => ?_)
  rcases hh.2.2.2.2.2.2.2.1 with h | h
  · exact hd h
  · exact hz h
end
section
variable (m sc st ec : Int) (sd sk sp : Bool) (l : List S35) (m' sc' st' ec' : Int) (sd' sk' sp' : Bool) (l' : List S35)
theorem optSame_no (h : ¬ (m = m' ∧ sc = sc' ∧ st = st' ∧ ec = ec' ∧ sd = sd' ∧ sk = sk' ∧ sp = sp' ∧ l = l')) : false = optSame m sc st ec sd sk sp l m' sc' st' ec' sd' sk' sp' l' := by
  cases hh : optSame m sc st ec sd sk sp l m' sc' st' ec' sd' sk' sp' l'
  · rfl
  · exact absurd ((optSame_iff m sc st ec sd sk sp l m' sc' st' ec' sd' sk' sp' l').mp hh) h
theorem refoptsame_l0 (hlen : l.length = l'.length) (hl : l.length < 1000000000000000) : ∀ (d i : Nat), l.length - i = d → i ≤ l.length → l.take i = l'.take i →
    Ev (fun k => sternpostref07_Same.l0 k (i : Int) m sc st ec sd sk sp l m' sc' st' ec' sd' sk' sp' l') (optSame m sc st ec sd sk sp l m' sc' st' ec' sd' sk' sp' l') := by
  intro d
  induction d with
  | zero =>
    intro i hd hi ht
    obtain rfl : i = l.length := by omega
    rw [List.take_length, hlen, List.take_length] at ht
    refine Ev.step (fun k => by simp only [sternpostref07_Same.l0]; rfl) ?_
    refine Ev.neg (by omega) ?_
    refine Ev.ite (fun h1 => ?_) (fun h1 => Ev.val (Ev.now _) (optSame_no _ _ _ _ _ _ _ _ _ _ _ _ _ _ _ _ fun hh => h1 hh.1))
    refine Ev.ite (fun h2 => ?_) (fun h1 => Ev.val (Ev.now _) (optSame_no _ _ _ _ _ _ _ _ _ _ _ _ _ _ _ _ fun hh => h1 hh.2.1))
    refine Ev.ite (fun h3 => ?_) (fun h1 => Ev.val (Ev.now _) (optSame_no _ _ _ _ _ _ _ _ _ _ _ _ _ _ _ _ fun hh => h1 hh.2.2.1))
    refine Ev.ite (fun h4 => ?_) (fun h1 => Ev.val (Ev.now _) (optSame_no _ _ _ _ _ _ _ _ _ _ _ _ _ _ _ _ fun hh => h1 hh.2.2.2.1))
    refine Ev.ite (fun h5 => ?_) (fun h1 => Ev.val (Ev.now _) (optSame_no _ _ _ _ _ _ _ _ _ _ _ _ _ _ _ _ fun hh => h1 (by rw [hh.2.2.2.2.1]; exact beq_self_eq_true _)))
    refine Ev.ite (fun h6 => ?_) (fun h1 => Ev.val (Ev.now _) (optSame_no _ _ _ _ _ _ _ _ _ _ _ _ _ _ _ _ fun hh => h1 (by rw [hh.2.2.2.2.2.1]; exact beq_self_eq_true _)))
    refine Ev.val (Ev.now _) ?_
    cases hp : (sp == sp')
    · exact optSame_no _ _ _ _ _ _ _ _ _ _ _ _ _ _ _ _ fun hh => by rw [hh.2.2.2.2.2.2.1] at hp; exact absurd hp (by simp)
    · exact ((optSame_iff m sc st ec sd sk sp l m' sc' st' ec' sd' sk' sp' l').mpr ⟨h1, h2, h3, h4, eq_of_beq h5, eq_of_beq h6, eq_of_beq hp, ht⟩).symm
  | succ d ih =>
    intro i hd hi ht
    have h1 : i < l.length := by omega
    have h2 : i < l'.length := by omega
    have e1 : rd_T35 l (i : Int) = l[i] := by simp [rd_T35, h1]
    have e2 : rd_T35 l' (i : Int) = l'[i] := by simp [rd_T35, h2]
    refine Ev.step (fun k => by simp only [sternpostref07_Same.l0]; rfl) ?_
    refine Ev.pos (by omega) ?_
    refine Ev.pos (by omega) ?_
    refine Ev.pos (by omega) ?_
    rw [e1, e2, rg_ne]
    by_cases h : l[i] = l'[i]
    · rw [decide_eq_true h]
      refine Ev.neg (by decide) ?_
      rw [w64 (by omega) (by omega)]
      exact ih (i + 1) (by omega) (by omega) (by rw [List.take_succ_eq_append_getElem h1, List.take_succ_eq_append_getElem h2, ht, h])
    · rw [decide_eq_false h]
      refine Ev.pos (by decide) ?_
      refine Ev.val (Ev.now _) (optSame_no _ _ _ _ _ _ _ _ _ _ _ _ _ _ _ _ fun hh => ?_)
      obtain ⟨_, _, _, _, _, _, _, hh⟩ := hh
      subst hh
      exact h rfl
theorem refoptsame_ev (hl : l.length < 1000000000000000) : Ev (fun k => sternpostref07_Same.f k m sc st ec sd sk sp l m' sc' st' ec' sd' sk' sp' l') (optSame m sc st ec sd sk sp l m' sc' st' ec' sd' sk' sp' l') := by
  unfold sternpostref07_Same.f
  refine Ev.ite (fun h => ?_) (fun h => ?_)
  · exact refoptsame_l0 m sc st ec sd sk sp l m' sc' st' ec' sd' sk' sp' l' (by omega) hl l.length 0 rfl (by omega) (by simp)
  · refine Ev.val (Ev.now _) (optSame_no _ _ _ _ _ _ _ _ _ _ _ _ _ _ _ _ fun hh => ?_)
    obtain ⟨_, _, _, _, _, _, _, hh⟩ := hh
    subst hh
    exact h rfl
end
/-! ### options, read: one option -/
theorem Ev.uniq {α : Type} {g : Nat → Option α} {r r' : α} (h : Ev g r) (h' : Ev g r') : r = r' := by
  obtain ⟨K, h⟩ := h
  obtain ⟨K', h'⟩ := h'
  exact Option.some.inj ((h (max K K') (by omega)).symm.trans (h' (max K K') (by omega)))
theorem wf_of {n : Int} (h : -9223372036854775808 ≤ n ∧ n < 9223372036854775808) : (Lit.int .i64 n).wf = true := by
  have e : (Lit.int .i64 n).wf = decide (IntKind.i64.min ≤ n ∧ n ≤ 9223372036854775807) := by simp [Lit.wf]
  rw [e, show IntKind.i64.min = -9223372036854775808 from by decide]
  exact decide_eq_true ⟨by omega, by omega⟩
theorem known_tot (a : Int) : ∃ b, Ev (fun k => opts_known.f k a) b := by
  have j1 : ∀ x, Ev (fun k => opts_known.j1 k x) x := fun x => by
    refine Ev.step (fun k => by simp only [opts_known.j1]; rfl) ?_
    cases x
    · exact Ev.neg (by decide) (Ev.now _)
    · exact Ev.pos rfl (Ev.now _)
  have j0 : ∀ a x, ∃ b, Ev (fun k => opts_known.j0 k a x) b := fun a x => by
    cases x with
    | true => exact ⟨true, Ev.step (fun k => by simp only [opts_known.j0]; rfl) (Ev.pos trivial (Ev.now _))⟩
    | false =>
      by_cases h : a = 5
      · exact ⟨_, Ev.step (fun k => by simp only [opts_known.j0]; rfl) (Ev.neg (by decide) (Ev.pos h (j1 _)))⟩
      · exact ⟨_, Ev.step (fun k => by simp only [opts_known.j0]; rfl) (Ev.neg (by decide) (Ev.neg h (j1 _)))⟩
  unfold opts_known.f
  by_cases h2 : a = 2
  · obtain ⟨b, hb⟩ := j0 a (a == 2); exact ⟨b, Ev.pos h2 hb⟩
  by_cases h3 : a = 3
  · obtain ⟨b, hb⟩ := j0 a (a == 3); exact ⟨b, Ev.neg h2 (Ev.pos h3 hb)⟩
  · obtain ⟨b, hb⟩ := j0 a (a == 4); exact ⟨b, Ev.neg h2 (Ev.neg h3 hb)⟩
theorem get_in (L : List UInt8) (a b : Nat) (hL : L.length ≤ 1000) (hb1 : 1 ≤ b) (hb : b ≤ 6) (h : a + b ≤ L.length) : sum_Get.f (mkB L) (a : Int) (b : Int) = some (((SP.num ((L.drop a).take b) : Nat) : Int), 0) := by
  rw [get_ev (mkB L) (by rw [mkB_size]; omega) a b (by omega) (by omega), GetS, mkB_size, if_neg (by omega), by_mkB, nat_toNat, nat_toNat]
theorem get_tot (L : List UInt8) (a b : Nat) (hL : L.length ≤ 1000) (ha : a ≤ 1000) (hb : b ≤ 6) : ∃ v e, sum_Get.f (mkB L) (a : Int) (b : Int) = some (v, e) ∧ 0 ≤ v ∧ v < 281474976710656 := by
  rw [get_ev (mkB L) (by rw [mkB_size]; omega) a b (by omega) (by omega), GetS]
  by_cases h : ((b : Int) < 1 ∨ 6 < (b : Int) ∨ (a : Int) < 0 ∨ ((mkB L).size : Int) < a + b)
  · rw [if_pos h]; exact ⟨_, _, rfl, by omega, by omega⟩
  · rw [if_neg h]
    refine ⟨_, _, rfl, by omega, ?_⟩
    have hl := SP.num_lt ((((SP.by_ (mkB L)).drop (a : Int).toNat).take (b : Int).toNat))
    have hp : 256 ^ ((((SP.by_ (mkB L)).drop (a : Int).toNat).take (b : Int).toNat)).length ≤ 256 ^ 6 := Nat.pow_le_pow_right (by omega) (by rw [List.length_take]; omega)
    have e6 : 256 ^ 6 = 281474976710656 := by decide
    omega
/-- the range that stands at a place -/
def rgN (L : List UInt8) (i : Nat) : S35 := ⟨((SP.num ((L.drop (8 * i)).take 4) : Nat) : Int), ((SP.num ((L.drop (8 * i + 4)).take 4) : Nat) : Int)⟩
def rgsN (L : List UInt8) (n : Nat) : List S35 := (List.range n).map (rgN L)
theorem num4 (L : List UInt8) (a : Nat) : SP.num ((L.drop a).take 4) < 4294967296 := by
  have hl := SP.num_lt ((L.drop a).take 4)
  have hp : 256 ^ ((L.drop a).take 4).length ≤ 256 ^ 4 := Nat.pow_le_pow_right (by omega) (by rw [List.length_take]; omega)
  have e4 : 256 ^ 4 = 4294967296 := by decide
  omega
theorem rgsN_fit (L : List UInt8) (n : Nat) : ∀ x ∈ rgsN L n, fit35 x := by
  intro x hx
  obtain ⟨i, _, rfl⟩ := List.mem_map.1 hx
  have h1 := num4 L (8 * i)
  have h2 := num4 L (8 * i + 4)
  exact ⟨wf_of (by unfold rgN; dsimp only; omega), wf_of (by unfold rgN; dsimp only; omega)⟩
theorem rgsN_len (L : List UInt8) (n : Nat) : (rgsN L n).length = n := by simp [rgsN]
theorem readsl_ev (L : List UInt8) (hL : L.length ≤ 300) (l : List S35) (hl : l.length ≤ 1000) : ∀ (d i : Nat), L.length / 8 - i = d → i ≤ L.length / 8 →
    Ev (fun k => opts_read.sl k (mkB L) ((8 * i : Nat) : Int) (l ++ rgsN L i)) (l ++ rgsN L (L.length / 8)) := by
  intro d
  induction d with
  | zero =>
    intro i hd hi
    obtain rfl : i = L.length / 8 := by omega
    refine Ev.step (fun k => by simp only [opts_read.sl]; rfl) ?_
    rw [w64 (by omega) (by omega), mkB_size]
    exact Ev.neg (by omega) (Ev.now _)
  | succ d ih =>
    intro i hd hi
    refine Ev.step (fun k => by simp only [opts_read.sl]; rfl) ?_
    rw [w64 (n := ((8 * i : Nat) : Int) + 8) (by omega) (by omega), w64 (n := ((8 * i : Nat) : Int) + 4) (by omega) (by omega), mkB_size]
    refine Ev.pos (by omega) ?_
    have g1 := get_in L (8 * i) 4 (by omega) (by omega) (by omega) (by omega)
    have g2 := get_in L (8 * i + 4) 4 (by omega) (by omega) (by omega) (by omega)
    rw [show ((8 * i : Nat) : Int) + 4 = ((8 * i + 4 : Nat) : Int) from by omega, show ((8 * i : Nat) : Int) + 8 = ((8 * (i + 1) : Nat) : Int) from by omega]
    rw [show ((4 : Nat) : Int) = 4 from rfl] at g1 g2
    rw [g1, g2]
    refine Ev.bind (Ev.now _) ?_
    refine Ev.bind (Ev.now _) ?_
    refine Ev.pos (by rw [List.length_append, rgsN_len]; omega) ?_
    have e : l ++ rgsN L i ++ [rgN L i] = l ++ rgsN L (i + 1) := by rw [List.append_assoc, rgsN, rgsN, List.range_succ, List.map_append]; rfl
    have := ih (i + 1) (by omega) (by omega)
    rw [← e] at this
    exact this
theorem rgsB_drop (l : List S35) : ∀ i, (rgsB l).drop (8 * i) = rgsB (l.drop i) := by
  induction l with
  | nil => intro i; simp [rgsB]
  | cons x l ih =>
    intro i
    cases i with
    | zero => rfl
    | succ i =>
      have h : rgsB (x :: l) = rgB x ++ rgsB l := rfl
      have h8 := rgB_len x
      rw [h, List.drop_append, List.drop_of_length_le (by omega), List.nil_append, h8, show 8 * (i + 1) - 8 = 8 * i from by omega, ih, List.drop_succ_cons]
theorem rgsN_back (l : List S35) (hl : ∀ x ∈ l, rgOk x) : rgsN (rgsB l) l.length = l := by
  apply List.ext_getElem
  · rw [rgsN_len]
  · intro i h1 h2
    simp only [rgsN, List.getElem_map, List.getElem_range]
    have hx := hl l[i] (List.getElem_mem h2)
    have hd : (rgsB l).drop (8 * i) = rgB l[i] ++ rgsB (l.drop (i + 1)) := by
      rw [rgsB_drop, List.drop_eq_getElem_cons h2]; rfl
    have hd4 : (rgsB l).drop (8 * i + 4) = SP.bytesN l[i].f1.toNat 4 ++ rgsB (l.drop (i + 1)) := by
      have l4 := SP.bytesN_len l[i].f0.toNat 4
      rw [← List.drop_drop, hd, rgB, List.append_assoc, List.drop_append, List.drop_of_length_le (by omega), List.nil_append, l4, Nat.sub_self, List.drop_zero]
    have t0 : ((rgsB l).drop (8 * i)).take 4 = SP.bytesN l[i].f0.toNat 4 := by
      have l4 := SP.bytesN_len l[i].f0.toNat 4
      rw [hd, rgB, List.append_assoc, List.take_append_of_le_length (by omega), List.take_of_length_le (by omega)]
    have t4 : ((rgsB l).drop (8 * i + 4)).take 4 = SP.bytesN l[i].f1.toNat 4 := by
      have l4 := SP.bytesN_len l[i].f1.toNat 4
      rw [hd4, List.take_append_of_le_length (by omega), List.take_of_length_le (by omega)]
    unfold rgN
    rw [t0, t4, SP.num_bytesN, SP.num_bytesN]
    have e4 : 256 ^ 4 = 4294967296 := by decide
    obtain ⟨a, b, _⟩ := hx
    unfold seqOk at a b
    generalize l[i] = x at a b ⊢
    cases x with
    | mk p q =>
      simp only at a b ⊢
      rw [Nat.mod_eq_of_lt (by omega), Nat.mod_eq_of_lt (by omega), Int.toNat_of_nonneg (by omega), Int.toNat_of_nonneg (by omega)]
/-- what decoding has so far -/
abbrev O8 : Type := Int × Int × Int × Int × Bool × Bool × Bool × List S35
def inv8 (n : Nat) (st ec : Int) (l : List S35) : Prop := (-9223372036854775808 ≤ st ∧ st < 9223372036854775808) ∧ (-9223372036854775808 ≤ ec ∧ ec < 9223372036854775808) ∧ l.length ≤ n ∧ ∀ x ∈ l, fit35 x
theorem inv8.more {n n' : Nat} {st ec : Int} {l : List S35} (h : inv8 n st ec l) (hn : n ≤ n') : inv8 n' st ec l := ⟨h.1, h.2.1, by have := h.2.2.1; omega, h.2.2.2⟩
theorem read_tot (m sc st ec : Int) (sd sk sp : Bool) (l : List S35) (kd : Int) (L : List UInt8) (hL : L.length ≤ 300) (n : Nat) (hn : n ≤ 1000) (h : inv8 n st ec l) :
    ∃ r, Ev (fun k => opts_read.f k m sc st ec sd sk sp l kd (mkB L)) r ∧ inv8 (n + L.length) r.2.2.1 r.2.2.2.1 r.2.2.2.2.2.2.2.1 := by
  have h' := h.more (Nat.le_add_right n L.length)
  unfold opts_read.f
  by_cases k2 : kd = 2
  · obtain ⟨v, e, hv, _, _⟩ := get_tot L 0 2 (by omega) (by omega) (by omega)
    rw [show ((0 : Nat) : Int) = 0 from rfl, show ((2 : Nat) : Int) = 2 from rfl] at hv
    rw [hv]
    exact ⟨_, Ev.pos k2 (Ev.bind (Ev.now _) (Ev.now _)), h'⟩
  by_cases k3 : kd = 3
  · obtain ⟨v, e, hv, _, _⟩ := get_tot L 0 1 (by omega) (by omega) (by omega)
    rw [show ((0 : Nat) : Int) = 0 from rfl, show ((1 : Nat) : Int) = 1 from rfl] at hv
    rw [hv]
    exact ⟨_, Ev.neg k2 (Ev.pos k3 (Ev.bind (Ev.now _) (Ev.now _))), h'⟩
  by_cases k4 : kd = 4
  · exact ⟨_, Ev.neg k2 (Ev.neg k3 (Ev.pos k4 (Ev.now _))), h'⟩
  by_cases k5 : kd = 5
  · have hs := readsl_ev L hL l (by have := h.2.2.1; omega) (L.length / 8) 0 rfl (by omega)
    rw [show rgsN L 0 = [] from rfl, List.append_nil] at hs
    refine ⟨_, Ev.neg k2 (Ev.neg k3 (Ev.neg k4 (Ev.pos k5 (Ev.bind hs (Ev.now _))))), h.1, h.2.1, ?_, ?_⟩
    · dsimp only; rw [List.length_append, rgsN_len]; have := h.2.2.1; omega
    · intro x hx
      rcases List.mem_append.1 hx with hx | hx
      · exact h.2.2.2 x hx
      · exact rgsN_fit L _ x hx
  by_cases k8 : kd = 8
  · obtain ⟨v, e, hv, v0, v1⟩ := get_tot L 0 4 (by omega) (by omega) (by omega)
    obtain ⟨u, f, hu, u0, u1⟩ := get_tot L 4 4 (by omega) (by omega) (by omega)
    rw [show ((0 : Nat) : Int) = 0 from rfl, show ((4 : Nat) : Int) = 4 from rfl] at hv
    rw [show ((4 : Nat) : Int) = 4 from rfl] at hu
    rw [hv, hu]
    refine ⟨_, Ev.neg k2 (Ev.neg k3 (Ev.neg k4 (Ev.neg k5 (Ev.pos k8 (Ev.bind (Ev.now _) (Ev.bind (Ev.now _) (Ev.now _))))))), ?_, ?_, h'.2.2.1, h'.2.2.2⟩
    · dsimp only; omega
    · dsimp only; omega
  · exact ⟨_, Ev.neg k2 (Ev.neg k3 (Ev.neg k4 (Ev.neg k5 (Ev.neg k8 (Ev.now _))))), h'⟩
/-! ### options, decoded -/
section
variable (seen : List Int) (m sc st ec : Int) (sd sk sp : Bool) (l : List S35)
theorem bt_head (P : List UInt8) (i : Nat) : bt (mkB P) (i : Int) = ((SP.nth P i : Nat) : Int) := by rw [bt_nth, by_mkB]
theorem bt_zero (P : List UInt8) : bt (mkB P) 0 = ((SP.nth P 0 : Nat) : Int) := bt_head P 0
theorem bt_one (P : List UInt8) : bt (mkB P) 1 = ((SP.nth P 1 : Nat) : Int) := bt_head P 1
theorem cut_rest' (P : List UInt8) (i : Nat) : cutS (mkB P) i (mkB P).size = mkB (P.drop i) := by rw [cut_from, by_mkB]
theorem lp_nil : Ev (fun k => opts_Decode.lp k (mkB []) seen m sc st ec sd sk sp l) (some (m, sc, st, ec, sd, sk, sp, l)) := by
  refine Ev.step (fun k => by simp only [opts_Decode.lp]; rfl) ?_
  exact Ev.neg (by rw [mkB_size]; simp) (Ev.now _)
theorem lp_end (t : List UInt8) : Ev (fun k => opts_Decode.lp k (mkB (0 :: t)) seen m sc st ec sd sk sp l) (some (m, sc, st, ec, sd, sk, sp, l)) := by
  refine Ev.step (fun k => by simp only [opts_Decode.lp]; rfl) ?_
  rw [bt_zero]
  exact Ev.pos (by rw [mkB_size, List.length_cons]; omega) (Ev.pos rfl (Ev.now _))
theorem lp_nop (t : List UInt8) {r} (h : Ev (fun k => opts_Decode.lp k (mkB t) seen m sc st ec sd sk sp l) r) : Ev (fun k => opts_Decode.lp k (mkB (1 :: t)) seen m sc st ec sd sk sp l) r := by
  refine Ev.step (fun k => by simp only [opts_Decode.lp]; rfl) ?_
  rw [bt_zero, cut_rest']
  exact Ev.pos (by rw [mkB_size, List.length_cons]; omega) (Ev.neg (by have : SP.nth (1 :: t) 0 = 1 := rfl; omega) (Ev.pos rfl h))
theorem lp_go (P : List UInt8) (h2 : 2 ≤ P.length) (b0 : ¬ SP.nth P 0 = 0) (b1 : ¬ SP.nth P 0 = 1) (c2 : 2 ≤ SP.nth P 1) (cl : SP.nth P 1 ≤ P.length) {kn : Bool} (hk : Ev (fun k => opts_known.f k ((SP.nth P 0 : Nat) : Int)) kn)
    (hs : ¬ (decide (((SP.nth P 0 : Nat) : Int) ∈ seen) && kn) = true) {rd : Int × Int × Int × Int × Bool × Bool × Bool × List S35 × Bool} (hr : Ev (fun k => opts_read.f k m sc st ec sd sk sp l ((SP.nth P 0 : Nat) : Int) (mkB ((P.drop 2).take (SP.nth P 1 - 2)))) rd) (hok : rd.2.2.2.2.2.2.2.2 = true) {r}
    (h : Ev (fun k => opts_Decode.lp k (mkB (P.drop (SP.nth P 1))) (((SP.nth P 0 : Nat) : Int) :: seen) rd.1 rd.2.1 rd.2.2.1 rd.2.2.2.1 rd.2.2.2.2.1 rd.2.2.2.2.2.1 rd.2.2.2.2.2.2.1 rd.2.2.2.2.2.2.2.1) r) : Ev (fun k => opts_Decode.lp k (mkB P) seen m sc st ec sd sk sp l) r := by
  refine Ev.step (fun k => by simp only [opts_Decode.lp]; rfl) ?_
  rw [bt_zero, bt_one, nat_toNat, cut_rest', cut_rest', cut_mk, by_mkB]
  refine Ev.pos (by rw [mkB_size]; omega) (Ev.neg (by omega) (Ev.neg (by omega) (Ev.neg (by rw [mkB_size]; omega) (Ev.neg (by omega) (Ev.neg (by rw [mkB_size]; omega) ?_)))))
  exact Ev.bind hk (Ev.neg hs (Ev.bind hr (Ev.pos hok h)))
/-- decoding ends; what is read of bytes that end well is read of them with bytes 1, 0 and whatever behind them -/
theorem lp_tot : ∀ (N : Nat) (P : List UInt8) (seen : List Int) (m sc st ec : Int) (sd sk sp : Bool) (l : List S35) (n : Nat), P.length ≤ N → N ≤ 250 → n + P.length ≤ 1000 → inv8 n st ec l →
    ∃ r : Option O8, Ev (fun k => opts_Decode.lp k (mkB P) seen m sc st ec sd sk sp l) r ∧ ∀ o, r = some o → inv8 1000 o.2.2.1 o.2.2.2.1 o.2.2.2.2.2.2.2 ∧ ∀ t : List UInt8, Ev (fun k => opts_Decode.lp k (mkB (P ++ 1 :: 0 :: t)) seen m sc st ec sd sk sp l) (some o) := by
  intro N
  induction N with
  | zero =>
    intro P seen m sc st ec sd sk sp l n hP _ hn hi
    obtain rfl : P = [] := List.length_eq_zero_iff.mp (by omega)
    refine ⟨_, lp_nil seen m sc st ec sd sk sp l, fun o e => ?_⟩
    obtain rfl := Option.some.inj e
    exact ⟨hi.more (by omega), fun t => lp_nop seen m sc st ec sd sk sp l _ (lp_end seen m sc st ec sd sk sp l t)⟩
  | succ N ih =>
    intro P seen m sc st ec sd sk sp l n hP hN hn hi
    by_cases p0 : P = []
    · exact ih P seen m sc st ec sd sk sp l n (by subst p0; exact Nat.zero_le _) (by omega) hn hi
    have hpos : 0 < P.length := List.length_pos_iff.mpr p0
    obtain ⟨b, Q, rfl⟩ : ∃ b Q, P = b :: Q := ⟨P.head p0, P.tail, (List.cons_head_tail p0).symm⟩
    rw [List.length_cons] at hP hn
    by_cases e0 : b = 0
    · subst e0
      refine ⟨_, lp_end seen m sc st ec sd sk sp l Q, fun o e => ?_⟩
      obtain rfl := Option.some.inj e
      exact ⟨hi.more (by omega), fun t => lp_end seen m sc st ec sd sk sp l _⟩
    by_cases e1 : b = 1
    · subst e1
      obtain ⟨r, hr, hx⟩ := ih Q seen m sc st ec sd sk sp l n (by omega) (by omega) (by omega) hi
      exact ⟨r, lp_nop seen m sc st ec sd sk sp l Q hr, fun o e => ⟨(hx o e).1, fun t => lp_nop seen m sc st ec sd sk sp l _ ((hx o e).2 t)⟩⟩
    have n0 : ∀ R, SP.nth (b :: R) 0 = b.toNat := fun R => rfl
    have nb0 : ¬ b.toNat = 0 := fun h => e0 (UInt8.toNat_inj.mp h)
    have nb1 : ¬ b.toNat = 1 := fun h => e1 (UInt8.toNat_inj.mp h)
    have no : ∀ {g : Nat → Option (Option O8)}, Ev g none → ∃ r : Option O8, Ev g r ∧ ∀ o, r = some o → inv8 1000 o.2.2.1 o.2.2.2.1 o.2.2.2.2.2.2.2 ∧ ∀ t : List UInt8, Ev (fun k => opts_Decode.lp k (mkB (b :: Q ++ 1 :: 0 :: t)) seen m sc st ec sd sk sp l) (some o) := fun h => ⟨none, h, fun o e => by cases e⟩
    have st0 : ∀ {r : Option O8}, Ev (fun k => if ((mkB (b :: Q)).size : Int) < 2 then some none else if ((SP.nth (b :: Q) 1 : Nat) : Int) < 2 then some none else if ((SP.nth (b :: Q) 1 : Nat) : Int) > ((mkB (b :: Q)).size : Int) then some none else
      (opts_known.f k ((SP.nth (b :: Q) 0 : Nat) : Int)).bind fun kn => if (decide (((SP.nth (b :: Q) 0 : Nat) : Int) ∈ seen) && kn) = true then some none else
        (opts_read.f k m sc st ec sd sk sp l ((SP.nth (b :: Q) 0 : Nat) : Int) (mkB (((b :: Q).drop 2).take (SP.nth (b :: Q) 1 - 2)))).bind fun r => if r.2.2.2.2.2.2.2.2 = true then opts_Decode.lp k (mkB ((b :: Q).drop (SP.nth (b :: Q) 1))) (((SP.nth (b :: Q) 0 : Nat) : Int) :: seen) r.1 r.2.1 r.2.2.1 r.2.2.2.1 r.2.2.2.2.1 r.2.2.2.2.2.1 r.2.2.2.2.2.2.1 r.2.2.2.2.2.2.2.1 else some none) r →
      Ev (fun k => opts_Decode.lp k (mkB (b :: Q)) seen m sc st ec sd sk sp l) r := by
      intro r h
      refine Ev.step (fun k => by simp only [opts_Decode.lp]; rfl) ?_
      rw [bt_zero, bt_one, nat_toNat, cut_rest', cut_rest', cut_mk, by_mkB]
      exact Ev.pos (by rw [mkB_size, List.length_cons]; omega) (Ev.neg (by rw [n0]; omega) (Ev.neg (by rw [n0]; omega) h))
    by_cases h2 : Q.length + 1 < 2
    · exact no (st0 (Ev.pos (by rw [mkB_size, List.length_cons]; omega) (Ev.now _)))
    by_cases c2 : SP.nth (b :: Q) 1 < 2
    · exact no (st0 (Ev.neg (by rw [mkB_size, List.length_cons]; omega) (Ev.pos (by omega) (Ev.now _))))
    by_cases cl : SP.nth (b :: Q) 1 > Q.length + 1
    · exact no (st0 (Ev.neg (by rw [mkB_size, List.length_cons]; omega) (Ev.neg (by omega) (Ev.pos (by rw [mkB_size, List.length_cons]; omega) (Ev.now _)))))
    obtain ⟨kn, hk⟩ := known_tot ((SP.nth (b :: Q) 0 : Nat) : Int)
    by_cases hs : (decide (((SP.nth (b :: Q) 0 : Nat) : Int) ∈ seen) && kn) = true
    · exact no (st0 (Ev.neg (by rw [mkB_size, List.length_cons]; omega) (Ev.neg (by omega) (Ev.neg (by rw [mkB_size, List.length_cons]; omega) (Ev.bind hk (Ev.pos hs (Ev.now _)))))))
    have ld : (((b :: Q).drop 2).take (SP.nth (b :: Q) 1 - 2)).length = SP.nth (b :: Q) 1 - 2 := by rw [List.length_take, List.length_drop, List.length_cons]; omega
    obtain ⟨rd, hr, hri⟩ := read_tot m sc st ec sd sk sp l ((SP.nth (b :: Q) 0 : Nat) : Int) (((b :: Q).drop 2).take (SP.nth (b :: Q) 1 - 2)) (by omega) n (by omega) hi
    by_cases hok : rd.2.2.2.2.2.2.2.2 = true
    · have lr : ((b :: Q).drop (SP.nth (b :: Q) 1)).length = Q.length + 1 - SP.nth (b :: Q) 1 := by rw [List.length_drop, List.length_cons]
      rw [ld] at hri
      obtain ⟨r, h1, hx⟩ := ih ((b :: Q).drop (SP.nth (b :: Q) 1)) (((SP.nth (b :: Q) 0 : Nat) : Int) :: seen) rd.1 rd.2.1 rd.2.2.1 rd.2.2.2.1 rd.2.2.2.2.1 rd.2.2.2.2.2.1 rd.2.2.2.2.2.2.1 rd.2.2.2.2.2.2.2.1 (n + (SP.nth (b :: Q) 1 - 2)) (by omega) (by omega) (by omega) hri
      refine ⟨r, lp_go seen m sc st ec sd sk sp l (b :: Q) (by rw [List.length_cons]; omega) nb0 nb1 (by omega) (by rw [List.length_cons]; omega) hk hs hr hok h1, fun o e => ⟨(hx o e).1, fun t => ?_⟩⟩
      have E0 : SP.nth (b :: Q ++ 1 :: 0 :: t) 0 = SP.nth (b :: Q) 0 := rfl
      have E1 : SP.nth (b :: Q ++ 1 :: 0 :: t) 1 = SP.nth (b :: Q) 1 := by
        unfold SP.nth
        rw [List.getD_eq_getElem?_getD, List.getElem?_append_left (by rw [List.length_cons]; omega), ← List.getD_eq_getElem?_getD]
      have E2 : ((b :: Q ++ 1 :: 0 :: t).drop 2).take (SP.nth (b :: Q) 1 - 2) = ((b :: Q).drop 2).take (SP.nth (b :: Q) 1 - 2) := by
        rw [List.drop_append_of_le_length (by rw [List.length_cons]; omega), List.take_append_of_le_length (by rw [List.length_drop, List.length_cons]; omega)]
      have E3 : (b :: Q ++ 1 :: 0 :: t).drop (SP.nth (b :: Q) 1) = (b :: Q).drop (SP.nth (b :: Q) 1) ++ 1 :: 0 :: t := by
        rw [List.drop_append_of_le_length (by rw [List.length_cons]; omega)]
      have h3 := (hx o e).2 t
      refine lp_go seen m sc st ec sd sk sp l (b :: Q ++ 1 :: 0 :: t) (by rw [List.length_append, List.length_cons]; omega) (by rw [E0]; exact nb0) (by rw [E0]; exact nb1) (by rw [E1]; omega) (by rw [E1, List.length_append, List.length_cons]; omega) (kn := kn) (by rw [E0]; exact hk) (by rw [E0]; exact hs) (rd := rd) (by rw [E0, E1, E2]; exact hr) hok (by rw [E0, E1, E3]; exact h3)
    · exact no (st0 (Ev.neg (by rw [mkB_size, List.length_cons]; omega) (Ev.neg (by omega) (Ev.neg (by rw [mkB_size, List.length_cons]; omega) (Ev.bind hk (Ev.neg hs (Ev.bind hr (Ev.neg hok (Ev.now _)))))))))
end
/-- what decoding tells behind its loop -/
def decR (r : Option O8) : Int × Int × Int × Int × Bool × Bool × Bool × List S35 × Int :=
  match r with
  | none => (0, 0, 0, 0, false, false, false, [], 70)
  | some o => if optOk o.1 o.2.1 o.2.2.1 o.2.2.2.1 o.2.2.2.2.1 o.2.2.2.2.2.1 o.2.2.2.2.2.2.1 o.2.2.2.2.2.2.2 then (o.1, o.2.1, o.2.2.1, o.2.2.2.1, o.2.2.2.2.1, o.2.2.2.2.2.1, o.2.2.2.2.2.2.1, o.2.2.2.2.2.2.2, 0) else (0, 0, 0, 0, false, false, false, [], 70)
theorem dec_ev (s : ByteArray) (hs : s.size ≤ 40) (r : Option O8) (h : Ev (fun k => opts_Decode.lp k s [] 0 0 0 0 false false false []) r) (hi : ∀ o, r = some o → inv8 1000 o.2.2.1 o.2.2.2.1 o.2.2.2.2.2.2.2) : Ev (fun k => opts_Decode.f k s) (decR r) := by
  unfold opts_Decode.f
  refine Ev.neg (by omega) (Ev.bind h ?_)
  cases r with
  | none => exact Ev.now _
  | some o =>
    have hi := hi o rfl
    have hc := optcheck_ev o.1 o.2.1 o.2.2.1 o.2.2.2.1 o.2.2.2.2.1 o.2.2.2.2.2.1 o.2.2.2.2.2.2.1 o.2.2.2.2.2.2.2 hi.1 hi.2.1 ⟨by have := hi.2.2.1; omega, hi.2.2.2⟩
    unfold opts_Decode.fin decR
    dsimp only
    refine Ev.bind hc ?_
    unfold optC
    by_cases ok : optOk o.1 o.2.1 o.2.2.1 o.2.2.2.1 o.2.2.2.2.1 o.2.2.2.2.2.1 o.2.2.2.2.2.2.1 o.2.2.2.2.2.2.2
    · rw [if_pos ok, if_pos ok]; exact Ev.pos rfl (Ev.now _)
    · rw [if_neg ok, if_neg ok]; exact Ev.neg (by decide) (Ev.now _)
theorem inv8_zero : inv8 0 0 0 [] := ⟨by omega, by omega, Nat.le_refl _, fun x hx => absurd hx (by simp)⟩
/-! ### the document's options, decoded -/
def isK (a : Int) : Prop := a = 2 ∨ a = 3 ∨ a = 4 ∨ a = 5 ∨ a = 8
instance (a : Int) : Decidable (isK a) := inferInstanceAs (Decidable (_ ∨ _ ∨ _ ∨ _ ∨ _))
theorem known_ev (a : Int) : Ev (fun k => opts_known.f k a) (decide (isK a)) := by
  have j1 : ∀ x, Ev (fun k => opts_known.j1 k x) x := fun x => by
    refine Ev.step (fun k => by simp only [opts_known.j1]; rfl) ?_
    cases x
    · exact Ev.neg (by decide) (Ev.now _)
    · exact Ev.pos rfl (Ev.now _)
  have j0 : ∀ a (x : Bool), Ev (fun k => opts_known.j0 k a x) (x || decide (a = 5 ∨ a = 8)) := fun a x => by
    cases x with
    | true => exact Ev.step (fun k => by simp only [opts_known.j0]; rfl) (Ev.pos trivial (Ev.now _))
    | false =>
      by_cases h : a = 5
      · refine Ev.step (fun k => by simp only [opts_known.j0]; rfl) (Ev.neg (by decide) (Ev.pos h (Ev.val (j1 _) ?_)))
        subst h; decide
      · refine Ev.step (fun k => by simp only [opts_known.j0]; rfl) (Ev.neg (by decide) (Ev.neg h (Ev.val (j1 _) ?_)))
        rw [Bool.false_or]
        by_cases h8 : a = 8
        · subst h8; decide
        · rw [beq_eq_false_iff_ne.mpr h8, decide_eq_false (by omega)]
  unfold opts_known.f
  by_cases h2 : a = 2
  · refine Ev.pos h2 (Ev.val (j0 a _) ?_); subst h2; decide
  by_cases h3 : a = 3
  · refine Ev.neg h2 (Ev.pos h3 (Ev.val (j0 a _) ?_)); subst h3; decide
  · refine Ev.neg h2 (Ev.neg h3 (Ev.val (j0 a _) ?_))
    by_cases h4 : a = 4
    · subst h4; decide
    · rw [beq_eq_false_iff_ne.mpr h4, Bool.false_or]
      by_cases h5 : a = 5 ∨ a = 8
      · rw [decide_eq_true h5]; exact (decide_eq_true (show isK a by unfold isK; omega)).symm
      · rw [decide_eq_false h5]; exact (decide_eq_false (show ¬ isK a by unfold isK; omega)).symm
theorem num_cut (L : List UInt8) (a b : Nat) (h : b - a ≤ 6) : Ev (fun k => sternpostref02_Num.f k (cutS (mkB L) a b)) ((SP.num ((L.drop a).take (b - a)) : Nat) : Int) := by
  rw [cut_mk, by_mkB]
  have := refnum_ev (mkB ((L.drop a).take (b - a))) (by rw [mkB_size, List.length_take]; omega)
  rw [by_mkB] at this
  exact this
theorem partsl_ev (L : List UInt8) (h8 : L.length % 8 = 0) (hL : L.length ≤ 300) : ∀ (d i : Nat), L.length / 8 - i = d → i ≤ L.length / 8 →
    Ev (fun k => sternpostref07_part.sl k (mkB L) (8 * i) (rgsN L i)) (rgsN L (L.length / 8)) := by
  intro d
  induction d with
  | zero =>
    intro i hd hi
    obtain rfl : i = L.length / 8 := by omega
    refine Ev.step (fun k => by simp only [sternpostref07_part.sl]; rfl) ?_
    rw [mkB_size]
    exact Ev.neg (by omega) (Ev.now _)
  | succ d ih =>
    intro i hd hi
    refine Ev.step (fun k => by simp only [sternpostref07_part.sl]; rfl) ?_
    rw [mkB_size]
    refine Ev.pos (by omega) (Ev.pos (by omega) ?_)
    have n1 := num_cut L (8 * i) (8 * i + 4) (by omega)
    have n2 := num_cut L (8 * i + 4) (8 * i + 8) (by omega)
    rw [show 8 * i + 4 - 8 * i = 4 from by omega] at n1
    rw [show 8 * i + 8 - (8 * i + 4) = 4 from by omega] at n2
    refine Ev.bind n1 (Ev.bind n2 (Ev.pos (by rw [rgsN_len]; omega) ?_))
    have e : rgsN L i ++ [rgN L i] = rgsN L (i + 1) := by rw [rgsN, rgsN, List.range_succ, List.map_append]; rfl
    have := ih (i + 1) (by omega) (by omega)
    rw [← e, show 8 * (i + 1) = 8 * i + 8 from by omega] at this
    exact this
section
variable (m sc st ec : Int) (sd sk sp : Bool) (l : List S35)
abbrev O9 : Type := Int × Int × Int × Int × Bool × Bool × Bool × List S35 × Bool
theorem num_nonneg (n : Nat) : (0 : Int) ≤ (n : Int) := by omega
theorem part_twice (kd : Int) (h : isK kd) (s : ByteArray) : Ev (fun k => sternpostref07_part.f k m sc st ec sd sk sp l kd s true) (m, sc, st, ec, sd, sk, sp, l, false) := by
  unfold sternpostref07_part.f
  by_cases k2 : kd = 2
  · exact Ev.pos k2 (Ev.pos rfl (Ev.now _))
  by_cases k3 : kd = 3
  · exact Ev.neg k2 (Ev.pos k3 (Ev.pos rfl (Ev.now _)))
  by_cases k4 : kd = 4
  · exact Ev.neg k2 (Ev.neg k3 (Ev.pos k4 (Ev.pos rfl (Ev.now _))))
  by_cases k5 : kd = 5
  · exact Ev.neg k2 (Ev.neg k3 (Ev.neg k4 (Ev.pos k5 (Ev.pos rfl (Ev.now _)))))
  by_cases k8 : kd = 8
  · exact Ev.neg k2 (Ev.neg k3 (Ev.neg k4 (Ev.neg k5 (Ev.pos k8 (Ev.pos rfl (Ev.now _))))))
  · unfold isK at h; omega
theorem read_part (kd : Int) (L : List UInt8) (hL : L.length ≤ 40) (hl : kd = 5 → l = []) :
    ∃ rd rd' : O9, Ev (fun k => opts_read.f k m sc st ec sd sk sp l kd (mkB L)) rd ∧ Ev (fun k => sternpostref07_part.f k m sc st ec sd sk sp l kd (mkB L) false) rd' ∧ rd.2.2.2.2.2.2.2.2 = rd'.2.2.2.2.2.2.2.2 ∧ (rd.2.2.2.2.2.2.2.2 = true → rd = rd') ∧ (kd ≠ 5 → rd.2.2.2.2.2.2.2.1 = l) := by
  unfold opts_read.f sternpostref07_part.f
  rw [mkB_size]
  have ff : ¬ (false = true) := by decide
  by_cases k2 : kd = 2
  · by_cases h : L.length = 2
    · have g := get_in L 0 2 (by omega) (by omega) (by omega) (by omega)
      rw [show ((0 : Nat) : Int) = 0 from rfl, show ((2 : Nat) : Int) = 2 from rfl, List.drop_zero, List.take_of_length_le (by omega)] at g
      rw [g]
      have n := refnum_ev (mkB L) (by rw [mkB_size]; omega)
      rw [by_mkB] at n
      refine ⟨_, _, Ev.pos k2 (Ev.bind (Ev.now _) (Ev.now _)), Ev.pos k2 (Ev.neg ff (Ev.pos (by omega) (Ev.bind n (Ev.now _)))), ?_, ?_, fun _ => rfl⟩
      all_goals
        dsimp only
        rw [decide_eq_true (show (L.length : Int) = 2 by omega), Bool.true_and]
      · by_cases z : SP.num L = 0
        · rw [z]; decide
        · rw [decide_eq_true (show ((SP.num L : Nat) : Int) > 0 by omega), decide_eq_true (show ((SP.num L : Nat) : Int) ≠ 0 by omega)]
      · intro hp
        have := of_decide_eq_true hp
        rw [hp, decide_eq_true (show ((SP.num L : Nat) : Int) ≠ 0 by omega)]
    · obtain ⟨v, e, hv, _, _⟩ := get_tot L 0 2 (by omega) (by omega) (by omega)
      rw [show ((0 : Nat) : Int) = 0 from rfl, show ((2 : Nat) : Int) = 2 from rfl] at hv
      rw [hv]
      refine ⟨_, _, Ev.pos k2 (Ev.bind (Ev.now _) (Ev.now _)), Ev.pos k2 (Ev.neg ff (Ev.neg (by omega) (Ev.now _))), ?_, ?_, fun _ => rfl⟩
      all_goals
        dsimp only
        rw [decide_eq_false (show ¬ (L.length : Int) = 2 by omega), Bool.false_and]
      intro hp; exact absurd hp (by decide)
  by_cases k3 : kd = 3
  · by_cases h : L.length = 1
    · have g := get_in L 0 1 (by omega) (by omega) (by omega) (by omega)
      rw [show ((0 : Nat) : Int) = 0 from rfl, show ((1 : Nat) : Int) = 1 from rfl, List.drop_zero, List.take_of_length_le (by omega)] at g
      rw [g]
      have hn : ((SP.num L : Nat) : Int) = bt (mkB L) 0 := by
        obtain ⟨b, rfl⟩ := List.length_eq_one_iff.mp h
        rw [bt_zero]; simp [SP.num, SP.nth]
      rw [hn]
      refine ⟨_, _, Ev.neg k2 (Ev.pos k3 (Ev.bind (Ev.now _) (Ev.now _))), Ev.neg k2 (Ev.pos k3 (Ev.neg ff (Ev.pos (by omega) (Ev.now _)))), ?_, ?_, fun _ => rfl⟩
      all_goals
        dsimp only
        rw [decide_eq_true (show (L.length : Int) = 1 by omega)]
      intro _; rfl
    · obtain ⟨v, e, hv, _, _⟩ := get_tot L 0 1 (by omega) (by omega) (by omega)
      rw [show ((0 : Nat) : Int) = 0 from rfl, show ((1 : Nat) : Int) = 1 from rfl] at hv
      rw [hv]
      refine ⟨_, _, Ev.neg k2 (Ev.pos k3 (Ev.bind (Ev.now _) (Ev.now _))), Ev.neg k2 (Ev.pos k3 (Ev.neg ff (Ev.neg (by omega) (Ev.now _)))), ?_, ?_, fun _ => rfl⟩
      all_goals
        dsimp only
        rw [decide_eq_false (show ¬ (L.length : Int) = 1 by omega)]
      intro hp; exact absurd hp (by decide)
  by_cases k4 : kd = 4
  · exact ⟨_, _, Ev.neg k2 (Ev.neg k3 (Ev.pos k4 (Ev.now _))), Ev.neg k2 (Ev.neg k3 (Ev.pos k4 (Ev.neg ff (Ev.now _)))), rfl, fun _ => rfl, fun _ => rfl⟩
  by_cases k5 : kd = 5
  · obtain rfl := hl k5
    have hs := readsl_ev L (by omega) [] (by decide) (L.length / 8) 0 rfl (by omega)
    rw [show rgsN L 0 = [] from rfl, List.append_nil, List.nil_append] at hs
    have A := Ev.neg k2 (f := fun k => if kd = 3 then (sum_Get.f (mkB L) 0 1).bind fun g => some (m, g.1, st, ec, true, sk, sp, ([] : List S35), decide ((L.length : Int) = 1)) else if kd = 4 then some (m, sc, st, ec, sd, true, sp, [], (mkB L).toList.isEmpty) else if kd = 5 then (opts_read.sl k (mkB L) 0 []).bind fun l' => some (m, sc, st, ec, sd, sk, sp, l', decide ((L.length : Int) > 0) && (decide ((L.length : Int) = wrap64 (8 * (l'.length : Int))) && decide ((l'.length : Int) ≤ 4))) else if kd = 8 then (sum_Get.f (mkB L) 0 4).bind fun g1 => (sum_Get.f (mkB L) 4 4).bind fun g2 => some (m, sc, g1.1, g2.1, sd, sk, true, [], decide ((L.length : Int) = 8)) else some (m, sc, st, ec, sd, sk, sp, [], true)) (g := fun k => (sum_Get.f (mkB L) 0 2).bind fun g => some (g.1, sc, st, ec, sd, sk, sp, [], decide ((L.length : Int) = 2) && decide (g.1 > 0))) (Ev.neg k3 (Ev.neg k4 (Ev.pos k5 (Ev.bind hs (Ev.now (m, sc, st, ec, sd, sk, sp, rgsN L (L.length / 8), decide ((L.length : Int) > 0) && (decide ((L.length : Int) = wrap64 (8 * ((rgsN L (L.length / 8)).length : Int))) && decide (((rgsN L (L.length / 8)).length : Int) ≤ 4)))))))) 
    rw [rgsN_len, w64 (n := 8 * ((L.length / 8 : Nat) : Int)) (by omega) (by omega)] at A
    by_cases h : (L.length : Int) % 8 = 0 ∧ 8 ≤ (L.length : Int) ∧ (L.length : Int) ≤ 32
    · have hp := partsl_ev L (by omega) (by omega) (L.length / 8) 0 rfl (by omega)
      rw [show rgsN L 0 = [] from rfl] at hp
      refine ⟨_, _, A, Ev.neg k2 (Ev.neg k3 (Ev.neg k4 (Ev.pos k5 (Ev.neg ff (Ev.pos h (Ev.bind hp (Ev.now _))))))), ?_, ?_, fun h5 => absurd k5 h5⟩
      all_goals
        dsimp only
        rw [decide_eq_true (show (L.length : Int) > 0 by omega), decide_eq_true (show (L.length : Int) = 8 * ((L.length / 8 : Nat) : Int) by omega), decide_eq_true (show ((L.length / 8 : Nat) : Int) ≤ 4 by omega)]
      · rfl
      · intro _; rfl
    · refine ⟨_, _, A, Ev.neg k2 (Ev.neg k3 (Ev.neg k4 (Ev.pos k5 (Ev.neg ff (Ev.neg h (Ev.now _)))))), ?_, ?_, fun h5 => absurd k5 h5⟩
      all_goals
        dsimp only
        have hf : (decide ((L.length : Int) > 0) && (decide ((L.length : Int) = 8 * ((L.length / 8 : Nat) : Int)) && decide (((L.length / 8 : Nat) : Int) ≤ 4))) = false := by
          by_cases c1 : (L.length : Int) > 0
          · by_cases c2 : (L.length : Int) = 8 * ((L.length / 8 : Nat) : Int)
            · rw [decide_eq_false (show ¬ ((L.length / 8 : Nat) : Int) ≤ 4 by omega), Bool.and_false, Bool.and_false]
            · rw [decide_eq_false c2, Bool.false_and, Bool.and_false]
          · rw [decide_eq_false c1, Bool.false_and]
        rw [hf]
      intro hp; exact absurd hp (by decide)
  by_cases k8 : kd = 8
  · by_cases h : L.length = 8
    · have g := get_in L 0 4 (by omega) (by omega) (by omega) (by omega)
      have g2 := get_in L 4 4 (by omega) (by omega) (by omega) (by omega)
      rw [show ((0 : Nat) : Int) = 0 from rfl, show ((4 : Nat) : Int) = 4 from rfl] at g
      rw [show ((4 : Nat) : Int) = 4 from rfl] at g2
      rw [g, g2]
      have n1 := num_cut L 0 4 (by omega)
      have n2 := num_cut L 4 L.length (by omega)
      rw [show 4 - 0 = 4 from rfl] at n1
      rw [show L.length - 4 = 4 from by omega] at n2
      refine ⟨_, _, Ev.neg k2 (Ev.neg k3 (Ev.neg k4 (Ev.neg k5 (Ev.pos k8 (Ev.bind (Ev.now _) (Ev.bind (Ev.now _) (Ev.now _))))))), Ev.neg k2 (Ev.neg k3 (Ev.neg k4 (Ev.neg k5 (Ev.pos k8 (Ev.neg ff (Ev.pos (by omega) (Ev.bind n1 (Ev.bind n2 (Ev.now _))))))))), ?_, ?_, fun _ => rfl⟩
      all_goals
        dsimp only
        rw [decide_eq_true (show (L.length : Int) = 8 by omega)]
      intro _; rfl
    · obtain ⟨v, e, hv, _, _⟩ := get_tot L 0 4 (by omega) (by omega) (by omega)
      obtain ⟨u, f, hu, _, _⟩ := get_tot L 4 4 (by omega) (by omega) (by omega)
      rw [show ((0 : Nat) : Int) = 0 from rfl, show ((4 : Nat) : Int) = 4 from rfl] at hv
      rw [show ((4 : Nat) : Int) = 4 from rfl] at hu
      rw [hv, hu]
      refine ⟨_, _, Ev.neg k2 (Ev.neg k3 (Ev.neg k4 (Ev.neg k5 (Ev.pos k8 (Ev.bind (Ev.now _) (Ev.bind (Ev.now _) (Ev.now _))))))), Ev.neg k2 (Ev.neg k3 (Ev.neg k4 (Ev.neg k5 (Ev.pos k8 (Ev.neg ff (Ev.neg (by omega) (Ev.now _))))))), ?_, ?_, fun _ => rfl⟩
      all_goals
        dsimp only
        rw [decide_eq_false (show ¬ (L.length : Int) = 8 by omega)]
      intro hp; exact absurd hp (by decide)
  · exact ⟨_, _, Ev.neg k2 (Ev.neg k3 (Ev.neg k4 (Ev.neg k5 (Ev.neg k8 (Ev.now _))))), Ev.neg k2 (Ev.neg k3 (Ev.neg k4 (Ev.neg k5 (Ev.neg k8 (Ev.now _))))), rfl, fun _ => rfl, fun _ => rfl⟩
end
theorem fl_mem (kd : Int) (seen : List Int) (h : isK kd) : sternpostref07_part.fl kd (decide ((2 : Int) ∈ seen)) (decide ((3 : Int) ∈ seen)) (decide ((4 : Int) ∈ seen)) (decide ((5 : Int) ∈ seen)) (decide ((8 : Int) ∈ seen)) = decide (kd ∈ seen) := by
  unfold sternpostref07_part.fl
  rcases h with rfl | rfl | rfl | rfl | rfl <;> rfl
theorem fl_not (kd : Int) (a b c d e : Bool) (h : ¬ isK kd) : sternpostref07_part.fl kd a b c d e = false := by
  unfold isK at h
  unfold sternpostref07_part.fl
  rw [if_neg (by omega), if_neg (by omega), if_neg (by omega), if_neg (by omega), if_neg (by omega)]
theorem seen_cons (j kd : Int) (seen : List Int) : (decide (j ∈ seen) || decide (kd = j)) = decide (j ∈ kd :: seen) := by
  by_cases h : kd = j
  · subst h; simp
  · rw [decide_eq_false h, Bool.or_false]
    congr 1
    rw [List.mem_cons]
    exact propext ⟨fun a => .inr a, fun a => a.elim (fun e => absurd e.symm h) id⟩
theorem nth_app (A P : List UInt8) (j : Nat) : SP.nth (A ++ P) (A.length + j) = SP.nth P j := by
  unfold SP.nth
  rw [List.getD_eq_getElem?_getD, List.getElem?_append_right (by omega), Nat.add_sub_cancel_left, ← List.getD_eq_getElem?_getD]
theorem bt_app (A P : List UInt8) : bt (mkB (A ++ P)) (A.length : Int) = ((SP.nth P 0 : Nat) : Int) := by
  rw [bt_head]; rw [← nth_app A P 0]; rfl
theorem bt_app1 (A P : List UInt8) : bt (mkB (A ++ P)) ((A.length : Int) + 1) = ((SP.nth P 1 : Nat) : Int) := by
  rw [show (A.length : Int) + 1 = ((A.length + 1 : Nat) : Int) from by omega, bt_head, nth_app]
theorem cut_app (A P : List UInt8) (a b : Nat) : cutS (mkB (A ++ P)) (A.length + a) (A.length + b) = mkB ((P.drop a).take (b - a)) := by
  rw [cut_mk, by_mkB, List.drop_append, List.drop_of_length_le (by omega), List.nil_append, Nat.add_sub_cancel_left, show A.length + b - (A.length + a) = b - a from by omega]
abbrev rlp (seen : List Int) (k : Nat) (s : ByteArray) (i : Int) := sternpostref07_Decode.lp k s i (decide ((2 : Int) ∈ seen)) (decide ((3 : Int) ∈ seen)) (decide ((4 : Int) ∈ seen)) (decide ((5 : Int) ∈ seen)) (decide ((8 : Int) ∈ seen))
/-- both ways to decode, step by step -/
theorem lp_both : ∀ (N : Nat) (A P : List UInt8) (seen : List Int) (m sc st ec : Int) (sd sk sp : Bool) (l : List S35) (n : Nat), P.length ≤ N → (A ++ P).length ≤ 40 → n + P.length ≤ 1000 → inv8 n st ec l → ((5 : Int) ∉ seen → l = []) →
    ∃ r : Option O8, Ev (fun k => opts_Decode.lp k (mkB P) seen m sc st ec sd sk sp l) r ∧ Ev (fun k => rlp seen k (mkB (A ++ P)) (A.length : Int) m sc st ec sd sk sp l) r ∧ ∀ o, r = some o → inv8 1000 o.2.2.1 o.2.2.2.1 o.2.2.2.2.2.2.2 := by
  intro N
  induction N with
  | zero =>
    intro A P seen m sc st ec sd sk sp l n hP hAP hn hi h5
    obtain rfl : P = [] := List.length_eq_zero_iff.mp (by omega)
    refine ⟨_, lp_nil seen m sc st ec sd sk sp l, ?_, fun o e => by obtain rfl := Option.some.inj e; exact hi.more (by omega)⟩
    refine Ev.step (fun k => by simp only [rlp, sternpostref07_Decode.lp]; rfl) ?_
    rw [mkB_size, List.append_nil]
    exact Ev.neg (by omega) (Ev.now _)
  | succ N ih =>
    intro A P seen m sc st ec sd sk sp l n hP hAP hn hi h5
    by_cases p0 : P = []
    · exact ih A P seen m sc st ec sd sk sp l n (by subst p0; exact Nat.zero_le _) hAP hn hi h5
    have hpos : 0 < P.length := List.length_pos_iff.mpr p0
    have hlen : (A ++ P).length = A.length + P.length := List.length_append
    have b255 := SP.nth_lt P 0
    have c255 := SP.nth_lt P 1
    have hin : (A.length : Int) < ((mkB (A ++ P)).size : Int) := by rw [mkB_size]; omega
    have ref0 : ∀ {r : Option O8}, Ev (fun k => if ((SP.nth P 0 : Nat) : Int) = 0 then some (some (m, sc, st, ec, sd, sk, sp, l)) else
      if ((SP.nth P 0 : Nat) : Int) = 1 then rlp seen k (mkB (A ++ P)) ((A.length : Int) + 1) m sc st ec sd sk sp l else
      if ((mkB (A ++ P)).size : Int) ≤ (A.length : Int) + 1 then some none else if ((SP.nth P 1 : Nat) : Int) < 2 then some none else if ((mkB (A ++ P)).size : Int) - (A.length : Int) < ((SP.nth P 1 : Nat) : Int) then some none else
        (sternpostref07_part.f k m sc st ec sd sk sp l ((SP.nth P 0 : Nat) : Int) (mkB ((P.drop 2).take (SP.nth P 1 - 2))) (sternpostref07_part.fl ((SP.nth P 0 : Nat) : Int) (decide ((2 : Int) ∈ seen)) (decide ((3 : Int) ∈ seen)) (decide ((4 : Int) ∈ seen)) (decide ((5 : Int) ∈ seen)) (decide ((8 : Int) ∈ seen)))).bind fun r => if r.2.2.2.2.2.2.2.2 = true then rlp (((SP.nth P 0 : Nat) : Int) :: seen) k (mkB (A ++ P)) ((A.length : Int) + ((SP.nth P 1 : Nat) : Int)) r.1 r.2.1 r.2.2.1 r.2.2.2.1 r.2.2.2.2.1 r.2.2.2.2.2.1 r.2.2.2.2.2.2.1 r.2.2.2.2.2.2.2.1 else some none) r →
      Ev (fun k => rlp seen k (mkB (A ++ P)) (A.length : Int) m sc st ec sd sk sp l) r := by
      intro r h
      refine Ev.step (fun k => by simp only [rlp, sternpostref07_Decode.lp]; rfl) ?_
      rw [bt_app, bt_app1, show ((A.length : Int) + 2).toNat = A.length + 2 from by omega, show ((A.length : Int) + ((SP.nth P 1 : Nat) : Int)).toNat = A.length + SP.nth P 1 from by omega, cut_app]
      simp only [seen_cons]
      exact Ev.pos hin h
    by_cases e0 : SP.nth P 0 = 0
    · refine ⟨some (m, sc, st, ec, sd, sk, sp, l), ?_, ref0 (Ev.pos (by omega) (Ev.now _)), fun o e => by obtain rfl := Option.some.inj e; exact hi.more (by omega)⟩
      refine Ev.step (fun k => by simp only [opts_Decode.lp]; rfl) ?_
      rw [bt_zero]
      exact Ev.pos (by rw [mkB_size]; omega) (Ev.pos (by omega) (Ev.now _))
    have op0 : ∀ {r : Option O8}, Ev (fun k => if ((SP.nth P 0 : Nat) : Int) = 1 then opts_Decode.lp k (mkB (P.drop 1)) seen m sc st ec sd sk sp l else if ((mkB P).size : Int) < 2 then some none else if ((SP.nth P 1 : Nat) : Int) < 2 then some none else if ((SP.nth P 1 : Nat) : Int) > ((mkB P).size : Int) then some none else
      (opts_known.f k ((SP.nth P 0 : Nat) : Int)).bind fun kn => if (decide (((SP.nth P 0 : Nat) : Int) ∈ seen) && kn) = true then some none else
        (opts_read.f k m sc st ec sd sk sp l ((SP.nth P 0 : Nat) : Int) (mkB ((P.drop 2).take (SP.nth P 1 - 2)))).bind fun r => if r.2.2.2.2.2.2.2.2 = true then opts_Decode.lp k (mkB (P.drop (SP.nth P 1))) (((SP.nth P 0 : Nat) : Int) :: seen) r.1 r.2.1 r.2.2.1 r.2.2.2.1 r.2.2.2.2.1 r.2.2.2.2.2.1 r.2.2.2.2.2.2.1 r.2.2.2.2.2.2.2.1 else some none) r →
      Ev (fun k => opts_Decode.lp k (mkB P) seen m sc st ec sd sk sp l) r := by
      intro r h
      refine Ev.step (fun k => by simp only [opts_Decode.lp]; rfl) ?_
      rw [bt_zero, bt_one, nat_toNat, cut_rest', cut_rest', cut_mk, by_mkB]
      exact Ev.pos (by rw [mkB_size]; omega) (Ev.neg (by omega) h)
    have no : Ev (fun k => opts_Decode.lp k (mkB P) seen m sc st ec sd sk sp l) none → Ev (fun k => rlp seen k (mkB (A ++ P)) (A.length : Int) m sc st ec sd sk sp l) none → ∃ r : Option O8, Ev (fun k => opts_Decode.lp k (mkB P) seen m sc st ec sd sk sp l) r ∧ Ev (fun k => rlp seen k (mkB (A ++ P)) (A.length : Int) m sc st ec sd sk sp l) r ∧ ∀ o, r = some o → inv8 1000 o.2.2.1 o.2.2.2.1 o.2.2.2.2.2.2.2 := fun a b => ⟨none, a, b, fun o e => by cases e⟩
    by_cases e1 : SP.nth P 0 = 1
    · have hd : (P.drop 1).length = P.length - 1 := List.length_drop
      have hA : (A ++ P.take 1) ++ P.drop 1 = A ++ P := by rw [List.append_assoc, List.take_append_drop]
      have hA1 : (A ++ P.take 1).length = A.length + 1 := by rw [List.length_append, List.length_take]; omega
      obtain ⟨r, h1, h2, h3⟩ := ih (A ++ P.take 1) (P.drop 1) seen m sc st ec sd sk sp l n (by omega) (by rw [hA]; exact hAP) (by omega) hi h5
      rw [hA, hA1] at h2
      refine ⟨r, op0 (Ev.pos (by omega) h1), ref0 (Ev.neg (by omega) (Ev.pos (by omega) ?_)), h3⟩
      rw [show ((A.length + 1 : Nat) : Int) = (A.length : Int) + 1 from by omega] at h2
      exact h2
    by_cases h2 : P.length < 2
    · exact no (op0 (Ev.neg (by omega) (Ev.pos (by rw [mkB_size]; omega) (Ev.now _)))) (ref0 (Ev.neg (by omega) (Ev.neg (by omega) (Ev.pos (by rw [mkB_size]; omega) (Ev.now _)))))
    by_cases c2 : SP.nth P 1 < 2
    · exact no (op0 (Ev.neg (by omega) (Ev.neg (by rw [mkB_size]; omega) (Ev.pos (by omega) (Ev.now _))))) (ref0 (Ev.neg (by omega) (Ev.neg (by omega) (Ev.neg (by rw [mkB_size]; omega) (Ev.pos (by omega) (Ev.now _))))))
    by_cases cl : SP.nth P 1 > P.length
    · exact no (op0 (Ev.neg (by omega) (Ev.neg (by rw [mkB_size]; omega) (Ev.neg (by omega) (Ev.pos (by rw [mkB_size]; omega) (Ev.now _)))))) (ref0 (Ev.neg (by omega) (Ev.neg (by omega) (Ev.neg (by rw [mkB_size]; omega) (Ev.neg (by omega) (Ev.pos (by rw [mkB_size]; omega) (Ev.now _)))))))
    have op1 : ∀ {r : Option O8}, Ev (fun k => if (decide (((SP.nth P 0 : Nat) : Int) ∈ seen) && decide (isK ((SP.nth P 0 : Nat) : Int))) = true then some none else
        (opts_read.f k m sc st ec sd sk sp l ((SP.nth P 0 : Nat) : Int) (mkB ((P.drop 2).take (SP.nth P 1 - 2)))).bind fun r => if r.2.2.2.2.2.2.2.2 = true then opts_Decode.lp k (mkB (P.drop (SP.nth P 1))) (((SP.nth P 0 : Nat) : Int) :: seen) r.1 r.2.1 r.2.2.1 r.2.2.2.1 r.2.2.2.2.1 r.2.2.2.2.2.1 r.2.2.2.2.2.2.1 r.2.2.2.2.2.2.2.1 else some none) r → Ev (fun k => opts_Decode.lp k (mkB P) seen m sc st ec sd sk sp l) r := fun h =>
      op0 (Ev.neg (by omega) (Ev.neg (by rw [mkB_size]; omega) (Ev.neg (by omega) (Ev.neg (by rw [mkB_size]; omega) (Ev.bind (known_ev _) h)))))
    have ref1 : ∀ {r : Option O8}, Ev (fun k => (sternpostref07_part.f k m sc st ec sd sk sp l ((SP.nth P 0 : Nat) : Int) (mkB ((P.drop 2).take (SP.nth P 1 - 2))) (sternpostref07_part.fl ((SP.nth P 0 : Nat) : Int) (decide ((2 : Int) ∈ seen)) (decide ((3 : Int) ∈ seen)) (decide ((4 : Int) ∈ seen)) (decide ((5 : Int) ∈ seen)) (decide ((8 : Int) ∈ seen)))).bind fun r => if r.2.2.2.2.2.2.2.2 = true then rlp (((SP.nth P 0 : Nat) : Int) :: seen) k (mkB (A ++ P)) ((A.length : Int) + ((SP.nth P 1 : Nat) : Int)) r.1 r.2.1 r.2.2.1 r.2.2.2.1 r.2.2.2.2.1 r.2.2.2.2.2.1 r.2.2.2.2.2.2.1 r.2.2.2.2.2.2.2.1 else some none) r →
      Ev (fun k => rlp seen k (mkB (A ++ P)) (A.length : Int) m sc st ec sd sk sp l) r := fun h => ref0 (Ev.neg (by omega) (Ev.neg (by omega) (Ev.neg (by rw [mkB_size]; omega) (Ev.neg (by omega) (Ev.neg (by rw [mkB_size]; omega) h)))))
    by_cases tw : ((SP.nth P 0 : Nat) : Int) ∈ seen ∧ isK ((SP.nth P 0 : Nat) : Int)
    · refine no (op1 (Ev.pos (by rw [decide_eq_true tw.1, decide_eq_true tw.2]; rfl) (Ev.now _))) (ref1 ?_)
      rw [fl_mem _ _ tw.2, decide_eq_true tw.1]
      exact Ev.bind (part_twice m sc st ec sd sk sp l _ tw.2 _) (Ev.neg (by dsimp only; decide) (Ev.now _))
    have tf : ¬ (decide (((SP.nth P 0 : Nat) : Int) ∈ seen) && decide (isK ((SP.nth P 0 : Nat) : Int))) = true := fun h => by
      rw [Bool.and_eq_true] at h
      exact tw ⟨of_decide_eq_true h.1, of_decide_eq_true h.2⟩
    have ff : sternpostref07_part.fl ((SP.nth P 0 : Nat) : Int) (decide ((2 : Int) ∈ seen)) (decide ((3 : Int) ∈ seen)) (decide ((4 : Int) ∈ seen)) (decide ((5 : Int) ∈ seen)) (decide ((8 : Int) ∈ seen)) = false := by
      by_cases hk : isK ((SP.nth P 0 : Nat) : Int)
      · rw [fl_mem _ _ hk, decide_eq_false (fun h => tw ⟨h, hk⟩)]
      · exact fl_not _ _ _ _ _ _ hk
    rw [ff] at ref1
    have ld : ((P.drop 2).take (SP.nth P 1 - 2)).length = SP.nth P 1 - 2 := by rw [List.length_take, List.length_drop]; omega
    have l5 : ((SP.nth P 0 : Nat) : Int) = 5 → l = [] := fun e => h5 (fun h => tw ⟨by rw [e]; exact h, by rw [e]; decide⟩)
    obtain ⟨rd, rd', hr, hr', hok, heq, hl⟩ := read_part m sc st ec sd sk sp l ((SP.nth P 0 : Nat) : Int) ((P.drop 2).take (SP.nth P 1 - 2)) (by omega) l5
    by_cases ok : rd.2.2.2.2.2.2.2.2 = true
    · obtain rfl := heq ok
      obtain ⟨rd2, hr2, hri⟩ := read_tot m sc st ec sd sk sp l ((SP.nth P 0 : Nat) : Int) ((P.drop 2).take (SP.nth P 1 - 2)) (by omega) n (by omega) hi
      obtain rfl := Ev.uniq hr hr2
      rw [ld] at hri
      have hd : (P.drop (SP.nth P 1)).length = P.length - SP.nth P 1 := List.length_drop
      have hA : (A ++ P.take (SP.nth P 1)) ++ P.drop (SP.nth P 1) = A ++ P := by rw [List.append_assoc, List.take_append_drop]
      have hA1 : (A ++ P.take (SP.nth P 1)).length = A.length + SP.nth P 1 := by rw [List.length_append, List.length_take]; omega
      obtain ⟨r, h1, h2', h3⟩ := ih (A ++ P.take (SP.nth P 1)) (P.drop (SP.nth P 1)) (((SP.nth P 0 : Nat) : Int) :: seen) rd.1 rd.2.1 rd.2.2.1 rd.2.2.2.1 rd.2.2.2.2.1 rd.2.2.2.2.2.1 rd.2.2.2.2.2.2.1 rd.2.2.2.2.2.2.2.1 (n + (SP.nth P 1 - 2)) (by omega) (by rw [hA]; exact hAP) (by omega) hri
        (fun h => by rw [hl (fun e => h (by rw [e]; exact List.mem_cons_self))]; exact h5 (fun h' => h (List.mem_cons_of_mem _ h')))
      rw [hA, hA1, show ((A.length + SP.nth P 1 : Nat) : Int) = (A.length : Int) + ((SP.nth P 1 : Nat) : Int) from by omega] at h2'
      exact ⟨r, op1 (Ev.neg tf (Ev.bind hr (Ev.pos ok h1))), ref1 (Ev.bind hr' (Ev.pos ok h2')), h3⟩
    · exact no (op1 (Ev.neg tf (Ev.bind hr (Ev.neg ok (Ev.now _))))) (ref1 (Ev.bind hr' (Ev.neg (by rw [← hok]; exact ok) (Ev.now _))))
theorem refdec_ev (s : ByteArray) (hs : s.size ≤ 40) (r : Option O8) (h : Ev (fun k => sternpostref07_Decode.lp k s 0 false false false false false 0 0 0 0 false false false []) r) (hi : ∀ o, r = some o → inv8 1000 o.2.2.1 o.2.2.2.1 o.2.2.2.2.2.2.2) : Ev (fun k => sternpostref07_Decode.f k s) (decR r) := by
  unfold sternpostref07_Decode.f
  refine Ev.neg (by omega) (Ev.bind h ?_)
  cases r with
  | none => exact Ev.now _
  | some o =>
    have hi := hi o rfl
    have hc := refoptcheck_ev o.1 o.2.1 o.2.2.1 o.2.2.2.1 o.2.2.2.2.1 o.2.2.2.2.2.1 o.2.2.2.2.2.2.1 o.2.2.2.2.2.2.2 (by have := hi.2.2.1; omega)
    unfold sternpostref07_Decode.fin decR
    dsimp only
    refine Ev.bind hc ?_
    unfold optC
    by_cases ok : optOk o.1 o.2.1 o.2.2.1 o.2.2.2.1 o.2.2.2.2.1 o.2.2.2.2.2.1 o.2.2.2.2.2.2.1 o.2.2.2.2.2.2.2
    · rw [if_pos ok, if_pos ok]; exact Ev.pos rfl (Ev.now _)
    · rw [if_neg ok, if_neg ok]; exact Ev.neg (by decide) (Ev.now _)
/-- both ways to decode tell the same -/
theorem dec_both (s : ByteArray) : ∃ r, Ev (fun k => opts_Decode.f k s) r ∧ Ev (fun k => sternpostref07_Decode.f k s) r ∧ r.2.2.2.2.2.2.2.1.length ≤ 1000 := by
  by_cases hs : s.size ≤ 40
  · have hl := SP.by_len s
    obtain ⟨r, hr, hr', hx⟩ := lp_both (SP.by_ s).length [] (SP.by_ s) [] 0 0 0 0 false false false [] 0 (Nat.le_refl _) (by rw [List.nil_append]; omega) (by omega) inv8_zero (fun _ => rfl)
    rw [List.nil_append, mkB_by] at hr'
    rw [mkB_by] at hr
    refine ⟨_, dec_ev s hs r hr hx, refdec_ev s hs r hr' hx, ?_⟩
    unfold decR
    cases r with
    | none => exact Nat.zero_le _
    | some o =>
      dsimp only
      split
      · exact (hx o rfl).2.2.1
      · exact Nat.zero_le _
  · refine ⟨(0, 0, 0, 0, false, false, false, [], 70), ?_, ?_, Nat.zero_le _⟩
    · unfold opts_Decode.f; exact Ev.pos (by omega) (Ev.now _)
    · unfold sternpostref07_Decode.f; exact Ev.pos (by omega) (Ev.now _)
theorem OptsRead : sternpostlaw07_OptsRead.Pure := by
  intro s _
  refine Ev.rounds ?_
  unfold sternpostlaw07_OptsRead.f
  obtain ⟨⟨m, sc, st, ec, sd, sk, sp, l, e⟩, h1, h2, hl⟩ := dec_both s
  dsimp only at hl
  refine Ev.bind h1 (Ev.bind h2 ?_)
  refine Ev.bind (refoptsame_ev m sc st ec sd sk sp l m sc st ec sd sk sp l (by omega)) ?_
  refine Ev.pos ((optSame_iff _ _ _ _ _ _ _ _ _ _ _ _ _ _ _ _).mpr ⟨rfl, rfl, rfl, rfl, rfl, rfl, rfl, rfl⟩) (Ev.pos rfl ?_)
  exact Ev.bind works07 (Ev.now _)
end Go.Proofs.Ytbloljikejinaaa.Pure

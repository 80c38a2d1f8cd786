/- OptsFit: what fits is a beginning of the options' ranges, as many as there is room for, and all else; it may be. -/
import Derived.Test.YtbloljikejinaaaPOptsFitx9
set_option linter.unusedVariables false
set_option linter.unusedSimpArgs false
namespace Go.Proofs.Ytbloljikejinaaa.Pure
open Go Go.RowKit Go.Proofs.Ytbloljikejinaaa.POptsFit Go.Proofs.YtbloljikejinaaaW.PrintWords Go.Proofs.YtbloljikejinaaaW.PrintLast Go.Proofs.YtbloljikejinaaaW.PrintMore
attribute [local irreducible] shl shr Go.bits
/-! ### plain words on numbers and bytes -/
namespace SP
/-- what is above 16 bits, added again -/
def canon (n : Nat) : Nat := if n = 0 then 0 else (n - 1) % 65535 + 1
theorem canon_le (n : Nat) : canon n ≤ 65535 := by unfold canon; split <;> omega
theorem canon_small {n : Nat} (h : n ≤ 65535) : canon n = n := by unfold canon; split <;> omega
theorem canon_step {n : Nat} (h : 65535 < n) : canon (n / 65536 + n % 65536) = canon n := by unfold canon; split <;> split <;> omega
theorem canon_add (a b : Nat) : canon (canon a + b) = canon (a + b) := by unfold canon; split <;> split <;> split <;> omega
theorem canon_mod (n : Nat) : canon n % 65535 = n % 65535 := by unfold canon; split <;> omega
theorem canon_zero {n : Nat} : canon n = 0 ↔ n = 0 := by unfold canon; split <;> omega
theorem canon_eq {a b : Nat} (h : a % 65535 = b % 65535) (h0 : a = 0 ↔ b = 0) : canon a = canon b := by unfold canon; split <;> split <;> omega
/-- a byte's weight at a place -/
def wt (p : Nat) (b : Nat) : Nat := if p % 2 = 0 then 256 * b else b
/-- the weights of bytes from a place on -/
def ws : Nat → List UInt8 → Nat
  | _, [] => 0
  | p, b :: l => wt p b.toNat + ws (p + 1) l
theorem wt_le (p : Nat) (b : UInt8) : wt p b.toNat ≤ 65280 := by have := b.toNat_lt; unfold wt; split <;> omega
theorem ws_le (l : List UInt8) : ∀ p, ws p l ≤ 65280 * l.length := by
  induction l with
  | nil => intro p; simp [ws]
  | cons b l ih => intro p; have := ih (p + 1); have := wt_le p b; simp only [ws, List.length_cons]; omega
theorem ws_append (a b : List UInt8) : ∀ p, ws p (a ++ b) = ws p a + ws (p + a.length) b := by
  induction a with
  | nil => intro p; simp [ws]
  | cons x l ih => intro p; simp only [List.cons_append, ws, ih, List.length_cons]; rw [show p + 1 + l.length = p + (l.length + 1) from by omega]; omega
theorem wt_parity {p q : Nat} (h : p % 2 = q % 2) (b : Nat) : wt p b = wt q b := by unfold wt; rw [h]
theorem ws_parity (l : List UInt8) : ∀ {p q : Nat}, p % 2 = q % 2 → ws p l = ws q l := by
  induction l with
  | nil => intros; rfl
  | cons x l ih => intro p q h; simp only [ws, wt_parity h]; rw [ih (p := p + 1) (q := q + 1) (by omega)]
/-- a string's bytes -/
abbrev by_ (s : ByteArray) : List UInt8 := s.data.toList
theorem by_len (s : ByteArray) : (by_ s).length = s.size := by
  show s.data.toList.length = s.data.size; exact Array.length_toList
theorem by_append (s t : ByteArray) : by_ (s ++ t) = by_ s ++ by_ t := by
  show (s ++ t).data.toList = _; rw [ByteArray.data_append, Array.toList_append]
theorem by_extract (s : ByteArray) (i j : Nat) : by_ (s.extract i j) = ((by_ s).drop i).take (j - i) := by
  simp [by_, ByteArray.data_extract, List.extract_eq_take_drop]
theorem by_ext {s t : ByteArray} (h : by_ s = by_ t) : s = t := by
  cases s; cases t; simp only [by_] at h; congr; exact Array.toList_inj.mp h
/-- byte i of a list -/
def nth (l : List UInt8) (i : Nat) : Nat := (l.getD i 0).toNat
theorem nth_lt (l : List UInt8) (i : Nat) : nth l i < 256 := (l.getD i 0).toNat_lt
theorem drop_cons {l : List UInt8} {i : Nat} (h : i < l.length) : l.drop i = l.getD i 0 :: l.drop (i + 1) := by
  rw [List.drop_eq_getElem_cons h]; simp [List.getD, h]
theorem ws_drop {l : List UInt8} {i : Nat} (p : Nat) (h : i < l.length) : ws p (l.drop i) = wt p (nth l i) + ws (p + 1) (l.drop (i + 1)) := by
  rw [drop_cons h]; rfl
theorem ws_drop_end {l : List UInt8} {i : Nat} (p : Nat) (h : l.length ≤ i) : ws p (l.drop i) = 0 := by
  rw [List.drop_eq_nil_of_le h]; rfl
/-- a number's bytes, k of them -/
def bytesN (n : Nat) : Nat → List UInt8
  | 0 => []
  | k + 1 => UInt8.ofNat (n / 2 ^ (8 * k) % 256) :: bytesN n k
theorem bytesN_len (n k : Nat) : (bytesN n k).length = k := by induction k with
  | zero => rfl
  | succ k ih => simp [bytesN, ih]
/-- the number of bytes -/
def num (l : List UInt8) : Nat := l.foldl (fun n b => n * 256 + b.toNat) 0
theorem num_acc (l : List UInt8) : ∀ a : Nat, l.foldl (fun n b => n * 256 + b.toNat) a = a * 256 ^ l.length + num l := by
  induction l with
  | nil => intro a; show a = a * 256 ^ 0 + 0; omega
  | cons b l ih =>
    intro a
    have h0 : num (b :: l) = l.foldl (fun n b => n * 256 + b.toNat) (0 * 256 + b.toNat) := rfl
    rw [h0, List.foldl_cons, ih, ih, List.length_cons, Nat.pow_succ, Nat.zero_mul, Nat.zero_add, Nat.add_mul, Nat.mul_assoc, Nat.mul_comm 256]
    omega
theorem num_cons (b : UInt8) (l : List UInt8) : num (b :: l) = b.toNat * 256 ^ l.length + num l := by
  have := num_acc l b.toNat; simp only [num, List.foldl_cons, Nat.zero_mul, Nat.zero_add]; exact this
theorem num_append (a b : List UInt8) : num (a ++ b) = num a * 256 ^ b.length + num b := by
  unfold num; rw [List.foldl_append, num_acc]; rfl
theorem num_lt (l : List UInt8) : num l < 256 ^ l.length := by
  induction l with
  | nil => simp [num]
  | cons b l ih => rw [num_cons, List.length_cons, Nat.pow_succ]; have := b.toNat_lt; have h : b.toNat * 256 ^ l.length ≤ 255 * 256 ^ l.length := Nat.mul_le_mul_right _ (by omega); omega
theorem num_bytesN (n k : Nat) : num (bytesN n k) = n % 256 ^ k := by
  induction k with
  | zero => simp [bytesN, num, Nat.mod_one]
  | succ k ih =>
    rw [bytesN, num_cons, ih, bytesN_len]
    have e : (2 : Nat) ^ (8 * k) = 256 ^ k := by rw [Nat.pow_mul]
    rw [e, Nat.pow_succ, Nat.mod_mul, Nat.mul_comm (256 ^ k)]
    have : (UInt8.ofNat (n / 256 ^ k % 256)).toNat = n / 256 ^ k % 256 := by simp [UInt8.toNat_ofNat']
    rw [this]; omega
theorem bytesN_num (l : List UInt8) : bytesN (num l) l.length = l := by
  induction l with
  | nil => rfl
  | cons b l ih =>
    have key : ∀ (m k : Nat), bytesN (m * 256 ^ l.length + num l) k = bytesN (num l) k ∨ l.length < k := by
      intro m k
      by_cases hk : l.length < k
      · exact .inr hk
      · left
        induction k with
        | zero => rfl
        | succ k ihk =>
          rw [bytesN, bytesN, ihk (by omega)]
          have e : (2 : Nat) ^ (8 * k) = 256 ^ k := by rw [Nat.pow_mul]
          obtain ⟨d, hd⟩ : ∃ d, l.length = k + 1 + d := ⟨l.length - (k + 1), by omega⟩
          rw [e]
          have : (m * 256 ^ l.length + num l) / 256 ^ k % 256 = num l / 256 ^ k % 256 := by
            rw [hd, Nat.pow_add, Nat.pow_succ]
            rw [show m * (256 ^ k * 256 * 256 ^ d) = 256 ^ k * (256 * (m * 256 ^ d)) from by ac_rfl]
            rw [Nat.mul_add_div (Nat.pow_pos (by omega)), Nat.mul_add_mod]
          rw [this]
    rw [List.length_cons, num_cons, bytesN]
    have e : (2 : Nat) ^ (8 * l.length) = 256 ^ l.length := by rw [Nat.pow_mul]
    have hl := num_lt l
    have h1 : (b.toNat * 256 ^ l.length + num l) / 2 ^ (8 * l.length) % 256 = b.toNat := by
      rw [e, Nat.mul_comm, Nat.mul_add_div (Nat.pow_pos (by omega)), Nat.div_eq_of_lt hl]; have := b.toNat_lt; omega
    rw [h1]
    rcases key b.toNat l.length with h | h
    · rw [h, ih]; congr 1; exact UInt8.toNat_inj.mp (by simp)
    · omega
end SP
theorem Ev.pos {α : Type} {c : Prop} [Decidable c] {g f : Nat → Option α} {r : α} (hc : c) (h : Ev g r) : Ev (fun k => if c then g k else f k) r := by
  simp only [if_pos hc]; exact h
theorem Ev.neg {α : Type} {c : Prop} [Decidable c] {g f : Nat → Option α} {r : α} (hc : ¬ c) (h : Ev f r) : Ev (fun k => if c then g k else f k) r := by
  simp only [if_neg hc]; exact h
theorem wf64 {n : Int} (h : (Lit.int .i64 n).wf = true) : -9223372036854775808 ≤ n ∧ n < 9223372036854775808 := by
  have e : (Lit.int .i64 n).wf = decide (IntKind.i64.min ≤ n ∧ n ≤ 9223372036854775807) := by simp [Lit.wf]
  have e2 : IntKind.i64.min = -9223372036854775808 := by decide
  rw [e, e2] at h
  have := of_decide_eq_true h
  omega
/-! ### package sum and the reference's, as the words above -/
theorem and_mask (n m : Nat) (h : n < 2 ^ 63) (i : Nat) (hi : m = 2 ^ i - 1) (hi2 : i ≤ 63) : bits .and .i64 (n : Int) (m : Int) = ((n % 2 ^ i : Nat) : Int) := by
  subst hi
  have hw : ∀ n : Int, 0 ≤ n → n < 9223372036854775808 → IntKind.i64.wrap n = n := by
    intro n h0 h1; rw [IntKind.wrap_i64]; have : (2 : Int) ^ 62 = 4611686018427387904 := by decide
    omega
  have := bits_mask .i64 63 (by decide) hw i hi2 (n : Int) (by omega) (by exact_mod_cast h)
  have e : ((2 ^ i - 1 : Nat) : Int) = (2 : Int) ^ i - 1 := by
    have : 1 ≤ 2 ^ i := Nat.one_le_two_pow
    rw [Int.ofNat_sub this]; simp
  rw [e, this]; simp
theorem bits16 (n : Nat) (h : n < 2 ^ 63) : bits .and .i64 (n : Int) 65535 = ((n % 65536 : Nat) : Int) := and_mask n 65535 h 16 rfl (by omega)
theorem bt_nth (s : ByteArray) (i : Nat) : bt s (i : Int) = ((SP.nth (SP.by_ s) i : Nat) : Int) := by
  unfold bt SP.nth
  simp only [Int.toNat_natCast]
  split
  · rename_i h
    congr 1
    have h' : i < (SP.by_ s).length := by rw [SP.by_len]; exact h
    rw [List.getD_eq_getElem?_getD, List.getElem?_eq_getElem h']
    rfl
  · rename_i h
    rw [List.getD_eq_getElem?_getD, List.getElem?_eq_none (by rw [SP.by_len]; omega)]; rfl
theorem w64 {n : Int} (h0 : -9223372036854775808 ≤ n) (h1 : n < 9223372036854775808) : wrap64 n = n := by unfold wrap64; omega
theorem tmod2 (n : Nat) : Int.tmod (n : Int) 2 = ((n % 2 : Nat) : Int) := by rw [Int.tmod_eq_emod_of_nonneg (by omega)]; omega
theorem nat_toNat (n : Nat) : ((n : Int) : Int).toNat = n := Int.toNat_natCast n
theorem rdOf_nat {α : Type} (d : α) (xs : List α) (i : Nat) : rdOf d xs (i : Int) = xs.getD i d := by simp [rdOf]
def mkB (l : List UInt8) : ByteArray := ⟨l.toArray⟩
theorem by_mkB (l : List UInt8) : SP.by_ (mkB l) = l := rfl
theorem mkB_by (s : ByteArray) : mkB (SP.by_ s) = s := SP.by_ext rfl
theorem mkB_size (l : List UInt8) : (mkB l).size = l.length := rfl
theorem mkB_append (a b : List UInt8) : mkB a ++ mkB b = mkB (a ++ b) := SP.by_ext (by rw [SP.by_append]; rfl)
theorem shr_pow (n k : Nat) (hk : k ≤ 64) : shr .i64 (n : Int) (k : Int) = ((n / 2 ^ k : Nat) : Int) := by
  unfold shr
  rw [Int.toNat_natCast, show min k IntKind.i64.bits = k from Nat.min_eq_left (by simpa [IntKind.bits] using hk)]
  simp
theorem mn_lt (a b c : Int) : mn a b < c ↔ a < c ∨ b < c := by unfold mn; split <;> omega
theorem mx_gt (a b c : Int) : mx a b > c ↔ a > c ∨ b > c := by unfold mx; split <;> omega
def PutS (n b : Int) : ByteArray × Int := if b < 1 ∨ 6 < b ∨ n < 0 ∨ (256 : Int) ^ b.toNat ≤ n then (⟨#[]⟩, 1) else (mkB (SP.bytesN n.toNat b.toNat), 0)
/-- the numbers that 'Put' has laid after i rounds -/
def putRow (n b i : Nat) : List Int := (List.range b).map fun j => if j < i then ((n / 2 ^ (8 * (b - 1 - j)) % 256 : Nat) : Int) else 0
theorem putRow_set (n b i : Nat) (_h : i < b) : (putRow n b i).set i ((n / 2 ^ (8 * (b - 1 - i)) % 256 : Nat) : Int) = putRow n b (i + 1) := by
  apply List.ext_getElem
  · simp [putRow]
  · intro j h1 h2
    simp only [putRow, List.getElem_set, List.getElem_map, List.getElem_range]
    by_cases e : i = j
    · subst e; simp
    · rw [if_neg e]
      by_cases h3 : j < i
      · rw [if_pos h3, if_pos (by omega)]
      · rw [if_neg h3, if_neg (by omega)]
theorem bytesN_range (n : Nat) : ∀ b : Nat, SP.bytesN n b = (List.range b).map fun j => UInt8.ofNat (n / 2 ^ (8 * (b - 1 - j)) % 256) := by
  intro b
  induction b with
  | zero => rfl
  | succ b ih =>
    rw [SP.bytesN, ih, List.range_succ_eq_map, List.map_cons, List.map_map]
    congr 1
    apply List.map_congr_left
    intro j hj
    have := List.mem_range.mp hj
    simp only [Function.comp_def]
    rw [show b - 1 - j = b + 1 - 1 - (j + 1) from by omega]
theorem putRow_str (n b : Nat) : strOfNums (putRow n b b) = mkB (SP.bytesN n b) := by
  unfold strOfNums mkB
  rw [bytesN_range]
  congr 2
  simp only [putRow, List.map_map]
  apply List.map_congr_left
  intro j hj
  have := List.mem_range.mp hj
  simp only [Function.comp_def]
  rw [if_pos this, Int.toNat_natCast]
theorem put_l0 (n b : Nat) (hb : b ≤ 6) : ∀ (d i : Nat), b - i = d → i ≤ b → Ev (fun k => sum_Put.l0 k (n : Int) (b : Int) (putRow n b i) (b : Int) (i : Int)) (mkB (SP.bytesN n b), 0) := by
  intro d
  induction d with
  | zero =>
    intro i hd hi
    obtain rfl : i = b := by omega
    refine Ev.step (f := fun _ => some (strOfNums (putRow n i i), 0)) (fun k => ?_) ?_
    · simp only [sum_Put.l0]; rw [if_neg (by omega)]
    · rw [putRow_str]; exact Ev.now _
  | succ d ih =>
    intro i hd hi
    refine Ev.step (f := fun k => sum_Put.l0 k (n : Int) (b : Int) (putRow n b (i + 1)) (b : Int) ((i + 1 : Nat) : Int)) (fun k => ?_) (ih (i + 1) (by omega) (by omega))
    simp only [sum_Put.l0]
    have e : wrap64 (8 * (wrap64 ((wrap64 ((b : Int) - 1)) - (i : Int)))) = ((8 * (b - 1 - i) : Nat) : Int) := by unfold wrap64; omega
    rw [if_pos (by omega), e, if_pos (by omega), if_pos (by omega), if_pos (by simp [putRow]; omega), shr_pow _ _ (by omega), w64 (by omega) (by omega), Int.toNat_natCast]
    rw [← putRow_set n b i (by omega)]
    congr 1
theorem put_ev (n b : Int) (hn : -9223372036854775808 ≤ n ∧ n < 9223372036854775808) (hb : -9223372036854775808 ≤ b ∧ b < 9223372036854775808) : Ev (fun k => sum_Put.f k n b) (PutS n b) := by
  have bad : (b < 1 ∨ 6 < b ∨ n < 0 ∨ (256 : Int) ^ b.toNat ≤ n) → Ev (fun k => sum_Put.j0 k n b true) (PutS n b) := by
    intro h
    refine Ev.step (f := fun _ => some (⟨#[]⟩, 1)) (fun k => ?_) ?_
    · simp only [sum_Put.j0]; rw [if_pos trivial]
    · rw [PutS, if_pos h]; exact Ev.now _
  by_cases h1 : b < 1
  · refine Ev.congr (fun k => ?_) (bad (.inl h1)); unfold sum_Put.f; rw [if_pos h1]
  by_cases h2 : 6 < b
  · refine Ev.congr (fun k => ?_) (bad (.inr (.inl h2))); unfold sum_Put.f; rw [if_neg h1, if_pos h2]
  by_cases h3 : n < 0
  · refine Ev.congr (fun k => ?_) (bad (.inr (.inr (.inl h3)))); unfold sum_Put.f; rw [if_neg h1, if_neg (by omega), if_pos h3]
  obtain ⟨m, rfl⟩ := Int.eq_ofNat_of_zero_le (show 0 ≤ n by omega)
  obtain ⟨c, rfl⟩ := Int.eq_ofNat_of_zero_le (show 0 ≤ b by omega)
  have e : wrap64 (8 * (c : Int)) = ((8 * c : Nat) : Int) := by unfold wrap64; omega
  have e2 : (shr .i64 (m : Int) ((8 * c : Nat) : Int) > 0) ↔ (256 : Int) ^ ((c : Int)).toNat ≤ (m : Int) := by
    rw [shr_pow _ _ (by omega), Int.toNat_natCast, Nat.pow_mul, show (2 : Nat) ^ 8 = 256 from rfl, show (256 : Int) ^ c = ((256 ^ c : Nat) : Int) from (Int.natCast_pow 256 c).symm]
    constructor
    · intro hh
      have h3 : 0 < m / 256 ^ c := by omega
      exact Int.ofNat_le.mpr (Nat.div_pos_iff.mp h3).2
    · intro hh
      have h3 : 0 < m / 256 ^ c := Nat.div_pos (Int.ofNat_le.mp hh) (Nat.pow_pos (by omega))
      omega
  by_cases h4 : (256 : Int) ^ ((c : Int)).toNat ≤ (m : Int)
  · refine Ev.congr (fun k => ?_) (bad (.inr (.inr (.inr h4)))); unfold sum_Put.f; rw [if_neg h1, if_neg (by omega), if_neg h3, e, if_pos (by omega), decide_eq_true (e2.mpr h4)]
  · refine Ev.congr (f := fun k => sum_Put.j0 k (m : Int) (c : Int) false) (fun k => ?_) ?_
    · unfold sum_Put.f; rw [if_neg h1, if_neg (by omega), if_neg h3, e, if_pos (by omega), decide_eq_false (fun h => h4 (e2.mp h))]
    · have e3 : List.replicate ((c : Int)).toNat (0 : Int) = putRow m c 0 := by
        apply List.ext_getElem
        · simp [putRow]
        · intro j h1 h2; simp [putRow]
      refine Ev.step (f := fun k => sum_Put.l0 k (m : Int) (c : Int) (putRow m c 0) (c : Int) ((0 : Nat) : Int)) (fun k => ?_) ?_
      · simp only [sum_Put.j0]; rw [if_neg (by decide), if_pos (by omega), if_pos (by omega)]
        simp only [Option.bind_some]; rw [e3]; simp [putRow]
      · rw [PutS, if_neg (by omega), Int.toNat_natCast, Int.toNat_natCast]; exact put_l0 m c (by omega) c 0 rfl (by omega)
theorem put_ok (n b : Nat) (hb1 : 1 ≤ b) (hb : b ≤ 6) (h : n < 256 ^ b) (hn : n < 9223372036854775808) : Ev (fun k => sum_Put.f k (n : Int) (b : Int)) (mkB (SP.bytesN n b), 0) := by
  have := put_ev (n : Int) (b : Int) (by omega) (by omega)
  rw [PutS, nat_toNat, nat_toNat, if_neg] at this
  · exact this
  · have e : (256 : Int) ^ b = ((256 ^ b : Nat) : Int) := (Int.natCast_pow 256 b).symm
    rw [e]; omega
theorem Ev.ite {α : Type} {c : Prop} [Decidable c] {g f : Nat → Option α} {r : α} (h : c → Ev g r) (h' : ¬ c → Ev f r) : Ev (fun k => if c then g k else f k) r := by
  by_cases hc : c
  · exact Ev.pos hc (h hc)
  · exact Ev.neg hc (h' hc)
theorem Ev.val {α : Type} {g : Nat → Option α} {r r' : α} (h : Ev g r) (e : r = r') : Ev g r' := e ▸ h
theorem ite_same {α : Type} {p q : Prop} [Decidable p] [Decidable q] (h : p ↔ q) {x y : α} : (if p then x else y) = if q then x else y := by
  by_cases hp : p
  · rw [if_pos hp, if_pos (h.1 hp)]
  · rw [if_neg hp, if_neg (fun hq => hp (h.2 hq))]
/-! ### package seq: is a number one of a sequence's -/
theorem and_low (a : Int) (_h0 : -9223372036854775808 ≤ a) (_h1 : a < 9223372036854775808) (i : Nat) (hi : i ≤ 62) : Go.bits .and .i64 a ((2 ^ i - 1 : Nat) : Int) = a % ((2 ^ i : Nat) : Int) := by
  have hp : 0 < 2 ^ i := Nat.two_pow_pos i
  have hle : 2 ^ i ≤ 2 ^ 62 := Nat.pow_le_pow_right (by decide) hi
  have e62 : (2 : Nat) ^ 62 = 4611686018427387904 := by decide
  have eb : IntKind.i64.bits = 64 := rfl
  have e64 : (2 : Nat) ^ 64 = 18446744073709551616 := by decide
  have hm : (2 ^ i - 1) % 2 ^ IntKind.i64.bits = 2 ^ i - 1 := Nat.mod_eq_of_lt (by rw [eb, e64]; omega)
  simp only [Go.bits, BitVec.ofInt_natCast, BitVec.toNat_and, BitVec.toNat_ofNat, hm, BitVec.toNat_ofInt]
  rw [Nat.and_two_pow_sub_one_eq_mod, IntKind.wrap_i64, eb]
  have hd : 2 ^ 64 = 2 ^ i * 2 ^ (64 - i) := by rw [← Nat.pow_add]; congr 1; omega
  have key : (((a % ((2 ^ 64 : Nat) : Int)).toNat % 2 ^ i : Nat) : Int) = a % ((2 ^ i : Nat) : Int) := by
    rw [Int.natCast_emod, Int.toNat_of_nonneg (Int.emod_nonneg _ (by omega))]
    exact Int.emod_emod_of_dvd _ ⟨((2 ^ (64 - i) : Nat) : Int), by rw [hd, Int.natCast_mul]⟩
  have r0 := Int.emod_nonneg a (b := ((2 ^ i : Nat) : Int)) (by omega)
  have r1 := Int.emod_lt_of_pos a (b := ((2 ^ i : Nat) : Int)) (by omega)
  have key2 : (((a % (2 ^ 64 : Int)).toNat % 2 ^ i : Nat) : Int) = a % ((2 ^ i : Nat) : Int) := key
  first | rw [key] | rw [key2]
  omega
def seqOk (n : Int) : Prop := 0 ≤ n ∧ n ≤ 4294967295
instance (n : Int) : Decidable (seqOk n) := inferInstanceAs (Decidable (0 ≤ n ∧ n ≤ 4294967295))
def seqC (n : Int) : Int := if seqOk n then 0 else 1
theorem seqcheck_is (n : Int) (h0 : -9223372036854775808 ≤ n) (h1 : n < 9223372036854775808) : seq_Check.f n = some (seqC n) := by
  unfold seq_Check.f seqC
  have := and_low n h0 h1 32 (by omega)
  rw [show ((2 ^ 32 - 1 : Nat) : Int) = 4294967295 from by decide, show ((2 ^ 32 : Nat) : Int) = 4294967296 from by decide] at this
  rw [this]
  by_cases h : seqOk n
  · have h' := h
    unfold seqOk at h'
    rw [if_pos (by omega), if_pos h]
  · have h' := h
    unfold seqOk at h'
    rw [if_neg (by omega), if_neg h]
/-! ### options -/
def rgB (x : S35) : List UInt8 := SP.bytesN x.f0.toNat 4 ++ SP.bytesN x.f1.toNat 4
def rgsB (l : List S35) : List UInt8 := l.flatMap rgB
def opB (kd : Nat) (b : List UInt8) : List UInt8 := UInt8.ofNat kd :: UInt8.ofNat (2 + b.length) :: b
def oMss (m : Int) : List UInt8 := if m > 0 then opB 2 (SP.bytesN m.toNat 2) else []
def oScale (sc : Int) (sd : Bool) : List UInt8 := if sd = true then opB 3 (SP.bytesN sc.toNat 1) else []
def oSack (sk : Bool) : List UInt8 := if sk = true then opB 4 [] else []
def oStamp (st ec : Int) (sp : Bool) : List UInt8 := if sp = true then opB 8 (SP.bytesN st.toNat 4 ++ SP.bytesN ec.toNat 4) else []
def oRgs (l : List S35) : List UInt8 := if 0 < l.length then opB 5 (rgsB l) else []
def bareB (m sc st ec : Int) (sd sk sp : Bool) (l : List S35) : List UInt8 := oMss m ++ oScale sc sd ++ oSack sk ++ oStamp st ec sp ++ oRgs l
def padB (b : List UInt8) : List UInt8 := b ++ List.replicate ((4 - b.length % 4) % 4) 0
def optB (m sc st ec : Int) (sd sk sp : Bool) (l : List S35) : List UInt8 := padB (bareB m sc st ec sd sk sp l)
def rgOk (x : S35) : Prop := seqOk x.f0 ∧ seqOk x.f1 ∧ ¬ x.f0 = x.f1
instance (x : S35) : Decidable (rgOk x) := inferInstanceAs (Decidable (_ ∧ _ ∧ _))
/-- may be, but for how long they are -/
def optFit (m sc st ec : Int) (sd sk sp : Bool) (l : List S35) : Prop :=
  0 ≤ m ∧ m ≤ 65535 ∧ 0 ≤ sc ∧ sc ≤ 14 ∧ l.length ≤ 4 ∧ seqOk st ∧ seqOk ec ∧ (sd = true ∨ sc = 0) ∧ (sp = true ∨ st = 0 ∧ ec = 0) ∧ ∀ x ∈ l, rgOk x
instance (m sc st ec : Int) (sd sk sp : Bool) (l : List S35) : Decidable (optFit m sc st ec sd sk sp l) := inferInstanceAs (Decidable (_ ∧ _ ∧ _ ∧ _ ∧ _ ∧ _ ∧ _ ∧ _ ∧ _ ∧ _))
def optOk (m sc st ec : Int) (sd sk sp : Bool) (l : List S35) : Prop := optFit m sc st ec sd sk sp l ∧ (optB m sc st ec sd sk sp l).length ≤ 40
instance (m sc st ec : Int) (sd sk sp : Bool) (l : List S35) : Decidable (optOk m sc st ec sd sk sp l) := inferInstanceAs (Decidable (_ ∧ _))
theorem rgB_len (x : S35) : (rgB x).length = 8 := by simp [rgB, SP.bytesN_len]
theorem rgsB_len (l : List S35) : (rgsB l).length = 8 * l.length := by
  induction l with
  | nil => rfl
  | cons x l ih => rw [rgsB, List.flatMap_cons, List.length_append, rgB_len, List.length_cons]; rw [rgsB] at ih; omega
theorem opB_len (k : Nat) (b : List UInt8) : (opB k b).length = 2 + b.length := by simp [opB]; omega
theorem oMss_le (m : Int) : (oMss m).length ≤ 4 := by unfold oMss; split <;> simp [opB_len, SP.bytesN_len]
theorem oScale_le (sc : Int) (sd : Bool) : (oScale sc sd).length ≤ 3 := by unfold oScale; split <;> simp [opB_len, SP.bytesN_len]
theorem oSack_le (sk : Bool) : (oSack sk).length ≤ 2 := by unfold oSack; split <;> simp [opB_len]
theorem oStamp_le (st ec : Int) (sp : Bool) : (oStamp st ec sp).length ≤ 10 := by unfold oStamp; split <;> simp [opB_len, SP.bytesN_len]
theorem oRgs_le (l : List S35) : (oRgs l).length ≤ 2 + 8 * l.length := by unfold oRgs; split <;> simp [opB_len, rgsB_len]
theorem optnum_ok (n b : Nat) (hb1 : 1 ≤ b) (hb : b ≤ 6) (h : n < 256 ^ b) (hn : n < 9223372036854775808) : Ev (fun k => opts_num.f k (n : Int) (b : Int)) (mkB (SP.bytesN n b)) := by
  unfold opts_num.f
  exact Ev.bind (put_ok n b hb1 hb h hn) (Ev.now _)
theorem option_is (kd : Nat) (hk : kd < 256) (b : List UInt8) (hb : b.length ≤ 253) : opts_option.f (kd : Int) (mkB b) = some (mkB (opB kd b)) := by
  unfold opts_option.f
  simp only [Option.bind_some]
  rw [mkB_size, w64 (n := 2 + (b.length : Int)) (by omega) (by omega)]
  have e : strOfNums [(kd : Int) % 256, (2 + (b.length : Int)) % 256] = mkB [UInt8.ofNat kd, UInt8.ofNat (2 + b.length)] := by
    unfold strOfNums mkB
    simp only [List.map_cons, List.map_nil]
    rw [show (kd : Int) % 256 = ((kd : Nat) : Int) from by omega, show (2 + (b.length : Int)) % 256 = ((2 + b.length : Nat) : Int) from by omega, nat_toNat, nat_toNat]
  rw [e, mkB_append, if_pos (by simp only [mkB_size, List.length_cons, List.length_nil]; omega)]
  rfl
theorem repeatL_is (a : UInt8) : ∀ n, Go.Lib.repeatL [a] n = List.replicate n a := by
  intro n
  induction n with
  | zero => rfl
  | succ n ih => rw [List.replicate_succ, ← ih]; simp [Go.Lib.repeatL, List.replicate_succ]
theorem optpad_ev (b : List UInt8) (hb : b.length ≤ 1000) : Ev (fun k => opts_text.j5 k (mkB b)) (mkB (padB b)) := by
  refine Ev.step (fun k => by simp only [opts_text.j5]; rfl) ?_
  rw [mkB_size]
  have hm := and_low (-(b.length : Int)) (by omega) (by omega) 2 (by omega)
  rw [show ((2 ^ 2 - 1 : Nat) : Int) = 3 from by decide, show ((2 ^ 2 : Nat) : Int) = 4 from by decide] at hm
  have e : -(b.length : Int) % 4 = (((4 - b.length % 4) % 4 : Nat) : Int) := by omega
  rw [hm, e]
  have hr : strings_Repeat.f (⟨#[0]⟩ : ByteArray) (((4 - b.length % 4) % 4 : Nat) : Int) = some (mkB (List.replicate ((4 - b.length % 4) % 4) 0)) := by
    unfold strings_Repeat.f
    have hs : ((⟨#[0]⟩ : ByteArray).size : Int) = 1 := rfl
    rw [hs, if_pos (by omega), nat_toNat]
    rw [show (⟨#[0]⟩ : ByteArray).data.toList = [0] from rfl, repeatL_is]; rfl
  rw [hr]
  refine Ev.bind (Ev.now _) ?_
  refine Ev.pos (by simp only [mkB_size, List.length_replicate]; omega) ?_
  rw [mkB_append]
  exact Ev.now _
section
variable (m sc st ec : Int) (sd sk sp : Bool) (l : List S35)
theorem optrgs_l0 (p : List UInt8) (hp : p.length ≤ 100) (h4 : l.length ≤ 4) (hl : ∀ x ∈ l, rgOk x) : ∀ (d i : Nat), l.length - i = d → i ≤ l.length →
    Ev (fun k => opts_text.l0 k (mkB p) (mkB (rgsB (l.take i))) l (l.length : Int) (i : Int)) (mkB (padB (p ++ opB 5 (rgsB l)))) := by
  intro d
  induction d with
  | zero =>
    intro i hd hi
    obtain rfl : i = l.length := by omega
    rw [List.take_length]
    have hlen := rgsB_len l
    refine Ev.step (fun k => by simp only [opts_text.l0]; rfl) ?_
    refine Ev.neg (by omega) ?_
    have ho := option_is 5 (by omega) (rgsB l) (by omega)
    rw [show ((5 : Nat) : Int) = 5 from rfl] at ho
    rw [ho]
    refine Ev.bind (Ev.now _) ?_
    have := opB_len 5 (rgsB l)
    refine Ev.pos (by simp only [mkB_size]; omega) ?_
    rw [mkB_append]
    exact optpad_ev _ (by rw [List.length_append]; omega)
  | succ d ih =>
    intro i hd hi
    have hlt : i < l.length := by omega
    have hx := hl l[i] (List.getElem_mem hlt)
    have hrd : rd_T35 l (i : Int) = l[i] := by simp [rd_T35, hlt]
    obtain ⟨h1, h2, h3⟩ := hx
    unfold seqOk at h1 h2
    have ht : rgsB (l.take (i + 1)) = rgsB (l.take i) ++ rgB l[i] := by
      rw [List.take_succ_eq_append_getElem hlt, rgsB, List.flatMap_append, List.flatMap_cons, List.flatMap_nil, List.append_nil, rgsB]
    have hlen := rgsB_len (l.take i)
    rw [List.length_take] at hlen
    refine Ev.step (fun k => by simp only [opts_text.l0]; rfl) ?_
    refine Ev.pos (by omega) ?_
    refine Ev.pos (by omega) ?_
    refine Ev.pos (by omega) ?_
    rw [hrd]
    obtain ⟨a, ha⟩ := Int.eq_ofNat_of_zero_le h1.1
    obtain ⟨b, hb⟩ := Int.eq_ofNat_of_zero_le h2.1
    have hrg : rgB l[i] = SP.bytesN a 4 ++ SP.bytesN b 4 := by rw [rgB, ha, hb, nat_toNat, nat_toNat]
    rw [ha, hb]
    refine Ev.bind (optnum_ok a 4 (by omega) (by omega) (by omega) (by omega)) ?_
    refine Ev.bind (optnum_ok b 4 (by omega) (by omega) (by omega) (by omega)) ?_
    refine Ev.pos (by simp only [mkB_size, SP.bytesN_len]; omega) ?_
    rw [mkB_append, mkB_append, ← hrg]
    refine Ev.pos (by simp only [mkB_size, rgB_len]; omega) ?_
    rw [← ht, w64 (by omega) (by omega)]
    exact ih (i + 1) (by omega) (by omega)
theorem opttext3 (p : List UInt8) (hp : p.length ≤ 100) (h4 : l.length ≤ 4) (hl : ∀ x ∈ l, rgOk x) : Ev (fun k => opts_text.j3 k (mkB p) m sc st ec sd sk sp l) (mkB (padB (p ++ oRgs l))) := by
  refine Ev.step (fun k => by simp only [opts_text.j3]; rfl) ?_
  refine Ev.ite (fun h => ?_) (fun h => ?_)
  · rw [oRgs, if_pos (by omega)]
    have := optrgs_l0 l p hp h4 hl l.length 0 rfl (by omega)
    rw [List.take_zero] at this
    exact this
  · rw [oRgs, if_neg (by omega), List.append_nil]
    exact optpad_ev p (by omega)
theorem opttext2 (p : List UInt8) (hp : p.length ≤ 90) (h4 : l.length ≤ 4) (hl : ∀ x ∈ l, rgOk x) (h1 : seqOk st) (h2 : seqOk ec) : Ev (fun k => opts_text.j2 k (mkB p) m sc st ec sd sk sp l) (mkB (padB (p ++ oStamp st ec sp ++ oRgs l))) := by
  unfold seqOk at h1 h2
  refine Ev.step (fun k => by simp only [opts_text.j2]; rfl) ?_
  refine Ev.ite (fun h => ?_) (fun h => ?_)
  · have hlen := oStamp_le st ec sp
    rw [oStamp, if_pos h] at hlen ⊢
    obtain ⟨a, ha⟩ := Int.eq_ofNat_of_zero_le h1.1
    obtain ⟨b, hb⟩ := Int.eq_ofNat_of_zero_le h2.1
    subst ha hb
    rw [nat_toNat, nat_toNat] at hlen ⊢
    refine Ev.bind (optnum_ok a 4 (by omega) (by omega) (by omega) (by omega)) ?_
    refine Ev.bind (optnum_ok b 4 (by omega) (by omega) (by omega) (by omega)) ?_
    refine Ev.pos (by simp only [mkB_size, SP.bytesN_len]; omega) ?_
    rw [mkB_append]
    have ho := option_is 8 (by omega) (SP.bytesN a 4 ++ SP.bytesN b 4) (by simp [SP.bytesN_len])
    rw [show ((8 : Nat) : Int) = 8 from rfl] at ho
    rw [ho]
    refine Ev.bind (Ev.now _) ?_
    refine Ev.pos (by simp only [mkB_size]; omega) ?_
    rw [mkB_append]
    exact opttext3 m sc a b sd sk sp l _ (by rw [List.length_append]; omega) h4 hl
  · rw [oStamp, if_neg h, List.append_nil]
    exact opttext3 m sc st ec sd sk sp l p (by omega) h4 hl
theorem opttext1 (p : List UInt8) (hp : p.length ≤ 80) (h4 : l.length ≤ 4) (hl : ∀ x ∈ l, rgOk x) (h1 : seqOk st) (h2 : seqOk ec) : Ev (fun k => opts_text.j1 k (mkB p) m sc st ec sd sk sp l) (mkB (padB (p ++ oSack sk ++ oStamp st ec sp ++ oRgs l))) := by
  refine Ev.step (fun k => by simp only [opts_text.j1]; rfl) ?_
  refine Ev.ite (fun h => ?_) (fun h => ?_)
  · have hlen := oSack_le sk
    rw [oSack, if_pos h] at hlen ⊢
    have ho := option_is 4 (by omega) [] (by simp)
    rw [show ((4 : Nat) : Int) = 4 from rfl] at ho
    rw [show (⟨#[]⟩ : ByteArray) = mkB [] from rfl, ho]
    refine Ev.bind (Ev.now _) ?_
    refine Ev.pos (by simp only [mkB_size]; omega) ?_
    rw [mkB_append]
    exact opttext2 m sc st ec sd sk sp l _ (by rw [List.length_append]; omega) h4 hl h1 h2
  · rw [oSack, if_neg h, List.append_nil]
    exact opttext2 m sc st ec sd sk sp l p (by omega) h4 hl h1 h2
theorem opttext0 (p : List UInt8) (hp : p.length ≤ 70) (h4 : l.length ≤ 4) (hl : ∀ x ∈ l, rgOk x) (h1 : seqOk st) (h2 : seqOk ec) (h5 : 0 ≤ sc) (h6 : sc ≤ 14) : Ev (fun k => opts_text.j0 k (mkB p) m sc st ec sd sk sp l) (mkB (padB (p ++ oScale sc sd ++ oSack sk ++ oStamp st ec sp ++ oRgs l))) := by
  refine Ev.step (fun k => by simp only [opts_text.j0]; rfl) ?_
  refine Ev.ite (fun h => ?_) (fun h => ?_)
  · have hlen := oScale_le sc sd
    rw [oScale, if_pos h] at hlen ⊢
    obtain ⟨a, ha⟩ := Int.eq_ofNat_of_zero_le h5
    subst ha
    rw [nat_toNat] at hlen ⊢
    refine Ev.bind (optnum_ok a 1 (by omega) (by omega) (by omega) (by omega)) ?_
    have ho := option_is 3 (by omega) (SP.bytesN a 1) (by simp [SP.bytesN_len])
    rw [show ((3 : Nat) : Int) = 3 from rfl] at ho
    rw [ho]
    refine Ev.bind (Ev.now _) ?_
    refine Ev.pos (by simp only [mkB_size]; omega) ?_
    rw [mkB_append]
    exact opttext1 m a st ec sd sk sp l _ (by rw [List.length_append]; omega) h4 hl h1 h2
  · rw [oScale, if_neg h, List.append_nil]
    exact opttext1 m sc st ec sd sk sp l p (by omega) h4 hl h1 h2
theorem opttext_ev (h : optFit m sc st ec sd sk sp l) : Ev (fun k => opts_text.f k m sc st ec sd sk sp l) (mkB (optB m sc st ec sd sk sp l)) := by
  obtain ⟨m0, m1, s0, s1, h4, h1, h2, _, _, hl⟩ := h
  unfold opts_text.f optB bareB
  refine Ev.ite (fun h => ?_) (fun h => ?_)
  · have hlen := oMss_le m
    rw [oMss, if_pos h] at hlen ⊢
    obtain ⟨a, ha⟩ := Int.eq_ofNat_of_zero_le m0
    subst ha
    rw [nat_toNat] at hlen ⊢
    refine Ev.bind (optnum_ok a 2 (by omega) (by omega) (by omega) (by omega)) ?_
    have ho := option_is 2 (by omega) (SP.bytesN a 2) (by simp [SP.bytesN_len])
    rw [show ((2 : Nat) : Int) = 2 from rfl] at ho
    rw [ho]
    refine Ev.bind (Ev.now _) ?_
    refine Ev.pos (by simp only [mkB_size]; omega) ?_
    rw [show (⟨#[]⟩ : ByteArray) = mkB [] from rfl, mkB_append, List.nil_append]
    exact opttext0 a sc st ec sd sk sp l _ (by omega) h4 hl h1 h2 s0 s1
  · rw [oMss, if_neg h, List.nil_append]
    have := opttext0 m sc st ec sd sk sp l [] (by simp) h4 hl h1 h2 s0 s1
    rw [List.nil_append] at this
    exact this
end
theorem rgfit {x : S35} (h : fit35 x) : (-9223372036854775808 ≤ x.f0 ∧ x.f0 < 9223372036854775808) ∧ -9223372036854775808 ≤ x.f1 ∧ x.f1 < 9223372036854775808 := ⟨wf64 h.1, wf64 h.2⟩
theorem rgtest (x : S35) (h : fit35 x) : api_Range_28.p x = !decide (rgOk x) := by
  obtain ⟨⟨h1, h2⟩, h3, h4⟩ := rgfit h
  unfold api_Range_28.p opts_Check_1.f
  rw [seqcheck_is _ h1 h2, seqcheck_is _ h3 h4]
  simp only [Option.bind_some]
  unfold seqC
  by_cases a : seqOk x.f0
  · by_cases b : seqOk x.f1
    · rw [if_pos a, if_pos b, if_neg (by decide)]
      by_cases c : x.f0 = x.f1
      · rw [decide_eq_false (fun hh => hh.2.2 c)]; simp [c]
      · rw [decide_eq_true (show rgOk x from ⟨a, b, c⟩)]; simp [c]
    · rw [if_pos a, if_neg b, if_pos (by decide), decide_eq_false (fun hh => b hh.2.1)]; rfl
  · by_cases b : seqOk x.f1
    · rw [if_neg a, if_pos b, if_pos (by decide), decide_eq_false (fun hh => a hh.1)]; rfl
    · rw [if_neg a, if_neg b, if_pos (by decide), decide_eq_false (fun hh => a hh.1)]; rfl
theorem rgany (l : List S35) (h : ∀ x ∈ l, fit35 x) : l.any api_Range_28.p = true ↔ ¬ ∀ x ∈ l, rgOk x := by
  rw [List.any_eq_true]
  constructor
  · rintro ⟨x, hx, hp⟩ hall
    rw [rgtest x (h x hx), decide_eq_true (hall x hx)] at hp
    exact absurd hp (by decide)
  · intro hn
    refine Classical.byContradiction fun hc => hn fun x hx => ?_
    refine Classical.byContradiction fun hr => hc ⟨x, hx, ?_⟩
    rw [rgtest x (h x hx), decide_eq_false hr]; rfl
def optC (m sc st ec : Int) (sd sk sp : Bool) (l : List S35) : Int := if optOk m sc st ec sd sk sp l then 0 else 70
section
variable (m sc st ec : Int) (sd sk sp : Bool) (l : List S35)
theorem optC_no (h : ¬ optFit m sc st ec sd sk sp l) : optC m sc st ec sd sk sp l = 70 := by
  unfold optC; rw [if_neg (fun h2 => h h2.1)]
theorem optbad2 : Ev (fun k => opts_Check.j2 k true m sc st ec sd sk sp l) 70 := by
  refine Ev.step (fun k => by simp only [opts_Check.j2]; rfl) ?_
  exact Ev.pos trivial (Ev.now _)
theorem optbad1 : Ev (fun k => opts_Check.j1 k true m sc st ec sd sk sp l) 70 := by
  refine Ev.step (fun k => by simp only [opts_Check.j1]; rfl) ?_
  exact Ev.pos trivial (optbad2 m sc st ec sd sk sp l)
theorem optbad0 : Ev (fun k => opts_Check.j0 k true m sc st ec sd sk sp l) 70 := by
  refine Ev.step (fun k => by simp only [opts_Check.j0]; rfl) ?_
  exact Ev.pos trivial (optbad1 m sc st ec sd sk sp l)
theorem optcheck2 (hl : l.length < 1000000000000000 ∧ ∀ x ∈ l, fit35 x) (h : (∀ x ∈ l, rgOk x) → optFit m sc st ec sd sk sp l) : Ev (fun k => opts_Check.j2 k false m sc st ec sd sk sp l) (optC m sc st ec sd sk sp l) := by
  refine Ev.step (fun k => by simp only [opts_Check.j2]; rfl) ?_
  refine Ev.neg (by decide) ?_
  have hf : api_Range_28.f l 29 = some (l.any api_Range_28.p) := by
    unfold api_Range_28.f
    rw [if_pos ⟨rfl, by omega⟩]
  rw [hf]
  refine Ev.bind (Ev.now _) ?_
  refine Ev.ite (fun ha => ?_) (fun ha => ?_)
  · refine Ev.val (Ev.now _) (optC_no m sc st ec sd sk sp l fun hh => ?_).symm
    exact (rgany l hl.2).mp ha hh.2.2.2.2.2.2.2.2.2
  · have hall : ∀ x ∈ l, rgOk x := Classical.byContradiction fun hn => ha ((rgany l hl.2).mpr hn)
    refine Ev.bind (opttext_ev m sc st ec sd sk sp l (h hall)) ?_
    rw [mkB_size]
    refine Ev.ite (fun hb => ?_) (fun hb => ?_)
    · refine Ev.val (Ev.now _) ?_
      unfold optC; rw [if_neg (fun h2 => by have := h2.2; omega)]
    · refine Ev.val (Ev.now _) ?_
      unfold optC; rw [if_pos ⟨h hall, by omega⟩]
theorem optcheck1 (hl : l.length < 1000000000000000 ∧ ∀ x ∈ l, fit35 x) (m0 : 0 ≤ m) (m1 : m ≤ 65535) (s0 : 0 ≤ sc) (s1 : sc ≤ 14) (h4 : l.length ≤ 4) (h1 : seqOk st) (h2 : seqOk ec) : Ev (fun k => opts_Check.j1 k false m sc st ec sd sk sp l) (optC m sc st ec sd sk sp l) := by
  refine Ev.step (fun k => by simp only [opts_Check.j1]; rfl) ?_
  refine Ev.neg (by decide) ?_
  have h1' := h1
  have h2' := h2
  unfold seqOk at h1' h2'
  have two : (sd = true ∨ sc = 0) → Ev (fun k => if sp = true then opts_Check.j2 k false m sc st ec sd sk sp l else opts_Check.j2 k (decide (mx st ec > 0)) m sc st ec sd sk sp l) (optC m sc st ec sd sk sp l) := by
    intro hsd
    refine Ev.ite (fun hp => ?_) (fun hp => ?_)
    · exact optcheck2 m sc st ec sd sk sp l hl fun hall => ⟨m0, m1, s0, s1, h4, h1, h2, hsd, .inl hp, hall⟩
    · by_cases hz : st = 0 ∧ ec = 0
      · rw [decide_eq_false (fun hh => by rw [mx_gt] at hh; omega)]
        exact optcheck2 m sc st ec sd sk sp l hl fun hall => ⟨m0, m1, s0, s1, h4, h1, h2, hsd, .inr hz, hall⟩
      · rw [decide_eq_true (by rw [mx_gt]; omega)]
        refine Ev.val (optbad2 m sc st ec sd sk sp l) (optC_no m sc st ec sd sk sp l fun hh => ?_).symm
        rcases hh.2.2.2.2.2.2.2.2.1 with h | h
        · exact hp h
        · exact hz h
  refine Ev.ite (fun hd => two (.inl hd)) (fun hd => ?_)
  refine Ev.ite (fun hs => ?_) (fun hs => two (.inr (by omega)))
  refine Ev.val (optbad2 m sc st ec sd sk sp l) (optC_no m sc st ec sd sk sp l fun hh => ?_).symm
  rcases hh.2.2.2.2.2.2.2.1 with h | h
  · exact hd h
  · omega
theorem optcheck_ev (hst : -9223372036854775808 ≤ st ∧ st < 9223372036854775808) (hec : -9223372036854775808 ≤ ec ∧ ec < 9223372036854775808) (hl : l.length < 1000000000000000 ∧ ∀ x ∈ l, fit35 x) : Ev (fun k => opts_Check.f k m sc st ec sd sk sp l) (optC m sc st ec sd sk sp l) := by
  have bad : ¬ optFit m sc st ec sd sk sp l → Ev (fun k => opts_Check.j0 k true m sc st ec sd sk sp l) (optC m sc st ec sd sk sp l) := fun h => Ev.val (optbad0 m sc st ec sd sk sp l) (optC_no m sc st ec sd sk sp l h).symm
  unfold opts_Check.f
  refine Ev.ite (fun h => bad fun hh => by have := hh.1; omega) (fun m0 => ?_)
  refine Ev.ite (fun h => bad fun hh => by have := hh.2.1; omega) (fun m1 => ?_)
  refine Ev.ite (fun h => bad fun hh => by have := hh.2.2.1; omega) (fun s0 => ?_)
  refine Ev.ite (fun h => bad fun hh => by have := hh.2.2.2.1; omega) (fun s1 => ?_)
  by_cases h4 : (l.length : Int) > 4
  · rw [decide_eq_true h4]
    exact bad fun hh => by have := hh.2.2.2.2.1; omega
  · rw [decide_eq_false h4]
    refine Ev.step (fun k => by simp only [opts_Check.j0]; rfl) ?_
    refine Ev.neg (by decide) ?_
    rw [seqcheck_is st hst.1 hst.2, seqcheck_is ec hec.1 hec.2]
    refine Ev.bind (Ev.now _) ?_
    refine Ev.bind (Ev.now _) ?_
    have bad1 : ¬ optFit m sc st ec sd sk sp l → Ev (fun k => opts_Check.j1 k true m sc st ec sd sk sp l) (optC m sc st ec sd sk sp l) := fun h => Ev.val (optbad1 m sc st ec sd sk sp l) (optC_no m sc st ec sd sk sp l h).symm
    unfold seqC
    by_cases a : seqOk st
    · by_cases b : seqOk ec
      · rw [if_pos a, if_pos b, decide_eq_false (by decide)]
        exact optcheck1 m sc st ec sd sk sp l hl (by omega) (by omega) (by omega) (by omega) (by omega) a b
      · rw [if_pos a, if_neg b, decide_eq_true (by decide)]
        exact bad1 fun hh => b hh.2.2.2.2.2.2.1
    · have hx : mx (if seqOk st then 0 else 1) (if seqOk ec then 0 else 1) > 0 := by rw [if_neg a, mx_gt]; omega
      rw [decide_eq_true hx]
      exact bad1 fun hh => a hh.2.2.2.2.2.1
end
section
variable (m sc st ec : Int) (sd sk sp : Bool) (l : List S35)
/-- the bytes of options that may be, and whether they may -/
def optE : ByteArray × Int := if optOk m sc st ec sd sk sp l then (mkB (optB m sc st ec sd sk sp l), 0) else (⟨#[]⟩, 70)
theorem optenc_ev (hst : -9223372036854775808 ≤ st ∧ st < 9223372036854775808) (hec : -9223372036854775808 ≤ ec ∧ ec < 9223372036854775808) (hl : l.length < 1000000000000000 ∧ ∀ x ∈ l, fit35 x) : Ev (fun k => opts_Encode.f k m sc st ec sd sk sp l) (optE m sc st ec sd sk sp l) := by
  unfold opts_Encode.f
  refine Ev.bind (optcheck_ev m sc st ec sd sk sp l hst hec hl) ?_
  by_cases h : optOk m sc st ec sd sk sp l
  · rw [optC, if_pos h, optE, if_pos h]
    refine Ev.pos rfl ?_
    refine Ev.bind (opttext_ev m sc st ec sd sk sp l h.1) (Ev.now _)
  · rw [optC, if_neg h, optE, if_neg h]
    exact Ev.neg (by decide) (Ev.now _)
end
theorem works07 : Ev (fun k => sternpostlaw07_works.f k) true := by
  unfold sternpostlaw07_works.f
  refine Ev.bind (optenc_ev 536 0 0 0 false true false [] (by omega) (by omega) ⟨by decide, fun x hx => absurd hx (by simp)⟩) ?_
  have h : optOk 536 0 0 0 false true false [] := by decide
  rw [optE, if_pos h]
  refine Ev.pos rfl ?_
  refine Ev.val (Ev.now _) ?_
  decide +kernel
instance : DecidableEq S35 := fun x y => decidable_of_iff (x.f0 = y.f0 ∧ x.f1 = y.f1) ⟨fun h => by cases x; cases y; obtain ⟨h1, h2⟩ := h; cases h1; cases h2; rfl, fun h => by subst h; exact ⟨rfl, rfl⟩⟩
def optSame (m sc st ec : Int) (sd sk sp : Bool) (l : List S35) (m' sc' st' ec' : Int) (sd' sk' sp' : Bool) (l' : List S35) : Bool := (m == m' && sc == sc' && st == st' && ec == ec') && (sd == sd' && sk == sk' && sp == sp') && decide (l = l')
theorem rg_ne (x y : S35) : (!(x.f0 == y.f0) || (!(x.f1 == y.f1))) = !decide (x = y) := by
  cases x with
  | mk a b =>
    cases y with
    | mk c d =>
      by_cases h1 : a = c
      · by_cases h2 : b = d
        · subst h1 h2; simp
        · simp [h1, h2]
      · simp [h1]
theorem optSame_iff (m sc st ec : Int) (sd sk sp : Bool) (l : List S35) (m' sc' st' ec' : Int) (sd' sk' sp' : Bool) (l' : List S35) : optSame m sc st ec sd sk sp l m' sc' st' ec' sd' sk' sp' l' = true ↔ m = m' ∧ sc = sc' ∧ st = st' ∧ ec = ec' ∧ sd = sd' ∧ sk = sk' ∧ sp = sp' ∧ l = l' := by
  unfold optSame
  simp only [Bool.and_eq_true, beq_iff_eq, decide_eq_true_eq]
  constructor
  · rintro ⟨⟨⟨⟨⟨a, b⟩, c⟩, d⟩, ⟨e, f⟩, g⟩, h⟩; exact ⟨a, b, c, d, e, f, g, h⟩
  · rintro ⟨a, b, c, d, e, f, g, h⟩; exact ⟨⟨⟨⟨⟨a, b⟩, c⟩, d⟩, ⟨e, f⟩, g⟩, h⟩
theorem rgseq_l0 (l l' : List S35) (hlen : l.length = l'.length) (hl : l.length < 1000000000000000) : ∀ (d i : Nat), l.length - i = d → i ≤ l.length → l.take i = l'.take i →
    Ev (fun k => api_Range_24.l0 k l l' (l.length : Int) (i : Int)) (decide (l = l')) := by
  intro d
  induction d with
  | zero =>
    intro i hd hi ht
    obtain rfl : i = l.length := by omega
    rw [List.take_length, hlen, List.take_length] at ht
    refine Ev.step (fun k => by simp only [api_Range_24.l0]; rfl) ?_
    refine Ev.neg (by omega) ?_
    exact Ev.val (Ev.now _) (decide_eq_true ht).symm
  | succ d ih =>
    intro i hd hi ht
    have h1 : i < l.length := by omega
    have h2 : i < l'.length := by omega
    have e1 : rd_T35 l (i : Int) = l[i] := by simp [rd_T35, h1]
    have e2 : rd_T35 l' (i : Int) = l'[i] := by simp [rd_T35, h2]
    refine Ev.step (fun k => by simp only [api_Range_24.l0]; rfl) ?_
    refine Ev.pos (by omega) ?_
    refine Ev.pos (by omega) ?_
    refine Ev.pos (by omega) ?_
    refine Ev.pos (by omega) ?_
    rw [e1, e2, rg_ne]
    by_cases h : l[i] = l'[i]
    · rw [decide_eq_true h]
      refine Ev.neg (by decide) ?_
      rw [w64 (by omega) (by omega)]
      exact ih (i + 1) (by omega) (by omega) (by rw [List.take_succ_eq_append_getElem h1, List.take_succ_eq_append_getElem h2, ht, h])
    · rw [decide_eq_false h]
      refine Ev.pos (by decide) ?_
      refine Ev.val (Ev.now _) (decide_eq_false ?_).symm
      intro hh
      subst hh
      exact h rfl
theorem rgseq_ev (l l' : List S35) (hl : l.length < 1000000000000000) : Ev (fun k => api_Range_24.f k l l') (decide (l = l')) := by
  unfold api_Range_24.f
  refine Ev.ite (fun h => ?_) (fun h => ?_)
  · exact rgseq_l0 l l' (by omega) hl l.length 0 rfl (by omega) (by simp)
  · refine Ev.val (Ev.now _) (decide_eq_false ?_).symm
    intro hh
    subst hh
    exact h rfl
section
variable (m sc st ec : Int) (sd sk sp : Bool) (l : List S35) (m' sc' st' ec' : Int) (sd' sk' sp' : Bool) (l' : List S35)
theorem optsame_ev (hl : l.length < 1000000000000000) : Ev (fun k => opts_Same.f k m sc st ec sd sk sp l m' sc' st' ec' sd' sk' sp' l') (optSame m sc st ec sd sk sp l m' sc' st' ec' sd' sk' sp' l') := by
  unfold opts_Same.f optSame
  refine Ev.ite (fun h => ?_) (fun h => ?_)
  · refine Ev.ite (fun h2 => ?_) (fun h2 => ?_)
    · refine Ev.bind (rgseq_ev l l' hl) ?_
      refine Ev.val (Ev.now _) ?_
      simp only [Bool.and_eq_true] at h h2
      simp [h.1, h.2.1, h.2.2.1, h.2.2.2, h2.1, h2.2.1, h2.2.2]
    · refine Ev.val (Ev.now _) ?_
      rw [show (sd == sd' && sk == sk' && sp == sp') = false from by rw [Bool.and_assoc]; simpa using h2]; simp
  · refine Ev.val (Ev.now _) ?_
    rw [show (m == m' && sc == sc' && st == st' && ec == ec') = false from by rw [Bool.and_assoc, Bool.and_assoc]; simpa using h]; simp
end
theorem copied_is (m sc st ec : Int) (sd sk sp : Bool) (l : List S35) (hl : l.length < 8796093022208) : sternpostlaw07_copied.f m sc st ec sd sk sp l = some (m, sc, st, ec, sd, sk, sp, l) := by
  unfold sternpostlaw07_copied.f
  simp only [Option.bind_some]
  rw [if_pos (by simp; omega), List.nil_append]
section
variable (m sc st ec : Int) (sd sk sp : Bool) (l : List S35)
def optLn : Int := if optOk m sc st ec sd sk sp l then ((optB m sc st ec sd sk sp l).length : Int) else 0
theorem optlong_ev (hst : -9223372036854775808 ≤ st ∧ st < 9223372036854775808) (hec : -9223372036854775808 ≤ ec ∧ ec < 9223372036854775808) (hl : l.length < 1000000000000000 ∧ ∀ x ∈ l, fit35 x) : Ev (fun k => opts_Long.f k m sc st ec sd sk sp l) (optLn m sc st ec sd sk sp l) := by
  unfold opts_Long.f
  refine Ev.bind (optenc_ev m sc st ec sd sk sp l hst hec hl) ?_
  unfold optE optLn
  by_cases h : optOk m sc st ec sd sk sp l
  · rw [if_pos h, if_pos h]; exact Ev.now _
  · rw [if_neg h, if_neg h]; exact Ev.now _
end
section
variable (m sc st ec : Int) (sd sk sp : Bool) (l : List S35)
theorem padB_len (b : List UInt8) : (padB b).length = (b.length + 3) / 4 * 4 := by
  unfold padB; rw [List.length_append, List.length_replicate]; omega
theorem oRgs_len (l : List S35) : (oRgs l).length = if 0 < l.length then 2 + 8 * l.length else 0 := by
  unfold oRgs
  by_cases h : 0 < l.length
  · rw [if_pos h, if_pos h, opB_len, rgsB_len]
  · rw [if_neg h, if_neg h]; rfl
theorem optB_mono (l l' : List S35) (h : l.length ≤ l'.length) : (optB m sc st ec sd sk sp l).length ≤ (optB m sc st ec sd sk sp l').length := by
  unfold optB bareB
  rw [padB_len, padB_len]
  simp only [List.length_append, oRgs_len]
  by_cases h1 : 0 < l.length
  · rw [if_pos h1, if_pos (by omega)]; omega
  · rw [if_neg h1]; omega
theorem optOk_take (n : Nat) (h : optOk m sc st ec sd sk sp l) : optOk m sc st ec sd sk sp (l.take n) := by
  have hm := optB_mono m sc st ec sd sk sp (l.take n) l (by rw [List.length_take]; omega)
  have h2 := h.2
  obtain ⟨⟨a, b, c, d, e, f, g, i, j, k⟩, _⟩ := h
  exact ⟨⟨a, b, c, d, by rw [List.length_take]; omega, f, g, i, j, fun x hx => k x (List.mem_of_mem_take hx)⟩, by omega⟩
/-- how many ranges there is room for -/
def fitN (room : Int) : Nat → Nat
  | 0 => 0
  | n + 1 => if ((optB m sc st ec sd sk sp (l.take (n + 1))).length : Int) > room then fitN room n else n + 1
theorem fitN_le (room : Int) : ∀ n, fitN m sc st ec sd sk sp l room n ≤ n := by
  intro n
  induction n with
  | zero => exact Nat.le_refl _
  | succ n ih => unfold fitN; split <;> omega
theorem fitN_room (room : Int) : ∀ n, 0 < fitN m sc st ec sd sk sp l room n → ((optB m sc st ec sd sk sp (l.take (fitN m sc st ec sd sk sp l room n))).length : Int) ≤ room := by
  intro n
  induction n with
  | zero => intro h; exact absurd h (by simp [fitN])
  | succ n ih =>
    unfold fitN
    by_cases h : ((optB m sc st ec sd sk sp (l.take (n + 1))).length : Int) > room
    · rw [if_pos h]; exact ih
    · rw [if_neg h]; intro _; omega
theorem fitN_next (room : Int) : ∀ n, fitN m sc st ec sd sk sp l room n < n → ((optB m sc st ec sd sk sp (l.take (fitN m sc st ec sd sk sp l room n + 1))).length : Int) > room := by
  intro n
  induction n with
  | zero => intro h; exact absurd h (by simp)
  | succ n ih =>
    unfold fitN
    by_cases h : ((optB m sc st ec sd sk sp (l.take (n + 1))).length : Int) > room
    · rw [if_pos h]
      intro _
      by_cases h2 : fitN m sc st ec sd sk sp l room n < n
      · exact ih h2
      · have := fitN_le m sc st ec sd sk sp l room n
        rw [show fitN m sc st ec sd sk sp l room n = n from by omega]; exact h
    · rw [if_neg h]; intro h3; omega
def optF (room : Int) : Int × Int × Int × Int × Bool × Bool × Bool × List S35 :=
  if optOk m sc st ec sd sk sp l then (m, sc, st, ec, sd, sk, sp, l.take (fitN m sc st ec sd sk sp l room l.length)) else (0, 0, 0, 0, false, false, false, [])
theorem optfit_l0 (room : Int) (hst : -9223372036854775808 ≤ st ∧ st < 9223372036854775808) (hec : -9223372036854775808 ≤ ec ∧ ec < 9223372036854775808) (hl : l.length < 1000000000000000 ∧ ∀ x ∈ l, fit35 x) (hok : optOk m sc st ec sd sk sp l) : ∀ n, n ≤ l.length →
    Ev (fun k => opts_Fit.l0 k room m sc st ec sd sk sp (l.take n)) (m, sc, st, ec, sd, sk, sp, l.take (fitN m sc st ec sd sk sp l room n)) := by
  intro n
  induction n with
  | zero =>
    intro _
    refine Ev.step (fun k => by simp only [opts_Fit.l0]; rfl) ?_
    exact Ev.neg (by simp) (Ev.now _)
  | succ n ih =>
    intro hn
    have hlen : (l.take (n + 1)).length = n + 1 := by rw [List.length_take]; omega
    refine Ev.step (fun k => by simp only [opts_Fit.l0]; rfl) ?_
    rw [hlen]
    refine Ev.pos (by omega) ?_
    refine Ev.bind (optlong_ev m sc st ec sd sk sp (l.take (n + 1)) hst hec ⟨by omega, fun x hx => hl.2 x (List.mem_of_mem_take hx)⟩) ?_
    rw [optLn, if_pos (optOk_take m sc st ec sd sk sp l (n + 1) hok)]
    unfold fitN
    by_cases h : ((optB m sc st ec sd sk sp (l.take (n + 1))).length : Int) > room
    · rw [if_pos h]
      refine Ev.pos h ?_
      rw [w64 (by omega) (by omega)]
      refine Ev.pos (by omega) ?_
      refine Ev.pos (by omega) ?_
      rw [show (((n + 1 : Nat) : Int) - 1).toNat = n from by omega, List.take_take, Nat.min_eq_left (by omega)]
      exact ih (by omega)
    · rw [if_neg h]
      exact Ev.neg h (Ev.now _)
theorem optfit_ev (room : Int) (hst : -9223372036854775808 ≤ st ∧ st < 9223372036854775808) (hec : -9223372036854775808 ≤ ec ∧ ec < 9223372036854775808) (hl : l.length < 1000000000000000 ∧ ∀ x ∈ l, fit35 x) : Ev (fun k => opts_Fit.f k m sc st ec sd sk sp l room) (optF m sc st ec sd sk sp l room) := by
  unfold opts_Fit.f
  refine Ev.bind (optcheck_ev m sc st ec sd sk sp l hst hec hl) ?_
  by_cases h : optOk m sc st ec sd sk sp l
  · rw [optC, if_pos h, optF, if_pos h]
    refine Ev.pos rfl ?_
    have h4 := h.1.2.2.2.2.1
    have hc : api_Range_31.f l = some l := by unfold api_Range_31.f; rw [if_pos (by omega)]
    rw [hc]
    refine Ev.bind (Ev.now _) ?_
    have := optfit_l0 m sc st ec sd sk sp l room hst hec hl h l.length (Nat.le_refl _)
    rw [List.take_length] at this
    exact this
  · rw [optC, if_neg h, optF, if_neg h]
    exact Ev.neg (by decide) (Ev.now _)
end
section
variable (m sc st ec : Int) (sd sk sp : Bool) (l : List S35)
theorem fitlaw2 (n : Nat) (hl : l.length < 8796093022208) (m' sc' st' ec' : Int) (sd' sk' sp' : Bool) (l' : List S35) : Ev (fun k => sternpostlaw07_OptsFit.j2 k m sc st ec sd sk sp l m sc st ec sd sk sp (l.take n) m' sc' st' ec' sd' sk' sp' l') true := by
  refine Ev.step (fun k => by simp only [sternpostlaw07_OptsFit.j2]; rfl) ?_
  unfold sternpostlaw07_OptsFit_tail.f
  rw [copied_is m sc st ec sd sk sp (l.take n) (by rw [List.length_take]; omega)]
  refine Ev.bind (Ev.now _) ?_
  dsimp only
  refine Ev.bind (optsame_ev m sc st ec sd sk sp l m sc st ec sd sk sp l (by omega)) ?_
  exact Ev.val (Ev.now _) ((optSame_iff _ _ _ _ _ _ _ _ _ _ _ _ _ _ _ _).mpr ⟨rfl, rfl, rfl, rfl, rfl, rfl, rfl, rfl⟩)
theorem fitlaw1 (room : Int) (n : Nat) (hst : -9223372036854775808 ≤ st ∧ st < 9223372036854775808) (hec : -9223372036854775808 ≤ ec ∧ ec < 9223372036854775808) (hl : l.length < 8796093022208 ∧ ∀ x ∈ l, fit35 x) (hok : optOk m sc st ec sd sk sp l) (hn : n ≤ l.length)
    (hnext : n < l.length → ((optB m sc st ec sd sk sp (l.take (n + 1))).length : Int) > room) : ∀ (d i : Nat), n - i = d → i ≤ n →
    Ev (fun k => sternpostlaw07_OptsFit.l0 k room (l.take n) (n : Int) (i : Int) m sc st ec sd sk sp l m sc st ec sd sk sp (l.take n)) true := by
  have hlen : (l.take n).length = n := by rw [List.length_take]; omega
  intro d
  induction d with
  | zero =>
    intro i hd hi
    obtain rfl : i = n := by omega
    refine Ev.step (fun k => by simp only [sternpostlaw07_OptsFit.l0]; rfl) ?_
    refine Ev.neg (by omega) ?_
    rw [copied_is m sc st ec sd sk sp (l.take i) (by omega)]
    refine Ev.bind (Ev.now _) ?_
    dsimp only
    rw [hlen]
    refine Ev.ite (fun h => ?_) (fun _ => fitlaw2 m sc st ec sd sk sp l i hl.1 _ _ _ _ _ _ _ _)
    refine Ev.pos (by omega) ?_
    refine Ev.pos (by omega) ?_
    have hlt : i < l.length := by omega
    have e1 : rd_T35 l (i : Int) = l[i] := by simp [rd_T35, hlt]
    have e2 : l.take i ++ [(⟨(rd_T35 l (i : Int)).f0, (rd_T35 l (i : Int)).f1⟩ : S35)] = l.take (i + 1) := by rw [e1, List.take_succ_eq_append_getElem hlt]
    rw [e2]
    refine Ev.bind (Ev.now _) ?_
    refine Ev.bind (optlong_ev m sc st ec sd sk sp (l.take (i + 1)) hst hec ⟨by rw [List.length_take]; omega, fun x hx => hl.2 x (List.mem_of_mem_take hx)⟩) ?_
    rw [optLn, if_pos (optOk_take m sc st ec sd sk sp l (i + 1) hok)]
    have := hnext hlt
    exact Ev.neg (by omega) (fitlaw2 m sc st ec sd sk sp l i hl.1 _ _ _ _ _ _ _ _)
  | succ d ih =>
    intro i hd hi
    have hlt : i < l.length := by omega
    have hlt2 : i < (l.take n).length := by omega
    have e1 : rd_T35 l (i : Int) = l[i] := by simp [rd_T35, hlt]
    have e2 : rd_T35 (l.take n) (i : Int) = l[i] := by
      show (l.take n).getD ((i : Int)).toNat z35 = _
      rw [Int.toNat_natCast, List.getD_eq_getElem?_getD, List.getElem?_eq_getElem hlt2, Option.getD_some, List.getElem_take]
    refine Ev.step (fun k => by simp only [sternpostlaw07_OptsFit.l0]; rfl) ?_
    refine Ev.pos (by omega) ?_
    refine Ev.pos (by omega) ?_
    refine Ev.pos (by omega) ?_
    refine Ev.pos (by omega) ?_
    rw [e1, e2]
    refine Ev.neg (by simp) ?_
    rw [w64 (by omega) (by omega)]
    exact ih (i + 1) (by omega) (by omega)
end
theorem OptsFit : sternpostlaw07_OptsFit.Pure := by
  intro m sc st ec sd sk sp l room _ _ hst hec hl _
  have hst := wf64 hst
  have hec := wf64 hec
  have hl1 : l.length < 8796093022208 := by omega
  have hl2 : l.length < 1000000000000000 ∧ ∀ x ∈ l, fit35 x := ⟨by omega, hl.2⟩
  refine Ev.rounds ?_
  unfold sternpostlaw07_OptsFit.f
  refine Ev.bind works07 ?_
  refine Ev.pos rfl ?_
  refine Ev.bind (optcheck_ev m sc st ec sd sk sp l hst hec hl2) ?_
  by_cases h : optOk m sc st ec sd sk sp l
  · rw [optC, if_pos h]
    refine Ev.pos rfl ?_
    refine Ev.bind (optfit_ev m sc st ec sd sk sp l room hst hec hl2) ?_
    rw [optF, if_pos h]
    dsimp only
    obtain ⟨n, hn⟩ : ∃ n, fitN m sc st ec sd sk sp l room l.length = n := ⟨_, rfl⟩
    have n1 := fitN_le m sc st ec sd sk sp l room l.length
    have n2 := fitN_room m sc st ec sd sk sp l room l.length
    have n3 := fitN_next m sc st ec sd sk sp l room l.length
    rw [hn] at n1 n2 n3 ⊢
    have hlen : (l.take n).length = n := by rw [List.length_take]; omega
    have hl3 : (l.take n).length < 1000000000000000 ∧ ∀ x ∈ l.take n, fit35 x := ⟨by omega, fun x hx => hl.2 x (List.mem_of_mem_take hx)⟩
    have htk := optOk_take m sc st ec sd sk sp l n h
    refine Ev.bind (optcheck_ev m sc st ec sd sk sp (l.take n) hst hec hl3) ?_
    rw [optC, if_pos htk]
    refine Ev.pos rfl ?_
    rw [hlen]
    refine Ev.neg (by omega) ?_
    refine Ev.bind (optlong_ev m sc st ec sd sk sp (l.take n) hst hec hl3) ?_
    rw [optLn, if_pos htk]
    have fin : Ev (fun k => sternpostlaw07_OptsFit.j0 k room false m sc st ec sd sk sp l m sc st ec sd sk sp (l.take n)) true := by
      refine Ev.step (fun k => by simp only [sternpostlaw07_OptsFit.j0]; rfl) ?_
      refine Ev.neg (by decide) ?_
      have := fitlaw1 m sc st ec sd sk sp l room n hst hec ⟨hl1, hl.2⟩ h n1 n3 n 0 rfl (by omega)
      rw [hlen]
      exact this
    refine Ev.ite (fun hb => ?_) (fun _ => fin)
    have hz : ¬ ((n : Int) > 0) := fun hp => by have := n2 (by omega); omega
    rw [decide_eq_false hz]
    exact fin
  · rw [optC, if_neg h]
    refine Ev.neg (by decide) ?_
    refine Ev.bind (optfit_ev m sc st ec sd sk sp l room hst hec hl2) ?_
    rw [optF, if_neg h]
    dsimp only
    refine Ev.bind (optsame_ev 0 0 0 0 false false false [] 0 0 0 0 false false false [] (by decide)) ?_
    exact Ev.val (Ev.now _) (by decide)
end Go.Proofs.Ytbloljikejinaaa.Pure

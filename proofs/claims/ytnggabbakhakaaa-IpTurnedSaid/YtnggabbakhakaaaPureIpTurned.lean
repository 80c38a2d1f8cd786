/- A packet with one bit of its header turned, but those that tell how long the header is, is none: for every packet and bit. -/
import Derived.Test.YtnggabbakhakaaaPIpTurnedx6
set_option linter.unusedVariables false
set_option linter.unusedSimpArgs false
namespace Go.Proofs.Ytnggabbakhakaaa.Pure
open Go Go.RowKit Go.Proofs.Ytnggabbakhakaaa.PIpTurned Go.Proofs.YtnggabbakhakaaaW.PrintWords Go.Proofs.YtnggabbakhakaaaW.PrintLast Go.Proofs.YtnggabbakhakaaaW.PrintMore
attribute [local irreducible] shl shr Go.bits
/-! ### plain words on numbers and bytes -/
namespace SP
/-- what is above 16 bits, added again -/
def canon (n : Nat) : Nat := if n = 0 then 0 else (n - 1) % 65535 + 1
theorem canon_le (n : Nat) : canon n ≤ 65535 := by unfold canon; split <;> omega
theorem canon_small {n : Nat} (h : n ≤ 65535) : canon n = n := by unfold canon; split <;> omega
theorem canon_step {n : Nat} (h : 65535 < n) : canon (n / 65536 + n % 65536) = canon n := by unfold canon; split <;> split <;> omega
theorem canon_add (a b : Nat) : canon (canon a + b) = canon (a + b) := by unfold canon; split <;> split <;> split <;> omega
theorem canon_mod (n : Nat) : canon n % 65535 = n % 65535 := by unfold canon; split <;> omega
theorem canon_zero {n : Nat} : canon n = 0 ↔ n = 0 := by unfold canon; split <;> omega
theorem canon_eq {a b : Nat} (h : a % 65535 = b % 65535) (h0 : a = 0 ↔ b = 0) : canon a = canon b := by unfold canon; split <;> split <;> omega
/-- a byte's weight at a place -/
def wt (p : Nat) (b : Nat) : Nat := if p % 2 = 0 then 256 * b else b
/-- the weights of bytes from a place on -/
def ws : Nat → List UInt8 → Nat
  | _, [] => 0
  | p, b :: l => wt p b.toNat + ws (p + 1) l
theorem wt_le (p : Nat) (b : UInt8) : wt p b.toNat ≤ 65280 := by have := b.toNat_lt; unfold wt; split <;> omega
theorem ws_le (l : List UInt8) : ∀ p, ws p l ≤ 65280 * l.length := by
  induction l with
  | nil => intro p; simp [ws]
  | cons b l ih => intro p; have := ih (p + 1); have := wt_le p b; simp only [ws, List.length_cons]; omega
theorem ws_append (a b : List UInt8) : ∀ p, ws p (a ++ b) = ws p a + ws (p + a.length) b := by
  induction a with
  | nil => intro p; simp [ws]
  | cons x l ih => intro p; simp only [List.cons_append, ws, ih, List.length_cons]; rw [show p + 1 + l.length = p + (l.length + 1) from by omega]; omega
theorem wt_parity {p q : Nat} (h : p % 2 = q % 2) (b : Nat) : wt p b = wt q b := by unfold wt; rw [h]
theorem ws_parity (l : List UInt8) : ∀ {p q : Nat}, p % 2 = q % 2 → ws p l = ws q l := by
  induction l with
  | nil => intros; rfl
  | cons x l ih => intro p q h; simp only [ws, wt_parity h]; rw [ih (p := p + 1) (q := q + 1) (by omega)]
/-- a string's bytes -/
abbrev by_ (s : ByteArray) : List UInt8 := s.data.toList
theorem by_len (s : ByteArray) : (by_ s).length = s.size := by
  show s.data.toList.length = s.data.size; exact Array.length_toList
theorem by_append (s t : ByteArray) : by_ (s ++ t) = by_ s ++ by_ t := by
  show (s ++ t).data.toList = _; rw [ByteArray.data_append, Array.toList_append]
theorem by_extract (s : ByteArray) (i j : Nat) : by_ (s.extract i j) = ((by_ s).drop i).take (j - i) := by
  simp [by_, ByteArray.data_extract, List.extract_eq_take_drop]
theorem by_ext {s t : ByteArray} (h : by_ s = by_ t) : s = t := by
  cases s; cases t; simp only [by_] at h; congr; exact Array.toList_inj.mp h
/-- byte i of a list -/
def nth (l : List UInt8) (i : Nat) : Nat := (l.getD i 0).toNat
theorem nth_lt (l : List UInt8) (i : Nat) : nth l i < 256 := (l.getD i 0).toNat_lt
theorem drop_cons {l : List UInt8} {i : Nat} (h : i < l.length) : l.drop i = l.getD i 0 :: l.drop (i + 1) := by
  rw [List.drop_eq_getElem_cons h]; simp [List.getD, h]
theorem ws_drop {l : List UInt8} {i : Nat} (p : Nat) (h : i < l.length) : ws p (l.drop i) = wt p (nth l i) + ws (p + 1) (l.drop (i + 1)) := by
  rw [drop_cons h]; rfl
theorem ws_drop_end {l : List UInt8} {i : Nat} (p : Nat) (h : l.length ≤ i) : ws p (l.drop i) = 0 := by
  rw [List.drop_eq_nil_of_le h]; rfl
/-- a number's bytes, k of them -/
def bytesN (n : Nat) : Nat → List UInt8
  | 0 => []
  | k + 1 => UInt8.ofNat (n / 2 ^ (8 * k) % 256) :: bytesN n k
theorem bytesN_len (n k : Nat) : (bytesN n k).length = k := by induction k with
  | zero => rfl
  | succ k ih => simp [bytesN, ih]
/-- the number of bytes -/
def num (l : List UInt8) : Nat := l.foldl (fun n b => n * 256 + b.toNat) 0
theorem num_acc (l : List UInt8) : ∀ a : Nat, l.foldl (fun n b => n * 256 + b.toNat) a = a * 256 ^ l.length + num l := by
  induction l with
  | nil => intro a; show a = a * 256 ^ 0 + 0; omega
  | cons b l ih =>
    intro a
    have h0 : num (b :: l) = l.foldl (fun n b => n * 256 + b.toNat) (0 * 256 + b.toNat) := rfl
    rw [h0, List.foldl_cons, ih, ih, List.length_cons, Nat.pow_succ, Nat.zero_mul, Nat.zero_add, Nat.add_mul, Nat.mul_assoc, Nat.mul_comm 256]
    omega
theorem num_cons (b : UInt8) (l : List UInt8) : num (b :: l) = b.toNat * 256 ^ l.length + num l := by
  have := num_acc l b.toNat; simp only [num, List.foldl_cons, Nat.zero_mul, Nat.zero_add]; exact this
theorem num_append (a b : List UInt8) : num (a ++ b) = num a * 256 ^ b.length + num b := by
  unfold num; rw [List.foldl_append, num_acc]; rfl
theorem num_lt (l : List UInt8) : num l < 256 ^ l.length := by
  induction l with
  | nil => simp [num]
  | cons b l ih => rw [num_cons, List.length_cons, Nat.pow_succ]; have := b.toNat_lt; have h : b.toNat * 256 ^ l.length ≤ 255 * 256 ^ l.length := Nat.mul_le_mul_right _ (by omega); omega
theorem num_bytesN (n k : Nat) : num (bytesN n k) = n % 256 ^ k := by
  induction k with
  | zero => simp [bytesN, num, Nat.mod_one]
  | succ k ih =>
    rw [bytesN, num_cons, ih, bytesN_len]
    have e : (2 : Nat) ^ (8 * k) = 256 ^ k := by rw [Nat.pow_mul]
    rw [e, Nat.pow_succ, Nat.mod_mul, Nat.mul_comm (256 ^ k)]
    have : (UInt8.ofNat (n / 256 ^ k % 256)).toNat = n / 256 ^ k % 256 := by simp [UInt8.toNat_ofNat']
    rw [this]; omega
theorem bytesN_num (l : List UInt8) : bytesN (num l) l.length = l := by
  induction l with
  | nil => rfl
  | cons b l ih =>
    have key : ∀ (m k : Nat), bytesN (m * 256 ^ l.length + num l) k = bytesN (num l) k ∨ l.length < k := by
      intro m k
      by_cases hk : l.length < k
      · exact .inr hk
      · left
        induction k with
        | zero => rfl
        | succ k ihk =>
          rw [bytesN, bytesN, ihk (by omega)]
          have e : (2 : Nat) ^ (8 * k) = 256 ^ k := by rw [Nat.pow_mul]
          obtain ⟨d, hd⟩ : ∃ d, l.length = k + 1 + d := ⟨l.length - (k + 1), by omega⟩
          rw [e]
          have : (m * 256 ^ l.length + num l) / 256 ^ k % 256 = num l / 256 ^ k % 256 := by
            rw [hd, Nat.pow_add, Nat.pow_succ]
            rw [show m * (256 ^ k * 256 * 256 ^ d) = 256 ^ k * (256 * (m * 256 ^ d)) from by ac_rfl]
            rw [Nat.mul_add_div (Nat.pow_pos (by omega)), Nat.mul_add_mod]
          rw [this]
    rw [List.length_cons, num_cons, bytesN]
    have e : (2 : Nat) ^ (8 * l.length) = 256 ^ l.length := by rw [Nat.pow_mul]
    have hl := num_lt l
    have h1 : (b.toNat * 256 ^ l.length + num l) / 2 ^ (8 * l.length) % 256 = b.toNat := by
      rw [e, Nat.mul_comm, Nat.mul_add_div (Nat.pow_pos (by omega)), Nat.div_eq_of_lt hl]; have := b.toNat_lt; omega
    rw [h1]
    rcases key b.toNat l.length with h | h
    · rw [h, ih]; congr 1; exact UInt8.toNat_inj.mp (by simp)
    · omega
end SP
theorem Ev.pos {α : Type} {c : Prop} [Decidable c] {g f : Nat → Option α} {r : α} (hc : c) (h : Ev g r) : Ev (fun k => if c then g k else f k) r := by
  simp only [if_pos hc]; exact h
theorem Ev.neg {α : Type} {c : Prop} [Decidable c] {g f : Nat → Option α} {r : α} (hc : ¬ c) (h : Ev f r) : Ev (fun k => if c then g k else f k) r := by
  simp only [if_neg hc]; exact h
theorem wf64 {n : Int} (h : (Lit.int .i64 n).wf = true) : -9223372036854775808 ≤ n ∧ n < 9223372036854775808 := by
  have e : (Lit.int .i64 n).wf = decide (IntKind.i64.min ≤ n ∧ n ≤ 9223372036854775807) := by simp [Lit.wf]
  have e2 : IntKind.i64.min = -9223372036854775808 := by decide
  rw [e, e2] at h
  have := of_decide_eq_true h
  omega
/-! ### package sum and the reference's, as the words above -/
theorem and_mask (n m : Nat) (h : n < 2 ^ 63) (i : Nat) (hi : m = 2 ^ i - 1) (hi2 : i ≤ 63) : bits .and .i64 (n : Int) (m : Int) = ((n % 2 ^ i : Nat) : Int) := by
  subst hi
  have hw : ∀ n : Int, 0 ≤ n → n < 9223372036854775808 → IntKind.i64.wrap n = n := by
    intro n h0 h1; rw [IntKind.wrap_i64]; have : (2 : Int) ^ 62 = 4611686018427387904 := by decide
    omega
  have := bits_mask .i64 63 (by decide) hw i hi2 (n : Int) (by omega) (by exact_mod_cast h)
  have e : ((2 ^ i - 1 : Nat) : Int) = (2 : Int) ^ i - 1 := by
    have : 1 ≤ 2 ^ i := Nat.one_le_two_pow
    rw [Int.ofNat_sub this]; simp
  rw [e, this]; simp
theorem bits16 (n : Nat) (h : n < 2 ^ 63) : bits .and .i64 (n : Int) 65535 = ((n % 65536 : Nat) : Int) := and_mask n 65535 h 16 rfl (by omega)
theorem bt_nth (s : ByteArray) (i : Nat) : bt s (i : Int) = ((SP.nth (SP.by_ s) i : Nat) : Int) := by
  unfold bt SP.nth
  simp only [Int.toNat_natCast]
  split
  · rename_i h
    congr 1
    have h' : i < (SP.by_ s).length := by rw [SP.by_len]; exact h
    rw [List.getD_eq_getElem?_getD, List.getElem?_eq_getElem h']
    rfl
  · rename_i h
    rw [List.getD_eq_getElem?_getD, List.getElem?_eq_none (by rw [SP.by_len]; omega)]; rfl
theorem w64 {n : Int} (h0 : -9223372036854775808 ≤ n) (h1 : n < 9223372036854775808) : wrap64 n = n := by unfold wrap64; omega
theorem tmod2 (n : Nat) : Int.tmod (n : Int) 2 = ((n % 2 : Nat) : Int) := by rw [Int.tmod_eq_emod_of_nonneg (by omega)]; omega

theorem carry_ev : ∀ (n : Nat), n < 9223372036854775808 → Ev (fun k => sum_carry.f k (n : Int)) ((SP.canon n : Nat) : Int) := by
  intro n
  induction n using Nat.strongRecOn with
  | _ n ih =>
    intro h
    show Ev (fun k => sum_carry.l0 k (n : Int)) _
    by_cases h1 : 65535 < n
    · refine Ev.step (f := fun k => sum_carry.l0 k ((n / 65536 + n % 65536 : Nat) : Int)) (fun k => ?_) ?_
      · simp only [sum_carry.l0]; rw [if_pos (by omega), bits16 n h, w64 (by omega) (by omega)]; congr 1
      · rw [← SP.canon_step h1]; exact ih _ (by omega) (by omega)
    · refine Ev.step (f := fun _ => some (n : Int)) (fun k => ?_) ?_
      · simp only [sum_carry.l0]; rw [if_neg (by omega)]
      · rw [SP.canon_small (by omega)]; exact Ev.now _
theorem shl_wt (p b : Nat) (hb : b < 256) : shl .i64 (wrap64 (b : Int)) (wrap64 (8 - (wrap64 ((Int.tmod (p : Int) 2) * 8)))) = ((SP.wt p b : Nat) : Int) := by
  rw [tmod2]
  unfold SP.wt shl
  rw [IntKind.wrap_i64, w64 (n := (b : Int)) (by omega) (by omega)]
  split
  · rename_i h; rw [h]; simp [wrap64, IntKind.bits]; omega
  · rename_i h; rw [show p % 2 = 1 from by omega]; simp [wrap64, IntKind.bits]; omega
theorem shamt (p : Nat) : 0 ≤ (wrap64 (8 - (wrap64 ((Int.tmod (p : Int) 2) * 8)))) := by
  rw [tmod2]; unfold wrap64; omega
section
variable {s : ByteArray} {x8 : List ByteArray} {x9 x10 r : Int}
theorem total_l1 (hs : s.size < 9223372036854775808) : ∀ (d i n p : Nat), s.size - i = d → i ≤ s.size → n + SP.ws p ((SP.by_ s).drop i) < 9223372036854775808 → p + (s.size - i) < 9223372036854775808 →
    Ev (fun k => sum_total.l0 k ((n + SP.ws p ((SP.by_ s).drop i) : Nat) : Int) ((p + (s.size - i) : Nat) : Int) x8 x9 (wrap64 (x10 + 1))) r →
    Ev (fun k => sum_total.l1 k (n : Int) (p : Int) s x8 x9 x10 (s.size : Int) (i : Int)) r := by
  intro d
  induction d with
  | zero =>
    intro i n p hd hi hn hp h
    refine Ev.step (fun k => ?_) h
    simp only [sum_total.l1]; rw [if_neg (by omega), SP.ws_drop_end p (by rw [SP.by_len]; omega), show s.size - i = 0 from hd]; simp
  | succ d ih =>
    intro i n p hd hi hn hp h
    have hlt : i < (SP.by_ s).length := by rw [SP.by_len]; omega
    rw [SP.ws_drop p hlt] at hn h
    have hb := SP.nth_lt (SP.by_ s) i
    have hsz := SP.by_len s
    refine Ev.step (f := fun k => sum_total.l1 k ((n + SP.wt p (SP.nth (SP.by_ s) i) : Nat) : Int) ((p + 1 : Nat) : Int) s x8 x9 x10 (s.size : Int) ((i + 1 : Nat) : Int)) (fun k => ?_) (ih (i + 1) (n + SP.wt p (SP.nth (SP.by_ s) i)) (p + 1) (by omega) (by omega) (by omega) (by omega) ?_)
    · simp only [sum_total.l1]
      rw [if_pos (by omega), if_pos (by omega), if_pos (by omega), if_pos (shamt p), bt_nth, shl_wt p _ hb]
      rw [w64 (n := (p : Int) + 1) (by omega) (by omega), w64 (n := (i : Int) + 1) (by omega) (by omega), w64 (by omega) (by omega)]
      congr 1
    · rw [show n + SP.wt p (SP.nth (SP.by_ s) i) + SP.ws (p + 1) ((SP.by_ s).drop (i + 1)) = n + (SP.wt p (SP.nth (SP.by_ s) i) + SP.ws (p + 1) ((SP.by_ s).drop (i + 1))) from by omega, show p + 1 + (s.size - (i + 1)) = p + (s.size - i) from by omega]
      exact h
end
/-- pieces, one behind the other -/
def SPflat (l : List ByteArray) : List UInt8 := l.flatMap SP.by_
theorem flat_drop {l : List ByteArray} {i : Nat} (h : i < l.length) : SPflat (l.drop i) = SP.by_ (l.getD i ByteArray.empty) ++ SPflat (l.drop (i + 1)) := by
  rw [List.drop_eq_getElem_cons h, SPflat, List.flatMap_cons, List.getD_eq_getElem?_getD, List.getElem?_eq_getElem h]; rfl
theorem total_l0 (l : List ByteArray) (hl : l.length < 9223372036854775808) : ∀ (d i n p : Nat), l.length - i = d → i ≤ l.length → n + SP.ws p (SPflat (l.drop i)) < 9223372036854775808 → p + (SPflat (l.drop i)).length < 9223372036854775808 →
    Ev (fun k => sum_total.l0 k (n : Int) (p : Int) l (l.length : Int) (i : Int)) ((SP.canon (n + SP.ws p (SPflat (l.drop i))) : Nat) : Int) := by
  intro d
  induction d with
  | zero =>
    intro i n p hd hi hn hp
    rw [List.drop_eq_nil_of_le (by omega)] at hn ⊢
    refine Ev.step (f := fun k => (sum_carry.f k (n : Int)).bind fun t => some t) (fun k => ?_) ?_
    · simp only [sum_total.l0]; rw [if_neg (by omega)]
    · exact Ev.bind (carry_ev n (by simpa [SPflat, SP.ws] using hn)) (Ev.now _)
  | succ d ih =>
    intro i n p hd hi hn hp
    have hlt : i < l.length := by omega
    rw [flat_drop hlt] at hn hp ⊢
    rw [SP.ws_append] at hn ⊢
    rw [List.length_append] at hp
    refine Ev.step (f := fun k => sum_total.l1 k (n : Int) (p : Int) (l.getD i ByteArray.empty) l (l.length : Int) (i : Int) ((l.getD i ByteArray.empty).size : Int) ((0 : Nat) : Int)) (fun k => ?_) ?_
    · simp only [sum_total.l0]; rw [if_pos (by omega), if_pos (by omega), if_pos (by omega)]; simp [rdOf]
    · rw [SP.by_len] at hn hp
      refine total_l1 (by omega) _ 0 n p rfl (by omega) (by simp only [List.drop_zero]; omega) (by omega) ?_
      rw [w64 (by omega) (by omega), SP.by_len]
      have := ih (i + 1) (n + SP.ws p (SP.by_ (l.getD i ByteArray.empty))) (p + (l.getD i ByteArray.empty).size) (by omega) (by omega) (by omega) (by omega)
      simp only [List.drop_zero, Nat.sub_zero]
      rw [← Nat.add_assoc]
      exact this
/-- what 'total' tells of pieces -/
theorem total_ev (l : List ByteArray) (hl : l.length < 1152921504606846976) (h : (SPflat l).length ≤ 140737488351232) : Ev (fun k => sum_total.f k l) ((SP.canon (SP.ws 0 (SPflat l)) : Nat) : Int) := by
  have hw := SP.ws_le (SPflat l) 0
  have := total_l0 l (by omega) l.length 0 0 0 (by omega) (by omega) (by simp only [List.drop_zero]; omega) (by simp only [List.drop_zero]; omega)
  rw [Nat.zero_add, List.drop_zero] at this
  exact this
theorem nat_toNat (n : Nat) : ((n : Int) : Int).toNat = n := Int.toNat_natCast n
theorem rdOf_nat {α : Type} (d : α) (xs : List α) (i : Nat) : rdOf d xs (i : Int) = xs.getD i d := by simp [rdOf]
def mkB (l : List UInt8) : ByteArray := ⟨l.toArray⟩
theorem by_mkB (l : List UInt8) : SP.by_ (mkB l) = l := rfl
theorem mkB_by (s : ByteArray) : mkB (SP.by_ s) = s := SP.by_ext rfl
theorem mkB_size (l : List UInt8) : (mkB l).size = l.length := rfl
theorem mkB_append (a b : List UInt8) : mkB a ++ mkB b = mkB (a ++ b) := SP.by_ext (by rw [SP.by_append]; rfl)
theorem shr_pow (n k : Nat) (hk : k ≤ 64) : shr .i64 (n : Int) (k : Int) = ((n / 2 ^ k : Nat) : Int) := by
  unfold shr
  rw [Int.toNat_natCast, show min k IntKind.i64.bits = k from Nat.min_eq_left (by simpa [IntKind.bits] using hk)]
  simp
def PutS (n b : Int) : ByteArray × Int := if b < 1 ∨ 6 < b ∨ n < 0 ∨ (256 : Int) ^ b.toNat ≤ n then (⟨#[]⟩, 1) else (mkB (SP.bytesN n.toNat b.toNat), 0)
/-- the numbers that 'Put' has laid after i rounds -/
def putRow (n b i : Nat) : List Int := (List.range b).map fun j => if j < i then ((n / 2 ^ (8 * (b - 1 - j)) % 256 : Nat) : Int) else 0
theorem putRow_set (n b i : Nat) (_h : i < b) : (putRow n b i).set i ((n / 2 ^ (8 * (b - 1 - i)) % 256 : Nat) : Int) = putRow n b (i + 1) := by
  apply List.ext_getElem
  · simp [putRow]
  · intro j h1 h2
    simp only [putRow, List.getElem_set, List.getElem_map, List.getElem_range]
    by_cases e : i = j
    · subst e; simp
    · rw [if_neg e]
      by_cases h3 : j < i
      · rw [if_pos h3, if_pos (by omega)]
      · rw [if_neg h3, if_neg (by omega)]
theorem bytesN_range (n : Nat) : ∀ b : Nat, SP.bytesN n b = (List.range b).map fun j => UInt8.ofNat (n / 2 ^ (8 * (b - 1 - j)) % 256) := by
  intro b
  induction b with
  | zero => rfl
  | succ b ih =>
    rw [SP.bytesN, ih, List.range_succ_eq_map, List.map_cons, List.map_map]
    congr 1
    apply List.map_congr_left
    intro j hj
    have := List.mem_range.mp hj
    simp only [Function.comp_def]
    rw [show b - 1 - j = b + 1 - 1 - (j + 1) from by omega]
theorem putRow_str (n b : Nat) : strOfNums (putRow n b b) = mkB (SP.bytesN n b) := by
  unfold strOfNums mkB
  rw [bytesN_range]
  congr 2
  simp only [putRow, List.map_map]
  apply List.map_congr_left
  intro j hj
  have := List.mem_range.mp hj
  simp only [Function.comp_def]
  rw [if_pos this, Int.toNat_natCast]
theorem put_l0 (n b : Nat) (hb : b ≤ 6) : ∀ (d i : Nat), b - i = d → i ≤ b → Ev (fun k => sum_Put.l0 k (n : Int) (b : Int) (putRow n b i) (b : Int) (i : Int)) (mkB (SP.bytesN n b), 0) := by
  intro d
  induction d with
  | zero =>
    intro i hd hi
    obtain rfl : i = b := by omega
    refine Ev.step (f := fun _ => some (strOfNums (putRow n i i), 0)) (fun k => ?_) ?_
    · simp only [sum_Put.l0]; rw [if_neg (by omega)]
    · rw [putRow_str]; exact Ev.now _
  | succ d ih =>
    intro i hd hi
    refine Ev.step (f := fun k => sum_Put.l0 k (n : Int) (b : Int) (putRow n b (i + 1)) (b : Int) ((i + 1 : Nat) : Int)) (fun k => ?_) (ih (i + 1) (by omega) (by omega))
    simp only [sum_Put.l0]
    have e : wrap64 (8 * (wrap64 ((wrap64 ((b : Int) - 1)) - (i : Int)))) = ((8 * (b - 1 - i) : Nat) : Int) := by unfold wrap64; omega
    rw [if_pos (by omega), e, if_pos (by omega), if_pos (by omega), if_pos (by simp [putRow]; omega), shr_pow _ _ (by omega), w64 (by omega) (by omega), Int.toNat_natCast]
    rw [← putRow_set n b i (by omega)]
    congr 1
theorem put_ev (n b : Int) (hn : -9223372036854775808 ≤ n ∧ n < 9223372036854775808) (hb : -9223372036854775808 ≤ b ∧ b < 9223372036854775808) : Ev (fun k => sum_Put.f k n b) (PutS n b) := by
  have bad : (b < 1 ∨ 6 < b ∨ n < 0 ∨ (256 : Int) ^ b.toNat ≤ n) → Ev (fun k => sum_Put.j0 k n b true) (PutS n b) := by
    intro h
    refine Ev.step (f := fun _ => some (⟨#[]⟩, 1)) (fun k => ?_) ?_
    · simp only [sum_Put.j0]; rw [if_pos trivial]
    · rw [PutS, if_pos h]; exact Ev.now _
  by_cases h1 : b < 1
  · refine Ev.congr (fun k => ?_) (bad (.inl h1)); unfold sum_Put.f; rw [if_pos h1]
  by_cases h2 : 6 < b
  · refine Ev.congr (fun k => ?_) (bad (.inr (.inl h2))); unfold sum_Put.f; rw [if_neg h1, if_pos h2]
  by_cases h3 : n < 0
  · refine Ev.congr (fun k => ?_) (bad (.inr (.inr (.inl h3)))); unfold sum_Put.f; rw [if_neg h1, if_neg (by omega), if_pos h3]
  obtain ⟨m, rfl⟩ := Int.eq_ofNat_of_zero_le (show 0 ≤ n by omega)
  obtain ⟨c, rfl⟩ := Int.eq_ofNat_of_zero_le (show 0 ≤ b by omega)
  have e : wrap64 (8 * (c : Int)) = ((8 * c : Nat) : Int) := by unfold wrap64; omega
  have e2 : (shr .i64 (m : Int) ((8 * c : Nat) : Int) > 0) ↔ (256 : Int) ^ ((c : Int)).toNat ≤ (m : Int) := by
    rw [shr_pow _ _ (by omega), Int.toNat_natCast, Nat.pow_mul, show (2 : Nat) ^ 8 = 256 from rfl, show (256 : Int) ^ c = ((256 ^ c : Nat) : Int) from (Int.natCast_pow 256 c).symm]
    constructor
    · intro hh
      have h3 : 0 < m / 256 ^ c := by omega
      exact Int.ofNat_le.mpr (Nat.div_pos_iff.mp h3).2
    · intro hh
      have h3 : 0 < m / 256 ^ c := Nat.div_pos (Int.ofNat_le.mp hh) (Nat.pow_pos (by omega))
      omega
  by_cases h4 : (256 : Int) ^ ((c : Int)).toNat ≤ (m : Int)
  · refine Ev.congr (fun k => ?_) (bad (.inr (.inr (.inr h4)))); unfold sum_Put.f; rw [if_neg h1, if_neg (by omega), if_neg h3, e, if_pos (by omega), decide_eq_true (e2.mpr h4)]
  · refine Ev.congr (f := fun k => sum_Put.j0 k (m : Int) (c : Int) false) (fun k => ?_) ?_
    · unfold sum_Put.f; rw [if_neg h1, if_neg (by omega), if_neg h3, e, if_pos (by omega), decide_eq_false (fun h => h4 (e2.mp h))]
    · have e3 : List.replicate ((c : Int)).toNat (0 : Int) = putRow m c 0 := by
        apply List.ext_getElem
        · simp [putRow]
        · intro j h1 h2; simp [putRow]
      refine Ev.step (f := fun k => sum_Put.l0 k (m : Int) (c : Int) (putRow m c 0) (c : Int) ((0 : Nat) : Int)) (fun k => ?_) ?_
      · simp only [sum_Put.j0]; rw [if_neg (by decide), if_pos (by omega), if_pos (by omega)]
        simp only [Option.bind_some]; rw [e3]; simp [putRow]
      · rw [PutS, if_neg (by omega), Int.toNat_natCast, Int.toNat_natCast]; exact put_l0 m c (by omega) c 0 rfl (by omega)
theorem put_ok (n b : Nat) (hb1 : 1 ≤ b) (hb : b ≤ 6) (h : n < 256 ^ b) (hn : n < 9223372036854775808) : Ev (fun k => sum_Put.f k (n : Int) (b : Int)) (mkB (SP.bytesN n b), 0) := by
  have := put_ev (n : Int) (b : Int) (by omega) (by omega)
  rw [PutS, nat_toNat, nat_toNat, if_neg] at this
  · exact this
  · have e : (256 : Int) ^ b = ((256 ^ b : Nat) : Int) := (Int.natCast_pow 256 b).symm
    rw [e]; omega
theorem among_ev (x n : Int) (hn : 0 < n) (hx : -9223372036854775808 ≤ x ∧ x < 9223372036854775808) (hn2 : n < 4611686018427387904) : sternpostbook_Among.f x n = some (x % n) := by
  unfold sternpostbook_Among.f
  rw [if_neg (by omega)]
  congr 1
  have h1 : Int.tmod x n = if 0 ≤ x ∨ x % n = 0 then x % n else x % n - n := by
    by_cases h : 0 ≤ x
    · rw [Int.tmod_eq_emod_of_nonneg h, if_pos (.inl h)]
    · rw [Int.tmod_eq_emod]
      by_cases h2 : x % n = 0
      · rw [if_pos (.inr (Int.dvd_of_emod_eq_zero h2)), if_pos (.inr h2)]; omega
      · rw [if_neg (by intro hh; rcases hh with hh | hh; exact h hh; exact h2 (Int.emod_eq_zero_of_dvd hh)), if_neg (by intro hh; rcases hh with hh | hh; exact h hh; exact h2 hh)]; omega
  have h2 := Int.emod_nonneg x (show n ≠ 0 by omega)
  have h3 := Int.emod_lt_of_pos x hn
  rw [h1]
  split
  · rw [w64 (by omega) (by omega), Int.tmod_eq_emod_of_nonneg (by omega), Int.add_emod_right, Int.emod_emod_of_dvd _ (Int.dvd_refl n)]
  · rw [w64 (by omega) (by omega), Int.tmod_eq_emod_of_nonneg (by omega), Int.sub_add_cancel, Int.emod_emod_of_dvd _ (Int.dvd_refl n)]
theorem cut_mk (s : ByteArray) (i j : Nat) : cutS s i j = mkB (((SP.by_ s).drop i).take (j - i)) := by
  rw [cutS]; exact SP.by_ext (by rw [SP.by_extract, by_mkB])
theorem cut_to (s : ByteArray) (j : Nat) : cutS s 0 j = mkB ((SP.by_ s).take j) := by rw [cut_mk]; simp
theorem cut_from (s : ByteArray) (i : Nat) : cutS s i s.size = mkB ((SP.by_ s).drop i) := by
  rw [cut_mk, List.take_of_length_le (by rw [List.length_drop, SP.by_len]; omega)]
theorem or_byte (n : Nat) (c : UInt8) (h : n < 281474976710656) : Go.bits .or .i64 (wrap64 ((n : Int) * 256)) (wrap64 (c.toNat : Int)) = ((n * 256 + c.toNat : Nat) : Int) := by
  have hc := c.toNat_lt
  have hw : ∀ m : Int, 0 ≤ m → m < 2 ^ 63 → IntKind.i64.wrap m = m := by
    intro m h0 h1; rw [IntKind.wrap_i64]; have : (2 : Int) ^ 63 = 9223372036854775808 := by decide
    omega
  have e63 : (2 : Int) ^ 63 = 9223372036854775808 := by decide
  have e8 : (2 : Int) ^ 8 = 256 := by decide
  rw [w64 (by omega) (by omega), w64 (by omega) (by omega)]
  rw [bits_join .i64 63 (by decide) hw 8 _ _ (by omega) (by rw [e8]; omega) (by rw [e63]; omega) (by omega) (by rw [e8]; omega) (by rw [e63]; omega)]
  omega
theorem orNum_num (l : List UInt8) (h : l.length ≤ 6) : orNum l = ((SP.num l : Nat) : Int) := by
  have key : ∀ (l : List UInt8) (n : Nat), n * 256 ^ l.length + SP.num l < 281474976710656 → l.foldl (fun (n : Int) (c : UInt8) => Go.bits .or .i64 (wrap64 (n * 256)) (wrap64 (c.toNat : Int))) (n : Int) = ((n * 256 ^ l.length + SP.num l : Nat) : Int) := by
    intro l
    induction l with
    | nil => intro n _; show (n : Int) = ((n * 256 ^ 0 + 0 : Nat) : Int); omega
    | cons c l ih =>
      intro n hn
      rw [SP.num_cons, List.length_cons, Nat.pow_succ] at hn ⊢
      rw [List.foldl_cons]
      have e : n * (256 ^ l.length * 256) + (c.toNat * 256 ^ l.length + SP.num l) = (n * 256 + c.toNat) * 256 ^ l.length + SP.num l := by
        rw [Nat.add_mul, Nat.mul_assoc n 256, Nat.mul_comm 256]; omega
      have hp : 0 < 256 ^ l.length := Nat.pow_pos (by omega)
      have h1 : n * 256 + c.toNat ≤ (n * 256 + c.toNat) * 256 ^ l.length := Nat.le_mul_of_pos_right _ hp
      rw [or_byte n c (by omega), ih _ (by omega), e]
  have hl := SP.num_lt l
  have hp : 256 ^ l.length ≤ 256 ^ 6 := Nat.pow_le_pow_right (by omega) h
  have e6 : 256 ^ 6 = 281474976710656 := by decide
  have := key l 0 (by omega)
  rw [Nat.zero_mul, Nat.zero_add] at this
  exact this
def GetS (s : ByteArray) (a b : Int) : Int × Int := if b < 1 ∨ 6 < b ∨ a < 0 ∨ (s.size : Int) < a + b then (0, 1) else ((SP.num (((SP.by_ s).drop a.toNat).take b.toNat) : Int), 0)
theorem get_ev (s : ByteArray) (hs : s.size ≤ 281474976710656) (a b : Int) (ha : -9223372036854775808 ≤ a ∧ a < 9223372036854775808) (hb : -9223372036854775808 ≤ b ∧ b < 9223372036854775808) : sum_Get.f s a b = some (GetS s a b) := by
  unfold sum_Get.f GetS
  by_cases h1 : b < 1
  · rw [if_pos h1, if_pos (.inl h1)]
  by_cases h2 : 6 < b
  · rw [if_neg h1, if_pos h2, if_pos (.inr (.inl h2))]
  by_cases h3 : a < 0
  · rw [if_neg h1, if_neg h2, if_pos h3, if_pos (.inr (.inr (.inl h3)))]
  rw [if_neg h1, if_neg h2, if_neg h3, w64 (by omega) (by omega)]
  by_cases h4 : (s.size : Int) < a + b
  · rw [if_pos (by omega), if_pos (.inr (.inr (.inr h4)))]
  · rw [if_neg (by omega), w64 (by omega) (by omega), if_pos ⟨by omega, by omega, by omega⟩, if_neg (by omega), cut_mk]
    obtain ⟨x, rfl⟩ := Int.eq_ofNat_of_zero_le (show 0 ≤ a by omega)
    obtain ⟨y, rfl⟩ := Int.eq_ofNat_of_zero_le (show 0 ≤ b by omega)
    have e : ((x : Int) + (y : Int)).toNat = x + y := by omega
    rw [e, Int.toNat_natCast, Int.toNat_natCast, Nat.add_sub_cancel_left]
    show some (orNum (SP.by_ (mkB _)), (0 : Int)) = _
    rw [by_mkB, orNum_num _ (by rw [List.length_take]; omega)]
theorem canon_put (c : Nat) (hc : c ≤ 65535) : PutS (65535 - (c : Int)) 2 = (mkB (SP.bytesN (65535 - c) 2), 0) := by
  have e : (65535 - (c : Int)).toNat = 65535 - c := by omega
  have e2 : (2 : Int).toNat = 2 := rfl
  have e3 : (256 : Int) ^ 2 = 65536 := rfl
  rw [PutS, e2, e3, if_neg (by omega), e]
/-- bytes with the sum at a place -/
def sealB (l : List UInt8) (o : Nat) : List UInt8 := l.take o ++ SP.bytesN (65535 - SP.canon (SP.ws 0 (l.take o ++ [0, 0] ++ l.drop (o + 2)))) 2 ++ l.drop (o + 2)
theorem sealB_len (l : List UInt8) (o : Nat) (h : o + 2 ≤ l.length) : (sealB l o).length = l.length := by
  simp only [sealB, List.length_append, List.length_take, SP.bytesN_len, List.length_drop]; omega
def SealS (s : ByteArray) (o : Int) : ByteArray × Int := if o < 0 ∨ o % 2 = 1 ∨ (s.size : Int) < o + 2 then (⟨#[]⟩, 1) else if 65536 < s.size then (⟨#[]⟩, 2) else (mkB (sealB (SP.by_ s) o.toNat), 0)
theorem seal_tests (s : ByteArray) (hs : s.size ≤ 281474976710656) (o : Int) (ho : -9223372036854775808 ≤ o ∧ o < 9223372036854775808) : (o < 0 ∨ Int.tmod o 2 = 1 ∨ o > wrap64 ((s.size : Int) - 2)) ↔ (o < 0 ∨ o % 2 = 1 ∨ (s.size : Int) < o + 2) := by
  rw [w64 (by omega) (by omega)]
  by_cases h : o < 0
  · simp [h]
  · rw [Int.tmod_eq_emod_of_nonneg (by omega)]; omega
theorem seal_ev (s : ByteArray) (hs : s.size ≤ 281474976710656) (o : Int) (ho : -9223372036854775808 ≤ o ∧ o < 9223372036854775808) : Ev (fun k => sum_Seal.f k s o) (SealS s o) := by
  have ht := seal_tests s hs o ho
  have bad : (o < 0 ∨ o % 2 = 1 ∨ (s.size : Int) < o + 2) → Ev (fun k => sum_Seal.j0 k s o true) (SealS s o) := by
    intro h
    refine Ev.step (f := fun _ => some (⟨#[]⟩, 1)) (fun k => ?_) ?_
    · simp only [sum_Seal.j0]; rw [if_pos trivial]
    · rw [SealS, if_pos h]; exact Ev.now _
  by_cases h1 : o < 0
  · refine Ev.congr (fun k => ?_) (bad (.inl h1)); unfold sum_Seal.f; rw [if_pos h1]
  by_cases h2 : Int.tmod o 2 = 1
  · refine Ev.congr (fun k => ?_) (bad (ht.mp (.inr (.inl h2)))); unfold sum_Seal.f; rw [if_neg h1, if_pos h2]
  by_cases h3 : o > wrap64 ((s.size : Int) - 2)
  · refine Ev.congr (fun k => ?_) (bad (ht.mp (.inr (.inr h3)))); unfold sum_Seal.f; rw [if_neg h1, if_neg h2, decide_eq_true h3]
  have hn : ¬ (o < 0 ∨ o % 2 = 1 ∨ (s.size : Int) < o + 2) := fun h => by rcases ht.mpr h with h | h | h <;> contradiction
  obtain ⟨m, rfl⟩ := Int.eq_ofNat_of_zero_le (show 0 ≤ o by omega)
  refine Ev.congr (f := fun k => sum_Seal.j0 k s (m : Int) false) (fun k => ?_) ?_
  · unfold sum_Seal.f; rw [if_neg h1, if_neg h2, decide_eq_false h3]
  by_cases h4 : 65536 < s.size
  · refine Ev.step (f := fun _ => some (⟨#[]⟩, 2)) (fun k => ?_) ?_
    · simp only [sum_Seal.j0]; rw [if_neg (by decide), if_pos (by omega)]
    · rw [SealS, if_neg hn, if_pos h4]; exact Ev.now _
  have hl := SP.by_len s
  have e2 : wrap64 ((m : Int) + 2) = ((m + 2 : Nat) : Int) := by rw [w64 (by omega) (by omega)]; rfl
  have ex1 := cut_to s m
  have ex2 := cut_from s (m + 2)
  have hc := SP.canon_le (SP.ws 0 ((SP.by_ s).take m ++ [0, 0] ++ (SP.by_ s).drop (m + 2)))
  have hfl : SPflat [mkB ((SP.by_ s).take m), ⟨#[0, 0]⟩, mkB ((SP.by_ s).drop (m + 2))] = (SP.by_ s).take m ++ [0, 0] ++ (SP.by_ s).drop (m + 2) := by
    simp only [SPflat, List.flatMap_cons, List.flatMap_nil, by_mkB, List.append_nil, List.append_assoc]
  have htot := total_ev [mkB ((SP.by_ s).take m), ⟨#[0, 0]⟩, mkB ((SP.by_ s).drop (m + 2))] (by simp only [List.length_cons, List.length_nil]; omega) (by
    rw [hfl]; simp only [List.length_append, List.length_take, List.length_drop, List.length_cons, List.length_nil]; omega)
  rw [hfl] at htot
  have hput := put_ev (65535 - ((SP.canon (SP.ws 0 ((SP.by_ s).take m ++ [0, 0] ++ (SP.by_ s).drop (m + 2))) : Nat) : Int)) 2 (by omega) (by omega)
  rw [canon_put _ hc] at hput
  refine Ev.step (f := ?fz) (fun k => ?hz) ?hk
  case hz =>
    simp only [sum_Seal.j0]
    rw [if_neg (by decide), if_neg (by omega), if_pos (by omega), if_pos (by omega), e2, if_pos (by omega), if_pos (by omega), nat_toNat, nat_toNat, ex1, ex2]
  case hk =>
    have hb := SP.bytesN_len (65535 - SP.canon (SP.ws 0 ((SP.by_ s).take m ++ [0, 0] ++ (SP.by_ s).drop (m + 2)))) 2
    refine Ev.bind htot ?_
    try dsimp only
    rw [w64 (by omega) (by omega)]
    refine Ev.bind hput ?_
    try dsimp only
    rw [if_pos (by rw [mkB_size, mkB_size, hb, List.length_take]; omega), mkB_append, if_pos (by rw [mkB_size, mkB_size, List.length_append, hb, List.length_take, List.length_drop]; omega), mkB_append]
    rw [SealS, if_neg hn, if_neg h4, nat_toNat]
    exact Ev.now _
theorem zero_ws (a b : List UInt8) (h : a.length % 2 = 0) (n : Nat) (hn : n < 65536) : SP.ws 0 (a ++ SP.bytesN n 2 ++ b) = SP.ws 0 a + n + SP.ws (a.length + 2) b := by
  have lp := SP.bytesN_len n 2
  have e : SP.ws a.length (SP.bytesN n 2) = n := by
    have h2 : SP.bytesN n 2 = [UInt8.ofNat (n / 2 ^ 8 % 256), UInt8.ofNat (n / 2 ^ 0 % 256)] := rfl
    have u1 : (UInt8.ofNat (n / 2 ^ 8 % 256)).toNat = n / 256 := by rw [UInt8.toNat_ofNat']; omega
    have u2 : (UInt8.ofNat (n / 2 ^ 0 % 256)).toNat = n % 256 := by rw [UInt8.toNat_ofNat']; omega
    rw [h2]; simp only [SP.ws, SP.wt, u1, u2]
    rw [if_pos h, if_neg (by omega)]; omega
  rw [List.append_assoc, SP.ws_append, SP.ws_append, lp, Nat.zero_add, e]; omega
theorem canon_whole (W : Nat) : SP.canon (W + (65535 - SP.canon W)) = 65535 := by unfold SP.canon; split <;> split <;> omega
/-- what is sealed is whole -/
theorem sealB_whole (l : List UInt8) (o : Nat) (ho : o % 2 = 0) (hle : o + 2 ≤ l.length) : SP.canon (SP.ws 0 (sealB l o)) = 65535 := by
  have la : (l.take o).length = o := by rw [List.length_take]; omega
  have z : ([0, 0] : List UInt8) = SP.bytesN 0 2 := rfl
  unfold sealB
  rw [z, zero_ws _ _ (by omega) 0 (by omega), Nat.add_zero]
  have hc := SP.canon_le (SP.ws 0 (l.take o) + SP.ws ((l.take o).length + 2) (l.drop (o + 2)))
  rw [zero_ws _ _ (by omega) _ (by omega)]
  have := canon_whole (SP.ws 0 (l.take o) + SP.ws ((l.take o).length + 2) (l.drop (o + 2)))
  rw [← this]; congr 1; omega
theorem sealB_take (l : List UInt8) (o : Nat) (hle : o + 2 ≤ l.length) : (sealB l o).take o = l.take o := by
  have la : (l.take o).length = o := by rw [List.length_take]; omega
  unfold sealB
  rw [List.append_assoc, List.take_append_of_le_length (by omega), List.take_take, Nat.min_self]
theorem sealB_drop (l : List UInt8) (o : Nat) (hle : o + 2 ≤ l.length) : (sealB l o).drop (o + 2) = l.drop (o + 2) := by
  have la : (l.take o).length = o := by rw [List.length_take]; omega
  have lb := SP.bytesN_len (65535 - SP.canon (SP.ws 0 (l.take o ++ [0, 0] ++ l.drop (o + 2)))) 2
  unfold sealB
  rw [List.drop_append, List.drop_of_length_le (by rw [List.length_append, la, lb]; omega), List.nil_append, List.length_append, la, lb, Nat.sub_self, List.drop_zero]
theorem sealB_again (l : List UInt8) (o : Nat) (hle : o + 2 ≤ l.length) : sealB (sealB l o) o = sealB l o := by
  have h : sealB (sealB l o) o = (sealB l o).take o ++ SP.bytesN (65535 - SP.canon (SP.ws 0 ((sealB l o).take o ++ [0, 0] ++ (sealB l o).drop (o + 2)))) 2 ++ (sealB l o).drop (o + 2) := rfl
  rw [h, sealB_take l o hle, sealB_drop l o hle]; rfl
theorem seal_ok (s : ByteArray) (o : Nat) (hs : s.size ≤ 65536) (ho : o % 2 = 0) (hle : o + 2 ≤ s.size) : Ev (fun k => sum_Seal.f k s (o : Int)) (mkB (sealB (SP.by_ s) o), 0) := by
  have := seal_ev s (by omega) (o : Int) (by omega)
  rw [SealS, if_neg (by omega), if_neg (by omega), nat_toNat] at this
  exact this
theorem whole_ev (s : ByteArray) (h : s.size ≤ 140737488351232) : Ev (fun k => sum_Whole.f k s) (decide (SP.canon (SP.ws 0 (SP.by_ s)) = 65535)) := by
  have hw := total_ev [s] (by simp only [List.length_cons, List.length_nil]; omega) (by simp only [SPflat, List.flatMap_cons, List.flatMap_nil, List.append_nil, SP.by_len]; omega)
  simp only [SPflat, List.flatMap_cons, List.flatMap_nil, List.append_nil] at hw
  unfold sum_Whole.f
  refine Ev.bind hw ?_
  have e : (((SP.canon (SP.ws 0 (SP.by_ s)) : Nat) : Int) == 65535) = decide (SP.canon (SP.ws 0 (SP.by_ s)) = 65535) := by
    rw [Bool.eq_iff_iff, beq_iff_eq, decide_eq_true_iff]; omega
  rw [e]; exact Ev.now _
theorem bits_xor_u8 (a b : Nat) (ha : a < 256) (hb : b < 256) : Go.bits .xor .u8 (a : Int) (b : Int) = ((a ^^^ b : Nat) : Int) := by
  have hx : a ^^^ b < 2 ^ 8 := Nat.xor_lt_two_pow (by omega) (by omega)
  have h1 : (BitVec.ofInt 8 (a : Int)).toNat = a := by
    rw [BitVec.ofInt_natCast, BitVec.toNat_ofNat]; exact Nat.mod_eq_of_lt (by omega)
  have h2 : (BitVec.ofInt 8 (b : Int)).toNat = b := by
    rw [BitVec.ofInt_natCast, BitVec.toNat_ofNat]; exact Nat.mod_eq_of_lt (by omega)
  have e : Go.bits .xor .u8 (a : Int) (b : Int) = IntKind.u8.wrap ((BitVec.ofInt 8 (a : Int) ^^^ BitVec.ofInt 8 (b : Int)).toNat : Int) := by
    unfold Go.bits; rfl
  rw [e, BitVec.toNat_xor, h1, h2, IntKind.wrap_u8]
  omega
theorem xor_bit (a r : Nat) (ha : a < 256) (hr : r < 8) : (a ^^^ 2 ^ r) < 256 ∧ ((a ^^^ 2 ^ r) = a + 2 ^ r ∨ (a ^^^ 2 ^ r) + 2 ^ r = a) ∧ ((a ^^^ 2 ^ r) ^^^ 2 ^ r) = a := by
  have key : ∀ (x : Fin 256) (y : Fin 8), (x.val ^^^ 2 ^ y.val) < 256 ∧ ((x.val ^^^ 2 ^ y.val) = x.val + 2 ^ y.val ∨ (x.val ^^^ 2 ^ y.val) + 2 ^ y.val = x.val) ∧ ((x.val ^^^ 2 ^ y.val) ^^^ 2 ^ y.val) = x.val := by decide +kernel
  exact key ⟨a, ha⟩ ⟨r, hr⟩
theorem pow_bits {r : Nat} (h : r < 8) : 2 ^ r < 256 ∧ 0 < 2 ^ r := ⟨by have : 2 ^ r ≤ 2 ^ 7 := Nat.pow_le_pow_right (by omega) (by omega); omega, Nat.pow_pos (by omega)⟩
/-- bytes with one bit turned -/
def flipB (l : List UInt8) (q r : Nat) : List UInt8 := l.set q (UInt8.ofNat (SP.nth l q ^^^ 2 ^ r))
theorem flipS_mk (s : ByteArray) (q r : Nat) (hr : r < 8) (hq : q < s.size) : flipS s q r = mkB (flipB (SP.by_ s) q r) := by
  have hp := pow_bits hr
  have hx := xor_bit (SP.nth (SP.by_ s) q) r (SP.nth_lt _ _) hr
  have e : Go.bits .xor .u8 ((s.data.toList.getD q 0).toNat : Int) (2 ^ r % 256) = ((SP.nth (SP.by_ s) q ^^^ 2 ^ r : Nat) : Int) := by
    have h1 : ((2 : Int) ^ r % 256) = ((2 ^ r : Nat) : Int) := by
      rw [show (2 : Int) ^ r = ((2 ^ r : Nat) : Int) from (Int.natCast_pow 2 r).symm]; omega
    rw [h1]
    exact bits_xor_u8 _ _ (SP.nth_lt _ _) hp.1
  unfold flipS flipL strOfNums mkB flipB
  rw [e]
  congr 2
  rw [List.map_set, bytesOf, List.map_map]
  congr 1
  · rw [show ((fun n : Int => UInt8.ofNat n.toNat) ∘ fun b : UInt8 => (b.toNat : Int)) = id from by
      funext b; simp [Function.comp]]
    rw [List.map_id]
theorem ws_set (l : List UInt8) : ∀ (p q : Nat) (b : UInt8), q < l.length → SP.ws p (l.set q b) + SP.wt (p + q) (SP.nth l q) = SP.ws p l + SP.wt (p + q) b.toNat := by
  induction l with
  | nil => intro p q b h; simp at h
  | cons x l ih =>
    intro p q b h
    cases q with
    | zero => simp only [List.set_cons_zero, SP.ws, SP.nth, List.getD_cons_zero, Nat.add_zero]; omega
    | succ q =>
      have := ih (p + 1) q b (by simpa using h)
      simp only [List.set_cons_succ, SP.ws]
      have e : SP.nth (x :: l) (q + 1) = SP.nth l q := rfl
      rw [e, show p + (q + 1) = p + 1 + q from by omega]; omega
/-- one bit turned: the sum of the weights is another one -/
theorem ws_flip (l : List UInt8) (p q r : Nat) (hq : q < l.length) (hr : r < 8) : SP.ws p (flipB l q r) % 65535 ≠ SP.ws p l % 65535 := by
  obtain ⟨h1, h2, _⟩ := xor_bit (SP.nth l q) r (SP.nth_lt _ _) hr
  have hp := pow_bits hr
  have h3 := ws_set l p q (UInt8.ofNat (SP.nth l q ^^^ 2 ^ r)) hq
  have h4 : (UInt8.ofNat (SP.nth l q ^^^ 2 ^ r)).toNat = SP.nth l q ^^^ 2 ^ r := by rw [UInt8.toNat_ofNat']; exact Nat.mod_eq_of_lt h1
  rw [h4] at h3
  unfold flipB
  generalize SP.ws p (l.set q (UInt8.ofNat (SP.nth l q ^^^ 2 ^ r))) = A at h3 ⊢
  generalize SP.ws p l = B at h3 ⊢
  generalize SP.nth l q ^^^ 2 ^ r = y at *
  generalize SP.nth l q = x at *
  generalize 2 ^ r = z at *
  unfold SP.wt at h3
  split at h3 <;> omega
theorem flipB_len (l : List UInt8) (q r : Nat) : (flipB l q r).length = l.length := List.length_set
theorem Ev.ite {α : Type} {c : Prop} [Decidable c] {g f : Nat → Option α} {r : α} (h : c → Ev g r) (h' : ¬ c → Ev f r) : Ev (fun k => if c then g k else f k) r := by
  by_cases hc : c
  · exact Ev.pos hc (h hc)
  · exact Ev.neg hc (h' hc)
theorem Ev.val {α : Type} {g : Nat → Option α} {r r' : α} (h : Ev g r) (e : r = r') : Ev g r' := e ▸ h
theorem ite_same {α : Type} {p q : Prop} [Decidable p] [Decidable q] (h : p ↔ q) {x y : α} : (if p then x else y) = if q then x else y := by
  by_cases hp : p
  · rw [if_pos hp, if_pos (h.1 hp)]
  · rw [if_neg hp, if_neg (fun hq => hp (h.2 hq))]
def allIn (g : Int) (l : List Int) : Bool := l.all fun n => decide (0 ≤ n ∧ n ≤ g)
theorem within_l0 (g : Int) (l : List Int) (hl : l.length ≤ 1000) : ∀ (d i : Nat), l.length - i = d → i ≤ l.length → Ev (fun k => ip_within.l0 k g l (l.length : Int) (i : Int)) (allIn g (l.drop i)) := by
  intro d
  induction d with
  | zero =>
    intro i hd hi
    refine Ev.step (f := ?fz) (fun k => by simp only [ip_within.l0]; rfl) ?_
    refine Ev.neg (by omega) ?_
    rw [List.drop_of_length_le (by omega)]
    exact Ev.now _
  | succ d ih =>
    intro i hd hi
    have hlt : i < l.length := by omega
    have hr : rd l (i : Int) = l[i] := by simp [rd, hlt]
    refine Ev.step (f := ?fy) (fun k => by simp only [ip_within.l0]; rfl) ?_
    refine Ev.pos (by omega) (Ev.pos (by omega) (Ev.pos (by omega) ?_))
    rw [hr, List.drop_eq_getElem_cons hlt]
    refine Ev.ite (fun h => ?_) (fun h => ?_)
    · rw [show allIn g (l[i] :: l.drop (i + 1)) = false from by simp only [allIn, List.all_cons, Bool.and_eq_false_iff, decide_eq_false_iff_not]; left; omega]; exact Ev.now _
    · refine Ev.ite (fun h2 => ?_) (fun h2 => ?_)
      · rw [show allIn g (l[i] :: l.drop (i + 1)) = false from by simp only [allIn, List.all_cons, Bool.and_eq_false_iff, decide_eq_false_iff_not]; left; omega]; exact Ev.now _
      · rw [show allIn g (l[i] :: l.drop (i + 1)) = allIn g (l.drop (i + 1)) from by simp only [allIn, List.all_cons]; rw [decide_eq_true (show 0 ≤ l[i] ∧ l[i] ≤ g from by omega), Bool.true_and]]
        rw [show wrap64 ((i : Int) + 1) = ((i + 1 : Nat) : Int) from by rw [w64 (by omega) (by omega)]; omega]
        exact ih (i + 1) (by omega) (by omega)
theorem within_ev (g : Int) (l : List Int) (hl : l.length ≤ 1000) : Ev (fun k => ip_within.f k g l) (allIn g l) := within_l0 g l hl _ 0 rfl (Nat.zero_le _)
def ipOk (a b t p i f : Int) (m : Bool) (o x : ByteArray) : Prop :=
  (0 ≤ a ∧ a ≤ 4294967295 ∧ 0 ≤ b ∧ b ≤ 4294967295 ∧ 0 ≤ t ∧ t ≤ 255 ∧ 0 ≤ p ∧ p ≤ 255 ∧ 0 ≤ i ∧ i ≤ 65535 ∧ 0 ≤ f ∧ f ≤ 8191) ∧ (o.size % 4 = 0 ∧ o.size ≤ 40 ∧ x.size + o.size ≤ 65515) ∧ (m = true → 0 < x.size ∧ x.size % 8 = 0) ∧ (x.size : Int) ≤ 65535 - 8 * f
instance (a b t p i f : Int) (m : Bool) (o x : ByteArray) : Decidable (ipOk a b t p i f m o x) := by unfold ipOk; infer_instance
def ipC (a b t p i f : Int) (m : Bool) (o x : ByteArray) : Int := if ipOk a b t p i f m o x then 0 else 50
section
variable (a b t p i f : Int) (m d : Bool) (o x : ByteArray)
theorem ipchk2 (c : Bool) (hf : c = true → 0 ≤ f ∧ f ≤ 8191) : Ev (fun k => ip_Check.j2 k c a b t p i f m d o x) (if c = true ∧ (x.size : Int) ≤ 65535 - 8 * f then 0 else 50) := by
  refine Ev.step (f := ?fz) (fun k => by simp only [ip_Check.j2]; rfl) ?_
  refine Ev.ite (fun hc => ?_) (fun hc => ?_)
  · have := hf hc
    rw [w64 (n := 8 * f) (by omega) (by omega), w64 (by omega) (by omega)]
    refine Ev.ite (fun h => ?_) (fun h => ?_)
    · rw [if_neg (by omega)]; exact Ev.now _
    · rw [if_pos ⟨hc, by omega⟩]; exact Ev.now _
  · rw [if_neg (fun h => hc h.1)]; exact Ev.now _
theorem ipchk1 (c : Bool) (hf : c = true → 0 ≤ f ∧ f ≤ 8191) : Ev (fun k => ip_Check.j1 k c a b t p i f m d o x) (if c = true ∧ (m = true → 0 < x.size ∧ x.size % 8 = 0) ∧ (x.size : Int) ≤ 65535 - 8 * f then 0 else 50) := by
  refine Ev.step (f := ?fz) (fun k => by simp only [ip_Check.j1]; rfl) ?_
  refine Ev.ite (fun hc => ?_) (fun hc => ?_)
  · refine Ev.ite (fun hm => ?_) (fun hm => ?_)
    · refine Ev.ite (fun h => ?_) (fun h => ?_)
      · have := ipchk2 a b t p i f m d o x (((x.size : Int) % 8) == 0) (fun _ => hf hc)
        exact Ev.val this (ite_same (by rw [beq_iff_eq]; simp only [hc, hm, true_and, forall_const]; omega))
      · have := ipchk2 a b t p i f m d o x false (fun h => by cases h)
        rw [if_neg (by simp)] at this
        rw [if_neg (fun hh => by have := (hh.2.1 hm).1; omega)]; exact this
    · have := ipchk2 a b t p i f m d o x true (fun _ => hf hc)
      exact Ev.val this (ite_same (by simp [hc, hm]))
  · have := ipchk2 a b t p i f m d o x false (fun h => by cases h)
    rw [if_neg (by simp)] at this
    rw [if_neg (fun hh => hc hh.1)]; exact this
theorem ipchk0 (c : Bool) (hx : x.size ≤ 140737488351232) (hf : c = true → 0 ≤ f ∧ f ≤ 8191) : Ev (fun k => ip_Check.j0 k c a b t p i f m d o x) (if c = true ∧ (o.size % 4 = 0 ∧ o.size ≤ 40 ∧ x.size + o.size ≤ 65515) ∧ (m = true → 0 < x.size ∧ x.size % 8 = 0) ∧ (x.size : Int) ≤ 65535 - 8 * f then 0 else 50) := by
  have no : ¬ (c = true ∧ o.size % 4 = 0 ∧ o.size ≤ 40) → Ev (fun k => ip_Check.j1 k false a b t p i f m d o x) (if c = true ∧ (o.size % 4 = 0 ∧ o.size ≤ 40 ∧ x.size + o.size ≤ 65515) ∧ (m = true → 0 < x.size ∧ x.size % 8 = 0) ∧ (x.size : Int) ≤ 65535 - 8 * f then 0 else 50) := by
    intro h
    have := ipchk1 a b t p i f m d o x false (fun h => by cases h)
    rw [if_neg (by simp)] at this
    rw [if_neg (fun hh => h ⟨hh.1, hh.2.1.1, hh.2.1.2.1⟩)]; exact this
  refine Ev.step (f := ?fz) (fun k => by simp only [ip_Check.j0]; rfl) ?_
  refine Ev.ite (fun hc => ?_) (fun hc => no (fun h => hc h.1))
  refine Ev.ite (fun h1 => ?_) (fun h1 => no (fun h => h1 (by omega)))
  refine Ev.ite (fun h2 => ?_) (fun h2 => no (fun h => h2 (by omega)))
  simp only [ip_head.f, Option.bind_some]
  rw [w64 (n := 20 + (o.size : Int)) (by omega) (by omega), w64 (by omega) (by omega)]
  have := ipchk1 a b t p i f m d o x (decide ((x.size : Int) ≤ 65535 - (20 + (o.size : Int)))) (fun _ => hf hc)
  refine Ev.val this (ite_same ?_)
  rw [decide_eq_true_eq, show ((x.size : Int) ≤ 65535 - (20 + (o.size : Int))) ↔ (o.size % 4 = 0 ∧ o.size ≤ 40 ∧ x.size + o.size ≤ 65515) from by omega]
  simp only [hc, true_and]
theorem ipcheck_ev (hx : x.size ≤ 140737488351232) : Ev (fun k => ip_Check.f k a b t p i f m d o x) (ipC a b t p i f m o x) := by
  have no : ¬ (0 ≤ a ∧ a ≤ 4294967295 ∧ 0 ≤ b ∧ b ≤ 4294967295 ∧ 0 ≤ t ∧ t ≤ 255 ∧ 0 ≤ p ∧ p ≤ 255 ∧ 0 ≤ i ∧ i ≤ 65535 ∧ 0 ≤ f ∧ f ≤ 8191) → Ev (fun k => ip_Check.j0 k false a b t p i f m d o x) (ipC a b t p i f m o x) := by
    intro h
    have := ipchk0 a b t p i f m d o x false hx (fun h => by cases h)
    rw [if_neg (by simp)] at this
    rw [ipC, if_neg (fun hh => h hh.1)]; exact this
  unfold ip_Check.f
  refine Ev.bind (within_ev _ _ (by simp)) (Ev.ite (fun h1 => ?_) (fun h1 => no (fun h => h1 (by simp [allIn]; omega))))
  refine Ev.bind (within_ev _ _ (by simp)) (Ev.ite (fun h2 => ?_) (fun h2 => no (fun h => h2 (by simp [allIn]; omega))))
  refine Ev.bind (within_ev _ _ (by simp)) (Ev.ite (fun h3 => ?_) (fun h3 => no (fun h => h3 (by simp [allIn]; omega))))
  refine Ev.bind (within_ev _ _ (by simp)) ?_
  simp [allIn] at h1 h2 h3
  by_cases h4 : 0 ≤ f ∧ f ≤ 8191
  · have := ipchk0 a b t p i f m d o x true hx (fun _ => h4)
    rw [show allIn 8191 [f] = true from by simp [allIn, h4]]
    rw [ipC]
    exact Ev.val this (ite_same (by unfold ipOk; exact ⟨fun h => ⟨by omega, h.2⟩, fun h => ⟨rfl, h.2⟩⟩))
  · rw [show allIn 8191 [f] = false from by simp [allIn]; omega]
    exact no (fun h => h4 (by omega))
end
theorem or_bits (n m : Nat) (hn : n < 4611686018427387904) (hm : m < 4611686018427387904) : Go.bits .or .i64 (n : Int) (m : Int) = ((n ||| m : Nat) : Int) := by
  have hw : ∀ n : Int, 0 ≤ n → n < 2 ^ 62 → IntKind.i64.wrap n = n := by
    intro n h0 h1; rw [IntKind.wrap_i64]; have : (2 : Int) ^ 62 = 4611686018427387904 := by decide
    omega
  have e62 : (2 : Nat) ^ 62 = 4611686018427387904 := by decide
  exact (bits_nat .i64 62 (by decide) hw n m (by omega) (by omega)).2
/-- the bytes ahead of a packet's data, not yet sealed -/
def ipF (f : Nat) (m d : Bool) : Nat := f + (if d = true then 16384 else 0) + (if m = true then 8192 else 0)
def ipRaw (a b t p i fl n : Nat) (o : List UInt8) : List UInt8 :=
  SP.bytesN (64 + (20 + o.length) / 4) 1 ++ SP.bytesN 0 1 ++ SP.bytesN (20 + o.length + n) 2 ++ SP.bytesN i 2 ++ SP.bytesN fl 2 ++ SP.bytesN t 1 ++ SP.bytesN p 1 ++ SP.bytesN 0 2 ++ SP.bytesN a 4 ++ SP.bytesN b 4 ++ o
theorem ipRaw_len (a b t p i fl n : Nat) (o : List UInt8) : (ipRaw a b t p i fl n o).length = 20 + o.length := by
  unfold ipRaw; simp only [List.length_append, SP.bytesN_len]
def ipB (a b t p i f : Int) (m d : Bool) (o x : ByteArray) : ByteArray := mkB (sealB (ipRaw a.toNat b.toNat t.toNat p.toNat i.toNat (ipF f.toNat m d) x.size (SP.by_ o)) 10 ++ SP.by_ x)
def ipE (a b t p i f : Int) (m d : Bool) (o x : ByteArray) : ByteArray × Int := if ipOk a b t p i f m o x then (ipB a b t p i f m d o x, 0) else (⟨#[]⟩, 50)
theorem num_ok (n b : Nat) (hb1 : 1 ≤ b) (hb : b ≤ 6) (h : n < 256 ^ b) (hn : n < 9223372036854775808) : Ev (fun k => ip_num.f k (n : Int) (b : Int)) (mkB (SP.bytesN n b)) := by
  unfold ip_num.f
  exact Ev.bind (put_ok n b hb1 hb h hn) (Ev.now _)
theorem or_ver (n : Nat) (h : n < 64) : Go.bits .or .i64 64 (n : Int) = ((64 + n : Nat) : Int) := by
  refine (or_bits 64 n (by omega) (by omega)).trans ?_
  have := Nat.two_pow_add_eq_or_of_lt (i := 6) (b := n) (by omega) 1
  exact congrArg _ this.symm
theorem ipenc1 (a b t p i f : Nat) (fl : Nat) (m d : Bool) (o x : ByteArray) (h : ipOk a b t p i f m o x) (hfl : fl < 65536) : Ev (fun k => ip_Encode.j1 k (fl : Int) a b t p i f m d o x) (mkB (sealB (ipRaw a b t p i fl x.size (SP.by_ o)) 10 ++ SP.by_ x), 0) := by
  unfold ipOk at h
  have lo := SP.by_len o
  have lx := SP.by_len x
  refine Ev.step (f := ?fz) (fun k => by simp only [ip_Encode.j1]; rfl) ?_
  have hh : ip_head.f a b t p i f m d o x = some (20 + (o.size : Int)) := by
    rw [ip_head.f, w64 (by omega) (by omega)]
  have hhe : Ev (fun k => ip_head.f a b t p i f m d o x) (20 + (o.size : Int)) := by rw [hh]; exact Ev.now _
  refine Ev.bind hhe ?_
  try dsimp only
  rw [Int.tdiv_eq_ediv_of_nonneg (by omega), w64 (n := (20 + (o.size : Int)) / 4) (by omega) (by omega)]
  have e1 : Go.bits .or .i64 64 ((20 + (o.size : Int)) / 4) = ((64 + (20 + (SP.by_ o).length) / 4 : Nat) : Int) := by
    rw [lo, show ((20 + (o.size : Int)) / 4) = (((20 + o.size) / 4 : Nat) : Int) from by omega]
    exact or_ver _ (by omega)
  rw [e1]
  refine Ev.bind (num_ok _ 1 (by omega) (by omega) (by omega) (by omega)) ?_
  refine Ev.bind (num_ok 0 1 (by omega) (by omega) (by omega) (by omega)) ?_
  try dsimp only
  refine Ev.pos (by simp only [mkB_size, SP.bytesN_len]; omega) ?_
  rw [mkB_append]
  refine Ev.bind hhe ?_
  try dsimp only
  rw [w64 (n := 20 + (o.size : Int) + (x.size : Int)) (by omega) (by omega), show (20 + (o.size : Int) + (x.size : Int)) = ((20 + (SP.by_ o).length + x.size : Nat) : Int) from by omega]
  refine Ev.bind (num_ok _ 2 (by omega) (by omega) (by omega) (by omega)) ?_
  try dsimp only
  refine Ev.pos (by simp only [mkB_size, List.length_append, SP.bytesN_len]; omega) ?_
  rw [mkB_append]
  refine Ev.bind (num_ok _ 2 (by omega) (by omega) (by omega) (by omega)) ?_
  try dsimp only
  refine Ev.pos (by simp only [mkB_size, List.length_append, SP.bytesN_len]; omega) ?_
  rw [mkB_append]
  refine Ev.bind (num_ok _ 2 (by omega) (by omega) (by omega) (by omega)) ?_
  try dsimp only
  refine Ev.pos (by simp only [mkB_size, List.length_append, SP.bytesN_len]; omega) ?_
  rw [mkB_append]
  refine Ev.bind (num_ok _ 1 (by omega) (by omega) (by omega) (by omega)) ?_
  try dsimp only
  refine Ev.pos (by simp only [mkB_size, List.length_append, SP.bytesN_len]; omega) ?_
  rw [mkB_append]
  refine Ev.bind (num_ok _ 1 (by omega) (by omega) (by omega) (by omega)) ?_
  try dsimp only
  refine Ev.pos (by simp only [mkB_size, List.length_append, SP.bytesN_len]; omega) ?_
  rw [mkB_append]
  refine Ev.bind (num_ok 0 2 (by omega) (by omega) (by omega) (by omega)) ?_
  try dsimp only
  refine Ev.pos (by simp only [mkB_size, List.length_append, SP.bytesN_len]; omega) ?_
  rw [mkB_append]
  refine Ev.bind (num_ok _ 4 (by omega) (by omega) (by omega) (by omega)) ?_
  try dsimp only
  refine Ev.pos (by simp only [mkB_size, List.length_append, SP.bytesN_len]; omega) ?_
  rw [mkB_append]
  refine Ev.bind (num_ok _ 4 (by omega) (by omega) (by omega) (by omega)) ?_
  try dsimp only
  refine Ev.pos (by simp only [mkB_size, List.length_append, SP.bytesN_len]; omega) ?_
  rw [mkB_append]
  refine Ev.pos (by simp only [mkB_size, List.length_append, SP.bytesN_len]; omega) ?_
  have lr := ipRaw_len a b t p i fl x.size (SP.by_ o)
  have e2 : mkB (SP.bytesN (64 + (20 + (SP.by_ o).length) / 4) 1 ++ SP.bytesN 0 1 ++ SP.bytesN (20 + (SP.by_ o).length + x.size) 2 ++ SP.bytesN i 2 ++ SP.bytesN fl 2 ++ SP.bytesN t 1 ++ SP.bytesN p 1 ++ SP.bytesN 0 2 ++ SP.bytesN a 4 ++ SP.bytesN b 4) ++ o = mkB (ipRaw a b t p i fl x.size (SP.by_ o)) := by
    rw [← mkB_by o, mkB_append, by_mkB]; rfl
  rw [e2]
  have hs := seal_ok (mkB (ipRaw a b t p i fl x.size (SP.by_ o))) 10 (by rw [mkB_size, lr]; omega) (by omega) (by rw [mkB_size, lr]; omega)
  rw [by_mkB] at hs
  refine Ev.bind hs ?_
  try dsimp only
  refine Ev.pos (by rw [mkB_size, sealB_len _ _ (by omega), lr]; omega) ?_
  rw [show mkB (sealB (ipRaw a b t p i fl x.size (SP.by_ o)) 10) ++ x = mkB (sealB (ipRaw a b t p i fl x.size (SP.by_ o)) 10 ++ SP.by_ x) from by rw [← mkB_by x, mkB_append, by_mkB]]
  exact Ev.now _
theorem ipenc0 (a b t p i f : Nat) (fl : Nat) (m d : Bool) (o x : ByteArray) (h : ipOk a b t p i f m o x) (hfl : fl = ipF f false d) : Ev (fun k => ip_Encode.j0 k (fl : Int) a b t p i f m d o x) (mkB (sealB (ipRaw a b t p i (ipF f m d) x.size (SP.by_ o)) 10 ++ SP.by_ x), 0) := by
  have hf : f ≤ 8191 := by unfold ipOk at h; omega
  refine Ev.step (f := ?fz) (fun k => by simp only [ip_Encode.j0]; rfl) ?_
  refine Ev.ite (fun hm => ?_) (fun hm => ?_)
  · subst hm
    have e : Go.bits .or .i64 (fl : Int) 8192 = ((ipF f true d : Nat) : Int) := by
      refine (or_bits fl 8192 (by rw [hfl]; unfold ipF; split <;> simp <;> omega) (by omega)).trans ?_
      rw [hfl]
      unfold ipF
      cases d
      · simp only [Bool.false_eq_true, if_false, if_true, Nat.add_zero]
        rw [Nat.or_comm, show (8192 : Nat) = 2 ^ 13 * 1 from rfl, ← Nat.two_pow_add_eq_or_of_lt (by omega), Nat.add_comm]
      · simp only [Bool.false_eq_true, if_false, if_true, Nat.add_zero]
        have e1 : f + 16384 = 2 ^ 13 * 2 ||| f := by rw [← Nat.two_pow_add_eq_or_of_lt (by omega)]; omega
        have e2 : 2 ^ 13 * 3 ||| f = 2 ^ 13 * 3 + f := (Nat.two_pow_add_eq_or_of_lt (by omega) 3).symm
        rw [e1, Nat.or_assoc, Nat.or_comm f, ← Nat.or_assoc, show (2 ^ 13 * 2 ||| 8192 : Nat) = 2 ^ 13 * 3 from by decide, e2, ← e1]
        omega
    rw [e]
    exact ipenc1 a b t p i f _ true d o x h (by unfold ipF; split <;> simp <;> omega)
  · have hm' : m = false := by simpa using hm
    subst hm'
    rw [hfl]
    exact ipenc1 a b t p i f _ false d o x h (by unfold ipF; split <;> simp <;> omega)
theorem ipenc_ev (a b t p i f : Int) (m d : Bool) (o x : ByteArray) (hx : x.size ≤ 140737488351232) : Ev (fun k => ip_Encode.f k a b t p i f m d o x) (ipE a b t p i f m d o x) := by
  unfold ip_Encode.f
  refine Ev.bind (ipcheck_ev a b t p i f m d o x hx) ?_
  by_cases h : ipOk a b t p i f m o x
  · rw [ipC, if_pos h, ipE, if_pos h]
    refine Ev.pos rfl ?_
    have h' := h
    unfold ipOk at h'
    obtain ⟨a, rfl⟩ := Int.eq_ofNat_of_zero_le (show 0 ≤ a by omega)
    obtain ⟨b, rfl⟩ := Int.eq_ofNat_of_zero_le (show 0 ≤ b by omega)
    obtain ⟨t, rfl⟩ := Int.eq_ofNat_of_zero_le (show 0 ≤ t by omega)
    obtain ⟨p, rfl⟩ := Int.eq_ofNat_of_zero_le (show 0 ≤ p by omega)
    obtain ⟨i, rfl⟩ := Int.eq_ofNat_of_zero_le (show 0 ≤ i by omega)
    obtain ⟨f, rfl⟩ := Int.eq_ofNat_of_zero_le (show 0 ≤ f by omega)
    unfold ipB
    simp only [nat_toNat]
    refine Ev.ite (fun hd => ?_) (fun hd => ?_)
    · subst hd
      have e : Go.bits .or .i64 (f : Int) 16384 = ((ipF f false true : Nat) : Int) := by
        refine (or_bits f 16384 (by omega) (by omega)).trans ?_
        unfold ipF
        simp only [Bool.false_eq_true, if_false, if_true, Nat.add_zero]
        rw [Nat.or_comm, show (16384 : Nat) = 2 ^ 14 * 1 from rfl, ← Nat.two_pow_add_eq_or_of_lt (by omega), Nat.add_comm]
      rw [e]
      exact ipenc0 a b t p i f _ m true o x h rfl
    · have hd' : d = false := by simpa using hd
      subst hd'
      exact ipenc0 a b t p i f f m false o x h (by unfold ipF; simp)
  · rw [ipC, if_neg h, ipE, if_neg h]
    exact Ev.neg (by decide) (Ev.now _)
/-- a number at a place of bytes -/
def at2 (l : List UInt8) (a b : Nat) : Nat := SP.num ((l.drop a).take b)
theorem at2_lt (l : List UInt8) (a b : Nat) : at2 l a b < 256 ^ b := by
  have h := SP.num_lt ((l.drop a).take b)
  have h2 : ((l.drop a).take b).length ≤ b := by rw [List.length_take]; omega
  exact Nat.lt_of_lt_of_le h (Nat.pow_le_pow_right (by omega) h2)
theorem at2_one (l : List UInt8) (a : Nat) (h : a < l.length) : at2 l a 1 = SP.nth l a := by
  unfold at2
  rw [SP.drop_cons h]
  simp [SP.num, SP.nth]
abbrev IpT := Int × Int × Int × Int × Int × Int × Bool × Bool × ByteArray × ByteArray × Int
def ipZ (e : Int) : IpT := (0, 0, 0, 0, 0, 0, false, false, ⟨#[]⟩, ⟨#[]⟩, e)
/-- the packet that bytes with this head tell -/
def ipTell (l : List UInt8) (h all : Nat) (e : Int) : IpT :=
  (at2 l 12 4, at2 l 16 4, SP.nth l 8, SP.nth l 9, at2 l 4 2, (at2 l 6 2 % 8192 : Nat), decide (at2 l 6 2 / 8192 % 2 = 1), decide (at2 l 6 2 / 16384 % 2 = 1), mkB ((l.drop 20).take (h - 20)), mkB ((l.drop h).take (all - h)), e)
def ipMay (l : List UInt8) (h all : Nat) : Prop :=
  SP.nth l 1 = 0 ∧ at2 l 6 2 < 32768 ∧ ipOk (at2 l 12 4) (at2 l 16 4) (SP.nth l 8) (SP.nth l 9) (at2 l 4 2) (at2 l 6 2 % 8192 : Nat) (decide (at2 l 6 2 / 8192 % 2 = 1)) (mkB ((l.drop 20).take (h - 20))) (mkB ((l.drop h).take (all - h)))
instance (l : List UInt8) (h all : Nat) : Decidable (ipMay l h all) := by unfold ipMay; infer_instance
def ipDec (l : List UInt8) : IpT :=
  if l.length < 20 ∨ SP.nth l 0 / 16 ≠ 4 then ipZ 50
  else if SP.nth l 0 % 16 * 4 < 20 ∨ l.length < SP.nth l 0 % 16 * 4 ∨ at2 l 2 2 < SP.nth l 0 % 16 * 4 ∨ l.length < at2 l 2 2 then ipZ 50
  else if SP.canon (SP.ws 0 (l.take (SP.nth l 0 % 16 * 4))) = 65535 then (if ipMay l (SP.nth l 0 % 16 * 4) (at2 l 2 2) then ipTell l (SP.nth l 0 % 16 * 4) (at2 l 2 2) 0 else ipZ 50)
  else ipZ 20
theorem and_nat (n m : Nat) (hn : n < 4611686018427387904) (hm : m < 4611686018427387904) : Go.bits .and .i64 (n : Int) (m : Int) = ((n &&& m : Nat) : Int) := by
  have hw : ∀ n : Int, 0 ≤ n → n < 2 ^ 62 → IntKind.i64.wrap n = n := by
    intro n h0 h1; rw [IntKind.wrap_i64]; have : (2 : Int) ^ 62 = 4611686018427387904 := by decide
    omega
  have e62 : (2 : Nat) ^ 62 = 4611686018427387904 := by decide
  exact (bits_nat .i64 62 (by decide) hw n m (by omega) (by omega)).1
theorem flag_bit (n i : Nat) (hn : n < 4611686018427387904) (hm : 2 ^ i < 4611686018427387904) : (Go.bits .and .i64 (n : Int) ((2 ^ i : Nat) : Int) > 0) ↔ n / 2 ^ i % 2 = 1 := by
  rw [and_nat n (2 ^ i) hn hm]
  have hb : n.testBit i = decide (n / 2 ^ i % 2 = 1) := Nat.testBit_eq_decide_div_mod_eq
  by_cases h : n / 2 ^ i % 2 = 1
  · rw [decide_eq_true h] at hb
    have h0 : (n &&& 2 ^ i).testBit i = true := by rw [Nat.testBit_and, hb, Nat.testBit_two_pow_self]; rfl
    refine ⟨fun _ => h, fun _ => ?_⟩
    have : n &&& 2 ^ i ≠ 0 := fun e => by rw [e, Nat.zero_testBit] at h0; cases h0
    omega
  · rw [decide_eq_false h] at hb
    have : n &&& 2 ^ i = 0 := Nat.eq_of_testBit_eq fun j => by
      rw [Nat.testBit_and, Nat.testBit_two_pow, Nat.zero_testBit]
      by_cases e : i = j
      · subst e; rw [hb]; rfl
      · rw [decide_eq_false e, Bool.and_false]
    rw [this]
    exact ⟨fun hh => absurd hh (by decide), fun hh => absurd hh h⟩
theorem bt_div (s : ByteArray) (i : Nat) : bt s (i : Int) / 16 = ((SP.nth (SP.by_ s) i / 16 : Nat) : Int) := by rw [bt_nth]; omega
theorem get_at (s : ByteArray) (hs : s.size ≤ 281474976710656) (a b : Nat) (hb1 : 1 ≤ b) (hb : b ≤ 6) (h : a + b ≤ s.size) : sum_Get.f s (a : Int) (b : Int) = some (((at2 (SP.by_ s) a b : Nat) : Int), 0) := by
  rw [get_ev s (by omega) a b (by omega) (by omega), GetS, if_neg (by omega)]
  rfl
theorem headlen (s : ByteArray) : wrap64 (wrap64 (Go.bits .and .u8 (bt s 0) 15) * 4) = ((SP.nth (SP.by_ s) 0 % 16 * 4 : Nat) : Int) := by
  have e := bt_nth s 0
  have hl := SP.nth_lt (SP.by_ s) 0
  rw [show bt s 0 = ((SP.nth (SP.by_ s) 0 : Nat) : Int) from e, u8_and15 _ (by omega) (by omega), w64 (n := ((SP.nth (SP.by_ s) 0 : Nat) : Int) % 16) (by omega) (by omega), w64 (by omega) (by omega)]
  omega
theorem ipdec_ev (s : ByteArray) (hs : s.size ≤ 281474976710656) : Ev (fun k => ip_Decode.f k s) (ipDec (SP.by_ s)) := by
  have hl := SP.by_len s
  unfold ip_Decode.f
  rw [headlen]
  rw [ipDec]
  refine Ev.ite (fun h => ?_) (fun h => ?_)
  · rw [if_pos (by omega)]; exact Ev.now _
  refine Ev.ite (fun h2 => ?_) (fun h2 => ?_)
  rotate_left
  · have := bt_div s 0
    rw [if_pos (.inr (fun hh => h2 (by rw [show bt s 0 / 16 = bt s ((0 : Nat) : Int) / 16 from rfl, this, hh]; rfl)))]; exact Ev.now _
  have h2' : SP.nth (SP.by_ s) 0 / 16 = 4 := by
    have := bt_div s 0
    rw [show bt s 0 / 16 = bt s ((0 : Nat) : Int) / 16 from rfl, this] at h2
    omega
  rw [if_neg (by omega)]
  have gt := fun (a b : Nat) (hb1 : 1 ≤ b) (hb : b ≤ 6) (h : a + b ≤ s.size) => get_at s hs a b hb1 hb h
  have g1 := gt 2 2 (by omega) (by omega) (by omega)
  have g2 := gt 6 2 (by omega) (by omega) (by omega)
  have g3 := gt 12 4 (by omega) (by omega) (by omega)
  have g4 := gt 16 4 (by omega) (by omega) (by omega)
  have g5 := gt 8 1 (by omega) (by omega) (by omega)
  have g6 := gt 9 1 (by omega) (by omega) (by omega)
  have g7 := gt 4 2 (by omega) (by omega) (by omega)
  rw [at2_one _ 8 (by omega)] at g5
  rw [at2_one _ 9 (by omega)] at g6
  have now : ∀ {o : Option (Int × Int)} {r : Int × Int}, o = some r → Ev (fun _ => o) r := fun h => h ▸ Ev.now _
  generalize hh : SP.nth (SP.by_ s) 0 % 16 * 4 = hd
  have hhd : hd < 64 := by omega
  have l1 := at2_lt (SP.by_ s) 2 2
  have l2 := at2_lt (SP.by_ s) 6 2
  refine Ev.bind (now g1) ?_
  refine Ev.ite (fun c => ?_) (fun c3 => ?_)
  · rw [if_pos (by omega)]; exact Ev.now _
  refine Ev.ite (fun c => ?_) (fun c4 => ?_)
  · rw [if_pos (by omega)]; exact Ev.now _
  refine Ev.ite (fun c => ?_) (fun c5 => ?_)
  · have c' : ((at2 (SP.by_ s) 2 2 : Nat) : Int) < (hd : Int) := c
    rw [if_pos (by omega)]; exact Ev.now _
  refine Ev.ite (fun c => ?_) (fun c6 => ?_)
  · have c' : ((at2 (SP.by_ s) 2 2 : Nat) : Int) > (s.size : Int) := c
    rw [if_pos (by omega)]; exact Ev.now _
  have c5' : ¬ ((at2 (SP.by_ s) 2 2 : Nat) : Int) < (hd : Int) := c5
  have c6' : ¬ ((at2 (SP.by_ s) 2 2 : Nat) : Int) > (s.size : Int) := c6
  rw [if_neg (by omega)]
  have hw := whole_ev (cutS s 0 hd) (by rw [cut_to, mkB_size, List.length_take]; omega)
  rw [cut_to, by_mkB] at hw
  rw [nat_toNat, cut_to]
  refine Ev.bind hw ?_
  rw [nat_toNat]
  refine Ev.ite (fun c => ?_) (fun c => ?_)
  rotate_left
  · rw [if_neg (fun h => c (decide_eq_true h))]; exact Ev.now _
  rw [if_pos (of_decide_eq_true c)]
  refine Ev.bind (now g2) (Ev.bind (now g3) (Ev.bind (now g4) (Ev.bind (now g5) (Ev.bind (now g6) (Ev.bind (now g7) ?_)))))
  dsimp only
  have e1 : bt s 1 = ((SP.nth (SP.by_ s) 1 : Nat) : Int) := bt_nth s 1
  rw [e1]
  refine Ev.ite (fun c => ?_) (fun c7 => ?_)
  · rw [if_neg (fun hm => by have := hm.1; omega)]; exact Ev.now _
  have f15 := flag_bit (at2 (SP.by_ s) 6 2) 15 (by omega) (by decide)
  have f13 := flag_bit (at2 (SP.by_ s) 6 2) 13 (by omega) (by decide)
  have f14 := flag_bit (at2 (SP.by_ s) 6 2) 14 (by omega) (by decide)
  rw [show (2 : Nat) ^ 15 = 32768 from rfl] at f15
  rw [show (2 : Nat) ^ 13 = 8192 from rfl] at f13
  rw [show (2 : Nat) ^ 14 = 16384 from rfl] at f14
  rw [show ((32768 : Nat) : Int) = 32768 from rfl] at f15
  rw [show ((8192 : Nat) : Int) = 8192 from rfl] at f13
  rw [show ((16384 : Nat) : Int) = 16384 from rfl] at f14
  have h63 : at2 (SP.by_ s) 6 2 < 2 ^ 63 := Nat.lt_trans l2 (by decide)
  have fm : Go.bits .and .i64 ((at2 (SP.by_ s) 6 2 : Nat) : Int) 8191 = ((at2 (SP.by_ s) 6 2 % 8192 : Nat) : Int) := and_mask (at2 (SP.by_ s) 6 2) 8191 h63 13 rfl (by omega)
  clear h63
  have d13 : decide (Go.bits .and .i64 ((at2 (SP.by_ s) 6 2 : Nat) : Int) 8192 > 0) = decide (at2 (SP.by_ s) 6 2 / 8192 % 2 = 1) := decide_eq_decide.2 f13
  have d14 : decide (Go.bits .and .i64 ((at2 (SP.by_ s) 6 2 : Nat) : Int) 16384 > 0) = decide (at2 (SP.by_ s) 6 2 / 16384 % 2 = 1) := decide_eq_decide.2 f14
  refine Ev.ite (fun c => ?_) (fun c8 => ?_)
  · have := f15.1 c
    rw [if_neg (fun hm => by have := hm.2.1; omega)]; exact Ev.now _
  have c8' : at2 (SP.by_ s) 6 2 < 32768 := by
    refine Nat.not_le.1 (fun hle => c8 (f15.2 ?_))
    have : at2 (SP.by_ s) 6 2 < 65536 := l2
    omega
  rw [fm, d13, d14]
  have ex1 : cutS s 20 hd = mkB (((SP.by_ s).drop 20).take (hd - 20)) := cut_mk s 20 hd
  have ex2 : cutS s hd (at2 (SP.by_ s) 2 2) = mkB (((SP.by_ s).drop hd).take (at2 (SP.by_ s) 2 2 - hd)) := cut_mk s hd _
  rw [ex1, ex2]
  refine Ev.bind (ipcheck_ev _ _ _ _ _ _ _ _ _ _ (by rw [mkB_size, List.length_take, List.length_drop]; omega)) ?_
  refine Ev.ite (fun c => ?_) (fun c => ?_)
  · have hok : ipMay (SP.by_ s) hd (at2 (SP.by_ s) 2 2) := ⟨by omega, c8', by
      refine Decidable.byContradiction (fun hn => ?_)
      rw [ipC, if_neg hn] at c; cases c⟩
    rw [if_pos hok]
    exact Ev.now _
  · rw [if_neg (fun hm => c (by rw [ipC, if_pos hm.2.2]))]
    exact Ev.now _
theorem drop_skip (n m : Nat) (L : List UInt8) (p : Nat) (h : m ≤ p) : (SP.bytesN n m ++ L).drop p = L.drop (p - m) := by
  rw [List.drop_append, SP.bytesN_len, List.drop_of_length_le (by rw [SP.bytesN_len]; exact h), List.nil_append]
theorem at2_skip (n m : Nat) (L : List UInt8) (p k : Nat) (h : m ≤ p) : at2 (SP.bytesN n m ++ L) p k = at2 L (p - m) k := by
  unfold at2; rw [drop_skip n m L p h]
theorem at2_here (n k : Nat) (L : List UInt8) : at2 (SP.bytesN n k ++ L) 0 k = n % 256 ^ k := by
  unfold at2
  rw [List.drop_zero, List.take_append_of_le_length (by rw [SP.bytesN_len]; exact Nat.le_refl _), List.take_of_length_le (by rw [SP.bytesN_len]; exact Nat.le_refl _), SP.num_bytesN]
/-- a packet's bytes, whatever the sum -/
def ipLay (v len i fl t p c a b : Nat) (z : List UInt8) : List UInt8 :=
  SP.bytesN v 1 ++ (SP.bytesN 0 1 ++ (SP.bytesN len 2 ++ (SP.bytesN i 2 ++ (SP.bytesN fl 2 ++ (SP.bytesN t 1 ++ (SP.bytesN p 1 ++ (SP.bytesN c 2 ++ (SP.bytesN a 4 ++ (SP.bytesN b 4 ++ z)))))))))
section
variable (v len i fl t p c a b : Nat) (z : List UInt8)
theorem ipLay_len : (ipLay v len i fl t p c a b z).length = 20 + z.length := by
  unfold ipLay; simp only [List.length_append, SP.bytesN_len]; omega
theorem ipLay_0 (h : v < 256) : SP.nth (ipLay v len i fl t p c a b z) 0 = v := by
  rw [← at2_one _ 0 (by rw [ipLay_len]; omega)]; unfold ipLay; rw [at2_here]; omega
theorem ipLay_1 : SP.nth (ipLay v len i fl t p c a b z) 1 = 0 := by
  rw [← at2_one _ 1 (by rw [ipLay_len]; omega)]; unfold ipLay; rw [at2_skip _ _ _ _ _ (by omega)]; exact at2_here 0 1 _
theorem ipLay_2 (h : len < 65536) : at2 (ipLay v len i fl t p c a b z) 2 2 = len := by
  unfold ipLay; rw [at2_skip _ _ _ _ _ (by omega), at2_skip _ _ _ _ _ (by omega)]; exact (at2_here len 2 _).trans (Nat.mod_eq_of_lt h)
theorem ipLay_4 (h : i < 65536) : at2 (ipLay v len i fl t p c a b z) 4 2 = i := by
  unfold ipLay; rw [at2_skip _ _ _ _ _ (by omega), at2_skip _ _ _ _ _ (by omega), at2_skip _ _ _ _ _ (by omega)]; exact (at2_here i 2 _).trans (Nat.mod_eq_of_lt h)
theorem ipLay_6 (h : fl < 65536) : at2 (ipLay v len i fl t p c a b z) 6 2 = fl := by
  unfold ipLay; rw [at2_skip _ _ _ _ _ (by omega), at2_skip _ _ _ _ _ (by omega), at2_skip _ _ _ _ _ (by omega), at2_skip _ _ _ _ _ (by omega)]; exact (at2_here fl 2 _).trans (Nat.mod_eq_of_lt h)
theorem ipLay_8 (h : t < 256) : SP.nth (ipLay v len i fl t p c a b z) 8 = t := by
  rw [← at2_one _ 8 (by rw [ipLay_len]; omega)]; unfold ipLay; rw [at2_skip _ _ _ _ _ (by omega), at2_skip _ _ _ _ _ (by omega), at2_skip _ _ _ _ _ (by omega), at2_skip _ _ _ _ _ (by omega), at2_skip _ _ _ _ _ (by omega)]; exact (at2_here t 1 _).trans (Nat.mod_eq_of_lt h)
theorem ipLay_9 (h : p < 256) : SP.nth (ipLay v len i fl t p c a b z) 9 = p := by
  rw [← at2_one _ 9 (by rw [ipLay_len]; omega)]; unfold ipLay; rw [at2_skip _ _ _ _ _ (by omega), at2_skip _ _ _ _ _ (by omega), at2_skip _ _ _ _ _ (by omega), at2_skip _ _ _ _ _ (by omega), at2_skip _ _ _ _ _ (by omega), at2_skip _ _ _ _ _ (by omega)]; exact (at2_here p 1 _).trans (Nat.mod_eq_of_lt h)
theorem ipLay_12 (h : a < 4294967296) : at2 (ipLay v len i fl t p c a b z) 12 4 = a := by
  unfold ipLay; rw [at2_skip _ _ _ _ _ (by omega), at2_skip _ _ _ _ _ (by omega), at2_skip _ _ _ _ _ (by omega), at2_skip _ _ _ _ _ (by omega), at2_skip _ _ _ _ _ (by omega), at2_skip _ _ _ _ _ (by omega), at2_skip _ _ _ _ _ (by omega), at2_skip _ _ _ _ _ (by omega)]; exact (at2_here a 4 _).trans (Nat.mod_eq_of_lt h)
theorem ipLay_16 (h : b < 4294967296) : at2 (ipLay v len i fl t p c a b z) 16 4 = b := by
  unfold ipLay; rw [at2_skip _ _ _ _ _ (by omega), at2_skip _ _ _ _ _ (by omega), at2_skip _ _ _ _ _ (by omega), at2_skip _ _ _ _ _ (by omega), at2_skip _ _ _ _ _ (by omega), at2_skip _ _ _ _ _ (by omega), at2_skip _ _ _ _ _ (by omega), at2_skip _ _ _ _ _ (by omega), at2_skip _ _ _ _ _ (by omega)]; exact (at2_here b 4 _).trans (Nat.mod_eq_of_lt h)
theorem ipLay_drop (k : Nat) : (ipLay v len i fl t p c a b z).drop (20 + k) = z.drop k := by
  unfold ipLay
  rw [drop_skip _ _ _ _ (by omega), drop_skip _ _ _ _ (by omega), drop_skip _ _ _ _ (by omega), drop_skip _ _ _ _ (by omega), drop_skip _ _ _ _ (by omega), drop_skip _ _ _ _ (by omega), drop_skip _ _ _ _ (by omega), drop_skip _ _ _ _ (by omega), drop_skip _ _ _ _ (by omega), drop_skip _ _ _ _ (by omega)]
  congr 1; omega
end
theorem ipRaw_lay (a b t p i fl n : Nat) (o : List UInt8) : ipRaw a b t p i fl n o = ipLay (64 + (20 + o.length) / 4) (20 + o.length + n) i fl t p 0 a b o := by
  unfold ipRaw ipLay; simp only [List.append_assoc]
theorem ipLay_ten (v len i fl t p c a b : Nat) (z : List UInt8) : ∃ r : List UInt8, r.length = 10 ∧ (∀ c z, ipLay v len i fl t p c a b z = r ++ (SP.bytesN c 2 ++ (SP.bytesN a 4 ++ (SP.bytesN b 4 ++ z)))) := by
  refine ⟨SP.bytesN v 1 ++ (SP.bytesN 0 1 ++ (SP.bytesN len 2 ++ (SP.bytesN i 2 ++ (SP.bytesN fl 2 ++ (SP.bytesN t 1 ++ SP.bytesN p 1))))), ?_, fun c z => ?_⟩
  · simp only [List.length_append, SP.bytesN_len]
  · unfold ipLay; simp only [List.append_assoc]
theorem ipSeal_lay (a b t p i fl n : Nat) (o : List UInt8) : ∃ c, c < 65536 ∧ sealB (ipRaw a b t p i fl n o) 10 = ipLay (64 + (20 + o.length) / 4) (20 + o.length + n) i fl t p c a b o := by
  obtain ⟨r, hr, he⟩ := ipLay_ten (64 + (20 + o.length) / 4) (20 + o.length + n) i fl t p 0 a b o
  refine ⟨65535 - SP.canon (SP.ws 0 ((ipRaw a b t p i fl n o).take 10 ++ [0, 0] ++ (ipRaw a b t p i fl n o).drop (10 + 2))), ?_, ?_⟩
  rotate_left
  · rw [sealB, he]
    generalize 65535 - SP.canon _ = c
    rw [ipRaw_lay, he]
    have e1 : (r ++ (SP.bytesN 0 2 ++ (SP.bytesN a 4 ++ (SP.bytesN b 4 ++ o)))).take 10 = r := by
      rw [List.take_append_of_le_length (by omega), List.take_of_length_le (by omega)]
    have e2 : (r ++ (SP.bytesN 0 2 ++ (SP.bytesN a 4 ++ (SP.bytesN b 4 ++ o)))).drop 12 = SP.bytesN a 4 ++ (SP.bytesN b 4 ++ o) := by
      rw [List.drop_append, List.drop_of_length_le (by omega), hr, List.nil_append, drop_skip _ _ _ _ (by omega)]; rfl
    rw [e1, e2, List.append_assoc]
  · omega
theorem ipF_back (f : Nat) (m d : Bool) (h : f ≤ 8191) : ipF f m d < 32768 ∧ ipF f m d % 8192 = f ∧ decide (ipF f m d / 8192 % 2 = 1) = m ∧ decide (ipF f m d / 16384 % 2 = 1) = d := by
  unfold ipF
  refine ⟨?_, ?_, ?_, ?_⟩
  · cases m <;> cases d <;> simp <;> omega
  · cases m <;> cases d <;> simp <;> omega
  · rw [Bool.eq_iff_iff, decide_eq_true_eq]; cases m <;> cases d <;> simp <;> omega
  · rw [Bool.eq_iff_iff, decide_eq_true_eq]; cases m <;> cases d <;> simp <;> omega
/-- what is encoded is decoded as the packet, with anything behind it -/
theorem ipdec_enc (a b t p i f : Int) (m d : Bool) (o x : ByteArray) (more : List UInt8) (h : ipOk a b t p i f m o x) : ipDec (SP.by_ (ipB a b t p i f m d o x) ++ more) = (a, b, t, p, i, f, m, d, o, x, 0) := by
  have h' := h
  unfold ipOk at h'
  obtain ⟨a, rfl⟩ := Int.eq_ofNat_of_zero_le (show 0 ≤ a by omega)
  obtain ⟨b, rfl⟩ := Int.eq_ofNat_of_zero_le (show 0 ≤ b by omega)
  obtain ⟨t, rfl⟩ := Int.eq_ofNat_of_zero_le (show 0 ≤ t by omega)
  obtain ⟨p, rfl⟩ := Int.eq_ofNat_of_zero_le (show 0 ≤ p by omega)
  obtain ⟨i, rfl⟩ := Int.eq_ofNat_of_zero_le (show 0 ≤ i by omega)
  obtain ⟨f, rfl⟩ := Int.eq_ofNat_of_zero_le (show 0 ≤ f by omega)
  have lo := SP.by_len o
  have lx := SP.by_len x
  unfold ipB
  simp only [nat_toNat, by_mkB]
  obtain ⟨F1, F2, F3, F4⟩ := ipF_back f m d (by omega)
  generalize ipF f m d = fl at F1 F2 F3 F4 ⊢
  have whole := sealB_whole (ipRaw a b t p i fl x.size (SP.by_ o)) 10 (by omega) (by rw [ipRaw_len]; omega)
  obtain ⟨c, hc, he⟩ := ipSeal_lay a b t p i fl x.size (SP.by_ o)
  rw [he] at whole ⊢
  have hcat : ipLay (64 + (20 + (SP.by_ o).length) / 4) (20 + (SP.by_ o).length + x.size) i fl t p c a b (SP.by_ o) ++ SP.by_ x ++ more = ipLay (64 + (20 + (SP.by_ o).length) / 4) (20 + (SP.by_ o).length + x.size) i fl t p c a b (SP.by_ o ++ (SP.by_ x ++ more)) := by
    unfold ipLay; simp only [List.append_assoc]
  have htake : (ipLay (64 + (20 + (SP.by_ o).length) / 4) (20 + (SP.by_ o).length + x.size) i fl t p c a b (SP.by_ o ++ (SP.by_ x ++ more))).take (20 + (SP.by_ o).length) = ipLay (64 + (20 + (SP.by_ o).length) / 4) (20 + (SP.by_ o).length + x.size) i fl t p c a b (SP.by_ o) := by
    rw [← hcat, List.append_assoc, List.take_append_of_le_length (by rw [ipLay_len]; omega), List.take_of_length_le (by rw [ipLay_len]; omega)]
  rw [hcat]
  have L := ipLay_len (64 + (20 + (SP.by_ o).length) / 4) (20 + (SP.by_ o).length + x.size) i fl t p c a b (SP.by_ o ++ (SP.by_ x ++ more))
  have L0 := ipLay_0 (64 + (20 + (SP.by_ o).length) / 4) (20 + (SP.by_ o).length + x.size) i fl t p c a b (SP.by_ o ++ (SP.by_ x ++ more)) (by omega)
  have L1 := ipLay_1 (64 + (20 + (SP.by_ o).length) / 4) (20 + (SP.by_ o).length + x.size) i fl t p c a b (SP.by_ o ++ (SP.by_ x ++ more))
  have L2 := ipLay_2 (64 + (20 + (SP.by_ o).length) / 4) (20 + (SP.by_ o).length + x.size) i fl t p c a b (SP.by_ o ++ (SP.by_ x ++ more)) (by omega)
  have L4 := ipLay_4 (64 + (20 + (SP.by_ o).length) / 4) (20 + (SP.by_ o).length + x.size) i fl t p c a b (SP.by_ o ++ (SP.by_ x ++ more)) (by omega)
  have L6 := ipLay_6 (64 + (20 + (SP.by_ o).length) / 4) (20 + (SP.by_ o).length + x.size) i fl t p c a b (SP.by_ o ++ (SP.by_ x ++ more)) (by omega)
  have L8 := ipLay_8 (64 + (20 + (SP.by_ o).length) / 4) (20 + (SP.by_ o).length + x.size) i fl t p c a b (SP.by_ o ++ (SP.by_ x ++ more)) (by omega)
  have L9 := ipLay_9 (64 + (20 + (SP.by_ o).length) / 4) (20 + (SP.by_ o).length + x.size) i fl t p c a b (SP.by_ o ++ (SP.by_ x ++ more)) (by omega)
  have L12 := ipLay_12 (64 + (20 + (SP.by_ o).length) / 4) (20 + (SP.by_ o).length + x.size) i fl t p c a b (SP.by_ o ++ (SP.by_ x ++ more)) (by omega)
  have L16 := ipLay_16 (64 + (20 + (SP.by_ o).length) / 4) (20 + (SP.by_ o).length + x.size) i fl t p c a b (SP.by_ o ++ (SP.by_ x ++ more)) (by omega)
  have D := ipLay_drop (64 + (20 + (SP.by_ o).length) / 4) (20 + (SP.by_ o).length + x.size) i fl t p c a b (SP.by_ o ++ (SP.by_ x ++ more))
  generalize ipLay (64 + (20 + (SP.by_ o).length) / 4) (20 + (SP.by_ o).length + x.size) i fl t p c a b (SP.by_ o ++ (SP.by_ x ++ more)) = l at htake L L0 L1 L2 L4 L6 L8 L9 L12 L16 D ⊢
  have hd : SP.nth l 0 % 16 * 4 = 20 + (SP.by_ o).length := by rw [L0]; omega
  have O : (l.drop 20).take (20 + (SP.by_ o).length - 20) = SP.by_ o := by
    rw [show 20 = 20 + 0 from rfl, D 0, List.drop_zero, List.take_append_of_le_length (by omega), List.take_of_length_le (by omega)]
  have X : (l.drop (20 + (SP.by_ o).length)).take (20 + (SP.by_ o).length + x.size - (20 + (SP.by_ o).length)) = SP.by_ x := by
    rw [D, List.drop_append, List.drop_of_length_le (Nat.le_refl _), List.nil_append, Nat.sub_self, List.drop_zero, List.take_append_of_le_length (by omega), List.take_of_length_le (by omega)]
  rw [List.length_append, List.length_append] at L
  have hmay : ipMay l (20 + (SP.by_ o).length) (20 + (SP.by_ o).length + x.size) := by
    refine ⟨L1, by rw [L6]; exact F1, ?_⟩
    rw [L12, L16, L8, L9, L4, L6, F2, F3, O, X, mkB_by, mkB_by]
    exact h
  rw [ipDec, if_neg (by rw [L0]; omega), hd, L2, if_neg (by omega), htake, if_pos whole, if_pos hmay, ipTell]
  rw [L12, L16, L8, L9, L4, L6, F2, F3, F4, O, X, mkB_by, mkB_by]
theorem ipDec_cases (l : List UInt8) : (∃ e, e ≠ 0 ∧ ipDec l = ipZ e) ∨ (SP.nth l 0 / 16 = 4 ∧ 20 ≤ SP.nth l 0 % 16 * 4 ∧ SP.nth l 0 % 16 * 4 ≤ l.length ∧ SP.nth l 0 % 16 * 4 ≤ at2 l 2 2 ∧ at2 l 2 2 ≤ l.length ∧ SP.canon (SP.ws 0 (l.take (SP.nth l 0 % 16 * 4))) = 65535 ∧ ipMay l (SP.nth l 0 % 16 * 4) (at2 l 2 2) ∧ ipDec l = ipTell l (SP.nth l 0 % 16 * 4) (at2 l 2 2) 0) := by
  by_cases h1 : l.length < 20 ∨ SP.nth l 0 / 16 ≠ 4
  · exact .inl ⟨50, by decide, by rw [ipDec, if_pos h1]⟩
  by_cases h2 : SP.nth l 0 % 16 * 4 < 20 ∨ l.length < SP.nth l 0 % 16 * 4 ∨ at2 l 2 2 < SP.nth l 0 % 16 * 4 ∨ l.length < at2 l 2 2
  · exact .inl ⟨50, by decide, by rw [ipDec, if_neg h1, if_pos h2]⟩
  by_cases h3 : SP.canon (SP.ws 0 (l.take (SP.nth l 0 % 16 * 4))) = 65535
  rotate_left
  · exact .inl ⟨20, by decide, by rw [ipDec, if_neg h1, if_neg h2, if_neg h3]⟩
  by_cases h4 : ipMay l (SP.nth l 0 % 16 * 4) (at2 l 2 2)
  · exact .inr ⟨by omega, by omega, by omega, by omega, by omega, h3, h4, by rw [ipDec, if_neg h1, if_neg h2, if_pos h3, if_pos h4]⟩
  · exact .inl ⟨50, by decide, by rw [ipDec, if_neg h1, if_neg h2, if_pos h3, if_neg h4]⟩
theorem works_ev : Ev (fun k => sternpostlaw05_works.f k) true := by
  have h := ipenc_ev 10 11 64 6 0 0 false false ⟨#[]⟩ ⟨#[97, 98]⟩ (by decide +kernel)
  have e : ipE 10 11 64 6 0 0 false false ⟨#[]⟩ ⟨#[97, 98]⟩ = (mkB [69, 0, 0, 22, 0, 0, 0, 0, 64, 6, 122, 206, 0, 0, 0, 10, 0, 0, 0, 11, 97, 98], 0) := by decide +kernel
  rw [e] at h
  unfold sternpostlaw05_works.f
  refine Ev.bind h ?_
  refine Ev.pos rfl (Ev.pos (by decide +kernel) (Ev.pos (by decide) (Ev.pos (by decide +kernel) (Ev.pos (by decide +kernel) (Ev.pos (by decide +kernel) ?_)))))
  rw [show ((cutS (mkB [69, 0, 0, 22, 0, 0, 0, 0, 64, 6, 122, 206, 0, 0, 0, 10, 0, 0, 0, 11, 97, 98]) 12 (mkB [69, 0, 0, 22, 0, 0, 0, 0, 64, 6, 122, 206, 0, 0, 0, 10, 0, 0, 0, 11, 97, 98]).size).toList == ([0, 0, 0, 10, 0, 0, 0, 11, 97, 98] : List UInt8)) = true from by decide +kernel]
  exact Ev.now _
theorem nth_set_ne (l : List UInt8) (q i : Nat) (b : UInt8) (h : q ≠ i) : SP.nth (l.set q b) i = SP.nth l i := by
  unfold SP.nth; rw [List.getD_eq_getElem?_getD, List.getElem?_set_ne h, List.getD_eq_getElem?_getD]
theorem nth_set_eq (l : List UInt8) (q : Nat) (b : UInt8) (h : q < l.length) : SP.nth (l.set q b) q = b.toNat := by
  unfold SP.nth; simp [List.getD, h]
theorem nth_app (l r : List UInt8) (i : Nat) (h : i < l.length) : SP.nth (l ++ r) i = SP.nth l i := by
  unfold SP.nth; simp [List.getD, List.getElem?_append_left h]
theorem flip_version (v r : Nat) (hv : v < 16) (hr : r < 8) (hr4 : 4 ≤ r) : ((64 + v) ^^^ 2 ^ r) / 16 ≠ 4 := by
  have key : ∀ (v : Fin 16) (r : Fin 8), 4 ≤ r.val → ((64 + v.val) ^^^ 2 ^ r.val) / 16 ≠ 4 := by decide +kernel
  exact key ⟨v, hv⟩ ⟨r, hr⟩ hr4
theorem ipturned_none (a b t p i f : Int) (m d : Bool) (o x : ByteArray) (h : ipOk a b t p i f m o x) (n : Nat) (hn4 : 4 ≤ n) (hn : n < 8 * (20 + o.size)) :
    ∃ e, e ≠ 0 ∧ ipDec (flipB (SP.by_ (ipB a b t p i f m d o x)) (n / 8) (n % 8)) = ipZ e := by
  have h' := h
  unfold ipOk at h'
  have lo := SP.by_len o
  have lx := SP.by_len x
  unfold ipB
  rw [by_mkB]
  have whole := sealB_whole (ipRaw a.toNat b.toNat t.toNat p.toNat i.toNat (ipF f.toNat m d) x.size (SP.by_ o)) 10 (by omega) (by rw [ipRaw_len]; omega)
  obtain ⟨c, hc, he⟩ := ipSeal_lay a.toNat b.toNat t.toNat p.toNat i.toNat (ipF f.toNat m d) x.size (SP.by_ o)
  rw [he] at whole ⊢
  have L := ipLay_len (64 + (20 + (SP.by_ o).length) / 4) (20 + (SP.by_ o).length + x.size) i.toNat (ipF f.toNat m d) t.toNat p.toNat c a.toNat b.toNat (SP.by_ o)
  have L0 := ipLay_0 (64 + (20 + (SP.by_ o).length) / 4) (20 + (SP.by_ o).length + x.size) i.toNat (ipF f.toNat m d) t.toNat p.toNat c a.toNat b.toNat (SP.by_ o) (by omega)
  generalize ipLay (64 + (20 + (SP.by_ o).length) / 4) (20 + (SP.by_ o).length + x.size) i.toNat (ipF f.toNat m d) t.toNat p.toNat c a.toNat b.toNat (SP.by_ o) = S at whole L L0 ⊢
  have hq : n / 8 < S.length := by omega
  have ha : flipB (S ++ SP.by_ x) (n / 8) (n % 8) = flipB S (n / 8) (n % 8) ++ SP.by_ x := by
    unfold flipB
    rw [List.set_append_left _ _ hq, nth_app _ _ _ hq]
  have lf := flipB_len S (n / 8) (n % 8)
  have z0 : SP.nth (flipB S (n / 8) (n % 8) ++ SP.by_ x) 0 = SP.nth (flipB S (n / 8) (n % 8)) 0 := nth_app _ _ _ (by omega)
  rw [ha]
  rcases ipDec_cases (flipB S (n / 8) (n % 8) ++ SP.by_ x) with hz | ⟨k0, k20, kle, kall, kal, kw, km, kd⟩
  · exact hz
  · exfalso
    rw [z0] at k0 kw
    by_cases hq0 : n / 8 = 0
    · unfold flipB at k0
      rw [hq0] at k0
      rw [nth_set_eq _ _ _ (by omega)] at k0
      have hx := (xor_bit (SP.nth S 0) (n % 8) (SP.nth_lt _ _) (by omega)).1
      rw [UInt8.toNat_ofNat', Nat.mod_eq_of_lt (by simpa using hx), L0] at k0
      exact flip_version ((20 + (SP.by_ o).length) / 4) (n % 8) (by omega) (by omega) (by omega) k0
    · have e0 : SP.nth (flipB S (n / 8) (n % 8)) 0 = 64 + (20 + (SP.by_ o).length) / 4 := by
        unfold flipB; rw [nth_set_ne _ _ _ _ hq0, L0]
      have eh : (64 + (20 + (SP.by_ o).length) / 4) % 16 * 4 = 20 + (SP.by_ o).length := by omega
      rw [e0, eh, List.take_append_of_le_length (by omega), List.take_of_length_le (by omega)] at kw
      have h5 := ws_flip S 0 (n / 8) (n % 8) hq (by omega)
      have h6 := SP.canon_mod (SP.ws 0 (flipB S (n / 8) (n % 8)))
      have h7 := SP.canon_mod (SP.ws 0 S)
      rw [kw] at h6; rw [whole] at h7
      omega
theorem IpTurned : sternpostlaw05_IpTurned.Pure := by
  intro a b t p i f m d o x bit _ _ _ _ _ _ ho hx hb
  refine Ev.rounds ?_
  unfold sternpostlaw05_IpTurned.f
  refine Ev.bind works_ev (Ev.pos rfl (Ev.bind (ipenc_ev a b t p i f m d o x hx) ?_))
  by_cases h : ipOk a b t p i f m o x
  rotate_left
  · rw [ipE, if_neg h]
    exact Ev.neg (by decide) (Ev.now _)
  rw [ipE, if_pos h]
  have h' := h
  unfold ipOk at h'
  have hb' := wf64 hb
  refine Ev.pos rfl ?_
  have e1 : wrap64 (wrap64 (8 * wrap64 (20 + (o.size : Int))) - 4) = ((8 * (20 + o.size) - 4 : Nat) : Int) := by
    rw [w64 (n := 20 + (o.size : Int)) (by omega) (by omega), w64 (n := 8 * (20 + (o.size : Int))) (by omega) (by omega), w64 (by omega) (by omega)]; omega
  rw [e1]
  have am := among_ev bit ((8 * (20 + o.size) - 4 : Nat) : Int) (by omega) hb' (by omega)
  have hk1 := Int.emod_nonneg bit (show ((8 * (20 + o.size) - 4 : Nat) : Int) ≠ 0 by omega)
  have hk2 := Int.emod_lt_of_pos bit (show (0 : Int) < ((8 * (20 + o.size) - 4 : Nat) : Int) by omega)
  obtain ⟨n, hn⟩ := Int.eq_ofNat_of_zero_le hk1
  rw [hn] at am hk2
  clear hn hk1
  have am' : Ev (fun _ => sternpostbook_Among.f bit ((8 * (20 + o.size) - 4 : Nat) : Int)) (n : Int) := by rw [am]; exact Ev.now _
  refine Ev.bind am' ?_
  have lx := SP.by_len x
  have lo := SP.by_len o
  have sz : (ipB a b t p i f m d o x).size = 20 + o.size + x.size := by
    unfold ipB
    rw [mkB_size, List.length_append, sealB_len _ _ (by rw [ipRaw_len]; omega), ipRaw_len]; omega
  rw [w64 (by omega) (by omega), show (4 + (n : Int)) = ((4 + n : Nat) : Int) from by omega]
  have hnb : 4 + n < 8 * (20 + o.size) := by omega
  clear hk2 am am' e1
  have hj : 4 ≤ 4 + n := by omega
  generalize 4 + n = j at hj hnb ⊢
  obtain ⟨e, hne, hd⟩ := ipturned_none a b t p i f m d o x h j hj hnb
  try dsimp only
  refine Ev.congr (f := ?fa) (fun k => ?ha) ?hb
  case ha =>
    unfold sternpostlaw05_IpTurned_tail.f
    rw [if_pos ⟨by omega, by omega, by omega⟩, show ((j : Int) / 8).toNat = j / 8 from by omega, show ((j : Int) % 8).toNat = j % 8 from by omega, flipS_mk _ _ _ (by omega) (by omega)]
  case hb =>
    have hx2 := ipdec_ev (mkB (flipB (SP.by_ (ipB a b t p i f m d o x)) (j / 8) (j % 8))) (by rw [mkB_size, flipB_len, SP.by_len]; omega)
    rw [by_mkB, hd] at hx2
    refine Ev.bind hx2 ?_
    unfold sternpostlaw05_IpTurned_none
    exact Ev.neg hne (Ev.pos ⟨rfl, rfl, rfl, rfl, rfl, rfl, rfl, rfl, rfl, rfl⟩ (Ev.now _))
end Go.Proofs.Ytnggabbakhakaaa.Pure

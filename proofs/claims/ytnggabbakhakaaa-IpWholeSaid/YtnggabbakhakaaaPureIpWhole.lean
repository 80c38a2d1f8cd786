/- The pieces' data, one behind the other, are the packet's; each may be, is as short as it must be, and begins where the one ahead of it ends; pieces that are cut again end as those of the packet cut so at once, but for where they are cut: for every packet and every greatest length. No further conditions. -/
import Derived.Test.YtnggabbakhakaaaPIpWholex7
set_option linter.unusedVariables false
set_option linter.unusedSimpArgs false
namespace Go.Proofs.Ytnggabbakhakaaa.Pure
open Go Go.RowKit Go.Proofs.Ytnggabbakhakaaa.PIpWhole Go.Proofs.YtnggabbakhakaaaW.PrintWords Go.Proofs.YtnggabbakhakaaaW.PrintLast Go.Proofs.YtnggabbakhakaaaW.PrintMore
attribute [local irreducible] shl shr Go.bits
/-! ### plain words on numbers and bytes -/
namespace SP
/-- what is above 16 bits, added again -/
def canon (n : Nat) : Nat := if n = 0 then 0 else (n - 1) % 65535 + 1
theorem canon_le (n : Nat) : canon n ≤ 65535 := by unfold canon; split <;> omega
theorem canon_small {n : Nat} (h : n ≤ 65535) : canon n = n := by unfold canon; split <;> omega
theorem canon_step {n : Nat} (h : 65535 < n) : canon (n / 65536 + n % 65536) = canon n := by unfold canon; split <;> split <;> omega
theorem canon_add (a b : Nat) : canon (canon a + b) = canon (a + b) := by unfold canon; split <;> split <;> split <;> omega
theorem canon_mod (n : Nat) : canon n % 65535 = n % 65535 := by unfold canon; split <;> omega
theorem canon_zero {n : Nat} : canon n = 0 ↔ n = 0 := by unfold canon; split <;> omega
theorem canon_eq {a b : Nat} (h : a % 65535 = b % 65535) (h0 : a = 0 ↔ b = 0) : canon a = canon b := by unfold canon; split <;> split <;> omega
/-- a byte's weight at a place -/
def wt (p : Nat) (b : Nat) : Nat := if p % 2 = 0 then 256 * b else b
/-- the weights of bytes from a place on -/
def ws : Nat → List UInt8 → Nat
  | _, [] => 0
  | p, b :: l => wt p b.toNat + ws (p + 1) l
theorem wt_le (p : Nat) (b : UInt8) : wt p b.toNat ≤ 65280 := by have := b.toNat_lt; unfold wt; split <;> omega
theorem ws_le (l : List UInt8) : ∀ p, ws p l ≤ 65280 * l.length := by
  induction l with
  | nil => intro p; simp [ws]
  | cons b l ih => intro p; have := ih (p + 1); have := wt_le p b; simp only [ws, List.length_cons]; omega
theorem ws_append (a b : List UInt8) : ∀ p, ws p (a ++ b) = ws p a + ws (p + a.length) b := by
  induction a with
  | nil => intro p; simp [ws]
  | cons x l ih => intro p; simp only [List.cons_append, ws, ih, List.length_cons]; rw [show p + 1 + l.length = p + (l.length + 1) from by omega]; omega
theorem wt_parity {p q : Nat} (h : p % 2 = q % 2) (b : Nat) : wt p b = wt q b := by unfold wt; rw [h]
theorem ws_parity (l : List UInt8) : ∀ {p q : Nat}, p % 2 = q % 2 → ws p l = ws q l := by
  induction l with
  | nil => intros; rfl
  | cons x l ih => intro p q h; simp only [ws, wt_parity h]; rw [ih (p := p + 1) (q := q + 1) (by omega)]
/-- a string's bytes -/
abbrev by_ (s : ByteArray) : List UInt8 := s.data.toList
theorem by_len (s : ByteArray) : (by_ s).length = s.size := by
  show s.data.toList.length = s.data.size; exact Array.length_toList
theorem by_append (s t : ByteArray) : by_ (s ++ t) = by_ s ++ by_ t := by
  show (s ++ t).data.toList = _; rw [ByteArray.data_append, Array.toList_append]
theorem by_extract (s : ByteArray) (i j : Nat) : by_ (s.extract i j) = ((by_ s).drop i).take (j - i) := by
  simp [by_, ByteArray.data_extract, List.extract_eq_take_drop]
theorem by_ext {s t : ByteArray} (h : by_ s = by_ t) : s = t := by
  cases s; cases t; simp only [by_] at h; congr; exact Array.toList_inj.mp h
/-- byte i of a list -/
def nth (l : List UInt8) (i : Nat) : Nat := (l.getD i 0).toNat
theorem nth_lt (l : List UInt8) (i : Nat) : nth l i < 256 := (l.getD i 0).toNat_lt
theorem drop_cons {l : List UInt8} {i : Nat} (h : i < l.length) : l.drop i = l.getD i 0 :: l.drop (i + 1) := by
  rw [List.drop_eq_getElem_cons h]; simp [List.getD, h]
theorem ws_drop {l : List UInt8} {i : Nat} (p : Nat) (h : i < l.length) : ws p (l.drop i) = wt p (nth l i) + ws (p + 1) (l.drop (i + 1)) := by
  rw [drop_cons h]; rfl
theorem ws_drop_end {l : List UInt8} {i : Nat} (p : Nat) (h : l.length ≤ i) : ws p (l.drop i) = 0 := by
  rw [List.drop_eq_nil_of_le h]; rfl
/-- a number's bytes, k of them -/
def bytesN (n : Nat) : Nat → List UInt8
  | 0 => []
  | k + 1 => UInt8.ofNat (n / 2 ^ (8 * k) % 256) :: bytesN n k
theorem bytesN_len (n k : Nat) : (bytesN n k).length = k := by induction k with
  | zero => rfl
  | succ k ih => simp [bytesN, ih]
/-- the number of bytes -/
def num (l : List UInt8) : Nat := l.foldl (fun n b => n * 256 + b.toNat) 0
theorem num_acc (l : List UInt8) : ∀ a : Nat, l.foldl (fun n b => n * 256 + b.toNat) a = a * 256 ^ l.length + num l := by
  induction l with
  | nil => intro a; show a = a * 256 ^ 0 + 0; omega
  | cons b l ih =>
    intro a
    have h0 : num (b :: l) = l.foldl (fun n b => n * 256 + b.toNat) (0 * 256 + b.toNat) := rfl
    rw [h0, List.foldl_cons, ih, ih, List.length_cons, Nat.pow_succ, Nat.zero_mul, Nat.zero_add, Nat.add_mul, Nat.mul_assoc, Nat.mul_comm 256]
    omega
theorem num_cons (b : UInt8) (l : List UInt8) : num (b :: l) = b.toNat * 256 ^ l.length + num l := by
  have := num_acc l b.toNat; simp only [num, List.foldl_cons, Nat.zero_mul, Nat.zero_add]; exact this
theorem num_append (a b : List UInt8) : num (a ++ b) = num a * 256 ^ b.length + num b := by
  unfold num; rw [List.foldl_append, num_acc]; rfl
theorem num_lt (l : List UInt8) : num l < 256 ^ l.length := by
  induction l with
  | nil => simp [num]
  | cons b l ih => rw [num_cons, List.length_cons, Nat.pow_succ]; have := b.toNat_lt; have h : b.toNat * 256 ^ l.length ≤ 255 * 256 ^ l.length := Nat.mul_le_mul_right _ (by omega); omega
theorem num_bytesN (n k : Nat) : num (bytesN n k) = n % 256 ^ k := by
  induction k with
  | zero => simp [bytesN, num, Nat.mod_one]
  | succ k ih =>
    rw [bytesN, num_cons, ih, bytesN_len]
    have e : (2 : Nat) ^ (8 * k) = 256 ^ k := by rw [Nat.pow_mul]
    rw [e, Nat.pow_succ, Nat.mod_mul, Nat.mul_comm (256 ^ k)]
    have : (UInt8.ofNat (n / 256 ^ k % 256)).toNat = n / 256 ^ k % 256 := by simp [UInt8.toNat_ofNat']
    rw [this]; omega
theorem bytesN_num (l : List UInt8) : bytesN (num l) l.length = l := by
  induction l with
  | nil => rfl
  | cons b l ih =>
    have key : ∀ (m k : Nat), bytesN (m * 256 ^ l.length + num l) k = bytesN (num l) k ∨ l.length < k := by
      intro m k
      by_cases hk : l.length < k
      · exact .inr hk
      · left
        induction k with
        | zero => rfl
        | succ k ihk =>
          rw [bytesN, bytesN, ihk (by omega)]
          have e : (2 : Nat) ^ (8 * k) = 256 ^ k := by rw [Nat.pow_mul]
          obtain ⟨d, hd⟩ : ∃ d, l.length = k + 1 + d := ⟨l.length - (k + 1), by omega⟩
          rw [e]
          have : (m * 256 ^ l.length + num l) / 256 ^ k % 256 = num l / 256 ^ k % 256 := by
            rw [hd, Nat.pow_add, Nat.pow_succ]
            rw [show m * (256 ^ k * 256 * 256 ^ d) = 256 ^ k * (256 * (m * 256 ^ d)) from by ac_rfl]
            rw [Nat.mul_add_div (Nat.pow_pos (by omega)), Nat.mul_add_mod]
          rw [this]
    rw [List.length_cons, num_cons, bytesN]
    have e : (2 : Nat) ^ (8 * l.length) = 256 ^ l.length := by rw [Nat.pow_mul]
    have hl := num_lt l
    have h1 : (b.toNat * 256 ^ l.length + num l) / 2 ^ (8 * l.length) % 256 = b.toNat := by
      rw [e, Nat.mul_comm, Nat.mul_add_div (Nat.pow_pos (by omega)), Nat.div_eq_of_lt hl]; have := b.toNat_lt; omega
    rw [h1]
    rcases key b.toNat l.length with h | h
    · rw [h, ih]; congr 1; exact UInt8.toNat_inj.mp (by simp)
    · omega
end SP
theorem Ev.pos {α : Type} {c : Prop} [Decidable c] {g f : Nat → Option α} {r : α} (hc : c) (h : Ev g r) : Ev (fun k => if c then g k else f k) r := by
  simp only [if_pos hc]; exact h
theorem Ev.neg {α : Type} {c : Prop} [Decidable c] {g f : Nat → Option α} {r : α} (hc : ¬ c) (h : Ev f r) : Ev (fun k => if c then g k else f k) r := by
  simp only [if_neg hc]; exact h
theorem wf64 {n : Int} (h : (Lit.int .i64 n).wf = true) : -9223372036854775808 ≤ n ∧ n < 9223372036854775808 := by
  have e : (Lit.int .i64 n).wf = decide (IntKind.i64.min ≤ n ∧ n ≤ 9223372036854775807) := by simp [Lit.wf]
  have e2 : IntKind.i64.min = -9223372036854775808 := by decide
  rw [e, e2] at h
  have := of_decide_eq_true h
  omega
/-! ### package sum and the reference's, as the words above -/
theorem and_mask (n m : Nat) (h : n < 2 ^ 63) (i : Nat) (hi : m = 2 ^ i - 1) (hi2 : i ≤ 63) : bits .and .i64 (n : Int) (m : Int) = ((n % 2 ^ i : Nat) : Int) := by
  subst hi
  have hw : ∀ n : Int, 0 ≤ n → n < 9223372036854775808 → IntKind.i64.wrap n = n := by
    intro n h0 h1; rw [IntKind.wrap_i64]; have : (2 : Int) ^ 62 = 4611686018427387904 := by decide
    omega
  have := bits_mask .i64 63 (by decide) hw i hi2 (n : Int) (by omega) (by exact_mod_cast h)
  have e : ((2 ^ i - 1 : Nat) : Int) = (2 : Int) ^ i - 1 := by
    have : 1 ≤ 2 ^ i := Nat.one_le_two_pow
    rw [Int.ofNat_sub this]; simp
  rw [e, this]; simp
theorem bits16 (n : Nat) (h : n < 2 ^ 63) : bits .and .i64 (n : Int) 65535 = ((n % 65536 : Nat) : Int) := and_mask n 65535 h 16 rfl (by omega)
theorem bt_nth (s : ByteArray) (i : Nat) : bt s (i : Int) = ((SP.nth (SP.by_ s) i : Nat) : Int) := by
  unfold bt SP.nth
  simp only [Int.toNat_natCast]
  split
  · rename_i h
    congr 1
    have h' : i < (SP.by_ s).length := by rw [SP.by_len]; exact h
    rw [List.getD_eq_getElem?_getD, List.getElem?_eq_getElem h']
    rfl
  · rename_i h
    rw [List.getD_eq_getElem?_getD, List.getElem?_eq_none (by rw [SP.by_len]; omega)]; rfl
theorem w64 {n : Int} (h0 : -9223372036854775808 ≤ n) (h1 : n < 9223372036854775808) : wrap64 n = n := by unfold wrap64; omega
theorem tmod2 (n : Nat) : Int.tmod (n : Int) 2 = ((n % 2 : Nat) : Int) := by rw [Int.tmod_eq_emod_of_nonneg (by omega)]; omega
theorem carry_ev : ∀ (n : Nat), n < 9223372036854775808 → Ev (fun k => sum_carry.f k (n : Int)) ((SP.canon n : Nat) : Int) := by
  intro n
  induction n using Nat.strongRecOn with
  | _ n ih =>
    intro h
    show Ev (fun k => sum_carry.l0 k (n : Int)) _
    by_cases h1 : 65535 < n
    · refine Ev.step (f := fun k => sum_carry.l0 k ((n / 65536 + n % 65536 : Nat) : Int)) (fun k => ?_) ?_
      · simp only [sum_carry.l0]; rw [if_pos (by omega), bits16 n h, w64 (by omega) (by omega)]; congr 1
      · rw [← SP.canon_step h1]; exact ih _ (by omega) (by omega)
    · refine Ev.step (f := fun _ => some (n : Int)) (fun k => ?_) ?_
      · simp only [sum_carry.l0]; rw [if_neg (by omega)]
      · rw [SP.canon_small (by omega)]; exact Ev.now _
theorem shl_wt (p b : Nat) (hb : b < 256) : shl .i64 (wrap64 (b : Int)) (wrap64 (8 - (wrap64 ((Int.tmod (p : Int) 2) * 8)))) = ((SP.wt p b : Nat) : Int) := by
  rw [tmod2]
  unfold SP.wt shl
  rw [IntKind.wrap_i64, w64 (n := (b : Int)) (by omega) (by omega)]
  split
  · rename_i h; rw [h]; simp [wrap64, IntKind.bits]; omega
  · rename_i h; rw [show p % 2 = 1 from by omega]; simp [wrap64, IntKind.bits]; omega
theorem shamt (p : Nat) : 0 ≤ (wrap64 (8 - (wrap64 ((Int.tmod (p : Int) 2) * 8)))) := by
  rw [tmod2]; unfold wrap64; omega
section
variable {s : ByteArray} {x8 : List ByteArray} {x9 x10 r : Int}
theorem total_l1 (hs : s.size < 9223372036854775808) : ∀ (d i n p : Nat), s.size - i = d → i ≤ s.size → n + SP.ws p ((SP.by_ s).drop i) < 9223372036854775808 → p + (s.size - i) < 9223372036854775808 →
    Ev (fun k => sum_total.l0 k ((n + SP.ws p ((SP.by_ s).drop i) : Nat) : Int) ((p + (s.size - i) : Nat) : Int) x8 x9 (wrap64 (x10 + 1))) r →
    Ev (fun k => sum_total.l1 k (n : Int) (p : Int) s x8 x9 x10 (s.size : Int) (i : Int)) r := by
  intro d
  induction d with
  | zero =>
    intro i n p hd hi hn hp h
    refine Ev.step (fun k => ?_) h
    simp only [sum_total.l1]; rw [if_neg (by omega), SP.ws_drop_end p (by rw [SP.by_len]; omega), show s.size - i = 0 from hd]; simp
  | succ d ih =>
    intro i n p hd hi hn hp h
    have hlt : i < (SP.by_ s).length := by rw [SP.by_len]; omega
    rw [SP.ws_drop p hlt] at hn h
    have hb := SP.nth_lt (SP.by_ s) i
    have hsz := SP.by_len s
    refine Ev.step (f := fun k => sum_total.l1 k ((n + SP.wt p (SP.nth (SP.by_ s) i) : Nat) : Int) ((p + 1 : Nat) : Int) s x8 x9 x10 (s.size : Int) ((i + 1 : Nat) : Int)) (fun k => ?_) (ih (i + 1) (n + SP.wt p (SP.nth (SP.by_ s) i)) (p + 1) (by omega) (by omega) (by omega) (by omega) ?_)
    · simp only [sum_total.l1]
      rw [if_pos (by omega), if_pos (by omega), if_pos (by omega), if_pos (shamt p), bt_nth, shl_wt p _ hb]
      rw [w64 (n := (p : Int) + 1) (by omega) (by omega), w64 (n := (i : Int) + 1) (by omega) (by omega), w64 (by omega) (by omega)]
      congr 1
    · rw [show n + SP.wt p (SP.nth (SP.by_ s) i) + SP.ws (p + 1) ((SP.by_ s).drop (i + 1)) = n + (SP.wt p (SP.nth (SP.by_ s) i) + SP.ws (p + 1) ((SP.by_ s).drop (i + 1))) from by omega, show p + 1 + (s.size - (i + 1)) = p + (s.size - i) from by omega]
      exact h
end
/-- pieces, one behind the other -/
def SPflat (l : List ByteArray) : List UInt8 := l.flatMap SP.by_
theorem flat_drop {l : List ByteArray} {i : Nat} (h : i < l.length) : SPflat (l.drop i) = SP.by_ (l.getD i ByteArray.empty) ++ SPflat (l.drop (i + 1)) := by
  rw [List.drop_eq_getElem_cons h, SPflat, List.flatMap_cons, List.getD_eq_getElem?_getD, List.getElem?_eq_getElem h]; rfl
theorem total_l0 (l : List ByteArray) (hl : l.length < 9223372036854775808) : ∀ (d i n p : Nat), l.length - i = d → i ≤ l.length → n + SP.ws p (SPflat (l.drop i)) < 9223372036854775808 → p + (SPflat (l.drop i)).length < 9223372036854775808 →
    Ev (fun k => sum_total.l0 k (n : Int) (p : Int) l (l.length : Int) (i : Int)) ((SP.canon (n + SP.ws p (SPflat (l.drop i))) : Nat) : Int) := by
  intro d
  induction d with
  | zero =>
    intro i n p hd hi hn hp
    rw [List.drop_eq_nil_of_le (by omega)] at hn ⊢
    refine Ev.step (f := fun k => (sum_carry.f k (n : Int)).bind fun t => some t) (fun k => ?_) ?_
    · simp only [sum_total.l0]; rw [if_neg (by omega)]
    · exact Ev.bind (carry_ev n (by simpa [SPflat, SP.ws] using hn)) (Ev.now _)
  | succ d ih =>
    intro i n p hd hi hn hp
    have hlt : i < l.length := by omega
    rw [flat_drop hlt] at hn hp ⊢
    rw [SP.ws_append] at hn ⊢
    rw [List.length_append] at hp
    refine Ev.step (f := fun k => sum_total.l1 k (n : Int) (p : Int) (l.getD i ByteArray.empty) l (l.length : Int) (i : Int) ((l.getD i ByteArray.empty).size : Int) ((0 : Nat) : Int)) (fun k => ?_) ?_
    · simp only [sum_total.l0]; rw [if_pos (by omega), if_pos (by omega), if_pos (by omega)]; simp [rdOf]
    · rw [SP.by_len] at hn hp
      refine total_l1 (by omega) _ 0 n p rfl (by omega) (by simp only [List.drop_zero]; omega) (by omega) ?_
      rw [w64 (by omega) (by omega), SP.by_len]
      have := ih (i + 1) (n + SP.ws p (SP.by_ (l.getD i ByteArray.empty))) (p + (l.getD i ByteArray.empty).size) (by omega) (by omega) (by omega) (by omega)
      simp only [List.drop_zero, Nat.sub_zero]
      rw [← Nat.add_assoc]
      exact this
/-- what 'total' tells of pieces -/
theorem total_ev (l : List ByteArray) (hl : l.length < 1152921504606846976) (h : (SPflat l).length ≤ 140737488351232) : Ev (fun k => sum_total.f k l) ((SP.canon (SP.ws 0 (SPflat l)) : Nat) : Int) := by
  have hw := SP.ws_le (SPflat l) 0
  have := total_l0 l (by omega) l.length 0 0 0 (by omega) (by omega) (by simp only [List.drop_zero]; omega) (by simp only [List.drop_zero]; omega)
  rw [Nat.zero_add, List.drop_zero] at this
  exact this
theorem nat_toNat (n : Nat) : ((n : Int) : Int).toNat = n := Int.toNat_natCast n
theorem rdOf_nat {α : Type} (d : α) (xs : List α) (i : Nat) : rdOf d xs (i : Int) = xs.getD i d := by simp [rdOf]
def mkB (l : List UInt8) : ByteArray := ⟨l.toArray⟩
theorem by_mkB (l : List UInt8) : SP.by_ (mkB l) = l := rfl
theorem mkB_by (s : ByteArray) : mkB (SP.by_ s) = s := SP.by_ext rfl
theorem mkB_size (l : List UInt8) : (mkB l).size = l.length := rfl
theorem mkB_append (a b : List UInt8) : mkB a ++ mkB b = mkB (a ++ b) := SP.by_ext (by rw [SP.by_append]; rfl)
theorem shr_pow (n k : Nat) (hk : k ≤ 64) : shr .i64 (n : Int) (k : Int) = ((n / 2 ^ k : Nat) : Int) := by
  unfold shr
  rw [Int.toNat_natCast, show min k IntKind.i64.bits = k from Nat.min_eq_left (by simpa [IntKind.bits] using hk)]
  simp
def PutS (n b : Int) : ByteArray × Int := if b < 1 ∨ 6 < b ∨ n < 0 ∨ (256 : Int) ^ b.toNat ≤ n then (⟨#[]⟩, 1) else (mkB (SP.bytesN n.toNat b.toNat), 0)
/-- the numbers that 'Put' has laid after i rounds -/
def putRow (n b i : Nat) : List Int := (List.range b).map fun j => if j < i then ((n / 2 ^ (8 * (b - 1 - j)) % 256 : Nat) : Int) else 0
theorem putRow_set (n b i : Nat) (_h : i < b) : (putRow n b i).set i ((n / 2 ^ (8 * (b - 1 - i)) % 256 : Nat) : Int) = putRow n b (i + 1) := by
  apply List.ext_getElem
  · simp [putRow]
  · intro j h1 h2
    simp only [putRow, List.getElem_set, List.getElem_map, List.getElem_range]
    by_cases e : i = j
    · subst e; simp
    · rw [if_neg e]
      by_cases h3 : j < i
      · rw [if_pos h3, if_pos (by omega)]
      · rw [if_neg h3, if_neg (by omega)]
theorem bytesN_range (n : Nat) : ∀ b : Nat, SP.bytesN n b = (List.range b).map fun j => UInt8.ofNat (n / 2 ^ (8 * (b - 1 - j)) % 256) := by
  intro b
  induction b with
  | zero => rfl
  | succ b ih =>
    rw [SP.bytesN, ih, List.range_succ_eq_map, List.map_cons, List.map_map]
    congr 1
    apply List.map_congr_left
    intro j hj
    have := List.mem_range.mp hj
    simp only [Function.comp_def]
    rw [show b - 1 - j = b + 1 - 1 - (j + 1) from by omega]
theorem putRow_str (n b : Nat) : strOfNums (putRow n b b) = mkB (SP.bytesN n b) := by
  unfold strOfNums mkB
  rw [bytesN_range]
  congr 2
  simp only [putRow, List.map_map]
  apply List.map_congr_left
  intro j hj
  have := List.mem_range.mp hj
  simp only [Function.comp_def]
  rw [if_pos this, Int.toNat_natCast]
theorem put_l0 (n b : Nat) (hb : b ≤ 6) : ∀ (d i : Nat), b - i = d → i ≤ b → Ev (fun k => sum_Put.l0 k (n : Int) (b : Int) (putRow n b i) (b : Int) (i : Int)) (mkB (SP.bytesN n b), 0) := by
  intro d
  induction d with
  | zero =>
    intro i hd hi
    obtain rfl : i = b := by omega
    refine Ev.step (f := fun _ => some (strOfNums (putRow n i i), 0)) (fun k => ?_) ?_
    · simp only [sum_Put.l0]; rw [if_neg (by omega)]
    · rw [putRow_str]; exact Ev.now _
  | succ d ih =>
    intro i hd hi
    refine Ev.step (f := fun k => sum_Put.l0 k (n : Int) (b : Int) (putRow n b (i + 1)) (b : Int) ((i + 1 : Nat) : Int)) (fun k => ?_) (ih (i + 1) (by omega) (by omega))
    simp only [sum_Put.l0]
    have e : wrap64 (8 * (wrap64 ((wrap64 ((b : Int) - 1)) - (i : Int)))) = ((8 * (b - 1 - i) : Nat) : Int) := by unfold wrap64; omega
    rw [if_pos (by omega), e, if_pos (by omega), if_pos (by omega), if_pos (by simp [putRow]; omega), shr_pow _ _ (by omega), w64 (by omega) (by omega), Int.toNat_natCast]
    rw [← putRow_set n b i (by omega)]
    congr 1
theorem put_ev (n b : Int) (hn : -9223372036854775808 ≤ n ∧ n < 9223372036854775808) (hb : -9223372036854775808 ≤ b ∧ b < 9223372036854775808) : Ev (fun k => sum_Put.f k n b) (PutS n b) := by
  have bad : (b < 1 ∨ 6 < b ∨ n < 0 ∨ (256 : Int) ^ b.toNat ≤ n) → Ev (fun k => sum_Put.j0 k n b true) (PutS n b) := by
    intro h
    refine Ev.step (f := fun _ => some (⟨#[]⟩, 1)) (fun k => ?_) ?_
    · simp only [sum_Put.j0]; rw [if_pos trivial]
    · rw [PutS, if_pos h]; exact Ev.now _
  by_cases h1 : b < 1
  · refine Ev.congr (fun k => ?_) (bad (.inl h1)); unfold sum_Put.f; rw [if_pos h1]
  by_cases h2 : 6 < b
  · refine Ev.congr (fun k => ?_) (bad (.inr (.inl h2))); unfold sum_Put.f; rw [if_neg h1, if_pos h2]
  by_cases h3 : n < 0
  · refine Ev.congr (fun k => ?_) (bad (.inr (.inr (.inl h3)))); unfold sum_Put.f; rw [if_neg h1, if_neg (by omega), if_pos h3]
  obtain ⟨m, rfl⟩ := Int.eq_ofNat_of_zero_le (show 0 ≤ n by omega)
  obtain ⟨c, rfl⟩ := Int.eq_ofNat_of_zero_le (show 0 ≤ b by omega)
  have e : wrap64 (8 * (c : Int)) = ((8 * c : Nat) : Int) := by unfold wrap64; omega
  have e2 : (shr .i64 (m : Int) ((8 * c : Nat) : Int) > 0) ↔ (256 : Int) ^ ((c : Int)).toNat ≤ (m : Int) := by
    rw [shr_pow _ _ (by omega), Int.toNat_natCast, Nat.pow_mul, show (2 : Nat) ^ 8 = 256 from rfl, show (256 : Int) ^ c = ((256 ^ c : Nat) : Int) from (Int.natCast_pow 256 c).symm]
    constructor
    · intro hh
      have h3 : 0 < m / 256 ^ c := by omega
      exact Int.ofNat_le.mpr (Nat.div_pos_iff.mp h3).2
    · intro hh
      have h3 : 0 < m / 256 ^ c := Nat.div_pos (Int.ofNat_le.mp hh) (Nat.pow_pos (by omega))
      omega
  by_cases h4 : (256 : Int) ^ ((c : Int)).toNat ≤ (m : Int)
  · refine Ev.congr (fun k => ?_) (bad (.inr (.inr (.inr h4)))); unfold sum_Put.f; rw [if_neg h1, if_neg (by omega), if_neg h3, e, if_pos (by omega), decide_eq_true (e2.mpr h4)]
  · refine Ev.congr (f := fun k => sum_Put.j0 k (m : Int) (c : Int) false) (fun k => ?_) ?_
    · unfold sum_Put.f; rw [if_neg h1, if_neg (by omega), if_neg h3, e, if_pos (by omega), decide_eq_false (fun h => h4 (e2.mp h))]
    · have e3 : List.replicate ((c : Int)).toNat (0 : Int) = putRow m c 0 := by
        apply List.ext_getElem
        · simp [putRow]
        · intro j h1 h2; simp [putRow]
      refine Ev.step (f := fun k => sum_Put.l0 k (m : Int) (c : Int) (putRow m c 0) (c : Int) ((0 : Nat) : Int)) (fun k => ?_) ?_
      · simp only [sum_Put.j0]; rw [if_neg (by decide), if_pos (by omega), if_pos (by omega)]
        simp only [Option.bind_some]; rw [e3]; simp [putRow]
      · rw [PutS, if_neg (by omega), Int.toNat_natCast, Int.toNat_natCast]; exact put_l0 m c (by omega) c 0 rfl (by omega)
theorem put_ok (n b : Nat) (hb1 : 1 ≤ b) (hb : b ≤ 6) (h : n < 256 ^ b) (hn : n < 9223372036854775808) : Ev (fun k => sum_Put.f k (n : Int) (b : Int)) (mkB (SP.bytesN n b), 0) := by
  have := put_ev (n : Int) (b : Int) (by omega) (by omega)
  rw [PutS, nat_toNat, nat_toNat, if_neg] at this
  · exact this
  · have e : (256 : Int) ^ b = ((256 ^ b : Nat) : Int) := (Int.natCast_pow 256 b).symm
    rw [e]; omega
theorem cut_mk (s : ByteArray) (i j : Nat) : cutS s i j = mkB (((SP.by_ s).drop i).take (j - i)) := by
  rw [cutS]; exact SP.by_ext (by rw [SP.by_extract, by_mkB])
theorem cut_to (s : ByteArray) (j : Nat) : cutS s 0 j = mkB ((SP.by_ s).take j) := by rw [cut_mk]; simp
theorem cut_from (s : ByteArray) (i : Nat) : cutS s i s.size = mkB ((SP.by_ s).drop i) := by
  rw [cut_mk, List.take_of_length_le (by rw [List.length_drop, SP.by_len]; omega)]
theorem canon_put (c : Nat) (hc : c ≤ 65535) : PutS (65535 - (c : Int)) 2 = (mkB (SP.bytesN (65535 - c) 2), 0) := by
  have e : (65535 - (c : Int)).toNat = 65535 - c := by omega
  have e2 : (2 : Int).toNat = 2 := rfl
  have e3 : (256 : Int) ^ 2 = 65536 := rfl
  rw [PutS, e2, e3, if_neg (by omega), e]
/-- bytes with the sum at a place -/
def sealB (l : List UInt8) (o : Nat) : List UInt8 := l.take o ++ SP.bytesN (65535 - SP.canon (SP.ws 0 (l.take o ++ [0, 0] ++ l.drop (o + 2)))) 2 ++ l.drop (o + 2)
theorem sealB_len (l : List UInt8) (o : Nat) (h : o + 2 ≤ l.length) : (sealB l o).length = l.length := by
  simp only [sealB, List.length_append, List.length_take, SP.bytesN_len, List.length_drop]; omega
def SealS (s : ByteArray) (o : Int) : ByteArray × Int := if o < 0 ∨ o % 2 = 1 ∨ (s.size : Int) < o + 2 then (⟨#[]⟩, 1) else if 65536 < s.size then (⟨#[]⟩, 2) else (mkB (sealB (SP.by_ s) o.toNat), 0)
theorem seal_tests (s : ByteArray) (hs : s.size ≤ 281474976710656) (o : Int) (ho : -9223372036854775808 ≤ o ∧ o < 9223372036854775808) : (o < 0 ∨ Int.tmod o 2 = 1 ∨ o > wrap64 ((s.size : Int) - 2)) ↔ (o < 0 ∨ o % 2 = 1 ∨ (s.size : Int) < o + 2) := by
  rw [w64 (by omega) (by omega)]
  by_cases h : o < 0
  · simp [h]
  · rw [Int.tmod_eq_emod_of_nonneg (by omega)]; omega
theorem seal_ev (s : ByteArray) (hs : s.size ≤ 281474976710656) (o : Int) (ho : -9223372036854775808 ≤ o ∧ o < 9223372036854775808) : Ev (fun k => sum_Seal.f k s o) (SealS s o) := by
  have ht := seal_tests s hs o ho
  have bad : (o < 0 ∨ o % 2 = 1 ∨ (s.size : Int) < o + 2) → Ev (fun k => sum_Seal.j0 k s o true) (SealS s o) := by
    intro h
    refine Ev.step (f := fun _ => some (⟨#[]⟩, 1)) (fun k => ?_) ?_
    · simp only [sum_Seal.j0]; rw [if_pos trivial]
    · rw [SealS, if_pos h]; exact Ev.now _
  by_cases h1 : o < 0
  · refine Ev.congr (fun k => ?_) (bad (.inl h1)); unfold sum_Seal.f; rw [if_pos h1]
  by_cases h2 : Int.tmod o 2 = 1
  · refine Ev.congr (fun k => ?_) (bad (ht.mp (.inr (.inl h2)))); unfold sum_Seal.f; rw [if_neg h1, if_pos h2]
  by_cases h3 : o > wrap64 ((s.size : Int) - 2)
  · refine Ev.congr (fun k => ?_) (bad (ht.mp (.inr (.inr h3)))); unfold sum_Seal.f; rw [if_neg h1, if_neg h2, decide_eq_true h3]
  have hn : ¬ (o < 0 ∨ o % 2 = 1 ∨ (s.size : Int) < o + 2) := fun h => by rcases ht.mpr h with h | h | h <;> contradiction
  obtain ⟨m, rfl⟩ := Int.eq_ofNat_of_zero_le (show 0 ≤ o by omega)
  refine Ev.congr (f := fun k => sum_Seal.j0 k s (m : Int) false) (fun k => ?_) ?_
  · unfold sum_Seal.f; rw [if_neg h1, if_neg h2, decide_eq_false h3]
  by_cases h4 : 65536 < s.size
  · refine Ev.step (f := fun _ => some (⟨#[]⟩, 2)) (fun k => ?_) ?_
    · simp only [sum_Seal.j0]; rw [if_neg (by decide), if_pos (by omega)]
    · rw [SealS, if_neg hn, if_pos h4]; exact Ev.now _
  have hl := SP.by_len s
  have e2 : wrap64 ((m : Int) + 2) = ((m + 2 : Nat) : Int) := by rw [w64 (by omega) (by omega)]; rfl
  have ex1 := cut_to s m
  have ex2 := cut_from s (m + 2)
  have hc := SP.canon_le (SP.ws 0 ((SP.by_ s).take m ++ [0, 0] ++ (SP.by_ s).drop (m + 2)))
  have hfl : SPflat [mkB ((SP.by_ s).take m), ⟨#[0, 0]⟩, mkB ((SP.by_ s).drop (m + 2))] = (SP.by_ s).take m ++ [0, 0] ++ (SP.by_ s).drop (m + 2) := by
    simp only [SPflat, List.flatMap_cons, List.flatMap_nil, by_mkB, List.append_nil, List.append_assoc]
  have htot := total_ev [mkB ((SP.by_ s).take m), ⟨#[0, 0]⟩, mkB ((SP.by_ s).drop (m + 2))] (by simp only [List.length_cons, List.length_nil]; omega) (by
    rw [hfl]; simp only [List.length_append, List.length_take, List.length_drop, List.length_cons, List.length_nil]; omega)
  rw [hfl] at htot
  have hput := put_ev (65535 - ((SP.canon (SP.ws 0 ((SP.by_ s).take m ++ [0, 0] ++ (SP.by_ s).drop (m + 2))) : Nat) : Int)) 2 (by omega) (by omega)
  rw [canon_put _ hc] at hput
  refine Ev.step (f := ?fz) (fun k => ?hz) ?hk
  case hz =>
    simp only [sum_Seal.j0]
    rw [if_neg (by decide), if_neg (by omega), if_pos (by omega), if_pos (by omega), e2, if_pos (by omega), if_pos (by omega), nat_toNat, nat_toNat, ex1, ex2]
  case hk =>
    have hb := SP.bytesN_len (65535 - SP.canon (SP.ws 0 ((SP.by_ s).take m ++ [0, 0] ++ (SP.by_ s).drop (m + 2)))) 2
    refine Ev.bind htot ?_
    try dsimp only
    rw [w64 (by omega) (by omega)]
    refine Ev.bind hput ?_
    try dsimp only
    rw [if_pos (by rw [mkB_size, mkB_size, hb, List.length_take]; omega), mkB_append, if_pos (by rw [mkB_size, mkB_size, List.length_append, hb, List.length_take, List.length_drop]; omega), mkB_append]
    rw [SealS, if_neg hn, if_neg h4, nat_toNat]
    exact Ev.now _
theorem zero_ws (a b : List UInt8) (h : a.length % 2 = 0) (n : Nat) (hn : n < 65536) : SP.ws 0 (a ++ SP.bytesN n 2 ++ b) = SP.ws 0 a + n + SP.ws (a.length + 2) b := by
  have lp := SP.bytesN_len n 2
  have e : SP.ws a.length (SP.bytesN n 2) = n := by
    have h2 : SP.bytesN n 2 = [UInt8.ofNat (n / 2 ^ 8 % 256), UInt8.ofNat (n / 2 ^ 0 % 256)] := rfl
    have u1 : (UInt8.ofNat (n / 2 ^ 8 % 256)).toNat = n / 256 := by rw [UInt8.toNat_ofNat']; omega
    have u2 : (UInt8.ofNat (n / 2 ^ 0 % 256)).toNat = n % 256 := by rw [UInt8.toNat_ofNat']; omega
    rw [h2]; simp only [SP.ws, SP.wt, u1, u2]
    rw [if_pos h, if_neg (by omega)]; omega
  rw [List.append_assoc, SP.ws_append, SP.ws_append, lp, Nat.zero_add, e]; omega
theorem canon_whole (W : Nat) : SP.canon (W + (65535 - SP.canon W)) = 65535 := by unfold SP.canon; split <;> split <;> omega
/-- what is sealed is whole -/
theorem sealB_whole (l : List UInt8) (o : Nat) (ho : o % 2 = 0) (hle : o + 2 ≤ l.length) : SP.canon (SP.ws 0 (sealB l o)) = 65535 := by
  have la : (l.take o).length = o := by rw [List.length_take]; omega
  have z : ([0, 0] : List UInt8) = SP.bytesN 0 2 := rfl
  unfold sealB
  rw [z, zero_ws _ _ (by omega) 0 (by omega), Nat.add_zero]
  have hc := SP.canon_le (SP.ws 0 (l.take o) + SP.ws ((l.take o).length + 2) (l.drop (o + 2)))
  rw [zero_ws _ _ (by omega) _ (by omega)]
  have := canon_whole (SP.ws 0 (l.take o) + SP.ws ((l.take o).length + 2) (l.drop (o + 2)))
  rw [← this]; congr 1; omega
theorem sealB_take (l : List UInt8) (o : Nat) (hle : o + 2 ≤ l.length) : (sealB l o).take o = l.take o := by
  have la : (l.take o).length = o := by rw [List.length_take]; omega
  unfold sealB
  rw [List.append_assoc, List.take_append_of_le_length (by omega), List.take_take, Nat.min_self]
theorem sealB_drop (l : List UInt8) (o : Nat) (hle : o + 2 ≤ l.length) : (sealB l o).drop (o + 2) = l.drop (o + 2) := by
  have la : (l.take o).length = o := by rw [List.length_take]; omega
  have lb := SP.bytesN_len (65535 - SP.canon (SP.ws 0 (l.take o ++ [0, 0] ++ l.drop (o + 2)))) 2
  unfold sealB
  rw [List.drop_append, List.drop_of_length_le (by rw [List.length_append, la, lb]; omega), List.nil_append, List.length_append, la, lb, Nat.sub_self, List.drop_zero]
theorem sealB_again (l : List UInt8) (o : Nat) (hle : o + 2 ≤ l.length) : sealB (sealB l o) o = sealB l o := by
  have h : sealB (sealB l o) o = (sealB l o).take o ++ SP.bytesN (65535 - SP.canon (SP.ws 0 ((sealB l o).take o ++ [0, 0] ++ (sealB l o).drop (o + 2)))) 2 ++ (sealB l o).drop (o + 2) := rfl
  rw [h, sealB_take l o hle, sealB_drop l o hle]; rfl
theorem seal_ok (s : ByteArray) (o : Nat) (hs : s.size ≤ 65536) (ho : o % 2 = 0) (hle : o + 2 ≤ s.size) : Ev (fun k => sum_Seal.f k s (o : Int)) (mkB (sealB (SP.by_ s) o), 0) := by
  have := seal_ev s (by omega) (o : Int) (by omega)
  rw [SealS, if_neg (by omega), if_neg (by omega), nat_toNat] at this
  exact this
theorem Ev.ite {α : Type} {c : Prop} [Decidable c] {g f : Nat → Option α} {r : α} (h : c → Ev g r) (h' : ¬ c → Ev f r) : Ev (fun k => if c then g k else f k) r := by
  by_cases hc : c
  · exact Ev.pos hc (h hc)
  · exact Ev.neg hc (h' hc)
theorem Ev.val {α : Type} {g : Nat → Option α} {r r' : α} (h : Ev g r) (e : r = r') : Ev g r' := e ▸ h
theorem ite_same {α : Type} {p q : Prop} [Decidable p] [Decidable q] (h : p ↔ q) {x y : α} : (if p then x else y) = if q then x else y := by
  by_cases hp : p
  · rw [if_pos hp, if_pos (h.1 hp)]
  · rw [if_neg hp, if_neg (fun hq => hp (h.2 hq))]
def allIn (g : Int) (l : List Int) : Bool := l.all fun n => decide (0 ≤ n ∧ n ≤ g)
theorem within_l0 (g : Int) (l : List Int) (hl : l.length ≤ 1000) : ∀ (d i : Nat), l.length - i = d → i ≤ l.length → Ev (fun k => ip_within.l0 k g l (l.length : Int) (i : Int)) (allIn g (l.drop i)) := by
  intro d
  induction d with
  | zero =>
    intro i hd hi
    refine Ev.step (f := ?fz) (fun k => by simp only [ip_within.l0]; rfl) ?_
    refine Ev.neg (by omega) ?_
    rw [List.drop_of_length_le (by omega)]
    exact Ev.now _
  | succ d ih =>
    intro i hd hi
    have hlt : i < l.length := by omega
    have hr : rd l (i : Int) = l[i] := by simp [rd, hlt]
    refine Ev.step (f := ?fy) (fun k => by simp only [ip_within.l0]; rfl) ?_
    refine Ev.pos (by omega) (Ev.pos (by omega) (Ev.pos (by omega) ?_))
    rw [hr, List.drop_eq_getElem_cons hlt]
    refine Ev.ite (fun h => ?_) (fun h => ?_)
    · rw [show allIn g (l[i] :: l.drop (i + 1)) = false from by simp only [allIn, List.all_cons, Bool.and_eq_false_iff, decide_eq_false_iff_not]; left; omega]; exact Ev.now _
    · refine Ev.ite (fun h2 => ?_) (fun h2 => ?_)
      · rw [show allIn g (l[i] :: l.drop (i + 1)) = false from by simp only [allIn, List.all_cons, Bool.and_eq_false_iff, decide_eq_false_iff_not]; left; omega]; exact Ev.now _
      · rw [show allIn g (l[i] :: l.drop (i + 1)) = allIn g (l.drop (i + 1)) from by simp only [allIn, List.all_cons]; rw [decide_eq_true (show 0 ≤ l[i] ∧ l[i] ≤ g from by omega), Bool.true_and]]
        rw [show wrap64 ((i : Int) + 1) = ((i + 1 : Nat) : Int) from by rw [w64 (by omega) (by omega)]; omega]
        exact ih (i + 1) (by omega) (by omega)
theorem within_ev (g : Int) (l : List Int) (hl : l.length ≤ 1000) : Ev (fun k => ip_within.f k g l) (allIn g l) := within_l0 g l hl _ 0 rfl (Nat.zero_le _)
def ipOk (a b t p i f : Int) (m : Bool) (o x : ByteArray) : Prop :=
  (0 ≤ a ∧ a ≤ 4294967295 ∧ 0 ≤ b ∧ b ≤ 4294967295 ∧ 0 ≤ t ∧ t ≤ 255 ∧ 0 ≤ p ∧ p ≤ 255 ∧ 0 ≤ i ∧ i ≤ 65535 ∧ 0 ≤ f ∧ f ≤ 8191) ∧ (o.size % 4 = 0 ∧ o.size ≤ 40 ∧ x.size + o.size ≤ 65515) ∧ (m = true → 0 < x.size ∧ x.size % 8 = 0) ∧ (x.size : Int) ≤ 65535 - 8 * f
instance (a b t p i f : Int) (m : Bool) (o x : ByteArray) : Decidable (ipOk a b t p i f m o x) := by unfold ipOk; infer_instance
def ipC (a b t p i f : Int) (m : Bool) (o x : ByteArray) : Int := if ipOk a b t p i f m o x then 0 else 50
section
variable (a b t p i f : Int) (m d : Bool) (o x : ByteArray)
theorem ipchk2 (c : Bool) (hf : c = true → 0 ≤ f ∧ f ≤ 8191) : Ev (fun k => ip_Check.j2 k c a b t p i f m d o x) (if c = true ∧ (x.size : Int) ≤ 65535 - 8 * f then 0 else 50) := by
  refine Ev.step (f := ?fz) (fun k => by simp only [ip_Check.j2]; rfl) ?_
  refine Ev.ite (fun hc => ?_) (fun hc => ?_)
  · have := hf hc
    rw [w64 (n := 8 * f) (by omega) (by omega), w64 (by omega) (by omega)]
    refine Ev.ite (fun h => ?_) (fun h => ?_)
    · rw [if_neg (by omega)]; exact Ev.now _
    · rw [if_pos ⟨hc, by omega⟩]; exact Ev.now _
  · rw [if_neg (fun h => hc h.1)]; exact Ev.now _
theorem ipchk1 (c : Bool) (hf : c = true → 0 ≤ f ∧ f ≤ 8191) : Ev (fun k => ip_Check.j1 k c a b t p i f m d o x) (if c = true ∧ (m = true → 0 < x.size ∧ x.size % 8 = 0) ∧ (x.size : Int) ≤ 65535 - 8 * f then 0 else 50) := by
  refine Ev.step (f := ?fz) (fun k => by simp only [ip_Check.j1]; rfl) ?_
  refine Ev.ite (fun hc => ?_) (fun hc => ?_)
  · refine Ev.ite (fun hm => ?_) (fun hm => ?_)
    · refine Ev.ite (fun h => ?_) (fun h => ?_)
      · have := ipchk2 a b t p i f m d o x (((x.size : Int) % 8) == 0) (fun _ => hf hc)
        exact Ev.val this (ite_same (by rw [beq_iff_eq]; simp only [hc, hm, true_and, forall_const]; omega))
      · have := ipchk2 a b t p i f m d o x false (fun h => by cases h)
        rw [if_neg (by simp)] at this
        rw [if_neg (fun hh => by have := (hh.2.1 hm).1; omega)]; exact this
    · have := ipchk2 a b t p i f m d o x true (fun _ => hf hc)
      exact Ev.val this (ite_same (by simp [hc, hm]))
  · have := ipchk2 a b t p i f m d o x false (fun h => by cases h)
    rw [if_neg (by simp)] at this
    rw [if_neg (fun hh => hc hh.1)]; exact this
theorem ipchk0 (c : Bool) (hx : x.size ≤ 140737488351232) (hf : c = true → 0 ≤ f ∧ f ≤ 8191) : Ev (fun k => ip_Check.j0 k c a b t p i f m d o x) (if c = true ∧ (o.size % 4 = 0 ∧ o.size ≤ 40 ∧ x.size + o.size ≤ 65515) ∧ (m = true → 0 < x.size ∧ x.size % 8 = 0) ∧ (x.size : Int) ≤ 65535 - 8 * f then 0 else 50) := by
  have no : ¬ (c = true ∧ o.size % 4 = 0 ∧ o.size ≤ 40) → Ev (fun k => ip_Check.j1 k false a b t p i f m d o x) (if c = true ∧ (o.size % 4 = 0 ∧ o.size ≤ 40 ∧ x.size + o.size ≤ 65515) ∧ (m = true → 0 < x.size ∧ x.size % 8 = 0) ∧ (x.size : Int) ≤ 65535 - 8 * f then 0 else 50) := by
    intro h
    have := ipchk1 a b t p i f m d o x false (fun h => by cases h)
    rw [if_neg (by simp)] at this
    rw [if_neg (fun hh => h ⟨hh.1, hh.2.1.1, hh.2.1.2.1⟩)]; exact this
  refine Ev.step (f := ?fz) (fun k => by simp only [ip_Check.j0]; rfl) ?_
  refine Ev.ite (fun hc => ?_) (fun hc => no (fun h => hc h.1))
  refine Ev.ite (fun h1 => ?_) (fun h1 => no (fun h => h1 (by omega)))
  refine Ev.ite (fun h2 => ?_) (fun h2 => no (fun h => h2 (by omega)))
  simp only [ip_head.f, Option.bind_some]
  rw [w64 (n := 20 + (o.size : Int)) (by omega) (by omega), w64 (by omega) (by omega)]
  have := ipchk1 a b t p i f m d o x (decide ((x.size : Int) ≤ 65535 - (20 + (o.size : Int)))) (fun _ => hf hc)
  refine Ev.val this (ite_same ?_)
  rw [decide_eq_true_eq, show ((x.size : Int) ≤ 65535 - (20 + (o.size : Int))) ↔ (o.size % 4 = 0 ∧ o.size ≤ 40 ∧ x.size + o.size ≤ 65515) from by omega]
  simp only [hc, true_and]
theorem ipcheck_ev (hx : x.size ≤ 140737488351232) : Ev (fun k => ip_Check.f k a b t p i f m d o x) (ipC a b t p i f m o x) := by
  have no : ¬ (0 ≤ a ∧ a ≤ 4294967295 ∧ 0 ≤ b ∧ b ≤ 4294967295 ∧ 0 ≤ t ∧ t ≤ 255 ∧ 0 ≤ p ∧ p ≤ 255 ∧ 0 ≤ i ∧ i ≤ 65535 ∧ 0 ≤ f ∧ f ≤ 8191) → Ev (fun k => ip_Check.j0 k false a b t p i f m d o x) (ipC a b t p i f m o x) := by
    intro h
    have := ipchk0 a b t p i f m d o x false hx (fun h => by cases h)
    rw [if_neg (by simp)] at this
    rw [ipC, if_neg (fun hh => h hh.1)]; exact this
  unfold ip_Check.f
  refine Ev.bind (within_ev _ _ (by simp)) (Ev.ite (fun h1 => ?_) (fun h1 => no (fun h => h1 (by simp [allIn]; omega))))
  refine Ev.bind (within_ev _ _ (by simp)) (Ev.ite (fun h2 => ?_) (fun h2 => no (fun h => h2 (by simp [allIn]; omega))))
  refine Ev.bind (within_ev _ _ (by simp)) (Ev.ite (fun h3 => ?_) (fun h3 => no (fun h => h3 (by simp [allIn]; omega))))
  refine Ev.bind (within_ev _ _ (by simp)) ?_
  simp [allIn] at h1 h2 h3
  by_cases h4 : 0 ≤ f ∧ f ≤ 8191
  · have := ipchk0 a b t p i f m d o x true hx (fun _ => h4)
    rw [show allIn 8191 [f] = true from by simp [allIn, h4]]
    rw [ipC]
    exact Ev.val this (ite_same (by unfold ipOk; exact ⟨fun h => ⟨by omega, h.2⟩, fun h => ⟨rfl, h.2⟩⟩))
  · rw [show allIn 8191 [f] = false from by simp [allIn]; omega]
    exact no (fun h => h4 (by omega))
end
theorem or_bits (n m : Nat) (hn : n < 4611686018427387904) (hm : m < 4611686018427387904) : Go.bits .or .i64 (n : Int) (m : Int) = ((n ||| m : Nat) : Int) := by
  have hw : ∀ n : Int, 0 ≤ n → n < 2 ^ 62 → IntKind.i64.wrap n = n := by
    intro n h0 h1; rw [IntKind.wrap_i64]; have : (2 : Int) ^ 62 = 4611686018427387904 := by decide
    omega
  have e62 : (2 : Nat) ^ 62 = 4611686018427387904 := by decide
  exact (bits_nat .i64 62 (by decide) hw n m (by omega) (by omega)).2
/-- the bytes ahead of a packet's data, not yet sealed -/
def ipF (f : Nat) (m d : Bool) : Nat := f + (if d = true then 16384 else 0) + (if m = true then 8192 else 0)
def ipRaw (a b t p i fl n : Nat) (o : List UInt8) : List UInt8 :=
  SP.bytesN (64 + (20 + o.length) / 4) 1 ++ SP.bytesN 0 1 ++ SP.bytesN (20 + o.length + n) 2 ++ SP.bytesN i 2 ++ SP.bytesN fl 2 ++ SP.bytesN t 1 ++ SP.bytesN p 1 ++ SP.bytesN 0 2 ++ SP.bytesN a 4 ++ SP.bytesN b 4 ++ o
theorem ipRaw_len (a b t p i fl n : Nat) (o : List UInt8) : (ipRaw a b t p i fl n o).length = 20 + o.length := by
  unfold ipRaw; simp only [List.length_append, SP.bytesN_len]
def ipB (a b t p i f : Int) (m d : Bool) (o x : ByteArray) : ByteArray := mkB (sealB (ipRaw a.toNat b.toNat t.toNat p.toNat i.toNat (ipF f.toNat m d) x.size (SP.by_ o)) 10 ++ SP.by_ x)
def ipE (a b t p i f : Int) (m d : Bool) (o x : ByteArray) : ByteArray × Int := if ipOk a b t p i f m o x then (ipB a b t p i f m d o x, 0) else (⟨#[]⟩, 50)
theorem num_ok (n b : Nat) (hb1 : 1 ≤ b) (hb : b ≤ 6) (h : n < 256 ^ b) (hn : n < 9223372036854775808) : Ev (fun k => ip_num.f k (n : Int) (b : Int)) (mkB (SP.bytesN n b)) := by
  unfold ip_num.f
  exact Ev.bind (put_ok n b hb1 hb h hn) (Ev.now _)
theorem or_ver (n : Nat) (h : n < 64) : Go.bits .or .i64 64 (n : Int) = ((64 + n : Nat) : Int) := by
  refine (or_bits 64 n (by omega) (by omega)).trans ?_
  have := Nat.two_pow_add_eq_or_of_lt (i := 6) (b := n) (by omega) 1
  exact congrArg _ this.symm
theorem ipenc1 (a b t p i f : Nat) (fl : Nat) (m d : Bool) (o x : ByteArray) (h : ipOk a b t p i f m o x) (hfl : fl < 65536) : Ev (fun k => ip_Encode.j1 k (fl : Int) a b t p i f m d o x) (mkB (sealB (ipRaw a b t p i fl x.size (SP.by_ o)) 10 ++ SP.by_ x), 0) := by
  unfold ipOk at h
  have lo := SP.by_len o
  have lx := SP.by_len x
  refine Ev.step (f := ?fz) (fun k => by simp only [ip_Encode.j1]; rfl) ?_
  have hh : ip_head.f a b t p i f m d o x = some (20 + (o.size : Int)) := by
    rw [ip_head.f, w64 (by omega) (by omega)]
  have hhe : Ev (fun k => ip_head.f a b t p i f m d o x) (20 + (o.size : Int)) := by rw [hh]; exact Ev.now _
  refine Ev.bind hhe ?_
  try dsimp only
  rw [Int.tdiv_eq_ediv_of_nonneg (by omega), w64 (n := (20 + (o.size : Int)) / 4) (by omega) (by omega)]
  have e1 : Go.bits .or .i64 64 ((20 + (o.size : Int)) / 4) = ((64 + (20 + (SP.by_ o).length) / 4 : Nat) : Int) := by
    rw [lo, show ((20 + (o.size : Int)) / 4) = (((20 + o.size) / 4 : Nat) : Int) from by omega]
    exact or_ver _ (by omega)
  rw [e1]
  refine Ev.bind (num_ok _ 1 (by omega) (by omega) (by omega) (by omega)) ?_
  refine Ev.bind (num_ok 0 1 (by omega) (by omega) (by omega) (by omega)) ?_
  try dsimp only
  refine Ev.pos (by simp only [mkB_size, SP.bytesN_len]; omega) ?_
  rw [mkB_append]
  refine Ev.bind hhe ?_
  try dsimp only
  rw [w64 (n := 20 + (o.size : Int) + (x.size : Int)) (by omega) (by omega), show (20 + (o.size : Int) + (x.size : Int)) = ((20 + (SP.by_ o).length + x.size : Nat) : Int) from by omega]
  refine Ev.bind (num_ok _ 2 (by omega) (by omega) (by omega) (by omega)) ?_
  try dsimp only
  refine Ev.pos (by simp only [mkB_size, List.length_append, SP.bytesN_len]; omega) ?_
  rw [mkB_append]
  refine Ev.bind (num_ok _ 2 (by omega) (by omega) (by omega) (by omega)) ?_
  try dsimp only
  refine Ev.pos (by simp only [mkB_size, List.length_append, SP.bytesN_len]; omega) ?_
  rw [mkB_append]
  refine Ev.bind (num_ok _ 2 (by omega) (by omega) (by omega) (by omega)) ?_
  try dsimp only
  refine Ev.pos (by simp only [mkB_size, List.length_append, SP.bytesN_len]; omega) ?_
  rw [mkB_append]
  refine Ev.bind (num_ok _ 1 (by omega) (by omega) (by omega) (by omega)) ?_
  try dsimp only
  refine Ev.pos (by simp only [mkB_size, List.length_append, SP.bytesN_len]; omega) ?_
  rw [mkB_append]
  refine Ev.bind (num_ok _ 1 (by omega) (by omega) (by omega) (by omega)) ?_
  try dsimp only
  refine Ev.pos (by simp only [mkB_size, List.length_append, SP.bytesN_len]; omega) ?_
  rw [mkB_append]
  refine Ev.bind (num_ok 0 2 (by omega) (by omega) (by omega) (by omega)) ?_
  try dsimp only
  refine Ev.pos (by simp only [mkB_size, List.length_append, SP.bytesN_len]; omega) ?_
  rw [mkB_append]
  refine Ev.bind (num_ok _ 4 (by omega) (by omega) (by omega) (by omega)) ?_
  try dsimp only
  refine Ev.pos (by simp only [mkB_size, List.length_append, SP.bytesN_len]; omega) ?_
  rw [mkB_append]
  refine Ev.bind (num_ok _ 4 (by omega) (by omega) (by omega) (by omega)) ?_
  try dsimp only
  refine Ev.pos (by simp only [mkB_size, List.length_append, SP.bytesN_len]; omega) ?_
  rw [mkB_append]
  refine Ev.pos (by simp only [mkB_size, List.length_append, SP.bytesN_len]; omega) ?_
  have lr := ipRaw_len a b t p i fl x.size (SP.by_ o)
  have e2 : mkB (SP.bytesN (64 + (20 + (SP.by_ o).length) / 4) 1 ++ SP.bytesN 0 1 ++ SP.bytesN (20 + (SP.by_ o).length + x.size) 2 ++ SP.bytesN i 2 ++ SP.bytesN fl 2 ++ SP.bytesN t 1 ++ SP.bytesN p 1 ++ SP.bytesN 0 2 ++ SP.bytesN a 4 ++ SP.bytesN b 4) ++ o = mkB (ipRaw a b t p i fl x.size (SP.by_ o)) := by
    rw [← mkB_by o, mkB_append, by_mkB]; rfl
  rw [e2]
  have hs := seal_ok (mkB (ipRaw a b t p i fl x.size (SP.by_ o))) 10 (by rw [mkB_size, lr]; omega) (by omega) (by rw [mkB_size, lr]; omega)
  rw [by_mkB] at hs
  refine Ev.bind hs ?_
  try dsimp only
  refine Ev.pos (by rw [mkB_size, sealB_len _ _ (by omega), lr]; omega) ?_
  rw [show mkB (sealB (ipRaw a b t p i fl x.size (SP.by_ o)) 10) ++ x = mkB (sealB (ipRaw a b t p i fl x.size (SP.by_ o)) 10 ++ SP.by_ x) from by rw [← mkB_by x, mkB_append, by_mkB]]
  exact Ev.now _
theorem ipenc0 (a b t p i f : Nat) (fl : Nat) (m d : Bool) (o x : ByteArray) (h : ipOk a b t p i f m o x) (hfl : fl = ipF f false d) : Ev (fun k => ip_Encode.j0 k (fl : Int) a b t p i f m d o x) (mkB (sealB (ipRaw a b t p i (ipF f m d) x.size (SP.by_ o)) 10 ++ SP.by_ x), 0) := by
  have hf : f ≤ 8191 := by unfold ipOk at h; omega
  refine Ev.step (f := ?fz) (fun k => by simp only [ip_Encode.j0]; rfl) ?_
  refine Ev.ite (fun hm => ?_) (fun hm => ?_)
  · subst hm
    have e : Go.bits .or .i64 (fl : Int) 8192 = ((ipF f true d : Nat) : Int) := by
      refine (or_bits fl 8192 (by rw [hfl]; unfold ipF; split <;> simp <;> omega) (by omega)).trans ?_
      rw [hfl]
      unfold ipF
      cases d
      · simp only [Bool.false_eq_true, if_false, if_true, Nat.add_zero]
        rw [Nat.or_comm, show (8192 : Nat) = 2 ^ 13 * 1 from rfl, ← Nat.two_pow_add_eq_or_of_lt (by omega), Nat.add_comm]
      · simp only [Bool.false_eq_true, if_false, if_true, Nat.add_zero]
        have e1 : f + 16384 = 2 ^ 13 * 2 ||| f := by rw [← Nat.two_pow_add_eq_or_of_lt (by omega)]; omega
        have e2 : 2 ^ 13 * 3 ||| f = 2 ^ 13 * 3 + f := (Nat.two_pow_add_eq_or_of_lt (by omega) 3).symm
        rw [e1, Nat.or_assoc, Nat.or_comm f, ← Nat.or_assoc, show (2 ^ 13 * 2 ||| 8192 : Nat) = 2 ^ 13 * 3 from by decide, e2, ← e1]
        omega
    rw [e]
    exact ipenc1 a b t p i f _ true d o x h (by unfold ipF; split <;> simp <;> omega)
  · have hm' : m = false := by simpa using hm
    subst hm'
    rw [hfl]
    exact ipenc1 a b t p i f _ false d o x h (by unfold ipF; split <;> simp <;> omega)
theorem ipenc_ev (a b t p i f : Int) (m d : Bool) (o x : ByteArray) (hx : x.size ≤ 140737488351232) : Ev (fun k => ip_Encode.f k a b t p i f m d o x) (ipE a b t p i f m d o x) := by
  unfold ip_Encode.f
  refine Ev.bind (ipcheck_ev a b t p i f m d o x hx) ?_
  by_cases h : ipOk a b t p i f m o x
  · rw [ipC, if_pos h, ipE, if_pos h]
    refine Ev.pos rfl ?_
    have h' := h
    unfold ipOk at h'
    obtain ⟨a, rfl⟩ := Int.eq_ofNat_of_zero_le (show 0 ≤ a by omega)
    obtain ⟨b, rfl⟩ := Int.eq_ofNat_of_zero_le (show 0 ≤ b by omega)
    obtain ⟨t, rfl⟩ := Int.eq_ofNat_of_zero_le (show 0 ≤ t by omega)
    obtain ⟨p, rfl⟩ := Int.eq_ofNat_of_zero_le (show 0 ≤ p by omega)
    obtain ⟨i, rfl⟩ := Int.eq_ofNat_of_zero_le (show 0 ≤ i by omega)
    obtain ⟨f, rfl⟩ := Int.eq_ofNat_of_zero_le (show 0 ≤ f by omega)
    unfold ipB
    simp only [nat_toNat]
    refine Ev.ite (fun hd => ?_) (fun hd => ?_)
    · subst hd
      have e : Go.bits .or .i64 (f : Int) 16384 = ((ipF f false true : Nat) : Int) := by
        refine (or_bits f 16384 (by omega) (by omega)).trans ?_
        unfold ipF
        simp only [Bool.false_eq_true, if_false, if_true, Nat.add_zero]
        rw [Nat.or_comm, show (16384 : Nat) = 2 ^ 14 * 1 from rfl, ← Nat.two_pow_add_eq_or_of_lt (by omega), Nat.add_comm]
      rw [e]
      exact ipenc0 a b t p i f _ m true o x h rfl
    · have hd' : d = false := by simpa using hd
      subst hd'
      exact ipenc0 a b t p i f f m false o x h (by unfold ipF; simp)
  · rw [ipC, if_neg h, ipE, if_neg h]
    exact Ev.neg (by decide) (Ev.now _)
theorem works_ev : Ev (fun k => sternpostlaw05_works.f k) true := by
  have h := ipenc_ev 10 11 64 6 0 0 false false ⟨#[]⟩ ⟨#[97, 98]⟩ (by decide +kernel)
  have e : ipE 10 11 64 6 0 0 false false ⟨#[]⟩ ⟨#[97, 98]⟩ = (mkB [69, 0, 0, 22, 0, 0, 0, 0, 64, 6, 122, 206, 0, 0, 0, 10, 0, 0, 0, 11, 97, 98], 0) := by decide +kernel
  rw [e] at h
  unfold sternpostlaw05_works.f
  refine Ev.bind h ?_
  refine Ev.pos rfl (Ev.pos (by decide +kernel) (Ev.pos (by decide) (Ev.pos (by decide +kernel) (Ev.pos (by decide +kernel) (Ev.pos (by decide +kernel) ?_)))))
  rw [show ((cutS (mkB [69, 0, 0, 22, 0, 0, 0, 0, 64, 6, 122, 206, 0, 0, 0, 10, 0, 0, 0, 11, 97, 98]) 12 (mkB [69, 0, 0, 22, 0, 0, 0, 0, 64, 6, 122, 206, 0, 0, 0, 10, 0, 0, 0, 11, 97, 98]).size).toList == ([0, 0, 0, 10, 0, 0, 0, 11, 97, 98] : List UInt8)) = true from by decide +kernel]
  exact Ev.now _
theorem encAll_ev (most : Int) : ∀ L : List Pk, (∀ x, x ∈ L → ipOk x.src x.dst x.ttl x.proto x.ident x.frag x.more x.opts x.data ∧ 20 + (x.opts.size : Int) + (x.data.size : Int) ≤ most) → Ev (fun k => encAll k most L) true
  | [], _ => Ev.now _
  | x :: l, h => by
    obtain ⟨h1, h2⟩ := h x List.mem_cons_self
    have h' := h1
    unfold ipOk at h'
    unfold encAll
    refine Ev.bind (ipcheck_ev x.src x.dst x.ttl x.proto x.ident x.frag x.more x.dont x.opts x.data (by omega)) ?_
    rw [ipC, if_pos h1]
    refine Ev.pos rfl (Ev.bind (ipenc_ev x.src x.dst x.ttl x.proto x.ident x.frag x.more x.dont x.opts x.data (by omega)) ?_)
    rw [ipE, if_pos h1]
    refine Ev.pos ⟨rfl, ?_⟩ (encAll_ev most l (fun y hy => h y (List.mem_cons_of_mem _ hy)))
    have lx := SP.by_len x.data
    have lo := SP.by_len x.opts
    unfold ipB
    rw [mkB_size, List.length_append, sealB_len _ _ (by rw [ipRaw_len]; omega), ipRaw_len]; omega
theorem IpWhole : sternpostlaw05_IpWhole.Pure := by
  intro a b t p i f m d o x n _ _ _ _ _ _ ho hx _
  refine Ev.rounds ?_
  unfold sternpostlaw05_IpWhole.f
  unfold sternpostlaw05_IpWhole_tail.f
  refine Ev.bind works_ev (Ev.pos rfl (Ev.bind (ipcheck_ev a b t p i f m d o x hx) ?_))
  by_cases h : ipOk a b t p i f m o x
  · rw [ipC, if_pos h]
    have h' := h
    unfold ipOk at h'
    have hok : PkOk ⟨a, b, t, p, i, f, m, d, o, x⟩ := ⟨by show o.size ≤ 40; omega, by show x.size + o.size ≤ 65515; omega, by show 0 ≤ f; omega, by show f ≤ 8191; omega, h'.2.2.1⟩
    refine Ev.pos rfl (Ev.pos hok (encAll_ev n _ ?_))
    by_cases h2 : (Pk.pieces ⟨a, b, t, p, i, f, m, d, o, x⟩ 0 n).2 = 0
    · obtain ⟨_, _, st, K, s3, s4, s5, s6, hl, hat⟩ := pieces_at _ n hok h2
      intro y hy
      obtain ⟨q, hq, he⟩ := List.getElem_of_mem hy
      rw [hl] at hq
      have hqK : q ≤ K := by omega
      have hy2 : (Pk.pieces ⟨a, b, t, p, i, f, m, d, o, x⟩ 0 n).1[q]? = some y := by rw [← he]; exact List.getElem?_eq_getElem _
      obtain ⟨h3, h4⟩ := hat q hqK
      have hyv := Option.some.inj (hy2.symm.trans h3)
      obtain ⟨p1, p2, p3, p4⟩ := piece_facts ⟨a, b, t, p, i, f, m, d, o, x⟩ st K q hqK s5
      dsimp only at p1 p2 h4 s5 s6 hyv
      rw [← p1] at h4
      generalize hdx : cutS x (q * st) (if q < K then q * st + st else x.size) = dx at p1 p2 h4 hyv
      subst hyv
      have hqs : q * st ≤ K * st := Nat.mul_le_mul_right _ hqK
      have h8 : q * st % 8 = 0 := by rw [Nat.mul_mod, s4]; simp
      have hfr : 8 * (f + ((q * st / 8 : Nat) : Int)) + (dx.size : Int) ≤ 65535 := by
        have hq8 : q * st / 8 * 8 = q * st := by omega
        have : q * st + dx.size ≤ x.size := by
          by_cases hlt : q < K
          · rw [if_pos hlt] at p1
            have : (q + 1) * st ≤ K * st := Nat.mul_le_mul_right _ hlt
            rw [Nat.add_mul] at this
            omega
          · rw [if_neg hlt] at p1; omega
        omega
      refine ⟨⟨?_, ?_, ?_, ?_⟩, h4⟩
      · show 0 ≤ a ∧ a ≤ 4294967295 ∧ 0 ≤ b ∧ b ≤ 4294967295 ∧ 0 ≤ t ∧ t ≤ 255 ∧ 0 ≤ p ∧ p ≤ 255 ∧ 0 ≤ i ∧ i ≤ 65535 ∧ 0 ≤ f + ((q * st / 8 : Nat) : Int) ∧ f + ((q * st / 8 : Nat) : Int) ≤ 8191
        omega
      · show o.size % 4 = 0 ∧ o.size ≤ 40 ∧ dx.size + o.size ≤ 65515
        omega
      · show (if q < K then true else m) = true → _
        by_cases hlt : q < K
        · intro _
          rw [if_pos hlt] at p1
          show 0 < dx.size ∧ dx.size % 8 = 0
          omega
        · rw [if_neg hlt] at p1 ⊢
          intro hm
          have := h'.2.2.1 hm
          have e : q = K := by omega
          subst e
          show 0 < dx.size ∧ dx.size % 8 = 0
          by_cases h0 : 0 < q
          · have := s6 h0; omega
          · obtain rfl : q = 0 := by omega
            omega
      · show (dx.size : Int) ≤ 65535 - 8 * (f + ((q * st / 8 : Nat) : Int))
        omega
    · rw [pieces_err _ _ h2]
      exact fun y hy => nomatch hy
  · rw [ipC, if_neg h]
    exact Ev.neg (by decide) (Ev.now _)
end Go.Proofs.Ytnggabbakhakaaa.Pure

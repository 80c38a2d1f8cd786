/- Which segments may be, their bytes between any addresses, their length and flags, is as the document has it: for segments and addresses of any size that fits in memory. -/
import Derived.Test.YtakajeoeijnmhaaPSegWritesx13
set_option linter.unusedVariables false
set_option linter.unusedSimpArgs false
namespace Go.Proofs.Ytakajeoeijnmhaa.Pure
open Go Go.RowKit Go.Proofs.Ytakajeoeijnmhaa.PSegWrites Go.Proofs.YtakajeoeijnmhaaW.PrintWords Go.Proofs.YtakajeoeijnmhaaW.PrintLast Go.Proofs.YtakajeoeijnmhaaW.PrintMore
attribute [local irreducible] shl shr Go.bits
/-! ### plain words on numbers and bytes -/
namespace SP
/-- what is above 16 bits, added again -/
def canon (n : Nat) : Nat := if n = 0 then 0 else (n - 1) % 65535 + 1
theorem canon_le (n : Nat) : canon n ≤ 65535 := by unfold canon; split <;> omega
theorem canon_small {n : Nat} (h : n ≤ 65535) : canon n = n := by unfold canon; split <;> omega
theorem canon_step {n : Nat} (h : 65535 < n) : canon (n / 65536 + n % 65536) = canon n := by unfold canon; split <;> split <;> omega
theorem canon_add (a b : Nat) : canon (canon a + b) = canon (a + b) := by unfold canon; split <;> split <;> split <;> omega
theorem canon_mod (n : Nat) : canon n % 65535 = n % 65535 := by unfold canon; split <;> omega
theorem canon_zero {n : Nat} : canon n = 0 ↔ n = 0 := by unfold canon; split <;> omega
theorem canon_eq {a b : Nat} (h : a % 65535 = b % 65535) (h0 : a = 0 ↔ b = 0) : canon a = canon b := by unfold canon; split <;> split <;> omega
/-- a byte's weight at a place -/
def wt (p : Nat) (b : Nat) : Nat := if p % 2 = 0 then 256 * b else b
/-- the weights of bytes from a place on -/
def ws : Nat → List UInt8 → Nat
  | _, [] => 0
  | p, b :: l => wt p b.toNat + ws (p + 1) l
theorem wt_le (p : Nat) (b : UInt8) : wt p b.toNat ≤ 65280 := by have := b.toNat_lt; unfold wt; split <;> omega
theorem ws_le (l : List UInt8) : ∀ p, ws p l ≤ 65280 * l.length := by
  induction l with
  | nil => intro p; simp [ws]
  | cons b l ih => intro p; have := ih (p + 1); have := wt_le p b; simp only [ws, List.length_cons]; omega
theorem ws_append (a b : List UInt8) : ∀ p, ws p (a ++ b) = ws p a + ws (p + a.length) b := by
  induction a with
  | nil => intro p; simp [ws]
  | cons x l ih => intro p; simp only [List.cons_append, ws, ih, List.length_cons]; rw [show p + 1 + l.length = p + (l.length + 1) from by omega]; omega
theorem wt_parity {p q : Nat} (h : p % 2 = q % 2) (b : Nat) : wt p b = wt q b := by unfold wt; rw [h]
theorem ws_parity (l : List UInt8) : ∀ {p q : Nat}, p % 2 = q % 2 → ws p l = ws q l := by
  induction l with
  | nil => intros; rfl
  | cons x l ih => intro p q h; simp only [ws, wt_parity h]; rw [ih (p := p + 1) (q := q + 1) (by omega)]
/-- a string's bytes -/
abbrev by_ (s : ByteArray) : List UInt8 := s.data.toList
theorem by_len (s : ByteArray) : (by_ s).length = s.size := by
  show s.data.toList.length = s.data.size; exact Array.length_toList
theorem by_append (s t : ByteArray) : by_ (s ++ t) = by_ s ++ by_ t := by
  show (s ++ t).data.toList = _; rw [ByteArray.data_append, Array.toList_append]
theorem by_extract (s : ByteArray) (i j : Nat) : by_ (s.extract i j) = ((by_ s).drop i).take (j - i) := by
  simp [by_, ByteArray.data_extract, List.extract_eq_take_drop]
theorem by_ext {s t : ByteArray} (h : by_ s = by_ t) : s = t := by
  cases s; cases t; simp only [by_] at h; congr; exact Array.toList_inj.mp h
/-- byte i of a list -/
def nth (l : List UInt8) (i : Nat) : Nat := (l.getD i 0).toNat
theorem nth_lt (l : List UInt8) (i : Nat) : nth l i < 256 := (l.getD i 0).toNat_lt
theorem drop_cons {l : List UInt8} {i : Nat} (h : i < l.length) : l.drop i = l.getD i 0 :: l.drop (i + 1) := by
  rw [List.drop_eq_getElem_cons h]; simp [List.getD, h]
theorem ws_drop {l : List UInt8} {i : Nat} (p : Nat) (h : i < l.length) : ws p (l.drop i) = wt p (nth l i) + ws (p + 1) (l.drop (i + 1)) := by
  rw [drop_cons h]; rfl
theorem ws_drop_end {l : List UInt8} {i : Nat} (p : Nat) (h : l.length ≤ i) : ws p (l.drop i) = 0 := by
  rw [List.drop_eq_nil_of_le h]; rfl
/-- a number's bytes, k of them -/
def bytesN (n : Nat) : Nat → List UInt8
  | 0 => []
  | k + 1 => UInt8.ofNat (n / 2 ^ (8 * k) % 256) :: bytesN n k
theorem bytesN_len (n k : Nat) : (bytesN n k).length = k := by induction k with
  | zero => rfl
  | succ k ih => simp [bytesN, ih]
/-- the number of bytes -/
def num (l : List UInt8) : Nat := l.foldl (fun n b => n * 256 + b.toNat) 0
theorem num_acc (l : List UInt8) : ∀ a : Nat, l.foldl (fun n b => n * 256 + b.toNat) a = a * 256 ^ l.length + num l := by
  induction l with
  | nil => intro a; show a = a * 256 ^ 0 + 0; omega
  | cons b l ih =>
    intro a
    have h0 : num (b :: l) = l.foldl (fun n b => n * 256 + b.toNat) (0 * 256 + b.toNat) := rfl
    rw [h0, List.foldl_cons, ih, ih, List.length_cons, Nat.pow_succ, Nat.zero_mul, Nat.zero_add, Nat.add_mul, Nat.mul_assoc, Nat.mul_comm 256]
    omega
theorem num_cons (b : UInt8) (l : List UInt8) : num (b :: l) = b.toNat * 256 ^ l.length + num l := by
  have := num_acc l b.toNat; simp only [num, List.foldl_cons, Nat.zero_mul, Nat.zero_add]; exact this
theorem num_append (a b : List UInt8) : num (a ++ b) = num a * 256 ^ b.length + num b := by
  unfold num; rw [List.foldl_append, num_acc]; rfl
theorem num_lt (l : List UInt8) : num l < 256 ^ l.length := by
  induction l with
  | nil => simp [num]
  | cons b l ih => rw [num_cons, List.length_cons, Nat.pow_succ]; have := b.toNat_lt; have h : b.toNat * 256 ^ l.length ≤ 255 * 256 ^ l.length := Nat.mul_le_mul_right _ (by omega); omega
theorem num_bytesN (n k : Nat) : num (bytesN n k) = n % 256 ^ k := by
  induction k with
  | zero => simp [bytesN, num, Nat.mod_one]
  | succ k ih =>
    rw [bytesN, num_cons, ih, bytesN_len]
    have e : (2 : Nat) ^ (8 * k) = 256 ^ k := by rw [Nat.pow_mul]
    rw [e, Nat.pow_succ, Nat.mod_mul, Nat.mul_comm (256 ^ k)]
    have : (UInt8.ofNat (n / 256 ^ k % 256)).toNat = n / 256 ^ k % 256 := by simp [UInt8.toNat_ofNat']
    rw [this]; omega
theorem bytesN_num (l : List UInt8) : bytesN (num l) l.length = l := by
  induction l with
  | nil => rfl
  | cons b l ih =>
    have key : ∀ (m k : Nat), bytesN (m * 256 ^ l.length + num l) k = bytesN (num l) k ∨ l.length < k := by
      intro m k
      by_cases hk : l.length < k
      · exact .inr hk
      · left
        induction k with
        | zero => rfl
        | succ k ihk =>
          rw [bytesN, bytesN, ihk (by omega)]
          have e : (2 : Nat) ^ (8 * k) = 256 ^ k := by rw [Nat.pow_mul]
          obtain ⟨d, hd⟩ : ∃ d, l.length = k + 1 + d := ⟨l.length - (k + 1), by omega⟩
          rw [e]
          have : (m * 256 ^ l.length + num l) / 256 ^ k % 256 = num l / 256 ^ k % 256 := by
            rw [hd, Nat.pow_add, Nat.pow_succ]
            rw [show m * (256 ^ k * 256 * 256 ^ d) = 256 ^ k * (256 * (m * 256 ^ d)) from by ac_rfl]
            rw [Nat.mul_add_div (Nat.pow_pos (by omega)), Nat.mul_add_mod]
          rw [this]
    rw [List.length_cons, num_cons, bytesN]
    have e : (2 : Nat) ^ (8 * l.length) = 256 ^ l.length := by rw [Nat.pow_mul]
    have hl := num_lt l
    have h1 : (b.toNat * 256 ^ l.length + num l) / 2 ^ (8 * l.length) % 256 = b.toNat := by
      rw [e, Nat.mul_comm, Nat.mul_add_div (Nat.pow_pos (by omega)), Nat.div_eq_of_lt hl]; have := b.toNat_lt; omega
    rw [h1]
    rcases key b.toNat l.length with h | h
    · rw [h, ih]; congr 1; exact UInt8.toNat_inj.mp (by simp)
    · omega
end SP
theorem Ev.pos {α : Type} {c : Prop} [Decidable c] {g f : Nat → Option α} {r : α} (hc : c) (h : Ev g r) : Ev (fun k => if c then g k else f k) r := by
  simp only [if_pos hc]; exact h
theorem Ev.neg {α : Type} {c : Prop} [Decidable c] {g f : Nat → Option α} {r : α} (hc : ¬ c) (h : Ev f r) : Ev (fun k => if c then g k else f k) r := by
  simp only [if_neg hc]; exact h
theorem wf64 {n : Int} (h : (Lit.int .i64 n).wf = true) : -9223372036854775808 ≤ n ∧ n < 9223372036854775808 := by
  have e : (Lit.int .i64 n).wf = decide (IntKind.i64.min ≤ n ∧ n ≤ 9223372036854775807) := by simp [Lit.wf]
  have e2 : IntKind.i64.min = -9223372036854775808 := by decide
  rw [e, e2] at h
  have := of_decide_eq_true h
  omega
/-! ### package sum and the reference's, as the words above -/
theorem and_mask (n m : Nat) (h : n < 2 ^ 63) (i : Nat) (hi : m = 2 ^ i - 1) (hi2 : i ≤ 63) : bits .and .i64 (n : Int) (m : Int) = ((n % 2 ^ i : Nat) : Int) := by
  subst hi
  have hw : ∀ n : Int, 0 ≤ n → n < 9223372036854775808 → IntKind.i64.wrap n = n := by
    intro n h0 h1; rw [IntKind.wrap_i64]; have : (2 : Int) ^ 62 = 4611686018427387904 := by decide
    omega
  have := bits_mask .i64 63 (by decide) hw i hi2 (n : Int) (by omega) (by exact_mod_cast h)
  have e : ((2 ^ i - 1 : Nat) : Int) = (2 : Int) ^ i - 1 := by
    have : 1 ≤ 2 ^ i := Nat.one_le_two_pow
    rw [Int.ofNat_sub this]; simp
  rw [e, this]; simp
theorem bits16 (n : Nat) (h : n < 2 ^ 63) : bits .and .i64 (n : Int) 65535 = ((n % 65536 : Nat) : Int) := and_mask n 65535 h 16 rfl (by omega)
theorem bt_nth (s : ByteArray) (i : Nat) : bt s (i : Int) = ((SP.nth (SP.by_ s) i : Nat) : Int) := by
  unfold bt SP.nth
  simp only [Int.toNat_natCast]
  split
  · rename_i h
    congr 1
    have h' : i < (SP.by_ s).length := by rw [SP.by_len]; exact h
    rw [List.getD_eq_getElem?_getD, List.getElem?_eq_getElem h']
    rfl
  · rename_i h
    rw [List.getD_eq_getElem?_getD, List.getElem?_eq_none (by rw [SP.by_len]; omega)]; rfl
theorem w64 {n : Int} (h0 : -9223372036854775808 ≤ n) (h1 : n < 9223372036854775808) : wrap64 n = n := by unfold wrap64; omega
theorem tmod2 (n : Nat) : Int.tmod (n : Int) 2 = ((n % 2 : Nat) : Int) := by rw [Int.tmod_eq_emod_of_nonneg (by omega)]; omega
theorem carry_ev : ∀ (n : Nat), n < 9223372036854775808 → Ev (fun k => sum_carry.f k (n : Int)) ((SP.canon n : Nat) : Int) := by
  intro n
  induction n using Nat.strongRecOn with
  | _ n ih =>
    intro h
    show Ev (fun k => sum_carry.l0 k (n : Int)) _
    by_cases h1 : 65535 < n
    · refine Ev.step (f := fun k => sum_carry.l0 k ((n / 65536 + n % 65536 : Nat) : Int)) (fun k => ?_) ?_
      · simp only [sum_carry.l0]; rw [if_pos (by omega), bits16 n h, w64 (by omega) (by omega)]; congr 1
      · rw [← SP.canon_step h1]; exact ih _ (by omega) (by omega)
    · refine Ev.step (f := fun _ => some (n : Int)) (fun k => ?_) ?_
      · simp only [sum_carry.l0]; rw [if_neg (by omega)]
      · rw [SP.canon_small (by omega)]; exact Ev.now _
theorem shl_wt (p b : Nat) (hb : b < 256) : shl .i64 (wrap64 (b : Int)) (wrap64 (8 - (wrap64 ((Int.tmod (p : Int) 2) * 8)))) = ((SP.wt p b : Nat) : Int) := by
  rw [tmod2]
  unfold SP.wt shl
  rw [IntKind.wrap_i64, w64 (n := (b : Int)) (by omega) (by omega)]
  split
  · rename_i h; rw [h]; simp [wrap64, IntKind.bits]; omega
  · rename_i h; rw [show p % 2 = 1 from by omega]; simp [wrap64, IntKind.bits]; omega
theorem shamt (p : Nat) : 0 ≤ (wrap64 (8 - (wrap64 ((Int.tmod (p : Int) 2) * 8)))) := by
  rw [tmod2]; unfold wrap64; omega
section
variable {s : ByteArray} {x8 : List ByteArray} {x9 x10 r : Int}
theorem total_l1 (hs : s.size < 9223372036854775808) : ∀ (d i n p : Nat), s.size - i = d → i ≤ s.size → n + SP.ws p ((SP.by_ s).drop i) < 9223372036854775808 → p + (s.size - i) < 9223372036854775808 →
    Ev (fun k => sum_total.l0 k ((n + SP.ws p ((SP.by_ s).drop i) : Nat) : Int) ((p + (s.size - i) : Nat) : Int) x8 x9 (wrap64 (x10 + 1))) r →
    Ev (fun k => sum_total.l1 k (n : Int) (p : Int) s x8 x9 x10 (s.size : Int) (i : Int)) r := by
  intro d
  induction d with
  | zero =>
    intro i n p hd hi hn hp h
    refine Ev.step (fun k => ?_) h
    simp only [sum_total.l1]; rw [if_neg (by omega), SP.ws_drop_end p (by rw [SP.by_len]; omega), show s.size - i = 0 from hd]; simp
  | succ d ih =>
    intro i n p hd hi hn hp h
    have hlt : i < (SP.by_ s).length := by rw [SP.by_len]; omega
    rw [SP.ws_drop p hlt] at hn h
    have hb := SP.nth_lt (SP.by_ s) i
    have hsz := SP.by_len s
    refine Ev.step (f := fun k => sum_total.l1 k ((n + SP.wt p (SP.nth (SP.by_ s) i) : Nat) : Int) ((p + 1 : Nat) : Int) s x8 x9 x10 (s.size : Int) ((i + 1 : Nat) : Int)) (fun k => ?_) (ih (i + 1) (n + SP.wt p (SP.nth (SP.by_ s) i)) (p + 1) (by omega) (by omega) (by omega) (by omega) ?_)
    · simp only [sum_total.l1]
      rw [if_pos (by omega), if_pos (by omega), if_pos (by omega), if_pos (shamt p), bt_nth, shl_wt p _ hb]
      rw [w64 (n := (p : Int) + 1) (by omega) (by omega), w64 (n := (i : Int) + 1) (by omega) (by omega), w64 (by omega) (by omega)]
      congr 1
    · rw [show n + SP.wt p (SP.nth (SP.by_ s) i) + SP.ws (p + 1) ((SP.by_ s).drop (i + 1)) = n + (SP.wt p (SP.nth (SP.by_ s) i) + SP.ws (p + 1) ((SP.by_ s).drop (i + 1))) from by omega, show p + 1 + (s.size - (i + 1)) = p + (s.size - i) from by omega]
      exact h
end
/-- pieces, one behind the other -/
def SPflat (l : List ByteArray) : List UInt8 := l.flatMap SP.by_
theorem flat_drop {l : List ByteArray} {i : Nat} (h : i < l.length) : SPflat (l.drop i) = SP.by_ (l.getD i ByteArray.empty) ++ SPflat (l.drop (i + 1)) := by
  rw [List.drop_eq_getElem_cons h, SPflat, List.flatMap_cons, List.getD_eq_getElem?_getD, List.getElem?_eq_getElem h]; rfl
theorem total_l0 (l : List ByteArray) (hl : l.length < 9223372036854775808) : ∀ (d i n p : Nat), l.length - i = d → i ≤ l.length → n + SP.ws p (SPflat (l.drop i)) < 9223372036854775808 → p + (SPflat (l.drop i)).length < 9223372036854775808 →
    Ev (fun k => sum_total.l0 k (n : Int) (p : Int) l (l.length : Int) (i : Int)) ((SP.canon (n + SP.ws p (SPflat (l.drop i))) : Nat) : Int) := by
  intro d
  induction d with
  | zero =>
    intro i n p hd hi hn hp
    rw [List.drop_eq_nil_of_le (by omega)] at hn ⊢
    refine Ev.step (f := fun k => (sum_carry.f k (n : Int)).bind fun t => some t) (fun k => ?_) ?_
    · simp only [sum_total.l0]; rw [if_neg (by omega)]
    · exact Ev.bind (carry_ev n (by simpa [SPflat, SP.ws] using hn)) (Ev.now _)
  | succ d ih =>
    intro i n p hd hi hn hp
    have hlt : i < l.length := by omega
    rw [flat_drop hlt] at hn hp ⊢
    rw [SP.ws_append] at hn ⊢
    rw [List.length_append] at hp
    refine Ev.step (f := fun k => sum_total.l1 k (n : Int) (p : Int) (l.getD i ByteArray.empty) l (l.length : Int) (i : Int) ((l.getD i ByteArray.empty).size : Int) ((0 : Nat) : Int)) (fun k => ?_) ?_
    · simp only [sum_total.l0]; rw [if_pos (by omega), if_pos (by omega), if_pos (by omega)]; simp [rdOf]
    · rw [SP.by_len] at hn hp
      refine total_l1 (by omega) _ 0 n p rfl (by omega) (by simp only [List.drop_zero]; omega) (by omega) ?_
      rw [w64 (by omega) (by omega), SP.by_len]
      have := ih (i + 1) (n + SP.ws p (SP.by_ (l.getD i ByteArray.empty))) (p + (l.getD i ByteArray.empty).size) (by omega) (by omega) (by omega) (by omega)
      simp only [List.drop_zero, Nat.sub_zero]
      rw [← Nat.add_assoc]
      exact this
/-- what 'total' tells of pieces -/
theorem total_ev (l : List ByteArray) (hl : l.length < 1152921504606846976) (h : (SPflat l).length ≤ 140737488351232) : Ev (fun k => sum_total.f k l) ((SP.canon (SP.ws 0 (SPflat l)) : Nat) : Int) := by
  have hw := SP.ws_le (SPflat l) 0
  have := total_l0 l (by omega) l.length 0 0 0 (by omega) (by omega) (by simp only [List.drop_zero]; omega) (by simp only [List.drop_zero]; omega)
  rw [Nat.zero_add, List.drop_zero] at this
  exact this
theorem nat_toNat (n : Nat) : ((n : Int) : Int).toNat = n := Int.toNat_natCast n
theorem rdOf_nat {α : Type} (d : α) (xs : List α) (i : Nat) : rdOf d xs (i : Int) = xs.getD i d := by simp [rdOf]
def mkB (l : List UInt8) : ByteArray := ⟨l.toArray⟩
theorem by_mkB (l : List UInt8) : SP.by_ (mkB l) = l := rfl
theorem mkB_by (s : ByteArray) : mkB (SP.by_ s) = s := SP.by_ext rfl
theorem mkB_size (l : List UInt8) : (mkB l).size = l.length := rfl
theorem mkB_append (a b : List UInt8) : mkB a ++ mkB b = mkB (a ++ b) := SP.by_ext (by rw [SP.by_append]; rfl)
theorem shr_pow (n k : Nat) (hk : k ≤ 64) : shr .i64 (n : Int) (k : Int) = ((n / 2 ^ k : Nat) : Int) := by
  unfold shr
  rw [Int.toNat_natCast, show min k IntKind.i64.bits = k from Nat.min_eq_left (by simpa [IntKind.bits] using hk)]
  simp
def OfS (l : List ByteArray) : Int × Int := if 1024 < l.length ∨ 65536 < (SPflat l).length then (0, 2) else (65535 - (SP.canon (SP.ws 0 (SPflat l)) : Int), 0)
theorem of_l0 (l : List ByteArray) (hl : l.length ≤ 1024) : ∀ (d i m : Nat), l.length - i = d → i ≤ l.length → m ≤ 65536 → (SPflat l).length = 65536 - m + (SPflat (l.drop i)).length → (∀ x ∈ l, x.size ≤ 1152921504606846976) →
    Ev (fun k => sum_Of.l0 k l (m : Int) l (l.length : Int) (i : Int)) (OfS l) := by
  intro d
  induction d with
  | zero =>
    intro i m hd hi hm hf hx
    rw [List.drop_eq_nil_of_le (by omega)] at hf
    have hf' : (SPflat l).length = 65536 - m := by rw [hf]; simp [SPflat]
    have hc := SP.canon_le (SP.ws 0 (SPflat l))
    refine Ev.step (f := fun k => (sum_total.f k l).bind fun t => some (wrap64 (65535 - t), 0)) (fun k => ?_) ?_
    · simp only [sum_Of.l0]; rw [if_neg (by omega)]
    · refine Ev.bind (total_ev l (by omega) (by omega)) ?_
      rw [OfS, if_neg (by omega), w64 (by omega) (by omega)]
      exact Ev.now _
  | succ d ih =>
    intro i m hd hi hm hf hx
    have hlt : i < l.length := by omega
    have hxi : (l.getD i ByteArray.empty).size ≤ 1152921504606846976 := by
      rw [List.getD_eq_getElem?_getD, List.getElem?_eq_getElem hlt]; exact hx _ (List.getElem_mem _)
    rw [flat_drop hlt, List.length_append, SP.by_len] at hf
    by_cases h : m < (l.getD i ByteArray.empty).size
    · refine Ev.step (f := fun _ => some (0, 2)) (fun k => ?_) ?_
      · simp only [sum_Of.l0]; rw [rdOf_nat, if_pos (by omega), if_pos (by omega), if_pos (by omega), w64 (by omega) (by omega), if_pos (by omega)]
      · rw [OfS, if_pos (by omega)]; exact Ev.now _
    · refine Ev.step (f := fun k => sum_Of.l0 k l ((m - (l.getD i ByteArray.empty).size : Nat) : Int) l (l.length : Int) ((i + 1 : Nat) : Int)) (fun k => ?_) ?_
      · simp only [sum_Of.l0]; rw [rdOf_nat, if_pos (by omega), if_pos (by omega), if_pos (by omega), w64 (by omega) (by omega), if_neg (by omega), w64 (n := (i : Int) + 1) (by omega) (by omega)]
        congr 1; omega
      · exact ih (i + 1) _ (by omega) (by omega) (by omega) (by omega) hx
theorem of_ev (l : List ByteArray) (hl : l.length ≤ 1152921504606846976) (hx : ∀ x ∈ l, x.size ≤ 1152921504606846976) : Ev (fun k => sum_Of.f k l) (OfS l) := by
  by_cases h : 1024 < l.length
  · refine Ev.congr (f := fun _ => some (0, 2)) (fun k => ?_) ?_
    · unfold sum_Of.f; rw [if_pos (by omega)]
    · rw [OfS, if_pos (.inl h)]; exact Ev.now _
  · refine Ev.congr (f := fun k => sum_Of.l0 k l ((65536 : Nat) : Int) l (l.length : Int) ((0 : Nat) : Int)) (fun k => ?_) ?_
    · unfold sum_Of.f; rw [if_neg (by omega)]; rfl
    · exact of_l0 l (by omega) l.length 0 65536 rfl (by omega) (by omega) (by simp) hx
/-- bytes as a string -/
theorem mn_lt (a b c : Int) : mn a b < c ↔ a < c ∨ b < c := by unfold mn; split <;> omega
theorem mx_gt (a b c : Int) : mx a b > c ↔ a > c ∨ b > c := by unfold mx; split <;> omega
def PutS (n b : Int) : ByteArray × Int := if b < 1 ∨ 6 < b ∨ n < 0 ∨ (256 : Int) ^ b.toNat ≤ n then (⟨#[]⟩, 1) else (mkB (SP.bytesN n.toNat b.toNat), 0)
/-- the numbers that 'Put' has laid after i rounds -/
def putRow (n b i : Nat) : List Int := (List.range b).map fun j => if j < i then ((n / 2 ^ (8 * (b - 1 - j)) % 256 : Nat) : Int) else 0
theorem putRow_set (n b i : Nat) (_h : i < b) : (putRow n b i).set i ((n / 2 ^ (8 * (b - 1 - i)) % 256 : Nat) : Int) = putRow n b (i + 1) := by
  apply List.ext_getElem
  · simp [putRow]
  · intro j h1 h2
    simp only [putRow, List.getElem_set, List.getElem_map, List.getElem_range]
    by_cases e : i = j
    · subst e; simp
    · rw [if_neg e]
      by_cases h3 : j < i
      · rw [if_pos h3, if_pos (by omega)]
      · rw [if_neg h3, if_neg (by omega)]
theorem bytesN_range (n : Nat) : ∀ b : Nat, SP.bytesN n b = (List.range b).map fun j => UInt8.ofNat (n / 2 ^ (8 * (b - 1 - j)) % 256) := by
  intro b
  induction b with
  | zero => rfl
  | succ b ih =>
    rw [SP.bytesN, ih, List.range_succ_eq_map, List.map_cons, List.map_map]
    congr 1
    apply List.map_congr_left
    intro j hj
    have := List.mem_range.mp hj
    simp only [Function.comp_def]
    rw [show b - 1 - j = b + 1 - 1 - (j + 1) from by omega]
theorem putRow_str (n b : Nat) : strOfNums (putRow n b b) = mkB (SP.bytesN n b) := by
  unfold strOfNums mkB
  rw [bytesN_range]
  congr 2
  simp only [putRow, List.map_map]
  apply List.map_congr_left
  intro j hj
  have := List.mem_range.mp hj
  simp only [Function.comp_def]
  rw [if_pos this, Int.toNat_natCast]
theorem put_l0 (n b : Nat) (hb : b ≤ 6) : ∀ (d i : Nat), b - i = d → i ≤ b → Ev (fun k => sum_Put.l0 k (n : Int) (b : Int) (putRow n b i) (b : Int) (i : Int)) (mkB (SP.bytesN n b), 0) := by
  intro d
  induction d with
  | zero =>
    intro i hd hi
    obtain rfl : i = b := by omega
    refine Ev.step (f := fun _ => some (strOfNums (putRow n i i), 0)) (fun k => ?_) ?_
    · simp only [sum_Put.l0]; rw [if_neg (by omega)]
    · rw [putRow_str]; exact Ev.now _
  | succ d ih =>
    intro i hd hi
    refine Ev.step (f := fun k => sum_Put.l0 k (n : Int) (b : Int) (putRow n b (i + 1)) (b : Int) ((i + 1 : Nat) : Int)) (fun k => ?_) (ih (i + 1) (by omega) (by omega))
    simp only [sum_Put.l0]
    have e : wrap64 (8 * (wrap64 ((wrap64 ((b : Int) - 1)) - (i : Int)))) = ((8 * (b - 1 - i) : Nat) : Int) := by unfold wrap64; omega
    rw [if_pos (by omega), e, if_pos (by omega), if_pos (by omega), if_pos (by simp [putRow]; omega), shr_pow _ _ (by omega), w64 (by omega) (by omega), Int.toNat_natCast]
    rw [← putRow_set n b i (by omega)]
    congr 1
theorem put_ev (n b : Int) (hn : -9223372036854775808 ≤ n ∧ n < 9223372036854775808) (hb : -9223372036854775808 ≤ b ∧ b < 9223372036854775808) : Ev (fun k => sum_Put.f k n b) (PutS n b) := by
  have bad : (b < 1 ∨ 6 < b ∨ n < 0 ∨ (256 : Int) ^ b.toNat ≤ n) → Ev (fun k => sum_Put.j0 k n b true) (PutS n b) := by
    intro h
    refine Ev.step (f := fun _ => some (⟨#[]⟩, 1)) (fun k => ?_) ?_
    · simp only [sum_Put.j0]; rw [if_pos trivial]
    · rw [PutS, if_pos h]; exact Ev.now _
  by_cases h1 : b < 1
  · refine Ev.congr (fun k => ?_) (bad (.inl h1)); unfold sum_Put.f; rw [if_pos h1]
  by_cases h2 : 6 < b
  · refine Ev.congr (fun k => ?_) (bad (.inr (.inl h2))); unfold sum_Put.f; rw [if_neg h1, if_pos h2]
  by_cases h3 : n < 0
  · refine Ev.congr (fun k => ?_) (bad (.inr (.inr (.inl h3)))); unfold sum_Put.f; rw [if_neg h1, if_neg (by omega), if_pos h3]
  obtain ⟨m, rfl⟩ := Int.eq_ofNat_of_zero_le (show 0 ≤ n by omega)
  obtain ⟨c, rfl⟩ := Int.eq_ofNat_of_zero_le (show 0 ≤ b by omega)
  have e : wrap64 (8 * (c : Int)) = ((8 * c : Nat) : Int) := by unfold wrap64; omega
  have e2 : (shr .i64 (m : Int) ((8 * c : Nat) : Int) > 0) ↔ (256 : Int) ^ ((c : Int)).toNat ≤ (m : Int) := by
    rw [shr_pow _ _ (by omega), Int.toNat_natCast, Nat.pow_mul, show (2 : Nat) ^ 8 = 256 from rfl, show (256 : Int) ^ c = ((256 ^ c : Nat) : Int) from (Int.natCast_pow 256 c).symm]
    constructor
    · intro hh
      have h3 : 0 < m / 256 ^ c := by omega
      exact Int.ofNat_le.mpr (Nat.div_pos_iff.mp h3).2
    · intro hh
      have h3 : 0 < m / 256 ^ c := Nat.div_pos (Int.ofNat_le.mp hh) (Nat.pow_pos (by omega))
      omega
  by_cases h4 : (256 : Int) ^ ((c : Int)).toNat ≤ (m : Int)
  · refine Ev.congr (fun k => ?_) (bad (.inr (.inr (.inr h4)))); unfold sum_Put.f; rw [if_neg h1, if_neg (by omega), if_neg h3, e, if_pos (by omega), decide_eq_true (e2.mpr h4)]
  · refine Ev.congr (f := fun k => sum_Put.j0 k (m : Int) (c : Int) false) (fun k => ?_) ?_
    · unfold sum_Put.f; rw [if_neg h1, if_neg (by omega), if_neg h3, e, if_pos (by omega), decide_eq_false (fun h => h4 (e2.mp h))]
    · have e3 : List.replicate ((c : Int)).toNat (0 : Int) = putRow m c 0 := by
        apply List.ext_getElem
        · simp [putRow]
        · intro j h1 h2; simp [putRow]
      refine Ev.step (f := fun k => sum_Put.l0 k (m : Int) (c : Int) (putRow m c 0) (c : Int) ((0 : Nat) : Int)) (fun k => ?_) ?_
      · simp only [sum_Put.j0]; rw [if_neg (by decide), if_pos (by omega), if_pos (by omega)]
        simp only [Option.bind_some]; rw [e3]; simp [putRow]
      · rw [PutS, if_neg (by omega), Int.toNat_natCast, Int.toNat_natCast]; exact put_l0 m c (by omega) c 0 rfl (by omega)
theorem put_ok (n b : Nat) (hb1 : 1 ≤ b) (hb : b ≤ 6) (h : n < 256 ^ b) (hn : n < 9223372036854775808) : Ev (fun k => sum_Put.f k (n : Int) (b : Int)) (mkB (SP.bytesN n b), 0) := by
  have := put_ev (n : Int) (b : Int) (by omega) (by omega)
  rw [PutS, nat_toNat, nat_toNat, if_neg] at this
  · exact this
  · have e : (256 : Int) ^ b = ((256 ^ b : Nat) : Int) := (Int.natCast_pow 256 b).symm
    rw [e]; omega
theorem cut_mk (s : ByteArray) (i j : Nat) : cutS s i j = mkB (((SP.by_ s).drop i).take (j - i)) := by
  rw [cutS]; exact SP.by_ext (by rw [SP.by_extract, by_mkB])
theorem cut_to (s : ByteArray) (j : Nat) : cutS s 0 j = mkB ((SP.by_ s).take j) := by rw [cut_mk]; simp
theorem cut_from (s : ByteArray) (i : Nat) : cutS s i s.size = mkB ((SP.by_ s).drop i) := by
  rw [cut_mk, List.take_of_length_le (by rw [List.length_drop, SP.by_len]; omega)]
def PseudoS (f t p l : Int) : ByteArray × Int := if f < 0 ∨ t < 0 ∨ p < 0 ∨ l < 0 ∨ 4294967295 < f ∨ 4294967295 < t ∨ 255 < p ∨ 65535 < l then (⟨#[]⟩, 1) else (mkB (SP.bytesN f.toNat 4 ++ SP.bytesN t.toNat 4 ++ SP.bytesN p.toNat 2 ++ SP.bytesN l.toNat 2), 0)
theorem pseudo_step (l : List Int) (acc : List UInt8) (i n b : Nat) (r : ByteArray × Int) (hlt : i < 4) (hl : l.length = 4) (h1 : rd l (i : Int) = (n : Int)) (h2 : rd [4, 4, 2, 2] (i : Int) = (b : Int)) (hb1 : 1 ≤ b) (hb : b ≤ 6) (h : n < 256 ^ b) (hn : n < 9223372036854775808) (ha : acc.length ≤ 100)
    (hr : Ev (fun k => sum_Pseudo.l0 k (mkB (acc ++ SP.bytesN n b)) l 4 ((i + 1 : Nat) : Int)) r) : Ev (fun k => sum_Pseudo.l0 k (mkB acc) l 4 (i : Int)) r := by
  have h44 : (([4, 4, 2, 2] : List Int).length : Int) = 4 := rfl
  have hlb := SP.bytesN_len n b
  refine Ev.step (f := ?fz) (fun k => ?hz) ?hk
  case hz =>
    simp only [sum_Pseudo.l0, Option.bind_some]
    rw [if_pos (by omega), if_pos (by omega), if_pos (by omega), if_pos (by omega), h1, h2]
  case hk =>
    refine Ev.bind (put_ok n b hb1 hb h hn) ?_
    try dsimp only
    refine Ev.pos (by rw [mkB_size, mkB_size, hlb]; omega) ?_
    rw [mkB_append, w64 (by omega) (by omega)]
    exact hr
theorem pseudo_ev (f t p l : Int) (hf : -9223372036854775808 ≤ f ∧ f < 9223372036854775808) (ht : -9223372036854775808 ≤ t ∧ t < 9223372036854775808) (hp : -9223372036854775808 ≤ p ∧ p < 9223372036854775808) (hl : -9223372036854775808 ≤ l ∧ l < 9223372036854775808) :
    Ev (fun k => sum_Pseudo.f k f t p l) (PseudoS f t p l) := by
  have bad : (f < 0 ∨ t < 0 ∨ p < 0 ∨ l < 0 ∨ 4294967295 < f ∨ 4294967295 < t ∨ 255 < p ∨ 65535 < l) → Ev (fun k => sum_Pseudo.j0 k f t p l true) (PseudoS f t p l) := by
    intro h
    refine Ev.step (f := fun _ => some (⟨#[]⟩, 1)) (fun k => ?_) ?_
    · simp only [sum_Pseudo.j0]; rw [if_pos trivial]
    · rw [PseudoS, if_pos h]; exact Ev.now _
  by_cases h1 : mn (mn (mn f t) p) l < 0
  · refine Ev.congr (fun k => ?_) (bad ?_)
    · unfold sum_Pseudo.f; rw [if_pos h1]
    · rw [mn_lt, mn_lt, mn_lt] at h1; omega
  by_cases h2 : mx f t > 4294967295
  · refine Ev.congr (fun k => ?_) (bad ?_)
    · unfold sum_Pseudo.f; rw [if_neg h1, if_pos h2]
    · rw [mx_gt] at h2; omega
  by_cases h3 : p > 255
  · refine Ev.congr (fun k => ?_) (bad (by omega)); unfold sum_Pseudo.f; rw [if_neg h1, if_neg h2, if_pos h3]
  by_cases h4 : l > 65535
  · refine Ev.congr (fun k => ?_) (bad (by omega)); unfold sum_Pseudo.f; rw [if_neg h1, if_neg h2, if_neg h3, decide_eq_true h4]
  refine Ev.congr (f := fun k => sum_Pseudo.j0 k f t p l false) (fun k => ?_) ?_
  · unfold sum_Pseudo.f; rw [if_neg h1, if_neg h2, if_neg h3, decide_eq_false h4]
  rw [mn_lt, mn_lt, mn_lt] at h1
  rw [mx_gt] at h2
  obtain ⟨a, rfl⟩ := Int.eq_ofNat_of_zero_le (show 0 ≤ f by omega)
  obtain ⟨b, rfl⟩ := Int.eq_ofNat_of_zero_le (show 0 ≤ t by omega)
  obtain ⟨c, rfl⟩ := Int.eq_ofNat_of_zero_le (show 0 ≤ p by omega)
  obtain ⟨d, rfl⟩ := Int.eq_ofNat_of_zero_le (show 0 ≤ l by omega)
  have e4 : 256 ^ 4 = 4294967296 := by decide
  have e2 : 256 ^ 2 = 65536 := by decide
  refine Ev.step (f := fun k => sum_Pseudo.l0 k (mkB []) [(a : Int), (b : Int), (c : Int), (d : Int)] 4 ((0 : Nat) : Int)) (fun k => ?_) ?_
  · simp only [sum_Pseudo.j0, Option.bind_some]; rw [if_neg (by decide)]; rfl
  · refine pseudo_step _ [] 0 a 4 _ (by omega) rfl rfl rfl (by omega) (by omega) (by omega) (by omega) (by simp) ?_
    refine pseudo_step _ _ 1 b 4 _ (by omega) rfl rfl rfl (by omega) (by omega) (by omega) (by omega) (by simp [SP.bytesN_len]) ?_
    refine pseudo_step _ _ 2 c 2 _ (by omega) rfl rfl rfl (by omega) (by omega) (by omega) (by omega) (by simp [SP.bytesN_len]) ?_
    refine pseudo_step _ _ 3 d 2 _ (by omega) rfl rfl rfl (by omega) (by omega) (by omega) (by omega) (by simp [SP.bytesN_len]) ?_
    refine Ev.step (f := fun _ => some (mkB ([] ++ SP.bytesN a 4 ++ SP.bytesN b 4 ++ SP.bytesN c 2 ++ SP.bytesN d 2), 0)) (fun k => ?_) ?_
    · simp only [sum_Pseudo.l0]; rw [if_neg (by omega)]
    · rw [PseudoS, if_neg (by omega), nat_toNat, nat_toNat, nat_toNat, nat_toNat, List.nil_append]; exact Ev.now _
theorem Ev.ite {α : Type} {c : Prop} [Decidable c] {g f : Nat → Option α} {r : α} (h : c → Ev g r) (h' : ¬ c → Ev f r) : Ev (fun k => if c then g k else f k) r := by
  by_cases hc : c
  · exact Ev.pos hc (h hc)
  · exact Ev.neg hc (h' hc)
theorem Ev.val {α : Type} {g : Nat → Option α} {r r' : α} (h : Ev g r) (e : r = r') : Ev g r' := e ▸ h
theorem ite_same {α : Type} {p q : Prop} [Decidable p] [Decidable q] (h : p ↔ q) {x y : α} : (if p then x else y) = if q then x else y := by
  by_cases hp : p
  · rw [if_pos hp, if_pos (h.1 hp)]
  · rw [if_neg hp, if_neg (fun hq => hp (h.2 hq))]
/-! ### package seq: is a number one of a sequence's -/
theorem and_low (a : Int) (_h0 : -9223372036854775808 ≤ a) (_h1 : a < 9223372036854775808) (i : Nat) (hi : i ≤ 62) : Go.bits .and .i64 a ((2 ^ i - 1 : Nat) : Int) = a % ((2 ^ i : Nat) : Int) := by
  have hp : 0 < 2 ^ i := Nat.two_pow_pos i
  have hle : 2 ^ i ≤ 2 ^ 62 := Nat.pow_le_pow_right (by decide) hi
  have e62 : (2 : Nat) ^ 62 = 4611686018427387904 := by decide
  have eb : IntKind.i64.bits = 64 := rfl
  have e64 : (2 : Nat) ^ 64 = 18446744073709551616 := by decide
  have hm : (2 ^ i - 1) % 2 ^ IntKind.i64.bits = 2 ^ i - 1 := Nat.mod_eq_of_lt (by rw [eb, e64]; omega)
  simp only [Go.bits, BitVec.ofInt_natCast, BitVec.toNat_and, BitVec.toNat_ofNat, hm, BitVec.toNat_ofInt]
  rw [Nat.and_two_pow_sub_one_eq_mod, IntKind.wrap_i64, eb]
  have hd : 2 ^ 64 = 2 ^ i * 2 ^ (64 - i) := by rw [← Nat.pow_add]; congr 1; omega
  have key : (((a % ((2 ^ 64 : Nat) : Int)).toNat % 2 ^ i : Nat) : Int) = a % ((2 ^ i : Nat) : Int) := by
    rw [Int.natCast_emod, Int.toNat_of_nonneg (Int.emod_nonneg _ (by omega))]
    exact Int.emod_emod_of_dvd _ ⟨((2 ^ (64 - i) : Nat) : Int), by rw [hd, Int.natCast_mul]⟩
  have r0 := Int.emod_nonneg a (b := ((2 ^ i : Nat) : Int)) (by omega)
  have r1 := Int.emod_lt_of_pos a (b := ((2 ^ i : Nat) : Int)) (by omega)
  have key2 : (((a % (2 ^ 64 : Int)).toNat % 2 ^ i : Nat) : Int) = a % ((2 ^ i : Nat) : Int) := key
  first | rw [key] | rw [key2]
  omega
def seqOk (n : Int) : Prop := 0 ≤ n ∧ n ≤ 4294967295
instance (n : Int) : Decidable (seqOk n) := inferInstanceAs (Decidable (0 ≤ n ∧ n ≤ 4294967295))
def seqC (n : Int) : Int := if seqOk n then 0 else 1
theorem seqcheck_is (n : Int) (h0 : -9223372036854775808 ≤ n) (h1 : n < 9223372036854775808) : seq_Check.f n = some (seqC n) := by
  unfold seq_Check.f seqC
  have := and_low n h0 h1 32 (by omega)
  rw [show ((2 ^ 32 - 1 : Nat) : Int) = 4294967295 from by decide, show ((2 ^ 32 : Nat) : Int) = 4294967296 from by decide] at this
  rw [this]
  by_cases h : seqOk n
  · have h' := h
    unfold seqOk at h'
    rw [if_pos (by omega), if_pos h]
  · have h' := h
    unfold seqOk at h'
    rw [if_neg (by omega), if_neg h]
/-! ### options -/
def rgB (x : S73) : List UInt8 := SP.bytesN x.f0.toNat 4 ++ SP.bytesN x.f1.toNat 4
def rgsB (l : List S73) : List UInt8 := l.flatMap rgB
def opB (kd : Nat) (b : List UInt8) : List UInt8 := UInt8.ofNat kd :: UInt8.ofNat (2 + b.length) :: b
def oMss (m : Int) : List UInt8 := if m > 0 then opB 2 (SP.bytesN m.toNat 2) else []
def oScale (sc : Int) (sd : Bool) : List UInt8 := if sd = true then opB 3 (SP.bytesN sc.toNat 1) else []
def oSack (sk : Bool) : List UInt8 := if sk = true then opB 4 [] else []
def oStamp (st ec : Int) (sp : Bool) : List UInt8 := if sp = true then opB 8 (SP.bytesN st.toNat 4 ++ SP.bytesN ec.toNat 4) else []
def oRgs (l : List S73) : List UInt8 := if 0 < l.length then opB 5 (rgsB l) else []
def bareB (m sc st ec : Int) (sd sk sp : Bool) (l : List S73) : List UInt8 := oMss m ++ oScale sc sd ++ oSack sk ++ oStamp st ec sp ++ oRgs l
def padB (b : List UInt8) : List UInt8 := b ++ List.replicate ((4 - b.length % 4) % 4) 0
def optB (m sc st ec : Int) (sd sk sp : Bool) (l : List S73) : List UInt8 := padB (bareB m sc st ec sd sk sp l)
def rgOk (x : S73) : Prop := seqOk x.f0 ∧ seqOk x.f1 ∧ ¬ x.f0 = x.f1
instance (x : S73) : Decidable (rgOk x) := inferInstanceAs (Decidable (_ ∧ _ ∧ _))
/-- may be, but for how long they are -/
def optFit (m sc st ec : Int) (sd sk sp : Bool) (l : List S73) : Prop :=
  0 ≤ m ∧ m ≤ 65535 ∧ 0 ≤ sc ∧ sc ≤ 14 ∧ l.length ≤ 4 ∧ seqOk st ∧ seqOk ec ∧ (sd = true ∨ sc = 0) ∧ (sp = true ∨ st = 0 ∧ ec = 0) ∧ ∀ x ∈ l, rgOk x
instance (m sc st ec : Int) (sd sk sp : Bool) (l : List S73) : Decidable (optFit m sc st ec sd sk sp l) := inferInstanceAs (Decidable (_ ∧ _ ∧ _ ∧ _ ∧ _ ∧ _ ∧ _ ∧ _ ∧ _ ∧ _))
def optOk (m sc st ec : Int) (sd sk sp : Bool) (l : List S73) : Prop := optFit m sc st ec sd sk sp l ∧ (optB m sc st ec sd sk sp l).length ≤ 40
instance (m sc st ec : Int) (sd sk sp : Bool) (l : List S73) : Decidable (optOk m sc st ec sd sk sp l) := inferInstanceAs (Decidable (_ ∧ _))
theorem rgB_len (x : S73) : (rgB x).length = 8 := by simp [rgB, SP.bytesN_len]
theorem rgsB_len (l : List S73) : (rgsB l).length = 8 * l.length := by
  induction l with
  | nil => rfl
  | cons x l ih => rw [rgsB, List.flatMap_cons, List.length_append, rgB_len, List.length_cons]; rw [rgsB] at ih; omega
theorem opB_len (k : Nat) (b : List UInt8) : (opB k b).length = 2 + b.length := by simp [opB]; omega
theorem oMss_le (m : Int) : (oMss m).length ≤ 4 := by unfold oMss; split <;> simp [opB_len, SP.bytesN_len]
theorem oScale_le (sc : Int) (sd : Bool) : (oScale sc sd).length ≤ 3 := by unfold oScale; split <;> simp [opB_len, SP.bytesN_len]
theorem oSack_le (sk : Bool) : (oSack sk).length ≤ 2 := by unfold oSack; split <;> simp [opB_len]
theorem oStamp_le (st ec : Int) (sp : Bool) : (oStamp st ec sp).length ≤ 10 := by unfold oStamp; split <;> simp [opB_len, SP.bytesN_len]
theorem oRgs_le (l : List S73) : (oRgs l).length ≤ 2 + 8 * l.length := by unfold oRgs; split <;> simp [opB_len, rgsB_len]
theorem optnum_ok (n b : Nat) (hb1 : 1 ≤ b) (hb : b ≤ 6) (h : n < 256 ^ b) (hn : n < 9223372036854775808) : Ev (fun k => opts_num.f k (n : Int) (b : Int)) (mkB (SP.bytesN n b)) := by
  unfold opts_num.f
  exact Ev.bind (put_ok n b hb1 hb h hn) (Ev.now _)
theorem option_is (kd : Nat) (hk : kd < 256) (b : List UInt8) (hb : b.length ≤ 253) : opts_option.f (kd : Int) (mkB b) = some (mkB (opB kd b)) := by
  unfold opts_option.f
  simp only [Option.bind_some]
  rw [mkB_size, w64 (n := 2 + (b.length : Int)) (by omega) (by omega)]
  have e : strOfNums [(kd : Int) % 256, (2 + (b.length : Int)) % 256] = mkB [UInt8.ofNat kd, UInt8.ofNat (2 + b.length)] := by
    unfold strOfNums mkB
    simp only [List.map_cons, List.map_nil]
    rw [show (kd : Int) % 256 = ((kd : Nat) : Int) from by omega, show (2 + (b.length : Int)) % 256 = ((2 + b.length : Nat) : Int) from by omega, nat_toNat, nat_toNat]
  rw [e, mkB_append, if_pos (by simp only [mkB_size, List.length_cons, List.length_nil]; omega)]
  rfl
theorem repeatL_is (a : UInt8) : ∀ n, Go.Lib.repeatL [a] n = List.replicate n a := by
  intro n
  induction n with
  | zero => rfl
  | succ n ih => rw [List.replicate_succ, ← ih]; simp [Go.Lib.repeatL, List.replicate_succ]
theorem optpad_ev (b : List UInt8) (hb : b.length ≤ 1000) : Ev (fun k => opts_text.j5 k (mkB b)) (mkB (padB b)) := by
  refine Ev.step (fun k => by simp only [opts_text.j5]; rfl) ?_
  rw [mkB_size]
  have hm := and_low (-(b.length : Int)) (by omega) (by omega) 2 (by omega)
  rw [show ((2 ^ 2 - 1 : Nat) : Int) = 3 from by decide, show ((2 ^ 2 : Nat) : Int) = 4 from by decide] at hm
  have e : -(b.length : Int) % 4 = (((4 - b.length % 4) % 4 : Nat) : Int) := by omega
  rw [hm, e]
  have hr : strings_Repeat.f (⟨#[0]⟩ : ByteArray) (((4 - b.length % 4) % 4 : Nat) : Int) = some (mkB (List.replicate ((4 - b.length % 4) % 4) 0)) := by
    unfold strings_Repeat.f
    have hs : ((⟨#[0]⟩ : ByteArray).size : Int) = 1 := rfl
    rw [hs, if_pos (by omega), nat_toNat]
    rw [show (⟨#[0]⟩ : ByteArray).data.toList = [0] from rfl, repeatL_is]; rfl
  rw [hr]
  refine Ev.bind (Ev.now _) ?_
  refine Ev.pos (by simp only [mkB_size, List.length_replicate]; omega) ?_
  rw [mkB_append]
  exact Ev.now _
section
variable (m sc st ec : Int) (sd sk sp : Bool) (l : List S73)
theorem optrgs_l0 (p : List UInt8) (hp : p.length ≤ 100) (h4 : l.length ≤ 4) (hl : ∀ x ∈ l, rgOk x) : ∀ (d i : Nat), l.length - i = d → i ≤ l.length →
    Ev (fun k => opts_text.l0 k (mkB p) (mkB (rgsB (l.take i))) l (l.length : Int) (i : Int)) (mkB (padB (p ++ opB 5 (rgsB l)))) := by
  intro d
  induction d with
  | zero =>
    intro i hd hi
    obtain rfl : i = l.length := by omega
    rw [List.take_length]
    have hlen := rgsB_len l
    refine Ev.step (fun k => by simp only [opts_text.l0]; rfl) ?_
    refine Ev.neg (by omega) ?_
    have ho := option_is 5 (by omega) (rgsB l) (by omega)
    rw [show ((5 : Nat) : Int) = 5 from rfl] at ho
    rw [ho]
    refine Ev.bind (Ev.now _) ?_
    have := opB_len 5 (rgsB l)
    refine Ev.pos (by simp only [mkB_size]; omega) ?_
    rw [mkB_append]
    exact optpad_ev _ (by rw [List.length_append]; omega)
  | succ d ih =>
    intro i hd hi
    have hlt : i < l.length := by omega
    have hx := hl l[i] (List.getElem_mem hlt)
    have hrd : rd_T73 l (i : Int) = l[i] := by simp [rd_T73, hlt]
    obtain ⟨h1, h2, h3⟩ := hx
    unfold seqOk at h1 h2
    have ht : rgsB (l.take (i + 1)) = rgsB (l.take i) ++ rgB l[i] := by
      rw [List.take_succ_eq_append_getElem hlt, rgsB, List.flatMap_append, List.flatMap_cons, List.flatMap_nil, List.append_nil, rgsB]
    have hlen := rgsB_len (l.take i)
    rw [List.length_take] at hlen
    refine Ev.step (fun k => by simp only [opts_text.l0]; rfl) ?_
    refine Ev.pos (by omega) ?_
    refine Ev.pos (by omega) ?_
    refine Ev.pos (by omega) ?_
    rw [hrd]
    obtain ⟨a, ha⟩ := Int.eq_ofNat_of_zero_le h1.1
    obtain ⟨b, hb⟩ := Int.eq_ofNat_of_zero_le h2.1
    have hrg : rgB l[i] = SP.bytesN a 4 ++ SP.bytesN b 4 := by rw [rgB, ha, hb, nat_toNat, nat_toNat]
    rw [ha, hb]
    refine Ev.bind (optnum_ok a 4 (by omega) (by omega) (by omega) (by omega)) ?_
    refine Ev.bind (optnum_ok b 4 (by omega) (by omega) (by omega) (by omega)) ?_
    refine Ev.pos (by simp only [mkB_size, SP.bytesN_len]; omega) ?_
    rw [mkB_append, mkB_append, ← hrg]
    refine Ev.pos (by simp only [mkB_size, rgB_len]; omega) ?_
    rw [← ht, w64 (by omega) (by omega)]
    exact ih (i + 1) (by omega) (by omega)
theorem opttext3 (p : List UInt8) (hp : p.length ≤ 100) (h4 : l.length ≤ 4) (hl : ∀ x ∈ l, rgOk x) : Ev (fun k => opts_text.j3 k (mkB p) m sc st ec sd sk sp l) (mkB (padB (p ++ oRgs l))) := by
  refine Ev.step (fun k => by simp only [opts_text.j3]; rfl) ?_
  refine Ev.ite (fun h => ?_) (fun h => ?_)
  · rw [oRgs, if_pos (by omega)]
    have := optrgs_l0 l p hp h4 hl l.length 0 rfl (by omega)
    rw [List.take_zero] at this
    exact this
  · rw [oRgs, if_neg (by omega), List.append_nil]
    exact optpad_ev p (by omega)
theorem opttext2 (p : List UInt8) (hp : p.length ≤ 90) (h4 : l.length ≤ 4) (hl : ∀ x ∈ l, rgOk x) (h1 : seqOk st) (h2 : seqOk ec) : Ev (fun k => opts_text.j2 k (mkB p) m sc st ec sd sk sp l) (mkB (padB (p ++ oStamp st ec sp ++ oRgs l))) := by
  unfold seqOk at h1 h2
  refine Ev.step (fun k => by simp only [opts_text.j2]; rfl) ?_
  refine Ev.ite (fun h => ?_) (fun h => ?_)
  · have hlen := oStamp_le st ec sp
    rw [oStamp, if_pos h] at hlen ⊢
    obtain ⟨a, ha⟩ := Int.eq_ofNat_of_zero_le h1.1
    obtain ⟨b, hb⟩ := Int.eq_ofNat_of_zero_le h2.1
    subst ha hb
    rw [nat_toNat, nat_toNat] at hlen ⊢
    refine Ev.bind (optnum_ok a 4 (by omega) (by omega) (by omega) (by omega)) ?_
    refine Ev.bind (optnum_ok b 4 (by omega) (by omega) (by omega) (by omega)) ?_
    refine Ev.pos (by simp only [mkB_size, SP.bytesN_len]; omega) ?_
    rw [mkB_append]
    have ho := option_is 8 (by omega) (SP.bytesN a 4 ++ SP.bytesN b 4) (by simp [SP.bytesN_len])
    rw [show ((8 : Nat) : Int) = 8 from rfl] at ho
    rw [ho]
    refine Ev.bind (Ev.now _) ?_
    refine Ev.pos (by simp only [mkB_size]; omega) ?_
    rw [mkB_append]
    exact opttext3 m sc a b sd sk sp l _ (by rw [List.length_append]; omega) h4 hl
  · rw [oStamp, if_neg h, List.append_nil]
    exact opttext3 m sc st ec sd sk sp l p (by omega) h4 hl
theorem opttext1 (p : List UInt8) (hp : p.length ≤ 80) (h4 : l.length ≤ 4) (hl : ∀ x ∈ l, rgOk x) (h1 : seqOk st) (h2 : seqOk ec) : Ev (fun k => opts_text.j1 k (mkB p) m sc st ec sd sk sp l) (mkB (padB (p ++ oSack sk ++ oStamp st ec sp ++ oRgs l))) := by
  refine Ev.step (fun k => by simp only [opts_text.j1]; rfl) ?_
  refine Ev.ite (fun h => ?_) (fun h => ?_)
  · have hlen := oSack_le sk
    rw [oSack, if_pos h] at hlen ⊢
    have ho := option_is 4 (by omega) [] (by simp)
    rw [show ((4 : Nat) : Int) = 4 from rfl] at ho
    rw [show (⟨#[]⟩ : ByteArray) = mkB [] from rfl, ho]
    refine Ev.bind (Ev.now _) ?_
    refine Ev.pos (by simp only [mkB_size]; omega) ?_
    rw [mkB_append]
    exact opttext2 m sc st ec sd sk sp l _ (by rw [List.length_append]; omega) h4 hl h1 h2
  · rw [oSack, if_neg h, List.append_nil]
    exact opttext2 m sc st ec sd sk sp l p (by omega) h4 hl h1 h2
theorem opttext0 (p : List UInt8) (hp : p.length ≤ 70) (h4 : l.length ≤ 4) (hl : ∀ x ∈ l, rgOk x) (h1 : seqOk st) (h2 : seqOk ec) (h5 : 0 ≤ sc) (h6 : sc ≤ 14) : Ev (fun k => opts_text.j0 k (mkB p) m sc st ec sd sk sp l) (mkB (padB (p ++ oScale sc sd ++ oSack sk ++ oStamp st ec sp ++ oRgs l))) := by
  refine Ev.step (fun k => by simp only [opts_text.j0]; rfl) ?_
  refine Ev.ite (fun h => ?_) (fun h => ?_)
  · have hlen := oScale_le sc sd
    rw [oScale, if_pos h] at hlen ⊢
    obtain ⟨a, ha⟩ := Int.eq_ofNat_of_zero_le h5
    subst ha
    rw [nat_toNat] at hlen ⊢
    refine Ev.bind (optnum_ok a 1 (by omega) (by omega) (by omega) (by omega)) ?_
    have ho := option_is 3 (by omega) (SP.bytesN a 1) (by simp [SP.bytesN_len])
    rw [show ((3 : Nat) : Int) = 3 from rfl] at ho
    rw [ho]
    refine Ev.bind (Ev.now _) ?_
    refine Ev.pos (by simp only [mkB_size]; omega) ?_
    rw [mkB_append]
    exact opttext1 m a st ec sd sk sp l _ (by rw [List.length_append]; omega) h4 hl h1 h2
  · rw [oScale, if_neg h, List.append_nil]
    exact opttext1 m sc st ec sd sk sp l p (by omega) h4 hl h1 h2
theorem opttext_ev (h : optFit m sc st ec sd sk sp l) : Ev (fun k => opts_text.f k m sc st ec sd sk sp l) (mkB (optB m sc st ec sd sk sp l)) := by
  obtain ⟨m0, m1, s0, s1, h4, h1, h2, _, _, hl⟩ := h
  unfold opts_text.f optB bareB
  refine Ev.ite (fun h => ?_) (fun h => ?_)
  · have hlen := oMss_le m
    rw [oMss, if_pos h] at hlen ⊢
    obtain ⟨a, ha⟩ := Int.eq_ofNat_of_zero_le m0
    subst ha
    rw [nat_toNat] at hlen ⊢
    refine Ev.bind (optnum_ok a 2 (by omega) (by omega) (by omega) (by omega)) ?_
    have ho := option_is 2 (by omega) (SP.bytesN a 2) (by simp [SP.bytesN_len])
    rw [show ((2 : Nat) : Int) = 2 from rfl] at ho
    rw [ho]
    refine Ev.bind (Ev.now _) ?_
    refine Ev.pos (by simp only [mkB_size]; omega) ?_
    rw [show (⟨#[]⟩ : ByteArray) = mkB [] from rfl, mkB_append, List.nil_append]
    exact opttext0 a sc st ec sd sk sp l _ (by omega) h4 hl h1 h2 s0 s1
  · rw [oMss, if_neg h, List.nil_append]
    have := opttext0 m sc st ec sd sk sp l [] (by simp) h4 hl h1 h2 s0 s1
    rw [List.nil_append] at this
    exact this
end
theorem rgfit {x : S73} (h : fit73 x) : (-9223372036854775808 ≤ x.f0 ∧ x.f0 < 9223372036854775808) ∧ -9223372036854775808 ≤ x.f1 ∧ x.f1 < 9223372036854775808 := ⟨wf64 h.1, wf64 h.2⟩
theorem rgtest (x : S73) (h : fit73 x) : api_Range_51.p x = !decide (rgOk x) := by
  obtain ⟨⟨h1, h2⟩, h3, h4⟩ := rgfit h
  unfold api_Range_51.p opts_Check_1.f
  rw [seqcheck_is _ h1 h2, seqcheck_is _ h3 h4]
  simp only [Option.bind_some]
  unfold seqC
  by_cases a : seqOk x.f0
  · by_cases b : seqOk x.f1
    · rw [if_pos a, if_pos b, if_neg (by decide)]
      by_cases c : x.f0 = x.f1
      · rw [decide_eq_false (fun hh => hh.2.2 c)]; simp [c]
      · rw [decide_eq_true (show rgOk x from ⟨a, b, c⟩)]; simp [c]
    · rw [if_pos a, if_neg b, if_pos (by decide), decide_eq_false (fun hh => b hh.2.1)]; rfl
  · by_cases b : seqOk x.f1
    · rw [if_neg a, if_pos b, if_pos (by decide), decide_eq_false (fun hh => a hh.1)]; rfl
    · rw [if_neg a, if_neg b, if_pos (by decide), decide_eq_false (fun hh => a hh.1)]; rfl
theorem rgany (l : List S73) (h : ∀ x ∈ l, fit73 x) : l.any api_Range_51.p = true ↔ ¬ ∀ x ∈ l, rgOk x := by
  rw [List.any_eq_true]
  constructor
  · rintro ⟨x, hx, hp⟩ hall
    rw [rgtest x (h x hx), decide_eq_true (hall x hx)] at hp
    exact absurd hp (by decide)
  · intro hn
    refine Classical.byContradiction fun hc => hn fun x hx => ?_
    refine Classical.byContradiction fun hr => hc ⟨x, hx, ?_⟩
    rw [rgtest x (h x hx), decide_eq_false hr]; rfl
def optC (m sc st ec : Int) (sd sk sp : Bool) (l : List S73) : Int := if optOk m sc st ec sd sk sp l then 0 else 70
section
variable (m sc st ec : Int) (sd sk sp : Bool) (l : List S73)
theorem optC_no (h : ¬ optFit m sc st ec sd sk sp l) : optC m sc st ec sd sk sp l = 70 := by
  unfold optC; rw [if_neg (fun h2 => h h2.1)]
theorem optbad2 : Ev (fun k => opts_Check.j2 k true m sc st ec sd sk sp l) 70 := by
  refine Ev.step (fun k => by simp only [opts_Check.j2]; rfl) ?_
  exact Ev.pos trivial (Ev.now _)
theorem optbad1 : Ev (fun k => opts_Check.j1 k true m sc st ec sd sk sp l) 70 := by
  refine Ev.step (fun k => by simp only [opts_Check.j1]; rfl) ?_
  exact Ev.pos trivial (optbad2 m sc st ec sd sk sp l)
theorem optbad0 : Ev (fun k => opts_Check.j0 k true m sc st ec sd sk sp l) 70 := by
  refine Ev.step (fun k => by simp only [opts_Check.j0]; rfl) ?_
  exact Ev.pos trivial (optbad1 m sc st ec sd sk sp l)
theorem optcheck2 (hl : l.length < 1000000000000000 ∧ ∀ x ∈ l, fit73 x) (h : (∀ x ∈ l, rgOk x) → optFit m sc st ec sd sk sp l) : Ev (fun k => opts_Check.j2 k false m sc st ec sd sk sp l) (optC m sc st ec sd sk sp l) := by
  refine Ev.step (fun k => by simp only [opts_Check.j2]; rfl) ?_
  refine Ev.neg (by decide) ?_
  have hf : api_Range_51.f l 52 = some (l.any api_Range_51.p) := by
    unfold api_Range_51.f
    rw [if_pos ⟨rfl, by omega⟩]
  rw [hf]
  refine Ev.bind (Ev.now _) ?_
  refine Ev.ite (fun ha => ?_) (fun ha => ?_)
  · refine Ev.val (Ev.now _) (optC_no m sc st ec sd sk sp l fun hh => ?_).symm
    exact (rgany l hl.2).mp ha hh.2.2.2.2.2.2.2.2.2
  · have hall : ∀ x ∈ l, rgOk x := Classical.byContradiction fun hn => ha ((rgany l hl.2).mpr hn)
    refine Ev.bind (opttext_ev m sc st ec sd sk sp l (h hall)) ?_
    rw [mkB_size]
    refine Ev.ite (fun hb => ?_) (fun hb => ?_)
    · refine Ev.val (Ev.now _) ?_
      unfold optC; rw [if_neg (fun h2 => by have := h2.2; omega)]
    · refine Ev.val (Ev.now _) ?_
      unfold optC; rw [if_pos ⟨h hall, by omega⟩]
theorem optcheck1 (hl : l.length < 1000000000000000 ∧ ∀ x ∈ l, fit73 x) (m0 : 0 ≤ m) (m1 : m ≤ 65535) (s0 : 0 ≤ sc) (s1 : sc ≤ 14) (h4 : l.length ≤ 4) (h1 : seqOk st) (h2 : seqOk ec) : Ev (fun k => opts_Check.j1 k false m sc st ec sd sk sp l) (optC m sc st ec sd sk sp l) := by
  refine Ev.step (fun k => by simp only [opts_Check.j1]; rfl) ?_
  refine Ev.neg (by decide) ?_
  have h1' := h1
  have h2' := h2
  unfold seqOk at h1' h2'
  have two : (sd = true ∨ sc = 0) → Ev (fun k => if sp = true then opts_Check.j2 k false m sc st ec sd sk sp l else opts_Check.j2 k (decide (mx st ec > 0)) m sc st ec sd sk sp l) (optC m sc st ec sd sk sp l) := by
    intro hsd
    refine Ev.ite (fun hp => ?_) (fun hp => ?_)
    · exact optcheck2 m sc st ec sd sk sp l hl fun hall => ⟨m0, m1, s0, s1, h4, h1, h2, hsd, .inl hp, hall⟩
    · by_cases hz : st = 0 ∧ ec = 0
      · rw [decide_eq_false (fun hh => by rw [mx_gt] at hh; omega)]
        exact optcheck2 m sc st ec sd sk sp l hl fun hall => ⟨m0, m1, s0, s1, h4, h1, h2, hsd, .inr hz, hall⟩
      · rw [decide_eq_true (by rw [mx_gt]; omega)]
        refine Ev.val (optbad2 m sc st ec sd sk sp l) (optC_no m sc st ec sd sk sp l fun hh => ?_).symm
        rcases hh.2.2.2.2.2.2.2.2.1 with h | h
        · exact hp h
        · exact hz h
  refine Ev.ite (fun hd => two (.inl hd)) (fun hd => ?_)
  refine Ev.ite (fun hs => ?_) (fun hs => two (.inr (by omega)))
  refine Ev.val (optbad2 m sc st ec sd sk sp l) (optC_no m sc st ec sd sk sp l fun hh => ?_).symm
  rcases hh.2.2.2.2.2.2.2.1 with h | h
  · exact hd h
  · omega
theorem optcheck_ev (hst : -9223372036854775808 ≤ st ∧ st < 9223372036854775808) (hec : -9223372036854775808 ≤ ec ∧ ec < 9223372036854775808) (hl : l.length < 1000000000000000 ∧ ∀ x ∈ l, fit73 x) : Ev (fun k => opts_Check.f k m sc st ec sd sk sp l) (optC m sc st ec sd sk sp l) := by
  have bad : ¬ optFit m sc st ec sd sk sp l → Ev (fun k => opts_Check.j0 k true m sc st ec sd sk sp l) (optC m sc st ec sd sk sp l) := fun h => Ev.val (optbad0 m sc st ec sd sk sp l) (optC_no m sc st ec sd sk sp l h).symm
  unfold opts_Check.f
  refine Ev.ite (fun h => bad fun hh => by have := hh.1; omega) (fun m0 => ?_)
  refine Ev.ite (fun h => bad fun hh => by have := hh.2.1; omega) (fun m1 => ?_)
  refine Ev.ite (fun h => bad fun hh => by have := hh.2.2.1; omega) (fun s0 => ?_)
  refine Ev.ite (fun h => bad fun hh => by have := hh.2.2.2.1; omega) (fun s1 => ?_)
  by_cases h4 : (l.length : Int) > 4
  · rw [decide_eq_true h4]
    exact bad fun hh => by have := hh.2.2.2.2.1; omega
  · rw [decide_eq_false h4]
    refine Ev.step (fun k => by simp only [opts_Check.j0]; rfl) ?_
    refine Ev.neg (by decide) ?_
    rw [seqcheck_is st hst.1 hst.2, seqcheck_is ec hec.1 hec.2]
    refine Ev.bind (Ev.now _) ?_
    refine Ev.bind (Ev.now _) ?_
    have bad1 : ¬ optFit m sc st ec sd sk sp l → Ev (fun k => opts_Check.j1 k true m sc st ec sd sk sp l) (optC m sc st ec sd sk sp l) := fun h => Ev.val (optbad1 m sc st ec sd sk sp l) (optC_no m sc st ec sd sk sp l h).symm
    unfold seqC
    by_cases a : seqOk st
    · by_cases b : seqOk ec
      · rw [if_pos a, if_pos b, decide_eq_false (by decide)]
        exact optcheck1 m sc st ec sd sk sp l hl (by omega) (by omega) (by omega) (by omega) (by omega) a b
      · rw [if_pos a, if_neg b, decide_eq_true (by decide)]
        exact bad1 fun hh => b hh.2.2.2.2.2.2.1
    · have hx : mx (if seqOk st then 0 else 1) (if seqOk ec then 0 else 1) > 0 := by rw [if_neg a, mx_gt]; omega
      rw [decide_eq_true hx]
      exact bad1 fun hh => a hh.2.2.2.2.2.1
end
section
variable (m sc st ec : Int) (sd sk sp : Bool) (l : List S73)
/-- the bytes of options that may be, and whether they may -/
def optE : ByteArray × Int := if optOk m sc st ec sd sk sp l then (mkB (optB m sc st ec sd sk sp l), 0) else (⟨#[]⟩, 70)
theorem optenc_ev (hst : -9223372036854775808 ≤ st ∧ st < 9223372036854775808) (hec : -9223372036854775808 ≤ ec ∧ ec < 9223372036854775808) (hl : l.length < 1000000000000000 ∧ ∀ x ∈ l, fit73 x) : Ev (fun k => opts_Encode.f k m sc st ec sd sk sp l) (optE m sc st ec sd sk sp l) := by
  unfold opts_Encode.f
  refine Ev.bind (optcheck_ev m sc st ec sd sk sp l hst hec hl) ?_
  by_cases h : optOk m sc st ec sd sk sp l
  · rw [optC, if_pos h, optE, if_pos h]
    refine Ev.pos rfl ?_
    refine Ev.bind (opttext_ev m sc st ec sd sk sp l h.1) (Ev.now _)
  · rw [optC, if_neg h, optE, if_neg h]
    exact Ev.neg (by decide) (Ev.now _)
end
theorem pad_four (b : List UInt8) : (padB b).length % 4 = 0 := by
  unfold padB; rw [List.length_append, List.length_replicate]; omega
/-! ### segments -/
theorem and_nat (a b : Nat) (ha : a < 2 ^ 62) (hb : b < 2 ^ 62) : Go.bits .and .i64 (a : Int) (b : Int) = ((a &&& b : Nat) : Int) := by
  have hw : ∀ n : Int, 0 ≤ n → n < 2 ^ 62 → IntKind.i64.wrap n = n := by
    intro n h0 h1; rw [IntKind.wrap_i64]; have : (2 : Int) ^ 62 = 4611686018427387904 := by decide
    omega
  exact (bits_nat .i64 62 (by decide) hw a b ha hb).1
def has (f b : Int) : Bool := Go.bits .and .i64 f b == b
def segOk (p q sq ak fl wn ug : Int) (m sc st ec : Int) (sd sk sp : Bool) (l : List S73) (x : ByteArray) : Prop :=
  (0 ≤ p ∧ p ≤ 65535) ∧ (0 ≤ q ∧ q ≤ 65535) ∧ (0 ≤ wn ∧ wn ≤ 65535) ∧ (0 ≤ ug ∧ ug ≤ 65535) ∧ (0 ≤ fl ∧ fl ≤ 63) ∧ seqOk sq ∧ seqOk ak ∧ optOk m sc st ec sd sk sp l ∧ x.size ≤ 1480 ∧ (ak = 0 ∨ has fl 16 = true) ∧ (ug = 0 ∨ has fl 32 = true)
instance (p q sq ak fl wn ug : Int) (m sc st ec : Int) (sd sk sp : Bool) (l : List S73) (x : ByteArray) : Decidable (segOk p q sq ak fl wn ug m sc st ec sd sk sp l x) := inferInstanceAs (Decidable (_ ∧ _ ∧ _ ∧ _ ∧ _ ∧ _ ∧ _ ∧ _ ∧ _ ∧ _ ∧ _))
def segC (p q sq ak fl wn ug : Int) (m sc st ec : Int) (sd sk sp : Bool) (l : List S73) (x : ByteArray) : Int := if segOk p q sq ak fl wn ug m sc st ec sd sk sp l x then 0 else 80
section
variable (p q sq ak fl wn ug : Int) (m sc st ec : Int) (sd sk sp : Bool) (l : List S73) (x : ByteArray)
theorem seghas_is (b : Int) : seg_Has.f p q sq ak fl wn ug m sc st ec sd sk sp l x b = some (has fl b) := rfl
theorem segC_no (h : ¬ segOk p q sq ak fl wn ug m sc st ec sd sk sp l x) : segC p q sq ak fl wn ug m sc st ec sd sk sp l x = 80 := by unfold segC; rw [if_neg h]
theorem segC_ok (h : segOk p q sq ak fl wn ug m sc st ec sd sk sp l x) : segC p q sq ak fl wn ug m sc st ec sd sk sp l x = 0 := by unfold segC; rw [if_pos h]
theorem seg2 (b : Bool) (h : b = true ↔ ¬ segOk p q sq ak fl wn ug m sc st ec sd sk sp l x) : Ev (fun k => seg_Check.j2 k b) (segC p q sq ak fl wn ug m sc st ec sd sk sp l x) := by
  refine Ev.step (fun k => by simp only [seg_Check.j2]; rfl) ?_
  cases b with
  | true => exact Ev.pos rfl (Ev.val (Ev.now _) (segC_no p q sq ak fl wn ug m sc st ec sd sk sp l x (h.mp rfl)).symm)
  | false => exact Ev.neg (by decide) (Ev.val (Ev.now _) (segC_ok p q sq ak fl wn ug m sc st ec sd sk sp l x (Classical.byContradiction fun hn => absurd (h.mpr hn) (by decide))).symm)
theorem segbad1 (h : ¬ segOk p q sq ak fl wn ug m sc st ec sd sk sp l x) : Ev (fun k => seg_Check.j1 k true p q sq ak fl wn ug m sc st ec sd sk sp l x) (segC p q sq ak fl wn ug m sc st ec sd sk sp l x) := by
  refine Ev.step (fun k => by simp only [seg_Check.j1]; rfl) ?_
  exact Ev.pos trivial (seg2 p q sq ak fl wn ug m sc st ec sd sk sp l x true ⟨fun _ => h, fun _ => rfl⟩)
theorem segbad0 (h : ¬ segOk p q sq ak fl wn ug m sc st ec sd sk sp l x) : Ev (fun k => seg_Check.j0 k true p q sq ak fl wn ug m sc st ec sd sk sp l x) (segC p q sq ak fl wn ug m sc st ec sd sk sp l x) := by
  refine Ev.step (fun k => by simp only [seg_Check.j0]; rfl) ?_
  exact Ev.pos trivial (segbad1 p q sq ak fl wn ug m sc st ec sd sk sp l x h)
theorem seg1 (hw : (0 ≤ p ∧ p ≤ 65535) ∧ (0 ≤ q ∧ q ≤ 65535) ∧ (0 ≤ wn ∧ wn ≤ 65535) ∧ (0 ≤ ug ∧ ug ≤ 65535) ∧ (0 ≤ fl ∧ fl ≤ 63) ∧ seqOk sq ∧ seqOk ak ∧ optOk m sc st ec sd sk sp l) : Ev (fun k => seg_Check.j1 k (decide ((x.size : Int) > 1480)) p q sq ak fl wn ug m sc st ec sd sk sp l x) (segC p q sq ak fl wn ug m sc st ec sd sk sp l x) := by
  obtain ⟨h1, h2, h3, h4, h5, h6, h7, h8⟩ := hw
  by_cases hx : (x.size : Int) > 1480
  · rw [decide_eq_true hx]
    exact segbad1 p q sq ak fl wn ug m sc st ec sd sk sp l x fun hh => by have := hh.2.2.2.2.2.2.2.2.1; omega
  · rw [decide_eq_false hx]
    have key : segOk p q sq ak fl wn ug m sc st ec sd sk sp l x ↔ (ak = 0 ∨ has fl 16 = true) ∧ (ug = 0 ∨ has fl 32 = true) := ⟨fun hh => ⟨hh.2.2.2.2.2.2.2.2.2.1, hh.2.2.2.2.2.2.2.2.2.2⟩, fun hh => ⟨h1, h2, h3, h4, h5, h6, h7, h8, by omega, hh.1, hh.2⟩⟩
    have h7' := h7
    unfold seqOk at h7'
    refine Ev.step (fun k => by simp only [seg_Check.j1]; rfl) ?_
    refine Ev.neg (by decide) ?_
    simp only [seghas_is]
    refine Ev.ite (fun ha => ?_) (fun ha => ?_)
    · refine Ev.bind (Ev.now _) ?_
      refine Ev.ite (fun hb => ?_) (fun hb => ?_)
      · refine Ev.ite (fun hc => ?_) (fun hc => ?_)
        · refine Ev.bind (Ev.now _) ?_
          refine seg2 p q sq ak fl wn ug m sc st ec sd sk sp l x _ ?_
          rw [key]
          cases hd : has fl 32
          · simp; omega
          · simp [hb]
        · refine seg2 p q sq ak fl wn ug m sc st ec sd sk sp l x _ ?_
          rw [key]
          have : ug = 0 := by omega
          simp [hb, this]
      · refine seg2 p q sq ak fl wn ug m sc st ec sd sk sp l x _ ?_
        rw [key]
        have : ¬ ak = 0 := by omega
        simp [hb, this]
    · have hz : ak = 0 := by omega
      refine Ev.ite (fun hc => ?_) (fun hc => ?_)
      · refine Ev.bind (Ev.now _) ?_
        refine seg2 p q sq ak fl wn ug m sc st ec sd sk sp l x _ ?_
        rw [key]
        cases hd : has fl 32
        · simp; omega
        · simp [hz]
      · refine seg2 p q sq ak fl wn ug m sc st ec sd sk sp l x _ ?_
        rw [key]
        have : ug = 0 := by omega
        simp [hz, this]
theorem segcheck_ev (hsq : -9223372036854775808 ≤ sq ∧ sq < 9223372036854775808) (hak : -9223372036854775808 ≤ ak ∧ ak < 9223372036854775808) (hst : -9223372036854775808 ≤ st ∧ st < 9223372036854775808) (hec : -9223372036854775808 ≤ ec ∧ ec < 9223372036854775808) (hl : l.length < 1000000000000000 ∧ ∀ x ∈ l, fit73 x) : Ev (fun k => seg_Check.f k p q sq ak fl wn ug m sc st ec sd sk sp l x) (segC p q sq ak fl wn ug m sc st ec sd sk sp l x) := by
  unfold seg_Check.f
  have bad := segbad0 p q sq ak fl wn ug m sc st ec sd sk sp l x
  refine Ev.ite (fun h => bad fun hh => ?_) (fun h1 => ?_)
  · rw [mn_lt, mn_lt, mn_lt, mn_lt] at h
    obtain ⟨h1, h2, h3, h4, h5, _⟩ := hh
    omega
  rw [mn_lt, mn_lt, mn_lt, mn_lt] at h1
  refine Ev.ite (fun h => bad fun hh => ?_) (fun h2 => ?_)
  · rw [mx_gt, mx_gt, mx_gt] at h
    obtain ⟨h1, h2, h3, h4, h5, _⟩ := hh
    omega
  rw [mx_gt, mx_gt, mx_gt] at h2
  by_cases h3 : fl > 63
  · rw [decide_eq_true h3]; exact bad fun hh => by have := hh.2.2.2.2.1; omega
  rw [decide_eq_false h3]
  refine Ev.step (fun k => by simp only [seg_Check.j0]; rfl) ?_
  refine Ev.neg (by decide) ?_
  rw [seqcheck_is sq hsq.1 hsq.2, seqcheck_is ak hak.1 hak.2]
  refine Ev.bind (Ev.now _) ?_
  refine Ev.bind (Ev.now _) ?_
  refine Ev.bind (optcheck_ev m sc st ec sd sk sp l hst hec hl) ?_
  have bad1 := segbad1 p q sq ak fl wn ug m sc st ec sd sk sp l x
  by_cases a : seqOk sq
  · by_cases b : seqOk ak
    · by_cases c : optOk m sc st ec sd sk sp l
      · refine Ev.neg (by unfold seqC optC; rw [if_pos a, if_pos b, if_pos c]; decide) ?_
        exact seg1 p q sq ak fl wn ug m sc st ec sd sk sp l x ⟨by omega, by omega, by omega, by omega, by omega, a, b, c⟩
      · exact Ev.pos (by unfold optC; rw [if_neg c, mx_gt]; exact .inr (by decide)) (bad1 fun hh => c hh.2.2.2.2.2.2.2.1)
    · exact Ev.pos (by unfold seqC; rw [if_neg b, mx_gt, mx_gt]; exact .inl (.inr (by decide))) (bad1 fun hh => b hh.2.2.2.2.2.2.1)
  · exact Ev.pos (by unfold seqC; rw [if_neg a, mx_gt, mx_gt]; exact .inl (.inl (by decide))) (bad1 fun hh => a hh.2.2.2.2.2.1)
end
def segLen (fl : Int) (x : ByteArray) : Int := (x.size : Int) + Go.bits .and .i64 fl 2 / 2 + Go.bits .and .i64 fl 1
theorem flag_small (fl : Int) (h : 0 ≤ fl ∧ fl ≤ 63) : (Go.bits .and .i64 fl 2 = 0 ∨ Go.bits .and .i64 fl 2 = 2) ∧ (Go.bits .and .i64 fl 1 = 0 ∨ Go.bits .and .i64 fl 1 = 1) := by
  obtain ⟨n, rfl⟩ := Int.eq_ofNat_of_zero_le h.1
  have h2 := and_nat n 2 (by omega) (by omega)
  have h1 := and_nat n 1 (by omega) (by omega)
  have k1 : n &&& 1 = 0 ∨ n &&& 1 = 1 := by rw [Nat.and_one_is_mod]; omega
  have k2 : n &&& 2 = 0 ∨ n &&& 2 = 2 := by
    have key : ∀ n : Fin 64, n.val &&& 2 = 0 ∨ n.val &&& 2 = 2 := by decide +kernel
    exact key ⟨n, by omega⟩
  rw [show ((2 : Nat) : Int) = 2 from rfl] at h2
  rw [show ((1 : Nat) : Int) = 1 from rfl] at h1
  rw [h2, h1]
  constructor
  · rcases k2 with e | e <;> rw [e] <;> simp
  · rcases k1 with e | e <;> rw [e] <;> simp
theorem segLen_le (fl : Int) (x : ByteArray) (h : 0 ≤ fl ∧ fl ≤ 63) (hx : x.size ≤ 140737488351232) : 0 ≤ segLen fl x ∧ segLen fl x ≤ (x.size : Int) + 2 := by
  obtain ⟨a, b⟩ := flag_small fl h
  unfold segLen
  rcases a with a | a <;> rcases b with b | b <;> rw [a, b] <;> omega
section
variable (p q sq ak fl wn ug : Int) (m sc st ec : Int) (sd sk sp : Bool) (l : List S73) (x : ByteArray)
theorem seglen_is (h : 0 ≤ fl ∧ fl ≤ 63) (hx : x.size ≤ 140737488351232) : seg_Length.f p q sq ak fl wn ug m sc st ec sd sk sp l x = some (segLen fl x) := by
  obtain ⟨a, b⟩ := flag_small fl h
  unfold seg_Length.f segLen
  generalize Go.bits .and .i64 fl 2 = u at a ⊢
  generalize Go.bits .and .i64 fl 1 = t at b ⊢
  rw [Int.tdiv_eq_ediv_of_nonneg (by omega), w64 (n := u / 2) (by omega) (by omega), w64 (n := (x.size : Int) + u / 2) (by omega) (by omega), w64 (by omega) (by omega)]
theorem seqadd_is (a b : Int) (ha : seqOk a) (hb : 0 ≤ b ∧ b ≤ 4294967296) : seq_Add.f a b = some ((a + b) % 4294967296, 0) := by
  have ha' := ha
  unfold seqOk at ha'
  unfold seq_Add.f seq_within.f
  rw [seqcheck_is a (by omega) (by omega), seqC, if_pos ha]
  simp only [Option.bind_some]
  rw [if_pos trivial, if_pos (by omega)]
  simp only [Option.bind_some]
  rw [if_pos (decide_eq_true (by omega)), w64 (by omega) (by omega)]
  have := and_low (a + b) (by omega) (by omega) 32 (by omega)
  rw [show ((2 ^ 32 - 1 : Nat) : Int) = 4294967295 from by decide, show ((2 ^ 32 : Nat) : Int) = 4294967296 from by decide] at this
  rw [this]
def segR : Int × Int × Int × Int × Int × Int × Int × Int × Int × Int × Int × Bool × Bool × Bool × List S73 × ByteArray × Bool :=
  if segOk p q sq ak fl wn ug m sc st ec sd sk sp l x ∧ has fl 4 = false then
    if has fl 16 = true then (q, p, ak, 0, 4, 0, 0, 0, 0, 0, 0, false, false, false, [], ⟨#[]⟩, true) else (q, p, 0, (sq + segLen fl x) % 4294967296, 20, 0, 0, 0, 0, 0, 0, false, false, false, [], ⟨#[]⟩, true)
  else (0, 0, 0, 0, 0, 0, 0, 0, 0, 0, 0, false, false, false, [], ⟨#[]⟩, false)
theorem segR_no (h : ¬ (segOk p q sq ak fl wn ug m sc st ec sd sk sp l x ∧ has fl 4 = false)) : Ev (fun k => seg_Reset.j0 k true p q sq ak fl wn ug m sc st ec sd sk sp l x) (segR p q sq ak fl wn ug m sc st ec sd sk sp l x) := by
  refine Ev.step (fun k => by simp only [seg_Reset.j0]; rfl) ?_
  refine Ev.pos trivial (Ev.val (Ev.now _) ?_)
  unfold segR; rw [if_neg h]
theorem segreset_ev (hsq : -9223372036854775808 ≤ sq ∧ sq < 9223372036854775808) (hak : -9223372036854775808 ≤ ak ∧ ak < 9223372036854775808) (hst : -9223372036854775808 ≤ st ∧ st < 9223372036854775808) (hec : -9223372036854775808 ≤ ec ∧ ec < 9223372036854775808) (hl : l.length < 1000000000000000 ∧ ∀ x ∈ l, fit73 x) : Ev (fun k => seg_Reset.f k p q sq ak fl wn ug m sc st ec sd sk sp l x) (segR p q sq ak fl wn ug m sc st ec sd sk sp l x) := by
  unfold seg_Reset.f
  refine Ev.bind (segcheck_ev p q sq ak fl wn ug m sc st ec sd sk sp l x hsq hak hst hec hl) ?_
  by_cases h : segOk p q sq ak fl wn ug m sc st ec sd sk sp l x
  · rw [segC_ok p q sq ak fl wn ug m sc st ec sd sk sp l x h]
    refine Ev.pos rfl ?_
    rw [seghas_is]
    refine Ev.bind (Ev.now _) ?_
    cases h4 : has fl 4
    · refine Ev.step (fun k => by simp only [seg_Reset.j0]; rfl) ?_
      refine Ev.neg (by decide) ?_
      rw [seghas_is]
      refine Ev.bind (Ev.now _) ?_
      have hf := h.2.2.2.2.1
      have hx := h.2.2.2.2.2.2.2.2.1
      refine Ev.ite (fun h16 => ?_) (fun h16 => ?_)
      · refine Ev.val (Ev.now _) ?_
        unfold segR; rw [if_pos ⟨h, h4⟩, if_pos h16]
      · rw [seglen_is p q sq ak fl wn ug m sc st ec sd sk sp l x hf (by omega)]
        refine Ev.bind (Ev.now _) ?_
        have hb := segLen_le fl x hf (by omega)
        rw [seqadd_is sq (segLen fl x) h.2.2.2.2.2.1 (by omega)]
        refine Ev.bind (Ev.now _) ?_
        refine Ev.val (Ev.now _) ?_
        unfold segR; rw [if_pos ⟨h, h4⟩, if_neg h16]
        rw [show Go.bits .or .i64 4 16 = 20 from by decide +kernel]
    · exact segR_no p q sq ak fl wn ug m sc st ec sd sk sp l x fun hh => by rw [h4] at hh; exact absurd hh.2 (by decide)
  · rw [segC_no p q sq ak fl wn ug m sc st ec sd sk sp l x h]
    exact Ev.neg (by decide) (segR_no p q sq ak fl wn ug m sc st ec sd sk sp l x fun hh => h hh.1)
end
theorem works08 : Ev (fun k => sternpostlaw08_works.f k) true := by
  unfold sternpostlaw08_works.f
  refine Ev.bind (segreset_ev 0 0 7 0 2 0 0 0 0 0 0 false false false [] ⟨#[]⟩ (by omega) (by omega) (by omega) (by omega) ⟨by decide, fun x hx => absurd hx (by simp)⟩) ?_
  have h : segR 0 0 7 0 2 0 0 0 0 0 0 false false false [] ⟨#[]⟩ = (0, 0, 0, 8, 20, 0, 0, 0, 0, 0, 0, false, false, false, [], ⟨#[]⟩, true) := by
    have hok : segOk 0 0 7 0 2 0 0 0 0 0 0 false false false [] ⟨#[]⟩ := by decide +kernel
    have h4 : has 2 4 = false := by decide +kernel
    have h16 : ¬ has 2 16 = true := by decide +kernel
    have hs : (7 + segLen 2 ⟨#[]⟩) % 4294967296 = 8 := by decide +kernel
    unfold segR; rw [if_pos ⟨hok, h4⟩, if_neg h16, hs]
  rw [h]
  exact Ev.pos rfl (Ev.pos rfl (Ev.pos rfl (Ev.now _)))
theorem zero_ws (a b : List UInt8) (h : a.length % 2 = 0) (n : Nat) (hn : n < 65536) : SP.ws 0 (a ++ SP.bytesN n 2 ++ b) = SP.ws 0 a + n + SP.ws (a.length + 2) b := by
  have lp := SP.bytesN_len n 2
  have e : SP.ws a.length (SP.bytesN n 2) = n := by
    have h2 : SP.bytesN n 2 = [UInt8.ofNat (n / 2 ^ 8 % 256), UInt8.ofNat (n / 2 ^ 0 % 256)] := rfl
    have u1 : (UInt8.ofNat (n / 2 ^ 8 % 256)).toNat = n / 256 := by rw [UInt8.toNat_ofNat']; omega
    have u2 : (UInt8.ofNat (n / 2 ^ 0 % 256)).toNat = n % 256 := by rw [UInt8.toNat_ofNat']; omega
    rw [h2]; simp only [SP.ws, SP.wt, u1, u2]
    rw [if_pos h, if_neg (by omega)]; omega
  rw [List.append_assoc, SP.ws_append, SP.ws_append, lp, Nat.zero_add, e]; omega
theorem canon_whole (W : Nat) : SP.canon (W + (65535 - SP.canon W)) = 65535 := by unfold SP.canon; split <;> split <;> omega
/-! ### a segment's bytes -/
theorem segnum_ok (n b : Nat) (hb1 : 1 ≤ b) (hb : b ≤ 6) (h : n < 256 ^ b) (hn : n < 9223372036854775808) : Ev (fun k => seg_num.f k (n : Int) (b : Int)) (mkB (SP.bytesN n b)) := by
  unfold seg_num.f
  exact Ev.bind (put_ok n b hb1 hb h hn) (Ev.now _)
def segHd (p q sq ak fl wn n : Nat) : List UInt8 := SP.bytesN p 2 ++ SP.bytesN q 2 ++ SP.bytesN sq 4 ++ SP.bytesN ak 4 ++ SP.bytesN ((20 + n) / 4 * 16) 1 ++ SP.bytesN fl 1 ++ SP.bytesN wn 2
def segTl (ug : Nat) (o x : List UInt8) : List UInt8 := SP.bytesN ug 2 ++ o ++ x
def pseB (a b n : Nat) : List UInt8 := SP.bytesN a 4 ++ SP.bytesN b 4 ++ SP.bytesN 6 2 ++ SP.bytesN n 2
theorem segHd_len (p q sq ak fl wn n : Nat) : (segHd p q sq ak fl wn n).length = 16 := by simp only [segHd, List.length_append, SP.bytesN_len]
theorem segTl_len (ug : Nat) (o x : List UInt8) : (segTl ug o x).length = 2 + o.length + x.length := by simp only [segTl, List.length_append, SP.bytesN_len]
theorem pseB_len (a b n : Nat) : (pseB a b n).length = 12 := by simp only [pseB, List.length_append, SP.bytesN_len]
/-- the sum of a segment between two addresses -/
def segSm (a b p q sq ak fl wn ug : Nat) (o x : List UInt8) : Nat := 65535 - SP.canon (SP.ws 0 (pseB a b (20 + o.length + x.length) ++ segHd p q sq ak fl wn o.length ++ SP.bytesN 0 2 ++ segTl ug o x))
def segBy (a b p q sq ak fl wn ug : Nat) (o x : List UInt8) : List UInt8 := segHd p q sq ak fl wn o.length ++ SP.bytesN (segSm a b p q sq ak fl wn ug o x) 2 ++ segTl ug o x
theorem segBy_len (a b p q sq ak fl wn ug : Nat) (o x : List UInt8) : (segBy a b p q sq ak fl wn ug o x).length = 20 + o.length + x.length := by
  simp only [segBy, List.length_append, segHd_len, segTl_len, SP.bytesN_len]; omega
/-- what is sealed between two addresses is whole -/
theorem segBy_whole (a b p q sq ak fl wn ug : Nat) (o x : List UInt8) : SP.canon (SP.ws 0 (pseB a b (20 + o.length + x.length) ++ segBy a b p q sq ak fl wn ug o x)) = 65535 := by
  have l28 : (pseB a b (20 + o.length + x.length) ++ segHd p q sq ak fl wn o.length).length = 28 := by rw [List.length_append, pseB_len, segHd_len]
  have hc := SP.canon_le (SP.ws 0 (pseB a b (20 + o.length + x.length) ++ segHd p q sq ak fl wn o.length ++ SP.bytesN 0 2 ++ segTl ug o x))
  have e : pseB a b (20 + o.length + x.length) ++ segBy a b p q sq ak fl wn ug o x = (pseB a b (20 + o.length + x.length) ++ segHd p q sq ak fl wn o.length) ++ SP.bytesN (segSm a b p q sq ak fl wn ug o x) 2 ++ segTl ug o x := by
    unfold segBy; simp only [List.append_assoc]
  rw [e, zero_ws _ _ (by omega) _ (by unfold segSm; omega), segSm]
  rw [zero_ws _ _ (by omega) 0 (by omega), Nat.add_zero]
  have := canon_whole (SP.ws 0 (pseB a b (20 + o.length + x.length) ++ segHd p q sq ak fl wn o.length) + SP.ws ((pseB a b (20 + o.length + x.length) ++ segHd p q sq ak fl wn o.length).length + 2) (segTl ug o x))
  exact (congrArg SP.canon (by omega)).trans this
theorem segBy_head (a b p q sq ak fl wn ug : Nat) (o x : List UInt8) : SP.nth (segBy a b p q sq ak fl wn ug o x) 12 = (20 + o.length) / 4 * 16 % 256 := by
  have l12 : (SP.bytesN p 2 ++ SP.bytesN q 2 ++ SP.bytesN sq 4 ++ SP.bytesN ak 4).length = 12 := by simp only [List.length_append, SP.bytesN_len]
  have e : segBy a b p q sq ak fl wn ug o x = (SP.bytesN p 2 ++ SP.bytesN q 2 ++ SP.bytesN sq 4 ++ SP.bytesN ak 4) ++ UInt8.ofNat ((20 + o.length) / 4 * 16 / 2 ^ (8 * 0) % 256) :: (SP.bytesN fl 1 ++ SP.bytesN wn 2 ++ SP.bytesN (segSm a b p q sq ak fl wn ug o x) 2 ++ segTl ug o x) := by
    have h1 : SP.bytesN ((20 + o.length) / 4 * 16) 1 = [UInt8.ofNat ((20 + o.length) / 4 * 16 / 2 ^ (8 * 0) % 256)] := rfl
    unfold segBy segHd
    rw [h1]
    simp only [List.append_assoc, List.cons_append, List.nil_append]
  rw [e, SP.nth, List.getD_eq_getElem?_getD, List.getElem?_append_right (by omega), l12]
  simp
theorem segBy_data (a b p q sq ak fl wn ug : Nat) (o x : List UInt8) : (segBy a b p q sq ak fl wn ug o x).drop (20 + o.length) = x := by
  have e : segBy a b p q sq ak fl wn ug o x = (segHd p q sq ak fl wn o.length ++ SP.bytesN (segSm a b p q sq ak fl wn ug o x) 2 ++ SP.bytesN ug 2 ++ o) ++ x := by
    unfold segBy segTl; simp only [List.append_assoc]
  have l : (segHd p q sq ak fl wn o.length ++ SP.bytesN (segSm a b p q sq ak fl wn ug o x) 2 ++ SP.bytesN ug 2 ++ o).length = 20 + o.length := by
    simp only [List.length_append, segHd_len, SP.bytesN_len]
  rw [e, ← l, List.drop_left]
theorem pseudo_ok (a b n : Nat) (ha : a < 4294967296) (hb : b < 4294967296) (hn : n < 65536) : Ev (fun k => sum_Pseudo.f k (a : Int) (b : Int) 6 (n : Int)) (mkB (pseB a b n), 0) := by
  have h := pseudo_ev (a : Int) (b : Int) 6 (n : Int) ⟨by omega, by omega⟩ ⟨by omega, by omega⟩ ⟨by decide, by decide⟩ ⟨by omega, by omega⟩
  have e6 : (6 : Int).toNat = 6 := rfl
  rw [PseudoS, if_neg (by omega), e6, nat_toNat, nat_toNat, nat_toNat] at h
  unfold pseB
  exact h
def adOk (a b : Int) : Prop := seqOk a ∧ seqOk b
instance (a b : Int) : Decidable (adOk a b) := inferInstanceAs (Decidable (_ ∧ _))
theorem segadr_is (a b : Int) (ha : -9223372036854775808 ≤ a ∧ a < 9223372036854775808) (hb : -9223372036854775808 ≤ b ∧ b < 9223372036854775808) : seg_addresses.f a b = some (if adOk a b then 0 else 1) := by
  unfold seg_addresses.f
  rw [seqcheck_is a ha.1 ha.2, seqcheck_is b hb.1 hb.2]
  simp only [Option.bind_some]
  unfold seqC
  by_cases h1 : seqOk a
  · by_cases h2 : seqOk b
    · have h : adOk a b := ⟨h1, h2⟩
      rw [if_pos h1, if_pos h2, if_pos h]; rfl
    · have h : ¬ adOk a b := fun h => h2 h.2
      rw [if_pos h1, if_neg h2, if_neg h]; rfl
  · have h : ¬ adOk a b := fun h => h1 h.1
    rw [if_neg h1, if_neg h]
    by_cases h2 : seqOk b
    · rw [if_pos h2]; rfl
    · rw [if_neg h2]; rfl
section
variable (m sc st ec : Int) (sd sk sp : Bool) (l : List S73) (x : ByteArray)
/-- a segment's bytes between two addresses, and what is wrong -/
def segE (a b p q sq ak fl wn ug : Int) : ByteArray × Int :=
  if adOk a b then
    if segOk p q sq ak fl wn ug m sc st ec sd sk sp l x then (mkB (segBy a.toNat b.toNat p.toNat q.toNat sq.toNat ak.toNat fl.toNat wn.toNat ug.toNat (optB m sc st ec sd sk sp l) (SP.by_ x)), 0) else (⟨#[]⟩, 80)
  else (⟨#[]⟩, 1)
theorem segenc_ev (a b p q sq ak fl wn ug : Int) (ha : -9223372036854775808 ≤ a ∧ a < 9223372036854775808) (hb : -9223372036854775808 ≤ b ∧ b < 9223372036854775808) (hsq : -9223372036854775808 ≤ sq ∧ sq < 9223372036854775808) (hak : -9223372036854775808 ≤ ak ∧ ak < 9223372036854775808) (hst : -9223372036854775808 ≤ st ∧ st < 9223372036854775808) (hec : -9223372036854775808 ≤ ec ∧ ec < 9223372036854775808) (hl : l.length < 1000000000000000 ∧ ∀ x ∈ l, fit73 x) : Ev (fun k => seg_Encode.f k a b p q sq ak fl wn ug m sc st ec sd sk sp l x) (segE m sc st ec sd sk sp l x a b p q sq ak fl wn ug) := by
  unfold seg_Encode.f
  rw [segadr_is a b ha hb]
  refine Ev.bind (Ev.now _) ?_
  by_cases h1 : adOk a b
  · rw [segE, if_pos h1, if_pos h1]
    refine Ev.pos rfl ?_
    refine Ev.bind (segcheck_ev p q sq ak fl wn ug m sc st ec sd sk sp l x hsq hak hst hec hl) ?_
    by_cases h2 : segOk p q sq ak fl wn ug m sc st ec sd sk sp l x
    · rw [segC_ok p q sq ak fl wn ug m sc st ec sd sk sp l x h2, if_pos h2]
      refine Ev.pos rfl ?_
      refine Ev.bind (optenc_ev m sc st ec sd sk sp l hst hec hl) ?_
      have ho := h2.2.2.2.2.2.2.2.1
      rw [optE, if_pos ho]
      try dsimp only
      have hol := ho.2
      have ho4 := pad_four (bareB m sc st ec sd sk sp l)
      have ho4 : (optB m sc st ec sd sk sp l).length % 4 = 0 := ho4
      generalize optB m sc st ec sd sk sp l = o at hol ho4 ⊢
      have hxl := h2.2.2.2.2.2.2.2.2.1
      have hp := h2.1
      have hq := h2.2.1
      have hw := h2.2.2.1
      have hu := h2.2.2.2.1
      have hf := h2.2.2.2.2.1
      have hs := h2.2.2.2.2.2.1
      have hk := h2.2.2.2.2.2.2.1
      have hA := h1.1
      have hB := h1.2
      clear h2 h1 ho hl
      unfold seqOk at hs hk hA hB
      obtain ⟨a, rfl⟩ := Int.eq_ofNat_of_zero_le (show 0 ≤ a by omega)
      obtain ⟨b, rfl⟩ := Int.eq_ofNat_of_zero_le (show 0 ≤ b by omega)
      obtain ⟨p, rfl⟩ := Int.eq_ofNat_of_zero_le (show 0 ≤ p by omega)
      obtain ⟨q, rfl⟩ := Int.eq_ofNat_of_zero_le (show 0 ≤ q by omega)
      obtain ⟨sq, rfl⟩ := Int.eq_ofNat_of_zero_le (show 0 ≤ sq by omega)
      obtain ⟨ak, rfl⟩ := Int.eq_ofNat_of_zero_le (show 0 ≤ ak by omega)
      obtain ⟨fl, rfl⟩ := Int.eq_ofNat_of_zero_le (show 0 ≤ fl by omega)
      obtain ⟨wn, rfl⟩ := Int.eq_ofNat_of_zero_le (show 0 ≤ wn by omega)
      obtain ⟨ug, rfl⟩ := Int.eq_ofNat_of_zero_le (show 0 ≤ ug by omega)
      simp only [nat_toNat]
      have lx := SP.by_len x
      obtain ⟨X, rfl⟩ : ∃ X : List UInt8, x = mkB X := ⟨SP.by_ x, (mkB_by x).symm⟩
      rw [by_mkB] at lx ⊢
      rw [← lx] at hxl
      refine Ev.bind (segnum_ok p 2 (by omega) (by omega) (by omega) (by omega)) ?_
      try dsimp only
      refine Ev.bind (segnum_ok q 2 (by omega) (by omega) (by omega) (by omega)) ?_
      try dsimp only
      refine Ev.pos (by simp only [mkB_size, SP.bytesN_len]; omega) ?_
      rw [mkB_append]
      refine Ev.bind (segnum_ok sq 4 (by omega) (by omega) (by omega) (by omega)) ?_
      try dsimp only
      refine Ev.pos (by simp only [mkB_size, List.length_append, SP.bytesN_len]; omega) ?_
      rw [mkB_append]
      refine Ev.bind (segnum_ok ak 4 (by omega) (by omega) (by omega) (by omega)) ?_
      try dsimp only
      refine Ev.pos (by simp only [mkB_size, List.length_append, SP.bytesN_len]; omega) ?_
      rw [mkB_append]
      have e1 : wrap64 ((wrap64 (Int.tdiv (wrap64 (20 + ((mkB o).size : Int))) 4)) * 16) = (((20 + o.length) / 4 * 16 : Nat) : Int) := by
        rw [mkB_size, w64 (n := 20 + (o.length : Int)) (by omega) (by omega), Int.tdiv_eq_ediv_of_nonneg (by omega), w64 (n := (20 + (o.length : Int)) / 4) (by omega) (by omega), w64 (by omega) (by omega)]; omega
      rw [e1]
      clear e1
      refine Ev.bind (segnum_ok ((20 + o.length) / 4 * 16) 1 (by omega) (by omega) (by omega) (by omega)) ?_
      try dsimp only
      refine Ev.pos (by simp only [mkB_size, List.length_append, SP.bytesN_len]; omega) ?_
      rw [mkB_append]
      refine Ev.bind (segnum_ok fl 1 (by omega) (by omega) (by omega) (by omega)) ?_
      try dsimp only
      refine Ev.pos (by simp only [mkB_size, List.length_append, SP.bytesN_len]; omega) ?_
      rw [mkB_append]
      refine Ev.bind (segnum_ok wn 2 (by omega) (by omega) (by omega) (by omega)) ?_
      try dsimp only
      refine Ev.pos (by simp only [mkB_size, List.length_append, SP.bytesN_len]; omega) ?_
      rw [mkB_append]
      refine Ev.bind (segnum_ok ug 2 (by omega) (by omega) (by omega) (by omega)) ?_
      try dsimp only
      refine Ev.pos (by simp only [mkB_size, List.length_append, SP.bytesN_len]; omega) ?_
      rw [mkB_append]
      refine Ev.pos (by simp only [mkB_size, List.length_append, SP.bytesN_len]; omega) ?_
      rw [mkB_append]
      have eH : SP.bytesN p 2 ++ SP.bytesN q 2 ++ SP.bytesN sq 4 ++ SP.bytesN ak 4 ++ SP.bytesN ((20 + o.length) / 4 * 16) 1 ++ SP.bytesN fl 1 ++ SP.bytesN wn 2 = segHd p q sq ak fl wn o.length := rfl
      have eT : SP.bytesN ug 2 ++ o ++ X = segTl ug o X := rfl
      rw [eH, eT]
      have e2 : wrap64 ((wrap64 (((mkB (segHd p q sq ak fl wn o.length)).size : Int) + 2)) + ((mkB (segTl ug o X)).size : Int)) = ((20 + o.length + X.length : Nat) : Int) := by
        rw [mkB_size, mkB_size, segHd_len, segTl_len, w64 (n := ((16 : Nat) : Int) + 2) (by omega) (by omega), w64 (by omega) (by omega)]; omega
      rw [e2]
      clear e2
      refine Ev.bind (pseudo_ok a b (20 + o.length + X.length) (by omega) (by omega) (by omega)) ?_
      try dsimp only
      refine Ev.bind (segnum_ok 0 2 (by omega) (by omega) (by omega) (by omega)) ?_
      try dsimp only
      have lz := SP.bytesN_len 0 2
      have hof := of_ev [mkB (pseB a b (20 + o.length + X.length)), mkB (segHd p q sq ak fl wn o.length), mkB (SP.bytesN 0 2), mkB (segTl ug o X)] (by simp only [List.length_cons, List.length_nil]; omega) (by
        intro y hy
        simp only [List.mem_cons, List.mem_nil_iff, or_false] at hy
        rcases hy with rfl | rfl | rfl | rfl
        · rw [mkB_size, pseB_len]; omega
        · rw [mkB_size, segHd_len]; omega
        · rw [mkB_size, lz]; omega
        · rw [mkB_size, segTl_len]; omega)
      have efl : SPflat [mkB (pseB a b (20 + o.length + X.length)), mkB (segHd p q sq ak fl wn o.length), mkB (SP.bytesN 0 2), mkB (segTl ug o X)] = pseB a b (20 + o.length + X.length) ++ segHd p q sq ak fl wn o.length ++ SP.bytesN 0 2 ++ segTl ug o X := by
        simp only [SPflat, List.flatMap_cons, List.flatMap_nil, by_mkB, List.append_nil, List.append_assoc]
      have hc := SP.canon_le (SP.ws 0 (pseB a b (20 + o.length + X.length) ++ segHd p q sq ak fl wn o.length ++ SP.bytesN 0 2 ++ segTl ug o X))
      rw [OfS, efl, if_neg (by simp only [List.length_cons, List.length_nil, List.length_append, pseB_len, segHd_len, segTl_len, lz]; omega)] at hof
      refine Ev.bind hof ?_
      try dsimp only
      have e3 : (65535 - ((SP.canon (SP.ws 0 (pseB a b (20 + o.length + X.length) ++ segHd p q sq ak fl wn o.length ++ SP.bytesN 0 2 ++ segTl ug o X)) : Nat) : Int)) = ((segSm a b p q sq ak fl wn ug o X : Nat) : Int) := by unfold segSm; omega
      rw [e3]
      have hsm : segSm a b p q sq ak fl wn ug o X < 65536 := by unfold segSm; omega
      refine Ev.bind (segnum_ok (segSm a b p q sq ak fl wn ug o X) 2 (by omega) (by omega) (by omega) (by omega)) ?_
      try dsimp only
      refine Ev.pos (by simp only [mkB_size, segHd_len, SP.bytesN_len]; omega) ?_
      rw [mkB_append]
      refine Ev.pos (by simp only [mkB_size, List.length_append, segHd_len, segTl_len, SP.bytesN_len]; omega) ?_
      rw [mkB_append]
      exact Ev.now _
    · rw [segC_no p q sq ak fl wn ug m sc st ec sd sk sp l x h2, if_neg h2]
      exact Ev.neg (by decide) (Ev.now _)
  · rw [segE, if_neg h1, if_neg h1]
    exact Ev.neg (by decide) (Ev.now _)
end
theorem fold_ev : ∀ (n : Nat), n < 9223372036854775808 → Ev (fun k => sternpostref02_fold.f k (n : Int)) ((SP.canon n : Nat) : Int) := by
  intro n
  induction n using Nat.strongRecOn with
  | _ n ih =>
    intro h
    show Ev (fun k => sternpostref02_fold.l0 k (n : Int)) _
    by_cases h1 : 65535 < n
    · refine Ev.step (f := fun k => sternpostref02_fold.l0 k ((n / 65536 + n % 65536 : Nat) : Int)) (fun k => ?_) ?_
      · simp only [sternpostref02_fold.l0]
        rw [if_pos (by omega), Int.tdiv_eq_ediv_of_nonneg (by omega), Int.tmod_eq_emod_of_nonneg (by omega), w64 (n := (n : Int) / 65536) (by omega) (by omega), w64 (by omega) (by omega)]; congr 1
      · rw [← SP.canon_step h1]; exact ih _ (by omega) (by omega)
    · refine Ev.step (f := fun _ => some (n : Int)) (fun k => ?_) ?_
      · simp only [sternpostref02_fold.l0]; rw [if_neg (by omega)]
      · rw [SP.canon_small (by omega)]; exact Ev.now _
theorem refsum_l0 (s : ByteArray) (hs : s.size < 9223372036854775808) : ∀ (d i n : Nat), s.size - i = d → i ≤ s.size → n ≤ 65535 →
    Ev (fun k => sternpostref02_Sum.l0 k s (n : Int) (i : Int)) (65535 - ((SP.canon (n + SP.ws i ((SP.by_ s).drop i)) : Nat) : Int)) := by
  intro d
  induction d with
  | zero =>
    intro i n hd hi hn
    refine Ev.step (f := fun _ => some (65535 - (n : Int))) (fun k => ?_) ?_
    · simp only [sternpostref02_Sum.l0]; rw [if_neg (by omega), w64 (by omega) (by omega)]
    · rw [SP.ws_drop_end i (by rw [SP.by_len]; omega), Nat.add_zero, SP.canon_small hn]; exact Ev.now _
  | succ d ih =>
    intro i n hd hi hn
    have hlt : i < (SP.by_ s).length := by rw [SP.by_len]; omega
    have hb := SP.nth_lt (SP.by_ s) i
    have hc := SP.canon_le (n + SP.wt i (SP.nth (SP.by_ s) i))
    have hwt := SP.wt_le i ((SP.by_ s).getD i 0)
    have key : Ev (fun k => (sternpostref02_fold.f k ((n + SP.wt i (SP.nth (SP.by_ s) i) : Nat) : Int)).bind fun t => sternpostref02_Sum.l0 k s t ((i + 1 : Nat) : Int)) (65535 - ((SP.canon (n + SP.ws i ((SP.by_ s).drop i)) : Nat) : Int)) := by
      refine Ev.bind (fold_ev _ (by unfold SP.nth; omega)) ?_
      have h := ih (i + 1) (SP.canon (n + SP.wt i (SP.nth (SP.by_ s) i))) (by omega) (by omega) hc
      rw [SP.canon_add] at h
      rw [SP.ws_drop i hlt, ← Nat.add_assoc]
      exact h
    have e1 : ((i : Int) + 1) = ((i + 1 : Nat) : Int) := rfl
    have key2 : Ev (fun k => sternpostref02_Sum.j1 k s ((n + SP.wt i (SP.nth (SP.by_ s) i) : Nat) : Int) (i : Int)) (65535 - ((SP.canon (n + SP.ws i ((SP.by_ s).drop i)) : Nat) : Int)) := by
      refine Ev.step (fun k => ?_) key
      simp only [sternpostref02_Sum.j1]
      rw [w64 (n := (i : Int) + 1) (by omega) (by omega), e1]
    refine Ev.step (fun k => ?_) key2
    simp only [sternpostref02_Sum.l0]
    rw [if_pos (by omega), tmod2, bt_nth, w64 (n := (SP.nth (SP.by_ s) i : Int)) (by omega) (by omega)]
    by_cases hp : i % 2 = 0
    · rw [if_pos (by omega), if_pos (by omega), w64 (n := 256 * (SP.nth (SP.by_ s) i : Int)) (by omega) (by omega), w64 (by omega) (by omega)]
      rw [show (n : Int) + 256 * (SP.nth (SP.by_ s) i : Int) = ((n + SP.wt i (SP.nth (SP.by_ s) i) : Nat) : Int) from by unfold SP.wt; rw [if_pos hp]; omega]
    · rw [if_neg (by omega), if_pos (by omega), w64 (by omega) (by omega)]
      rw [show (n : Int) + (SP.nth (SP.by_ s) i : Int) = ((n + SP.wt i (SP.nth (SP.by_ s) i) : Nat) : Int) from by unfold SP.wt; rw [if_neg hp]; omega]
theorem refsum_ev (s : ByteArray) (hs : s.size < 9223372036854775808) : Ev (fun k => sternpostref02_Sum.f k s) (65535 - ((SP.canon (SP.ws 0 (SP.by_ s)) : Nat) : Int)) := by
  have := refsum_l0 s hs s.size 0 0 rfl (by omega) (by omega)
  rw [Nat.zero_add, List.drop_zero] at this
  exact this
theorem text_l0 (n b : Nat) (hb : b ≤ 8) : ∀ (d : Nat), d ≤ b → Ev (fun k => sternpostref02_Text.l0 k (n : Int) ((List.range (b - d)).map fun j => ((n / 2 ^ (8 * (b - 1 - j)) % 256 : Nat) : Int)) ((d : Int) - 1)) (mkB (SP.bytesN n b)) := by
  intro d
  induction d with
  | zero =>
    intro hd
    refine Ev.step (fun k => ?_) (Ev.now _)
    simp only [sternpostref02_Text.l0]; rw [if_neg (by omega)]
    congr 1
    unfold strOfNums mkB
    rw [bytesN_range, List.map_map]
    rfl
  | succ d ih =>
    intro hd
    refine Ev.step (fun k => ?_) (ih (by omega))
    simp only [sternpostref02_Text.l0]
    have e : wrap64 (8 * (((d + 1 : Nat) : Int) - 1)) = ((8 * d : Nat) : Int) := by unfold wrap64; omega
    rw [if_pos (by omega), e, if_pos (by omega), if_pos (by simp; omega), shr_pow _ _ (by omega), w64 (by omega) (by omega)]
    rw [show ((d + 1 : Nat) : Int) - 1 - 1 = (d : Int) - 1 from by omega]
    congr 1
    rw [show b - d = b - (d + 1) + 1 from by omega, List.range_succ, List.map_append]
    congr 1
    simp only [List.map_cons, List.map_nil]
    rw [show b - 1 - (b - (d + 1)) = d from by omega]
    simp
theorem text_ev (n b : Nat) (hb : b ≤ 8) : Ev (fun k => sternpostref02_Text.f k (n : Int) (b : Int)) (mkB (SP.bytesN n b)) := by
  have := text_l0 n b hb b (by omega)
  refine Ev.congr (fun k => ?_) this
  unfold sternpostref02_Text.f
  rw [w64 (by omega) (by omega), Nat.sub_self]; rfl
theorem refcheck (a : Int) : sternpostref01_Check.f a = some (if a < 0 ∨ 4294967295 < a then 1 else 0) := by
  unfold sternpostref01_Check.f
  by_cases h : a < 0
  · rw [if_pos h, if_pos (.inl h)]
  · by_cases h2 : a > 4294967295
    · rw [if_neg h, if_pos h2, if_pos (.inr h2)]
    · rw [if_neg h, if_neg h2, if_neg (by omega)]
theorem refpseudo_ev (f t p l : Int) : Ev (fun k => sternpostref02_Pseudo.f k f t p l) (PseudoS f t p l) := by
  have bad : (f < 0 ∨ t < 0 ∨ p < 0 ∨ l < 0 ∨ 4294967295 < f ∨ 4294967295 < t ∨ 255 < p ∨ 65535 < l) → Ev (fun k => sternpostref02_Pseudo.j0 k f t p l true) (PseudoS f t p l) := by
    intro h
    refine Ev.step (f := fun _ => some (⟨#[]⟩, 1)) (fun k => ?_) ?_
    · simp only [sternpostref02_Pseudo.j0]; rw [if_pos trivial]
    · rw [PseudoS, if_pos h]; exact Ev.now _
  by_cases h1 : f < 0 ∨ 4294967295 < f
  · refine Ev.congr (fun k => ?_) (bad (by omega))
    unfold sternpostref02_Pseudo.f; rw [refcheck, Option.bind_some, if_pos h1, if_neg (by decide)]
  by_cases h2 : t < 0 ∨ 4294967295 < t
  · refine Ev.congr (fun k => ?_) (bad (by omega))
    unfold sternpostref02_Pseudo.f; rw [refcheck, Option.bind_some, if_neg h1, if_pos rfl, refcheck, Option.bind_some, if_pos h2, if_neg (by decide)]
  by_cases h3 : p < 0
  · refine Ev.congr (fun k => ?_) (bad (by omega))
    unfold sternpostref02_Pseudo.f; rw [refcheck, Option.bind_some, if_neg h1, if_pos rfl, refcheck, Option.bind_some, if_neg h2, if_pos rfl, if_pos h3]
  by_cases h4 : p > 255
  · refine Ev.congr (fun k => ?_) (bad (by omega))
    unfold sternpostref02_Pseudo.f; rw [refcheck, Option.bind_some, if_neg h1, if_pos rfl, refcheck, Option.bind_some, if_neg h2, if_pos rfl, if_neg h3, if_pos h4]
  by_cases h5 : l < 0
  · refine Ev.congr (fun k => ?_) (bad (by omega))
    unfold sternpostref02_Pseudo.f; rw [refcheck, Option.bind_some, if_neg h1, if_pos rfl, refcheck, Option.bind_some, if_neg h2, if_pos rfl, if_neg h3, if_neg h4, if_pos h5]
  by_cases h6 : l > 65535
  · refine Ev.congr (fun k => ?_) (bad (by omega))
    unfold sternpostref02_Pseudo.f; rw [refcheck, Option.bind_some, if_neg h1, if_pos rfl, refcheck, Option.bind_some, if_neg h2, if_pos rfl, if_neg h3, if_neg h4, if_neg h5, decide_eq_true h6]
  refine Ev.congr (f := fun k => sternpostref02_Pseudo.j0 k f t p l false) (fun k => ?_) ?_
  · unfold sternpostref02_Pseudo.f; rw [refcheck, Option.bind_some, if_neg h1, if_pos rfl, refcheck, Option.bind_some, if_neg h2, if_pos rfl, if_neg h3, if_neg h4, if_neg h5, decide_eq_false h6]
  obtain ⟨a, rfl⟩ := Int.eq_ofNat_of_zero_le (show 0 ≤ f by omega)
  obtain ⟨b, rfl⟩ := Int.eq_ofNat_of_zero_le (show 0 ≤ t by omega)
  obtain ⟨c, rfl⟩ := Int.eq_ofNat_of_zero_le (show 0 ≤ p by omega)
  obtain ⟨d, rfl⟩ := Int.eq_ofNat_of_zero_le (show 0 ≤ l by omega)
  have l1 := SP.bytesN_len a 4
  have l2 := SP.bytesN_len b 4
  have l3 := SP.bytesN_len c 2
  have l4 := SP.bytesN_len d 2
  refine Ev.step (f := ?fz) (fun k => ?hz) ?hk
  case hz => simp only [sternpostref02_Pseudo.j0]; rw [if_neg (by decide)]
  case hk =>
    refine Ev.bind (text_ev a 4 (by omega)) ?_
    refine Ev.bind (text_ev b 4 (by omega)) ?_
    try dsimp only
    refine Ev.pos (by rw [mkB_size, mkB_size]; omega) ?_
    rw [mkB_append]
    refine Ev.bind (text_ev c 2 (by omega)) ?_
    try dsimp only
    refine Ev.pos (by rw [mkB_size, mkB_size, List.length_append]; omega) ?_
    rw [mkB_append]
    refine Ev.bind (text_ev d 2 (by omega)) ?_
    try dsimp only
    refine Ev.pos (by rw [mkB_size, mkB_size, List.length_append, List.length_append]; omega) ?_
    rw [mkB_append]
    rw [PseudoS, if_neg (by omega), nat_toNat, nat_toNat, nat_toNat, nat_toNat]
    exact Ev.now _
theorem mk_is (l : List UInt8) : (⟨l.toArray⟩ : ByteArray) = mkB l := rfl
section
variable (m sc st ec : Int) (sd sk sp : Bool) (l : List S73)
theorem refrgs_l0 (p : List UInt8) (hp : p.length ≤ 1000) (h4 : l.length ≤ 4) (hl : ∀ x ∈ l, rgOk x) : ∀ (d i : Nat), l.length - i = d → i ≤ l.length →
    Ev (fun k => sternpostref07_bare.l0 k (mkB (p ++ rgsB (l.take i))) (i : Int) m sc st ec sd sk sp l) (mkB (p ++ rgsB l)) := by
  intro d
  induction d with
  | zero =>
    intro i hd hi
    obtain rfl : i = l.length := by omega
    rw [List.take_length]
    refine Ev.step (fun k => by simp only [sternpostref07_bare.l0]; rfl) ?_
    exact Ev.neg (by omega) (Ev.now _)
  | succ d ih =>
    intro i hd hi
    have hlt : i < l.length := by omega
    have hx := hl l[i] (List.getElem_mem hlt)
    have hrd : rd_T73 l (i : Int) = l[i] := by simp [rd_T73, hlt]
    obtain ⟨h1, h2, h3⟩ := hx
    unfold seqOk at h1 h2
    have ht : rgsB (l.take (i + 1)) = rgsB (l.take i) ++ rgB l[i] := by
      rw [List.take_succ_eq_append_getElem hlt, rgsB, List.flatMap_append, List.flatMap_cons, List.flatMap_nil, List.append_nil, rgsB]
    have hlen := rgsB_len (l.take i)
    rw [List.length_take] at hlen
    refine Ev.step (fun k => by simp only [sternpostref07_bare.l0]; rfl) ?_
    refine Ev.pos (by omega) ?_
    refine Ev.pos (by omega) ?_
    rw [hrd]
    obtain ⟨a, ha⟩ := Int.eq_ofNat_of_zero_le h1.1
    obtain ⟨b, hb⟩ := Int.eq_ofNat_of_zero_le h2.1
    have hrg : rgB l[i] = SP.bytesN a 4 ++ SP.bytesN b 4 := by rw [rgB, ha, hb, nat_toNat, nat_toNat]
    rw [ha, hb]
    refine Ev.bind (text_ev a 4 (by omega)) ?_
    refine Ev.bind (text_ev b 4 (by omega)) ?_
    refine Ev.pos (by simp only [mkB_size, SP.bytesN_len]; omega) ?_
    rw [mkB_append, ← hrg]
    refine Ev.pos (by simp only [mkB_size, List.length_append, rgB_len]; omega) ?_
    rw [mkB_append, List.append_assoc, ← ht, w64 (by omega) (by omega)]
    exact ih (i + 1) (by omega) (by omega)
theorem refbare4 (p : List UInt8) (hp : p.length ≤ 1000) (h4 : l.length ≤ 4) (hl : ∀ x ∈ l, rgOk x) : Ev (fun k => sternpostref07_bare.j4 k (mkB p) m sc st ec sd sk sp l) (mkB (p ++ rgsB l)) := by
  refine Ev.step (fun k => by simp only [sternpostref07_bare.j4]; rfl) ?_
  have := refrgs_l0 m sc st ec sd sk sp l p hp h4 hl l.length 0 rfl (by omega)
  rw [List.take_zero, show rgsB ([] : List S73) = [] from rfl, List.append_nil] at this
  exact this
theorem refbare3 (p : List UInt8) (hp : p.length ≤ 900) (h4 : l.length ≤ 4) (hl : ∀ x ∈ l, rgOk x) : Ev (fun k => sternpostref07_bare.j3 k (mkB p) m sc st ec sd sk sp l) (mkB (p ++ oRgs l)) := by
  refine Ev.step (fun k => by simp only [sternpostref07_bare.j3]; rfl) ?_
  refine Ev.ite (fun h => ?_) (fun h => ?_)
  · rw [w64 (n := 8 * (l.length : Int)) (by omega) (by omega), w64 (by omega) (by omega), show (2 + 8 * (l.length : Int)) = ((2 + 8 * l.length : Nat) : Int) from by omega]
    refine Ev.bind (text_ev (2 + 8 * l.length) 1 (by omega)) ?_
    refine Ev.pos (by simp only [mkB_size, SP.bytesN_len]; omega) ?_
    rw [show (⟨#[5]⟩ : ByteArray) = mkB [5] from rfl, mkB_append]
    refine Ev.pos (by simp only [mkB_size, List.length_append, SP.bytesN_len, List.length_cons, List.length_nil]; omega) ?_
    rw [mkB_append]
    have := refbare4 m sc st ec sd sk sp l (p ++ ([5] ++ SP.bytesN (2 + 8 * l.length) 1)) (by simp only [List.length_append, SP.bytesN_len, List.length_cons, List.length_nil]; omega) h4 hl
    have e : p ++ ([5] ++ SP.bytesN (2 + 8 * l.length) 1) ++ rgsB l = p ++ oRgs l := by
      rw [oRgs, if_pos (by omega), opB, rgsB_len, List.append_assoc]
      congr 1
      simp only [SP.bytesN, List.cons_append, List.nil_append]
      rw [show (2 + 8 * l.length) / 2 ^ (8 * 0) % 256 = 2 + 8 * l.length from by simp; omega]
      rfl
    rw [← e]
    exact this
  · have hz : l = [] := List.eq_nil_of_length_eq_zero (by omega)
    subst hz
    have := refbare4 m sc st ec sd sk sp [] p (by omega) h4 hl
    exact this
theorem refbare2 (p : List UInt8) (hp : p.length ≤ 800) (h4 : l.length ≤ 4) (hl : ∀ x ∈ l, rgOk x) (h1 : seqOk st) (h2 : seqOk ec) : Ev (fun k => sternpostref07_bare.j2 k (mkB p) m sc st ec sd sk sp l) (mkB (p ++ oStamp st ec sp ++ oRgs l)) := by
  unfold seqOk at h1 h2
  refine Ev.step (fun k => by simp only [sternpostref07_bare.j2]; rfl) ?_
  refine Ev.ite (fun h => ?_) (fun h => ?_)
  · rw [oStamp, if_pos h]
    obtain ⟨a, ha⟩ := Int.eq_ofNat_of_zero_le h1.1
    obtain ⟨b, hb⟩ := Int.eq_ofNat_of_zero_le h2.1
    subst ha hb
    rw [nat_toNat, nat_toNat]
    refine Ev.bind (text_ev a 4 (by omega)) ?_
    refine Ev.pos (by simp only [mkB_size, SP.bytesN_len]; omega) ?_
    refine Ev.bind (text_ev b 4 (by omega)) ?_
    rw [show (⟨#[8, 10]⟩ : ByteArray) = mkB [8, 10] from rfl, mkB_append]
    refine Ev.pos (by simp only [mkB_size, List.length_append, SP.bytesN_len, List.length_cons, List.length_nil]; omega) ?_
    rw [mkB_append]
    refine Ev.pos (by simp only [mkB_size, List.length_append, SP.bytesN_len, List.length_cons, List.length_nil]; omega) ?_
    rw [mkB_append]
    have e : [8, 10] ++ SP.bytesN a 4 ++ SP.bytesN b 4 = opB 8 (SP.bytesN a 4 ++ SP.bytesN b 4) := by
      rw [opB, List.length_append, SP.bytesN_len, SP.bytesN_len]; rfl
    rw [e]
    exact refbare3 m sc a b sd sk sp l _ (by rw [List.length_append, opB_len, List.length_append, SP.bytesN_len, SP.bytesN_len]; omega) h4 hl
  · rw [oStamp, if_neg h, List.append_nil]
    exact refbare3 m sc st ec sd sk sp l p (by omega) h4 hl
theorem refbare1 (p : List UInt8) (hp : p.length ≤ 700) (h4 : l.length ≤ 4) (hl : ∀ x ∈ l, rgOk x) (h1 : seqOk st) (h2 : seqOk ec) : Ev (fun k => sternpostref07_bare.j1 k (mkB p) m sc st ec sd sk sp l) (mkB (p ++ oSack sk ++ oStamp st ec sp ++ oRgs l)) := by
  refine Ev.step (fun k => by simp only [sternpostref07_bare.j1]; rfl) ?_
  refine Ev.ite (fun h => ?_) (fun h => ?_)
  · rw [oSack, if_pos h]
    refine Ev.pos (by simp only [mkB_size]; omega) ?_
    rw [show (⟨#[4, 2]⟩ : ByteArray) = mkB [4, 2] from rfl, mkB_append, show ([4, 2] : List UInt8) = opB 4 [] from rfl]
    exact refbare2 m sc st ec sd sk sp l _ (by rw [List.length_append, opB_len]; simp; omega) h4 hl h1 h2
  · rw [oSack, if_neg h, List.append_nil]
    exact refbare2 m sc st ec sd sk sp l p (by omega) h4 hl h1 h2
theorem refbare0 (p : List UInt8) (hp : p.length ≤ 600) (h4 : l.length ≤ 4) (hl : ∀ x ∈ l, rgOk x) (h1 : seqOk st) (h2 : seqOk ec) (h5 : 0 ≤ sc) (h6 : sc ≤ 14) : Ev (fun k => sternpostref07_bare.j0 k (mkB p) m sc st ec sd sk sp l) (mkB (p ++ oScale sc sd ++ oSack sk ++ oStamp st ec sp ++ oRgs l)) := by
  refine Ev.step (fun k => by simp only [sternpostref07_bare.j0]; rfl) ?_
  refine Ev.ite (fun h => ?_) (fun h => ?_)
  · rw [oScale, if_pos h]
    obtain ⟨a, ha⟩ := Int.eq_ofNat_of_zero_le h5
    subst ha
    rw [nat_toNat]
    refine Ev.bind (text_ev a 1 (by omega)) ?_
    refine Ev.pos (by simp only [mkB_size, SP.bytesN_len]; omega) ?_
    rw [show (⟨#[3, 3]⟩ : ByteArray) = mkB [3, 3] from rfl, mkB_append]
    refine Ev.pos (by simp only [mkB_size, List.length_append, SP.bytesN_len, List.length_cons, List.length_nil]; omega) ?_
    rw [mkB_append, show ([3, 3] ++ SP.bytesN a 1 : List UInt8) = opB 3 (SP.bytesN a 1) from by rw [opB, SP.bytesN_len]; rfl]
    exact refbare1 m a st ec sd sk sp l _ (by rw [List.length_append, opB_len, SP.bytesN_len]; omega) h4 hl h1 h2
  · rw [oScale, if_neg h, List.append_nil]
    exact refbare1 m sc st ec sd sk sp l p (by omega) h4 hl h1 h2
theorem refbare_ev (h : optFit m sc st ec sd sk sp l) : Ev (fun k => sternpostref07_bare.f k m sc st ec sd sk sp l) (mkB (bareB m sc st ec sd sk sp l)) := by
  obtain ⟨m0, m1, s0, s1, h4, h1, h2, _, _, hl⟩ := h
  unfold sternpostref07_bare.f bareB
  refine Ev.ite (fun h => ?_) (fun h => ?_)
  · rw [oMss, if_neg (by omega), List.nil_append]
    have := refbare0 m sc st ec sd sk sp l [] (by simp) h4 hl h1 h2 s0 s1
    rw [List.nil_append] at this
    exact this
  · rw [oMss, if_pos (by omega)]
    obtain ⟨a, ha⟩ := Int.eq_ofNat_of_zero_le m0
    subst ha
    rw [nat_toNat]
    refine Ev.bind (text_ev a 2 (by omega)) ?_
    refine Ev.pos (by simp only [mkB_size, SP.bytesN_len]; omega) ?_
    rw [show (⟨#[2, 4]⟩ : ByteArray) = mkB [2, 4] from rfl, mkB_append]
    refine Ev.pos (by simp only [mkB_size, List.length_append, SP.bytesN_len, List.length_cons, List.length_nil]; omega) ?_
    rw [show (⟨#[]⟩ : ByteArray) = mkB [] from rfl, mkB_append, List.nil_append, show ([2, 4] ++ SP.bytesN a 2 : List UInt8) = opB 2 (SP.bytesN a 2) from by rw [opB, SP.bytesN_len]; rfl]
    exact refbare0 a sc st ec sd sk sp l _ (by rw [opB_len, SP.bytesN_len]; omega) h4 hl h1 h2 s0 s1
theorem refpad_l0 (b : List UInt8) (hb : b.length ≤ 1000000) : ∀ (d : Nat), (4 - b.length % 4) % 4 = d → Ev (fun k => sternpostref07_Bytes.l0 k (mkB b)) (mkB (b ++ List.replicate d 0)) := by
  intro d
  induction d generalizing b with
  | zero =>
    intro hd
    refine Ev.step (fun k => by simp only [sternpostref07_Bytes.l0]; rfl) ?_
    refine Ev.pos (by rw [mkB_size]; omega) ?_
    rw [List.replicate_zero, List.append_nil]
    exact Ev.now _
  | succ d ih =>
    intro hd
    refine Ev.step (fun k => by simp only [sternpostref07_Bytes.l0]; rfl) ?_
    refine Ev.neg (by rw [mkB_size]; omega) ?_
    refine Ev.pos (by rw [mkB_size]; omega) ?_
    rw [show (⟨#[0]⟩ : ByteArray) = mkB [0] from rfl, mkB_append]
    by_cases hlast : b.length ≤ 999999
    · have := ih (b ++ [0]) (by rw [List.length_append, List.length_cons, List.length_nil]; omega) (by rw [List.length_append, List.length_cons, List.length_nil]; omega)
      rw [List.append_assoc] at this
      exact this
    · exfalso; omega
theorem refoptbytes_ev (h : optFit m sc st ec sd sk sp l) : Ev (fun k => sternpostref07_Bytes.f k m sc st ec sd sk sp l) (mkB (optB m sc st ec sd sk sp l)) := by
  unfold sternpostref07_Bytes.f
  refine Ev.bind (refbare_ev m sc st ec sd sk sp l h) ?_
  have h4 := h.2.2.2.2.1
  have a1 := oMss_le m
  have a2 := oScale_le sc sd
  have a3 := oSack_le sk
  have a4 := oStamp_le st ec sp
  have a5 := oRgs_le l
  have hlen : (bareB m sc st ec sd sk sp l).length ≤ 1000 := by unfold bareB; simp only [List.length_append]; omega
  exact refpad_l0 (bareB m sc st ec sd sk sp l) (by omega) _ rfl
end
theorem refseq_is (n : Int) : sternpostref01_Check.f n = some (seqC n) := by
  unfold sternpostref01_Check.f seqC
  by_cases h : seqOk n
  · have h' := h
    unfold seqOk at h'
    rw [if_neg (by omega), if_neg (by omega), if_pos h]
  · have h' := h
    unfold seqOk at h'
    rw [if_neg h]
    by_cases h2 : n < 0
    · rw [if_pos h2]
    · rw [if_neg h2, if_pos (by omega)]
theorem seqC_zero (n : Int) : seqC n = 0 ↔ seqOk n := by
  unfold seqC
  by_cases h : seqOk n
  · rw [if_pos h]; exact ⟨fun _ => h, fun _ => rfl⟩
  · rw [if_neg h]; exact ⟨fun hh => absurd hh (by decide), fun hh => absurd hh h⟩
section
variable (m sc st ec : Int) (sd sk sp : Bool) (l : List S73)
theorem refoptck_l0 (hl : l.length < 1000000000000000) (h : (∀ x ∈ l, rgOk x) → optFit m sc st ec sd sk sp l) : ∀ (d i : Nat), l.length - i = d → i ≤ l.length → (∀ x ∈ l.take i, rgOk x) →
    Ev (fun k => sternpostref07_Check.l0 k (i : Int) m sc st ec sd sk sp l) (optC m sc st ec sd sk sp l) := by
  intro d
  induction d with
  | zero =>
    intro i hd hi ht
    obtain rfl : i = l.length := by omega
    rw [List.take_length] at ht
    refine Ev.step (fun k => by simp only [sternpostref07_Check.l0]; rfl) ?_
    refine Ev.neg (by omega) ?_
    refine Ev.bind (refoptbytes_ev m sc st ec sd sk sp l (h ht)) ?_
    rw [mkB_size]
    refine Ev.ite (fun hb => ?_) (fun hb => ?_)
    · refine Ev.val (Ev.now _) ?_
      unfold optC; rw [if_neg (fun h2 => by have := h2.2; omega)]
    · refine Ev.val (Ev.now _) ?_
      unfold optC; rw [if_pos ⟨h ht, by omega⟩]
  | succ d ih =>
    intro i hd hi ht
    have hlt : i < l.length := by omega
    have hrd : rd_T73 l (i : Int) = l[i] := by simp [rd_T73, hlt]
    have bad : ¬ rgOk l[i] → Ev (fun k => sternpostref07_Check.j2 k (i : Int) true m sc st ec sd sk sp l) (optC m sc st ec sd sk sp l) := by
      intro hn
      refine Ev.step (fun k => by simp only [sternpostref07_Check.j2]; rfl) ?_
      refine Ev.pos trivial (Ev.val (Ev.now _) (optC_no m sc st ec sd sk sp l fun hh => hn (hh.2.2.2.2.2.2.2.2.2 _ (List.getElem_mem hlt))).symm)
    refine Ev.step (fun k => by simp only [sternpostref07_Check.l0]; rfl) ?_
    refine Ev.pos (by omega) ?_
    refine Ev.pos (by omega) ?_
    rw [hrd, refseq_is, refseq_is]
    refine Ev.bind (Ev.now _) ?_
    refine Ev.ite (fun a => ?_) (fun a => bad fun hh => a ((seqC_zero _).mpr hh.1))
    refine Ev.bind (Ev.now _) ?_
    refine Ev.ite (fun b => ?_) (fun b => bad fun hh => b ((seqC_zero _).mpr hh.2.1))
    by_cases c : l[i].f0 = l[i].f1
    · rw [show (l[i].f0 == l[i].f1) = true from by rw [c]; exact beq_self_eq_true _]
      exact bad fun hh => hh.2.2 c
    · rw [show (l[i].f0 == l[i].f1) = false from beq_eq_false_iff_ne.mpr c]
      refine Ev.step (fun k => by simp only [sternpostref07_Check.j2]; rfl) ?_
      refine Ev.neg (by decide) ?_
      rw [w64 (by omega) (by omega)]
      refine ih (i + 1) (by omega) (by omega) fun x hx => ?_
      rw [List.take_succ_eq_append_getElem hlt, List.mem_append] at hx
      rcases hx with hx | hx
      · exact ht x hx
      · rw [List.mem_singleton] at hx
        subst hx
        exact ⟨(seqC_zero _).mp a, (seqC_zero _).mp b, c⟩
theorem refoptcheck_ev (hl : l.length < 1000000000000000) : Ev (fun k => sternpostref07_Check.f k m sc st ec sd sk sp l) (optC m sc st ec sd sk sp l) := by
  have bad : ¬ optFit m sc st ec sd sk sp l → Ev (fun k => sternpostref07_Check.j0 k true m sc st ec sd sk sp l) (optC m sc st ec sd sk sp l) := by
    intro h
    refine Ev.step (fun k => by simp only [sternpostref07_Check.j0]; rfl) ?_
    exact Ev.pos trivial (Ev.val (Ev.now _) (optC_no m sc st ec sd sk sp l h).symm)
  unfold sternpostref07_Check.f
  refine Ev.ite (fun h => bad fun hh => by have := hh.1; omega) (fun m0 => ?_)
  refine Ev.ite (fun h => bad fun hh => by have := hh.2.1; omega) (fun m1 => ?_)
  refine Ev.ite (fun h => bad fun hh => by have := hh.2.2.1; omega) (fun s0 => ?_)
  refine Ev.ite (fun h => bad fun hh => by have := hh.2.2.2.1; omega) (fun s1 => ?_)
  have last : seqOk st → seqOk ec → (sd = true ∨ sc = 0) → (sp = true ∨ st = 0 ∧ ec = 0) → Ev (fun k => sternpostref07_Check.j0 k (decide ((l.length : Int) > 4)) m sc st ec sd sk sp l) (optC m sc st ec sd sk sp l) := by
    intro h1 h2 h3 h5
    by_cases h4 : (l.length : Int) > 4
    · rw [decide_eq_true h4]; exact bad fun hh => by have := hh.2.2.2.2.1; omega
    · rw [decide_eq_false h4]
      refine Ev.step (fun k => by simp only [sternpostref07_Check.j0]; rfl) ?_
      refine Ev.neg (by decide) ?_
      exact refoptck_l0 m sc st ec sd sk sp l hl (fun hall => ⟨by omega, by omega, by omega, by omega, by omega, h1, h2, h3, h5, hall⟩) l.length 0 rfl (by omega) (fun x hx => absurd hx (by simp))
  have rest : (sd = true ∨ sc = 0) → Ev (fun k => (sternpostref01_Check.f st).bind fun t170 => (if t170 = 0 then ((sternpostref01_Check.f ec).bind fun t171 => (if t171 = 0 then (if sp = true then (sternpostref07_Check.j0 k (decide ((l.length : Int) > 4)) m sc st ec sd sk sp l) else (if st = 0 then (if ec = 0 then (sternpostref07_Check.j0 k (decide ((l.length : Int) > 4)) m sc st ec sd sk sp l) else (sternpostref07_Check.j0 k true m sc st ec sd sk sp l)) else (sternpostref07_Check.j0 k true m sc st ec sd sk sp l))) else (sternpostref07_Check.j0 k true m sc st ec sd sk sp l))) else (sternpostref07_Check.j0 k true m sc st ec sd sk sp l))) (optC m sc st ec sd sk sp l) := by
    intro hsd
    rw [refseq_is, refseq_is]
    refine Ev.bind (Ev.now _) ?_
    refine Ev.ite (fun a => ?_) (fun a => bad fun hh => a ((seqC_zero _).mpr hh.2.2.2.2.2.1))
    refine Ev.bind (Ev.now _) ?_
    refine Ev.ite (fun b => ?_) (fun b => bad fun hh => b ((seqC_zero _).mpr hh.2.2.2.2.2.2.1))
    have a := (seqC_zero _).mp a
    have b := (seqC_zero _).mp b
    refine Ev.ite (fun c => last a b hsd (.inl c)) (fun c => ?_)
    have no : ¬ (st = 0 ∧ ec = 0) → ¬ optFit m sc st ec sd sk sp l := fun hz hh => by
      rcases hh.2.2.2.2.2.2.2.2.1 with h | h
      · exact c h
      · exact hz h
    refine Ev.ite (fun d => ?_) (fun d => bad (no fun hz => d hz.1))
    exact Ev.ite (fun e => last a b hsd (.inr ⟨d, e⟩)) (fun e => bad (no fun hz => e hz.2))
  refine Ev.ite (fun hd => rest (.inl hd)) (fun hd => ?_)
  refine Ev.ite (fun hz => rest (.inr hz)) (fun hz => bad fun hh => ?_)
  rcases hh.2.2.2.2.2.2.2.1 with h | h
  · exact hd h
  · exact hz h
end
/-! ### the document's segments -/
section
variable (p q sq ak fl wn ug : Int) (m sc st ec : Int) (sd sk sp : Bool) (l : List S73) (x : ByteArray)
theorem refseghas_is (b : Int) : sternpostref08_Has.f p q sq ak fl wn ug m sc st ec sd sk sp l x b = some (has fl b) := rfl
theorem refsegcheck4 (hl : l.length < 1000000000000000) (hp : 0 ≤ p ∧ p ≤ 65535) (hq : 0 ≤ q ∧ q ≤ 65535) (hw : 0 ≤ wn ∧ wn ≤ 65535) (hu : 0 ≤ ug ∧ ug ≤ 65535) : Ev (fun k => sternpostref08_Check.l0 k [p, q, wn, ug] 4 p q sq ak fl wn ug m sc st ec sd sk sp l x) (segC p q sq ak fl wn ug m sc st ec sd sk sp l x) := by
  have bad : ¬ segOk p q sq ak fl wn ug m sc st ec sd sk sp l x → Ev (fun _ => some 80) (segC p q sq ak fl wn ug m sc st ec sd sk sp l x) := fun h => Ev.val (Ev.now _) (segC_no p q sq ak fl wn ug m sc st ec sd sk sp l x h).symm
  refine Ev.step (fun k => by simp only [sternpostref08_Check.l0]; rfl) ?_
  refine Ev.neg (by simp only [List.length_cons, List.length_nil]; omega) ?_
  unfold sternpostref08_Check_tail.f
  rw [refseq_is, refseq_is]
  simp only [refseghas_is]
  refine Ev.bind (Ev.now _) ?_
  refine Ev.ite (fun h1 => ?_) (fun h1 => bad fun h => h1 ((seqC_zero sq).mpr h.2.2.2.2.2.1))
  have h1 := (seqC_zero sq).mp h1
  refine Ev.bind (Ev.now _) ?_
  refine Ev.ite (fun h2 => ?_) (fun h2 => bad fun h => h2 ((seqC_zero ak).mpr h.2.2.2.2.2.2.1))
  have h2 := (seqC_zero ak).mp h2
  refine Ev.ite (fun h3 => bad fun h => by have := h.2.2.2.2.1; omega) (fun h3 => ?_)
  refine Ev.ite (fun h4 => bad fun h => by have := h.2.2.2.2.1; omega) (fun h4 => ?_)
  have hf : 0 ≤ fl ∧ fl ≤ 63 := ⟨by omega, by omega⟩
  refine Ev.bind (Ev.now _) ?_
  refine Ev.ite (fun h16 => ?_) (fun h16 => bad fun h => h16 h.2.2.2.2.2.2.2.2.2.1.symm)
  refine Ev.bind (Ev.now _) ?_
  refine Ev.ite (fun h32 => ?_) (fun h32 => bad fun h => h32 h.2.2.2.2.2.2.2.2.2.2.symm)
  refine Ev.bind (refoptcheck_ev m sc st ec sd sk sp l hl) ?_
  by_cases ok : optOk m sc st ec sd sk sp l
  · rw [optC, if_pos ok]
    refine Ev.pos rfl ?_
    refine Ev.ite (fun hx => bad fun h => by have := h.2.2.2.2.2.2.2.2.1; omega) (fun hx => Ev.val (Ev.now _) (segC_ok p q sq ak fl wn ug m sc st ec sd sk sp l x ⟨hp, hq, hw, hu, hf, h1, h2, ok, by omega, h16.symm, h32.symm⟩).symm)
  · rw [optC, if_neg ok]
    exact Ev.neg (by decide) (bad fun h => ok h.2.2.2.2.2.2.2.1)
theorem refsegcheck_ev (hl : l.length < 1000000000000000) : Ev (fun k => sternpostref08_Check.f k p q sq ak fl wn ug m sc st ec sd sk sp l x) (segC p q sq ak fl wn ug m sc st ec sd sk sp l x) := by
  have no : ¬ segOk p q sq ak fl wn ug m sc st ec sd sk sp l x → ∀ {g : Nat → Option Int}, Ev g 80 → Ev g (segC p q sq ak fl wn ug m sc st ec sd sk sp l x) := fun h _ e => Ev.val e (segC_no p q sq ak fl wn ug m sc st ec sd sk sp l x h).symm
  have one : ∀ (i : Int) (y : Int), rd [p, q, wn, ug] i = y → 0 ≤ i → i < 4 → (segOk p q sq ak fl wn ug m sc st ec sd sk sp l x → 0 ≤ y ∧ y ≤ 65535) → ((0 ≤ y ∧ y ≤ 65535) → Ev (fun k => sternpostref08_Check.l0 k [p, q, wn, ug] (i + 1) p q sq ak fl wn ug m sc st ec sd sk sp l x) (segC p q sq ak fl wn ug m sc st ec sd sk sp l x)) → Ev (fun k => sternpostref08_Check.l0 k [p, q, wn, ug] i p q sq ak fl wn ug m sc st ec sd sk sp l x) (segC p q sq ak fl wn ug m sc st ec sd sk sp l x) := by
    intro i y hy h0 h4 hok hn
    refine Ev.step (fun k => by simp only [sternpostref08_Check.l0]; rfl) ?_
    refine Ev.pos (by simp only [List.length_cons, List.length_nil]; omega) (Ev.pos h0 ?_)
    rw [hy]
    refine Ev.ite (fun h => no (fun hh => by have := hok hh; omega) (Ev.now _)) (fun h1 => ?_)
    refine Ev.ite (fun h => no (fun hh => by have := hok hh; omega) (Ev.now _)) (fun h2 => ?_)
    rw [w64 (by omega) (by omega)]
    exact hn ⟨by omega, by omega⟩
  unfold sternpostref08_Check.f
  refine one 0 p rfl (by omega) (by omega) (fun h => h.1) (fun hp => ?_)
  refine one 1 q rfl (by omega) (by omega) (fun h => h.2.1) (fun hq => ?_)
  refine one 2 wn rfl (by omega) (by omega) (fun h => h.2.2.1) (fun hw => ?_)
  refine one 3 ug rfl (by omega) (by omega) (fun h => h.2.2.2.1) (fun hu => ?_)
  exact refsegcheck4 p q sq ak fl wn ug m sc st ec sd sk sp l x hl hp hq hw hu
end
/-! ### flags of any number -/
theorem and_pow_any (fl : Int) (i : Nat) (hi : i < 63) : Go.bits .and .i64 fl ((2 ^ i : Nat) : Int) = 0 ∨ Go.bits .and .i64 fl ((2 ^ i : Nat) : Int) = ((2 ^ i : Nat) : Int) := by
  have hp : 2 ^ i < 2 ^ 63 := Nat.pow_lt_pow_right (by decide) hi
  have hp2 : (2 ^ i) % 2 ^ 64 = 2 ^ i := Nat.mod_eq_of_lt (by omega)
  simp only [Go.bits, BitVec.ofInt_natCast, BitVec.toNat_and, BitVec.toNat_ofNat]
  rw [show IntKind.i64.bits = 64 from rfl, hp2]
  have key : ∀ n : Nat, n &&& 2 ^ i = 0 ∨ n &&& 2 ^ i = 2 ^ i := by
    intro n
    by_cases h : n.testBit i = true
    · refine .inr (Nat.eq_of_testBit_eq fun j => ?_)
      rw [Nat.testBit_and, Nat.testBit_two_pow]
      by_cases e : i = j
      · subst e; simp [h]
      · simp [e]
    · refine .inl (Nat.eq_of_testBit_eq fun j => ?_)
      rw [Nat.testBit_and, Nat.testBit_two_pow]
      by_cases e : i = j
      · subst e; simp [h]
      · simp [e]
  rcases key (BitVec.ofInt 64 fl).toNat with e | e <;> rw [e]
  · exact .inl rfl
  · refine .inr ?_
    rw [IntKind.wrap_i64]
    omega
theorem flag_any (fl : Int) : (Go.bits .and .i64 fl 2 = 0 ∨ Go.bits .and .i64 fl 2 = 2) ∧ (Go.bits .and .i64 fl 1 = 0 ∨ Go.bits .and .i64 fl 1 = 1) := ⟨and_pow_any fl 1 (by decide), and_pow_any fl 0 (by decide)⟩
section
variable (p q sq ak fl wn ug : Int) (m sc st ec : Int) (sd sk sp : Bool) (l : List S73) (x : ByteArray)
theorem seglen_any (hx : x.size ≤ 140737488351232) : seg_Length.f p q sq ak fl wn ug m sc st ec sd sk sp l x = some (segLen fl x) := by
  obtain ⟨a, b⟩ := flag_any fl
  unfold seg_Length.f segLen
  generalize Go.bits .and .i64 fl 2 = u at a ⊢
  generalize Go.bits .and .i64 fl 1 = t at b ⊢
  congr 1
  rcases a with a | a <;> rcases b with b | b <;> subst a <;> subst b
  all_goals
    first | rw [show Int.tdiv 0 2 = 0 from rfl] | rw [show Int.tdiv 2 2 = 1 from rfl]
    unfold wrap64; omega
theorem refseglen_any (hx : x.size ≤ 140737488351232) : Ev (fun k => sternpostref08_Length.f k p q sq ak fl wn ug m sc st ec sd sk sp l x) (segLen fl x) := by
  obtain ⟨a, b⟩ := flag_any fl
  have e2 : has fl 2 = decide (Go.bits .and .i64 fl 2 = 2) := by unfold has; exact (Bool.beq_eq_decide_eq _ _)
  have e1 : has fl 1 = decide (Go.bits .and .i64 fl 1 = 1) := by unfold has; exact (Bool.beq_eq_decide_eq _ _)
  unfold sternpostref08_Length.f segLen
  rw [refseghas_is, e2]
  generalize Go.bits .and .i64 fl 2 = u at a ⊢
  refine Ev.bind (Ev.now _) ?_
  have go : ∀ n : Int, 0 ≤ n → n < 1000000000000000 → Ev (fun k => sternpostref08_Length.j0 k n p q sq ak fl wn ug m sc st ec sd sk sp l x) (n + Go.bits .and .i64 fl 1) := by
    intro n h0 h1
    refine Ev.step (fun k => by simp only [sternpostref08_Length.j0]; rfl) ?_
    rw [refseghas_is, e1]
    generalize Go.bits .and .i64 fl 1 = t at b ⊢
    refine Ev.bind (Ev.now _) ?_
    rcases b with b | b <;> subst b
    · exact Ev.neg (by decide) (Ev.val (Ev.now _) (by omega))
    · exact Ev.pos (by decide) (Ev.val (Ev.now _) (by rw [w64 (by omega) (by omega)]))
  rcases a with a | a <;> subst a
  · refine Ev.neg (by decide) (Ev.val (go _ (by omega) (by omega)) (by omega))
  · refine Ev.pos (by decide) ?_
    rw [w64 (by omega) (by omega)]
    exact Ev.val (go _ (by omega) (by omega)) (by omega)
end
/-! ### the document's bytes of a segment -/
theorem refpse_ok (a b n : Nat) (ha : a < 4294967296) (hb : b < 4294967296) (hn : n < 65536) : Ev (fun k => sternpostref02_Pseudo.f k (a : Int) (b : Int) 6 (n : Int)) (mkB (pseB a b n), 0) := by
  have h := refpseudo_ev (a : Int) (b : Int) 6 (n : Int)
  have e6 : (6 : Int).toNat = 6 := rfl
  rw [PseudoS, if_neg (by omega), e6, nat_toNat, nat_toNat, nat_toNat] at h
  unfold pseB
  exact h
theorem refsegl1 (n fl : Nat) (h : n ≤ 40) (hf : fl ≤ 63) : strOfNums (sternpostref08_Bytes_l1 (n : Int) (fl : Int)) = mkB (SP.bytesN ((20 + n) / 4 * 16) 1 ++ SP.bytesN fl 1) := by
  unfold sternpostref08_Bytes_l1
  rw [w64 (n := 20 + (n : Int)) (by omega) (by omega), Int.tdiv_eq_ediv_of_nonneg (by omega), w64 (n := (20 + (n : Int)) / 4) (by omega) (by omega), w64 (by omega) (by omega)]
  have e : (20 + (n : Int)) / 4 * 16 % 256 = (((20 + n) / 4 * 16 : Nat) : Int) := by omega
  rw [e, show ((fl : Int) % 256) = (fl : Int) from by omega]
  unfold strOfNums mkB
  simp only [SP.bytesN, List.map_cons, List.map_nil, nat_toNat, List.cons_append, List.nil_append]
  rw [show ((20 + n) / 4 * 16) / 2 ^ (8 * 0) % 256 = (20 + n) / 4 * 16 from by simp; omega, show fl / 2 ^ (8 * 0) % 256 = fl from by simp; omega]
theorem refsegtail2 (a b p q sq ak fl wn ug : Nat) (o x : List UInt8) (ha : a < 4294967296) (hb : b < 4294967296) (ho : o.length ≤ 40) (hx : x.length ≤ 1480) :
    Ev (fun k => sternpostref08_Bytes_tail2.f k (a : Int) (b : Int) (mkB (segHd p q sq ak fl wn o.length ++ [0, 0] ++ segTl ug o x))) (mkB (segBy a b p q sq ak fl wn ug o x)) := by
  have lh := segHd_len p q sq ak fl wn o.length
  have lt := segTl_len ug o x
  have ls : (mkB (segHd p q sq ak fl wn o.length ++ [0, 0] ++ segTl ug o x)).size = 20 + o.length + x.length := by
    rw [mkB_size]; simp only [List.length_append, lh, lt, List.length_cons, List.length_nil]; omega
  have lp := pseB_len a b (20 + o.length + x.length)
  unfold sternpostref08_Bytes_tail2.f
  rw [ls]
  refine Ev.bind (refpse_ok a b (20 + o.length + x.length) ha hb (by omega)) ?_
  try dsimp only
  refine Ev.pos ⟨by rw [mkB_size, lp]; omega, by omega⟩ ?_
  rw [mkB_append]
  have hs := refsum_ev (mkB (pseB a b (20 + o.length + x.length) ++ (segHd p q sq ak fl wn o.length ++ [0, 0] ++ segTl ug o x))) (by rw [mkB_size]; simp only [List.length_append, lp, lh, lt, List.length_cons, List.length_nil]; omega)
  have hc := SP.canon_le (SP.ws 0 (pseB a b (20 + o.length + x.length) ++ (segHd p q sq ak fl wn o.length ++ [0, 0] ++ segTl ug o x)))
  rw [by_mkB] at hs
  have e0 : SP.bytesN 0 2 = [0, 0] := by decide
  have ea : pseB a b (20 + o.length + x.length) ++ (segHd p q sq ak fl wn o.length ++ [0, 0] ++ segTl ug o x) = pseB a b (20 + o.length + x.length) ++ segHd p q sq ak fl wn o.length ++ SP.bytesN 0 2 ++ segTl ug o x := by
    rw [e0]; simp only [List.append_assoc]
  rw [ea] at hs hc
  have e1 : 65535 - ((SP.canon (SP.ws 0 (pseB a b (20 + o.length + x.length) ++ segHd p q sq ak fl wn o.length ++ SP.bytesN 0 2 ++ segTl ug o x)) : Nat) : Int) = ((segSm a b p q sq ak fl wn ug o x : Nat) : Int) := by
    unfold segSm; omega
  rw [ea]
  rw [e1] at hs
  refine Ev.bind hs ?_
  refine Ev.bind (text_ev _ 2 (by omega)) ?_
  have exA : cutS (mkB (segHd p q sq ak fl wn o.length ++ [0, 0] ++ segTl ug o x)) 0 16 = mkB (segHd p q sq ak fl wn o.length) := by
    rw [cut_mk, by_mkB, List.drop_zero, Nat.sub_zero, List.append_assoc, List.take_append_of_le_length (by omega), List.take_of_length_le (by omega)]
  have exB : cutS (mkB (segHd p q sq ak fl wn o.length ++ [0, 0] ++ segTl ug o x)) 18 (20 + o.length + x.length) = mkB (segTl ug o x) := by
    rw [cut_mk, by_mkB, List.drop_append, List.drop_of_length_le (by simp only [List.length_append, lh, List.length_cons, List.length_nil]; omega), List.nil_append]
    have e2 : 18 - (segHd p q sq ak fl wn o.length ++ [0, 0]).length = 0 := by simp only [List.length_append, lh, List.length_cons, List.length_nil]
    rw [e2, List.drop_zero, List.take_of_length_le (by omega)]
  rw [exA, exB]
  refine Ev.pos (by rw [mkB_size, mkB_size, mkB_size, SP.bytesN_len]; omega) ?_
  rw [mkB_append, mkB_append]
  exact Ev.now _
section
variable (m sc st ec : Int) (sd sk sp : Bool) (l : List S73) (x : ByteArray)
theorem refsegbytes_ev (a b p q sq ak fl wn ug : Int) (had : adOk a b) (h : segOk p q sq ak fl wn ug m sc st ec sd sk sp l x) : Ev (fun k => sternpostref08_Bytes.f k a b p q sq ak fl wn ug m sc st ec sd sk sp l x) (mkB (segBy a.toNat b.toNat p.toNat q.toNat sq.toNat ak.toNat fl.toNat wn.toNat ug.toNat (optB m sc st ec sd sk sp l) (SP.by_ x))) := by
  obtain ⟨hp, hq, hw, hu, hf, hs, hk, ho, hx, -, -⟩ := h
  obtain ⟨hA, hB⟩ := had
  unfold sternpostref08_Bytes.f
  refine Ev.bind (refoptbytes_ev m sc st ec sd sk sp l ho.1) ?_
  have hol := ho.2
  generalize optB m sc st ec sd sk sp l = o at hol ⊢
  clear ho
  unfold seqOk at hs hk hA hB
  obtain ⟨a, rfl⟩ := Int.eq_ofNat_of_zero_le (show 0 ≤ a by omega)
  obtain ⟨b, rfl⟩ := Int.eq_ofNat_of_zero_le (show 0 ≤ b by omega)
  obtain ⟨p, rfl⟩ := Int.eq_ofNat_of_zero_le (show 0 ≤ p by omega)
  obtain ⟨q, rfl⟩ := Int.eq_ofNat_of_zero_le (show 0 ≤ q by omega)
  obtain ⟨sq, rfl⟩ := Int.eq_ofNat_of_zero_le (show 0 ≤ sq by omega)
  obtain ⟨ak, rfl⟩ := Int.eq_ofNat_of_zero_le (show 0 ≤ ak by omega)
  obtain ⟨fl, rfl⟩ := Int.eq_ofNat_of_zero_le (show 0 ≤ fl by omega)
  obtain ⟨wn, rfl⟩ := Int.eq_ofNat_of_zero_le (show 0 ≤ wn by omega)
  obtain ⟨ug, rfl⟩ := Int.eq_ofNat_of_zero_le (show 0 ≤ ug by omega)
  simp only [nat_toNat]
  have lx := SP.by_len x
  obtain ⟨X, rfl⟩ : ∃ X : List UInt8, x = mkB X := ⟨SP.by_ x, (mkB_by x).symm⟩
  rw [by_mkB] at lx ⊢
  rw [← lx] at hx
  unfold sternpostref08_Bytes_tail.f
  refine Ev.bind (text_ev p 2 (by omega)) ?_
  refine Ev.bind (text_ev q 2 (by omega)) ?_
  refine Ev.bind (text_ev sq 4 (by omega)) ?_
  refine Ev.bind (text_ev ak 4 (by omega)) ?_
  refine Ev.bind (text_ev wn 2 (by omega)) ?_
  refine Ev.bind (text_ev ug 2 (by omega)) ?_
  try dsimp only
  rw [show ((mkB o).size : Int) = (o.length : Int) from by rw [mkB_size], refsegl1 o.length fl hol (by omega)]
  refine Ev.pos (by simp only [mkB_size, List.length_append, SP.bytesN_len]; omega) ?_
  have z : (⟨#[0, 0]⟩ : ByteArray) = mkB [0, 0] := rfl
  rw [z]
  simp only [mkB_append]
  have e : SP.bytesN p 2 ++ SP.bytesN q 2 ++ SP.bytesN sq 4 ++ SP.bytesN ak 4 ++ (SP.bytesN ((20 + o.length) / 4 * 16) 1 ++ SP.bytesN fl 1) ++ SP.bytesN wn 2 ++ [0, 0] ++ SP.bytesN ug 2 ++ o ++ X = segHd p q sq ak fl wn o.length ++ [0, 0] ++ segTl ug o X := by
    unfold segHd segTl; simp only [List.append_assoc]
  rw [e]
  exact refsegtail2 a b p q sq ak fl wn ug o X (by omega) (by omega) hol hx
theorem refsegenc_ev (a b p q sq ak fl wn ug : Int) (hl : l.length < 1000000000000000) : Ev (fun k => sternpostref08_Encode.f k a b p q sq ak fl wn ug m sc st ec sd sk sp l x) (segE m sc st ec sd sk sp l x a b p q sq ak fl wn ug) := by
  have bad : ¬ adOk a b → Ev (fun k => sternpostref08_Encode.j0 k a b true p q sq ak fl wn ug m sc st ec sd sk sp l x) (segE m sc st ec sd sk sp l x a b p q sq ak fl wn ug) := by
    intro h
    refine Ev.step (fun k => by simp only [sternpostref08_Encode.j0]; rfl) ?_
    rw [segE, if_neg h]
    exact Ev.pos trivial (Ev.now _)
  unfold sternpostref08_Encode.f
  rw [refseq_is, refseq_is]
  refine Ev.bind (Ev.now _) ?_
  refine Ev.ite (fun h1 => ?_) (fun h1 => bad fun h => h1 ((seqC_zero a).mpr h.1))
  refine Ev.bind (Ev.now _) ?_
  by_cases h2 : seqOk b
  · rw [(seqC_zero b).mpr h2]
    refine Ev.step (fun k => by simp only [sternpostref08_Encode.j0]; rfl) ?_
    refine Ev.neg (by decide) ?_
    have had : adOk a b := ⟨(seqC_zero a).mp h1, h2⟩
    refine Ev.bind (refsegcheck_ev p q sq ak fl wn ug m sc st ec sd sk sp l x hl) ?_
    rw [segE, if_pos had]
    by_cases h : segOk p q sq ak fl wn ug m sc st ec sd sk sp l x
    · rw [segC_ok p q sq ak fl wn ug m sc st ec sd sk sp l x h, if_pos h]
      exact Ev.pos rfl (Ev.bind (refsegbytes_ev m sc st ec sd sk sp l x a b p q sq ak fl wn ug had h) (Ev.now _))
    · rw [segC_no p q sq ak fl wn ug m sc st ec sd sk sp l x h, if_neg h]
      exact Ev.neg (by decide) (Ev.now _)
  · have h3 : seqC b ≠ 0 := fun h => h2 ((seqC_zero b).mp h)
    rw [show (seqC b != 0) = true from bne_iff_ne.mpr h3]
    exact bad fun h => h2 h.2
end
theorem SegWrites : sternpostlaw08_SegWrites.Pure := by
  intro a b p q sq ak fl wn ug m sc st ec sd sk sp l x fs ha hb _ _ hsq hak _ _ _ _ _ hst hec hl hx _
  have ha := wf64 ha
  have hb := wf64 hb
  have hsq := wf64 hsq
  have hak := wf64 hak
  have hst := wf64 hst
  have hec := wf64 hec
  have hl2 : l.length < 1000000000000000 ∧ ∀ x ∈ l, fit73 x := ⟨by omega, hl.2⟩
  refine Ev.rounds ?_
  unfold sternpostlaw08_SegWrites.f sternpostlaw08_SegWrites_tail.f
  refine Ev.bind (segenc_ev m sc st ec sd sk sp l x a b p q sq ak fl wn ug ha hb hsq hak hst hec hl2) ?_
  refine Ev.bind (refsegenc_ev m sc st ec sd sk sp l x a b p q sq ak fl wn ug hl2.1) ?_
  refine Ev.bind (segcheck_ev p q sq ak fl wn ug m sc st ec sd sk sp l x hsq hak hst hec hl2) ?_
  refine Ev.bind (refsegcheck_ev p q sq ak fl wn ug m sc st ec sd sk sp l x hl2.1) ?_
  rw [seglen_any _ _ _ _ _ _ _ _ _ _ _ _ _ _ _ _ hx]
  refine Ev.bind (Ev.now _) ?_
  refine Ev.bind (refseglen_any p q sq ak fl wn ug m sc st ec sd sk sp l x hx) ?_
  refine Ev.bind (Ev.now _) ?_
  refine Ev.bind (Ev.now _) ?_
  refine Ev.bind works08 ?_
  exact Ev.pos ⟨rfl, rfl, rfl, rfl⟩ (Ev.now _)
end Go.Proofs.Ytakajeoeijnmhaa.Pure

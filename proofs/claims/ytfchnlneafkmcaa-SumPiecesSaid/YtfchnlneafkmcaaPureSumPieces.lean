/- For any list of strings: their sum is told by package sum just as by the reference, and the list stays as it is. No condition: every list of the reach. -/
import Derived.Test.YtfchnlneafkmcaaPSumPiecesx2
set_option linter.unusedVariables false
set_option linter.unusedSimpArgs false
namespace Go.Proofs.Ytfchnlneafkmcaa.Pure
open Go Go.RowKit Go.Proofs.Ytfchnlneafkmcaa.PSumPieces Go.Proofs.YtfchnlneafkmcaaW.PrintWords Go.Proofs.YtfchnlneafkmcaaW.PrintLast Go.Proofs.YtfchnlneafkmcaaW.PrintMore
attribute [local irreducible] shl shr Go.bits
/-! ### plain words on numbers and bytes -/
namespace SP
/-- what is above 16 bits, added again -/
def canon (n : Nat) : Nat := if n = 0 then 0 else (n - 1) % 65535 + 1
theorem canon_le (n : Nat) : canon n ≤ 65535 := by unfold canon; split <;> omega
theorem canon_small {n : Nat} (h : n ≤ 65535) : canon n = n := by unfold canon; split <;> omega
theorem canon_step {n : Nat} (h : 65535 < n) : canon (n / 65536 + n % 65536) = canon n := by unfold canon; split <;> split <;> omega
theorem canon_add (a b : Nat) : canon (canon a + b) = canon (a + b) := by unfold canon; split <;> split <;> split <;> omega
theorem canon_mod (n : Nat) : canon n % 65535 = n % 65535 := by unfold canon; split <;> omega
theorem canon_zero {n : Nat} : canon n = 0 ↔ n = 0 := by unfold canon; split <;> omega
theorem canon_eq {a b : Nat} (h : a % 65535 = b % 65535) (h0 : a = 0 ↔ b = 0) : canon a = canon b := by unfold canon; split <;> split <;> omega
/-- a byte's weight at a place -/
def wt (p : Nat) (b : Nat) : Nat := if p % 2 = 0 then 256 * b else b
/-- the weights of bytes from a place on -/
def ws : Nat → List UInt8 → Nat
  | _, [] => 0
  | p, b :: l => wt p b.toNat + ws (p + 1) l
theorem wt_le (p : Nat) (b : UInt8) : wt p b.toNat ≤ 65280 := by have := b.toNat_lt; unfold wt; split <;> omega
theorem ws_le (l : List UInt8) : ∀ p, ws p l ≤ 65280 * l.length := by
  induction l with
  | nil => intro p; simp [ws]
  | cons b l ih => intro p; have := ih (p + 1); have := wt_le p b; simp only [ws, List.length_cons]; omega
theorem ws_append (a b : List UInt8) : ∀ p, ws p (a ++ b) = ws p a + ws (p + a.length) b := by
  induction a with
  | nil => intro p; simp [ws]
  | cons x l ih => intro p; simp only [List.cons_append, ws, ih, List.length_cons]; rw [show p + 1 + l.length = p + (l.length + 1) from by omega]; omega
theorem wt_parity {p q : Nat} (h : p % 2 = q % 2) (b : Nat) : wt p b = wt q b := by unfold wt; rw [h]
theorem ws_parity (l : List UInt8) : ∀ {p q : Nat}, p % 2 = q % 2 → ws p l = ws q l := by
  induction l with
  | nil => intros; rfl
  | cons x l ih => intro p q h; simp only [ws, wt_parity h]; rw [ih (p := p + 1) (q := q + 1) (by omega)]
/-- a string's bytes -/
abbrev by_ (s : ByteArray) : List UInt8 := s.data.toList
theorem by_len (s : ByteArray) : (by_ s).length = s.size := by
  show s.data.toList.length = s.data.size; exact Array.length_toList
theorem by_append (s t : ByteArray) : by_ (s ++ t) = by_ s ++ by_ t := by
  show (s ++ t).data.toList = _; rw [ByteArray.data_append, Array.toList_append]
theorem by_extract (s : ByteArray) (i j : Nat) : by_ (s.extract i j) = ((by_ s).drop i).take (j - i) := by
  simp [by_, ByteArray.data_extract, List.extract_eq_take_drop]
theorem by_ext {s t : ByteArray} (h : by_ s = by_ t) : s = t := by
  cases s; cases t; simp only [by_] at h; congr; exact Array.toList_inj.mp h
/-- byte i of a list -/
def nth (l : List UInt8) (i : Nat) : Nat := (l.getD i 0).toNat
theorem nth_lt (l : List UInt8) (i : Nat) : nth l i < 256 := (l.getD i 0).toNat_lt
theorem drop_cons {l : List UInt8} {i : Nat} (h : i < l.length) : l.drop i = l.getD i 0 :: l.drop (i + 1) := by
  rw [List.drop_eq_getElem_cons h]; simp [List.getD, h]
theorem ws_drop {l : List UInt8} {i : Nat} (p : Nat) (h : i < l.length) : ws p (l.drop i) = wt p (nth l i) + ws (p + 1) (l.drop (i + 1)) := by
  rw [drop_cons h]; rfl
theorem ws_drop_end {l : List UInt8} {i : Nat} (p : Nat) (h : l.length ≤ i) : ws p (l.drop i) = 0 := by
  rw [List.drop_eq_nil_of_le h]; rfl
/-- a number's bytes, k of them -/
def bytesN (n : Nat) : Nat → List UInt8
  | 0 => []
  | k + 1 => UInt8.ofNat (n / 2 ^ (8 * k) % 256) :: bytesN n k
theorem bytesN_len (n k : Nat) : (bytesN n k).length = k := by induction k with
  | zero => rfl
  | succ k ih => simp [bytesN, ih]
/-- the number of bytes -/
def num (l : List UInt8) : Nat := l.foldl (fun n b => n * 256 + b.toNat) 0
theorem num_acc (l : List UInt8) : ∀ a : Nat, l.foldl (fun n b => n * 256 + b.toNat) a = a * 256 ^ l.length + num l := by
  induction l with
  | nil => intro a; show a = a * 256 ^ 0 + 0; omega
  | cons b l ih =>
    intro a
    have h0 : num (b :: l) = l.foldl (fun n b => n * 256 + b.toNat) (0 * 256 + b.toNat) := rfl
    rw [h0, List.foldl_cons, ih, ih, List.length_cons, Nat.pow_succ, Nat.zero_mul, Nat.zero_add, Nat.add_mul, Nat.mul_assoc, Nat.mul_comm 256]
    omega
theorem num_cons (b : UInt8) (l : List UInt8) : num (b :: l) = b.toNat * 256 ^ l.length + num l := by
  have := num_acc l b.toNat; simp only [num, List.foldl_cons, Nat.zero_mul, Nat.zero_add]; exact this
theorem num_append (a b : List UInt8) : num (a ++ b) = num a * 256 ^ b.length + num b := by
  unfold num; rw [List.foldl_append, num_acc]; rfl
theorem num_lt (l : List UInt8) : num l < 256 ^ l.length := by
  induction l with
  | nil => simp [num]
  | cons b l ih => rw [num_cons, List.length_cons, Nat.pow_succ]; have := b.toNat_lt; have h : b.toNat * 256 ^ l.length ≤ 255 * 256 ^ l.length := Nat.mul_le_mul_right _ (by omega); omega
theorem num_bytesN (n k : Nat) : num (bytesN n k) = n % 256 ^ k := by
  induction k with
  | zero => simp [bytesN, num, Nat.mod_one]
  | succ k ih =>
    rw [bytesN, num_cons, ih, bytesN_len]
    have e : (2 : Nat) ^ (8 * k) = 256 ^ k := by rw [Nat.pow_mul]
    rw [e, Nat.pow_succ, Nat.mod_mul, Nat.mul_comm (256 ^ k)]
    have : (UInt8.ofNat (n / 256 ^ k % 256)).toNat = n / 256 ^ k % 256 := by simp [UInt8.toNat_ofNat']
    rw [this]; omega
theorem bytesN_num (l : List UInt8) : bytesN (num l) l.length = l := by
  induction l with
  | nil => rfl
  | cons b l ih =>
    have key : ∀ (m k : Nat), bytesN (m * 256 ^ l.length + num l) k = bytesN (num l) k ∨ l.length < k := by
      intro m k
      by_cases hk : l.length < k
      · exact .inr hk
      · left
        induction k with
        | zero => rfl
        | succ k ihk =>
          rw [bytesN, bytesN, ihk (by omega)]
          have e : (2 : Nat) ^ (8 * k) = 256 ^ k := by rw [Nat.pow_mul]
          obtain ⟨d, hd⟩ : ∃ d, l.length = k + 1 + d := ⟨l.length - (k + 1), by omega⟩
          rw [e]
          have : (m * 256 ^ l.length + num l) / 256 ^ k % 256 = num l / 256 ^ k % 256 := by
            rw [hd, Nat.pow_add, Nat.pow_succ]
            rw [show m * (256 ^ k * 256 * 256 ^ d) = 256 ^ k * (256 * (m * 256 ^ d)) from by ac_rfl]
            rw [Nat.mul_add_div (Nat.pow_pos (by omega)), Nat.mul_add_mod]
          rw [this]
    rw [List.length_cons, num_cons, bytesN]
    have e : (2 : Nat) ^ (8 * l.length) = 256 ^ l.length := by rw [Nat.pow_mul]
    have hl := num_lt l
    have h1 : (b.toNat * 256 ^ l.length + num l) / 2 ^ (8 * l.length) % 256 = b.toNat := by
      rw [e, Nat.mul_comm, Nat.mul_add_div (Nat.pow_pos (by omega)), Nat.div_eq_of_lt hl]; have := b.toNat_lt; omega
    rw [h1]
    rcases key b.toNat l.length with h | h
    · rw [h, ih]; congr 1; exact UInt8.toNat_inj.mp (by simp)
    · omega
end SP
theorem Ev.pos {α : Type} {c : Prop} [Decidable c] {g f : Nat → Option α} {r : α} (hc : c) (h : Ev g r) : Ev (fun k => if c then g k else f k) r := by
  simp only [if_pos hc]; exact h
theorem Ev.neg {α : Type} {c : Prop} [Decidable c] {g f : Nat → Option α} {r : α} (hc : ¬ c) (h : Ev f r) : Ev (fun k => if c then g k else f k) r := by
  simp only [if_neg hc]; exact h
theorem wf64 {n : Int} (h : (Lit.int .i64 n).wf = true) : -9223372036854775808 ≤ n ∧ n < 9223372036854775808 := by
  have e : (Lit.int .i64 n).wf = decide (IntKind.i64.min ≤ n ∧ n ≤ 9223372036854775807) := by simp [Lit.wf]
  have e2 : IntKind.i64.min = -9223372036854775808 := by decide
  rw [e, e2] at h
  have := of_decide_eq_true h
  omega
/-! ### package sum and the reference's, as the words above -/
theorem and_mask (n m : Nat) (h : n < 2 ^ 63) (i : Nat) (hi : m = 2 ^ i - 1) (hi2 : i ≤ 63) : bits .and .i64 (n : Int) (m : Int) = ((n % 2 ^ i : Nat) : Int) := by
  subst hi
  have hw : ∀ n : Int, 0 ≤ n → n < 9223372036854775808 → IntKind.i64.wrap n = n := by
    intro n h0 h1; rw [IntKind.wrap_i64]; have : (2 : Int) ^ 62 = 4611686018427387904 := by decide
    omega
  have := bits_mask .i64 63 (by decide) hw i hi2 (n : Int) (by omega) (by exact_mod_cast h)
  have e : ((2 ^ i - 1 : Nat) : Int) = (2 : Int) ^ i - 1 := by
    have : 1 ≤ 2 ^ i := Nat.one_le_two_pow
    rw [Int.ofNat_sub this]; simp
  rw [e, this]; simp
theorem bits16 (n : Nat) (h : n < 2 ^ 63) : bits .and .i64 (n : Int) 65535 = ((n % 65536 : Nat) : Int) := and_mask n 65535 h 16 rfl (by omega)
theorem bt_nth (s : ByteArray) (i : Nat) : bt s (i : Int) = ((SP.nth (SP.by_ s) i : Nat) : Int) := by
  unfold bt SP.nth
  simp only [Int.toNat_natCast]
  split
  · rename_i h
    congr 1
    have h' : i < (SP.by_ s).length := by rw [SP.by_len]; exact h
    rw [List.getD_eq_getElem?_getD, List.getElem?_eq_getElem h']
    rfl
  · rename_i h
    rw [List.getD_eq_getElem?_getD, List.getElem?_eq_none (by rw [SP.by_len]; omega)]; rfl
theorem w64 {n : Int} (h0 : -9223372036854775808 ≤ n) (h1 : n < 9223372036854775808) : wrap64 n = n := by unfold wrap64; omega
theorem tmod2 (n : Nat) : Int.tmod (n : Int) 2 = ((n % 2 : Nat) : Int) := by rw [Int.tmod_eq_emod_of_nonneg (by omega)]; omega

theorem carry_ev : ∀ (n : Nat), n < 9223372036854775808 → Ev (fun k => sum_carry.f k (n : Int)) ((SP.canon n : Nat) : Int) := by
  intro n
  induction n using Nat.strongRecOn with
  | _ n ih =>
    intro h
    show Ev (fun k => sum_carry.l0 k (n : Int)) _
    by_cases h1 : 65535 < n
    · refine Ev.step (f := fun k => sum_carry.l0 k ((n / 65536 + n % 65536 : Nat) : Int)) (fun k => ?_) ?_
      · simp only [sum_carry.l0]; rw [if_pos (by omega), bits16 n h, w64 (by omega) (by omega)]; congr 1
      · rw [← SP.canon_step h1]; exact ih _ (by omega) (by omega)
    · refine Ev.step (f := fun _ => some (n : Int)) (fun k => ?_) ?_
      · simp only [sum_carry.l0]; rw [if_neg (by omega)]
      · rw [SP.canon_small (by omega)]; exact Ev.now _
theorem shl_wt (p b : Nat) (hb : b < 256) : shl .i64 (wrap64 (b : Int)) (wrap64 (8 - (wrap64 ((Int.tmod (p : Int) 2) * 8)))) = ((SP.wt p b : Nat) : Int) := by
  rw [tmod2]
  unfold SP.wt shl
  rw [IntKind.wrap_i64, w64 (n := (b : Int)) (by omega) (by omega)]
  split
  · rename_i h; rw [h]; simp [wrap64, IntKind.bits]; omega
  · rename_i h; rw [show p % 2 = 1 from by omega]; simp [wrap64, IntKind.bits]; omega
theorem shamt (p : Nat) : 0 ≤ (wrap64 (8 - (wrap64 ((Int.tmod (p : Int) 2) * 8)))) := by
  rw [tmod2]; unfold wrap64; omega
section
variable {s : ByteArray} {x8 : List ByteArray} {x9 x10 r : Int}
theorem total_l1 (hs : s.size < 9223372036854775808) : ∀ (d i n p : Nat), s.size - i = d → i ≤ s.size → n + SP.ws p ((SP.by_ s).drop i) < 9223372036854775808 → p + (s.size - i) < 9223372036854775808 →
    Ev (fun k => sum_total.l0 k ((n + SP.ws p ((SP.by_ s).drop i) : Nat) : Int) ((p + (s.size - i) : Nat) : Int) x8 x9 (wrap64 (x10 + 1))) r →
    Ev (fun k => sum_total.l1 k (n : Int) (p : Int) s x8 x9 x10 (s.size : Int) (i : Int)) r := by
  intro d
  induction d with
  | zero =>
    intro i n p hd hi hn hp h
    refine Ev.step (fun k => ?_) h
    simp only [sum_total.l1]; rw [if_neg (by omega), SP.ws_drop_end p (by rw [SP.by_len]; omega), show s.size - i = 0 from hd]; simp
  | succ d ih =>
    intro i n p hd hi hn hp h
    have hlt : i < (SP.by_ s).length := by rw [SP.by_len]; omega
    rw [SP.ws_drop p hlt] at hn h
    have hb := SP.nth_lt (SP.by_ s) i
    have hsz := SP.by_len s
    refine Ev.step (f := fun k => sum_total.l1 k ((n + SP.wt p (SP.nth (SP.by_ s) i) : Nat) : Int) ((p + 1 : Nat) : Int) s x8 x9 x10 (s.size : Int) ((i + 1 : Nat) : Int)) (fun k => ?_) (ih (i + 1) (n + SP.wt p (SP.nth (SP.by_ s) i)) (p + 1) (by omega) (by omega) (by omega) (by omega) ?_)
    · simp only [sum_total.l1]
      rw [if_pos (by omega), if_pos (by omega), if_pos (by omega), if_pos (shamt p), bt_nth, shl_wt p _ hb]
      rw [w64 (n := (p : Int) + 1) (by omega) (by omega), w64 (n := (i : Int) + 1) (by omega) (by omega), w64 (by omega) (by omega)]
      congr 1
    · rw [show n + SP.wt p (SP.nth (SP.by_ s) i) + SP.ws (p + 1) ((SP.by_ s).drop (i + 1)) = n + (SP.wt p (SP.nth (SP.by_ s) i) + SP.ws (p + 1) ((SP.by_ s).drop (i + 1))) from by omega, show p + 1 + (s.size - (i + 1)) = p + (s.size - i) from by omega]
      exact h
end
/-- pieces, one behind the other -/
def SPflat (l : List ByteArray) : List UInt8 := l.flatMap SP.by_
theorem flat_drop {l : List ByteArray} {i : Nat} (h : i < l.length) : SPflat (l.drop i) = SP.by_ (l.getD i ByteArray.empty) ++ SPflat (l.drop (i + 1)) := by
  rw [List.drop_eq_getElem_cons h, SPflat, List.flatMap_cons, List.getD_eq_getElem?_getD, List.getElem?_eq_getElem h]; rfl
theorem total_l0 (l : List ByteArray) (hl : l.length < 9223372036854775808) : ∀ (d i n p : Nat), l.length - i = d → i ≤ l.length → n + SP.ws p (SPflat (l.drop i)) < 9223372036854775808 → p + (SPflat (l.drop i)).length < 9223372036854775808 →
    Ev (fun k => sum_total.l0 k (n : Int) (p : Int) l (l.length : Int) (i : Int)) ((SP.canon (n + SP.ws p (SPflat (l.drop i))) : Nat) : Int) := by
  intro d
  induction d with
  | zero =>
    intro i n p hd hi hn hp
    rw [List.drop_eq_nil_of_le (by omega)] at hn ⊢
    refine Ev.step (f := fun k => (sum_carry.f k (n : Int)).bind fun t => some t) (fun k => ?_) ?_
    · simp only [sum_total.l0]; rw [if_neg (by omega)]
    · exact Ev.bind (carry_ev n (by simpa [SPflat, SP.ws] using hn)) (Ev.now _)
  | succ d ih =>
    intro i n p hd hi hn hp
    have hlt : i < l.length := by omega
    rw [flat_drop hlt] at hn hp ⊢
    rw [SP.ws_append] at hn ⊢
    rw [List.length_append] at hp
    refine Ev.step (f := fun k => sum_total.l1 k (n : Int) (p : Int) (l.getD i ByteArray.empty) l (l.length : Int) (i : Int) ((l.getD i ByteArray.empty).size : Int) ((0 : Nat) : Int)) (fun k => ?_) ?_
    · simp only [sum_total.l0]; rw [if_pos (by omega), if_pos (by omega), if_pos (by omega)]; simp [rdOf]
    · rw [SP.by_len] at hn hp
      refine total_l1 (by omega) _ 0 n p rfl (by omega) (by simp only [List.drop_zero]; omega) (by omega) ?_
      rw [w64 (by omega) (by omega), SP.by_len]
      have := ih (i + 1) (n + SP.ws p (SP.by_ (l.getD i ByteArray.empty))) (p + (l.getD i ByteArray.empty).size) (by omega) (by omega) (by omega) (by omega)
      simp only [List.drop_zero, Nat.sub_zero]
      rw [← Nat.add_assoc]
      exact this
/-- what 'total' tells of pieces -/
theorem total_ev (l : List ByteArray) (hl : l.length < 1152921504606846976) (h : (SPflat l).length ≤ 140737488351232) : Ev (fun k => sum_total.f k l) ((SP.canon (SP.ws 0 (SPflat l)) : Nat) : Int) := by
  have hw := SP.ws_le (SPflat l) 0
  have := total_l0 l (by omega) l.length 0 0 0 (by omega) (by omega) (by simp only [List.drop_zero]; omega) (by simp only [List.drop_zero]; omega)
  rw [Nat.zero_add, List.drop_zero] at this
  exact this
theorem nat_toNat (n : Nat) : ((n : Int) : Int).toNat = n := Int.toNat_natCast n
theorem rdOf_nat {α : Type} (d : α) (xs : List α) (i : Nat) : rdOf d xs (i : Int) = xs.getD i d := by simp [rdOf]
def OfS (l : List ByteArray) : Int × Int := if 1024 < l.length ∨ 65536 < (SPflat l).length then (0, 2) else (65535 - (SP.canon (SP.ws 0 (SPflat l)) : Int), 0)
theorem of_l0 (l : List ByteArray) (hl : l.length ≤ 1024) : ∀ (d i m : Nat), l.length - i = d → i ≤ l.length → m ≤ 65536 → (SPflat l).length = 65536 - m + (SPflat (l.drop i)).length → (∀ x ∈ l, x.size ≤ 1152921504606846976) →
    Ev (fun k => sum_Of.l0 k l (m : Int) l (l.length : Int) (i : Int)) (OfS l) := by
  intro d
  induction d with
  | zero =>
    intro i m hd hi hm hf hx
    rw [List.drop_eq_nil_of_le (by omega)] at hf
    have hf' : (SPflat l).length = 65536 - m := by rw [hf]; simp [SPflat]
    have hc := SP.canon_le (SP.ws 0 (SPflat l))
    refine Ev.step (f := fun k => (sum_total.f k l).bind fun t => some (wrap64 (65535 - t), 0)) (fun k => ?_) ?_
    · simp only [sum_Of.l0]; rw [if_neg (by omega)]
    · refine Ev.bind (total_ev l (by omega) (by omega)) ?_
      rw [OfS, if_neg (by omega), w64 (by omega) (by omega)]
      exact Ev.now _
  | succ d ih =>
    intro i m hd hi hm hf hx
    have hlt : i < l.length := by omega
    have hxi : (l.getD i ByteArray.empty).size ≤ 1152921504606846976 := by
      rw [List.getD_eq_getElem?_getD, List.getElem?_eq_getElem hlt]; exact hx _ (List.getElem_mem _)
    rw [flat_drop hlt, List.length_append, SP.by_len] at hf
    by_cases h : m < (l.getD i ByteArray.empty).size
    · refine Ev.step (f := fun _ => some (0, 2)) (fun k => ?_) ?_
      · simp only [sum_Of.l0]; rw [rdOf_nat, if_pos (by omega), if_pos (by omega), if_pos (by omega), w64 (by omega) (by omega), if_pos (by omega)]
      · rw [OfS, if_pos (by omega)]; exact Ev.now _
    · refine Ev.step (f := fun k => sum_Of.l0 k l ((m - (l.getD i ByteArray.empty).size : Nat) : Int) l (l.length : Int) ((i + 1 : Nat) : Int)) (fun k => ?_) ?_
      · simp only [sum_Of.l0]; rw [rdOf_nat, if_pos (by omega), if_pos (by omega), if_pos (by omega), w64 (by omega) (by omega), if_neg (by omega), w64 (n := (i : Int) + 1) (by omega) (by omega)]
        congr 1; omega
      · exact ih (i + 1) _ (by omega) (by omega) (by omega) (by omega) hx
theorem of_ev (l : List ByteArray) (hl : l.length ≤ 1152921504606846976) (hx : ∀ x ∈ l, x.size ≤ 1152921504606846976) : Ev (fun k => sum_Of.f k l) (OfS l) := by
  by_cases h : 1024 < l.length
  · refine Ev.congr (f := fun _ => some (0, 2)) (fun k => ?_) ?_
    · unfold sum_Of.f; rw [if_pos (by omega)]
    · rw [OfS, if_pos (.inl h)]; exact Ev.now _
  · refine Ev.congr (f := fun k => sum_Of.l0 k l ((65536 : Nat) : Int) l (l.length : Int) ((0 : Nat) : Int)) (fun k => ?_) ?_
    · unfold sum_Of.f; rw [if_neg (by omega)]; rfl
    · exact of_l0 l (by omega) l.length 0 65536 rfl (by omega) (by omega) (by simp) hx
/-- bytes as a string -/
def mkB (l : List UInt8) : ByteArray := ⟨l.toArray⟩
theorem by_mkB (l : List UInt8) : SP.by_ (mkB l) = l := rfl
theorem mkB_by (s : ByteArray) : mkB (SP.by_ s) = s := SP.by_ext rfl
theorem mkB_size (l : List UInt8) : (mkB l).size = l.length := rfl
theorem mkB_append (a b : List UInt8) : mkB a ++ mkB b = mkB (a ++ b) := SP.by_ext (by rw [SP.by_append]; rfl)
theorem shr_pow (n k : Nat) (hk : k ≤ 64) : shr .i64 (n : Int) (k : Int) = ((n / 2 ^ k : Nat) : Int) := by
  unfold shr
  rw [Int.toNat_natCast, show min k IntKind.i64.bits = k from Nat.min_eq_left (by simpa [IntKind.bits] using hk)]
  simp
theorem works_ev : Ev (fun k => sternpostlaw02_works.f k) true := by
  have h := of_ev [⟨#[0, 1, 242, 3, 244, 245, 246, 247]⟩] (by decide) (by intro x hx; simp only [List.mem_singleton] at hx; subst hx; decide)
  have e : OfS [⟨#[0, 1, 242, 3, 244, 245, 246, 247]⟩] = (8717, 0) := by decide +kernel
  rw [e] at h
  unfold sternpostlaw02_works.f
  refine Ev.bind h ?_
  simp only [if_true]
  exact Ev.now _
theorem fold_ev : ∀ (n : Nat), n < 9223372036854775808 → Ev (fun k => sternpostref02_fold.f k (n : Int)) ((SP.canon n : Nat) : Int) := by
  intro n
  induction n using Nat.strongRecOn with
  | _ n ih =>
    intro h
    show Ev (fun k => sternpostref02_fold.l0 k (n : Int)) _
    by_cases h1 : 65535 < n
    · refine Ev.step (f := fun k => sternpostref02_fold.l0 k ((n / 65536 + n % 65536 : Nat) : Int)) (fun k => ?_) ?_
      · simp only [sternpostref02_fold.l0]
        rw [if_pos (by omega), Int.tdiv_eq_ediv_of_nonneg (by omega), Int.tmod_eq_emod_of_nonneg (by omega), w64 (n := (n : Int) / 65536) (by omega) (by omega), w64 (by omega) (by omega)]; congr 1
      · rw [← SP.canon_step h1]; exact ih _ (by omega) (by omega)
    · refine Ev.step (f := fun _ => some (n : Int)) (fun k => ?_) ?_
      · simp only [sternpostref02_fold.l0]; rw [if_neg (by omega)]
      · rw [SP.canon_small (by omega)]; exact Ev.now _
theorem refsum_l0 (s : ByteArray) (hs : s.size < 9223372036854775808) : ∀ (d i n : Nat), s.size - i = d → i ≤ s.size → n ≤ 65535 →
    Ev (fun k => sternpostref02_Sum.l0 k s (n : Int) (i : Int)) (65535 - ((SP.canon (n + SP.ws i ((SP.by_ s).drop i)) : Nat) : Int)) := by
  intro d
  induction d with
  | zero =>
    intro i n hd hi hn
    refine Ev.step (f := fun _ => some (65535 - (n : Int))) (fun k => ?_) ?_
    · simp only [sternpostref02_Sum.l0]; rw [if_neg (by omega), w64 (by omega) (by omega)]
    · rw [SP.ws_drop_end i (by rw [SP.by_len]; omega), Nat.add_zero, SP.canon_small hn]; exact Ev.now _
  | succ d ih =>
    intro i n hd hi hn
    have hlt : i < (SP.by_ s).length := by rw [SP.by_len]; omega
    have hb := SP.nth_lt (SP.by_ s) i
    have hc := SP.canon_le (n + SP.wt i (SP.nth (SP.by_ s) i))
    have hwt := SP.wt_le i ((SP.by_ s).getD i 0)
    have key : Ev (fun k => (sternpostref02_fold.f k ((n + SP.wt i (SP.nth (SP.by_ s) i) : Nat) : Int)).bind fun t => sternpostref02_Sum.l0 k s t ((i + 1 : Nat) : Int)) (65535 - ((SP.canon (n + SP.ws i ((SP.by_ s).drop i)) : Nat) : Int)) := by
      refine Ev.bind (fold_ev _ (by unfold SP.nth; omega)) ?_
      have h := ih (i + 1) (SP.canon (n + SP.wt i (SP.nth (SP.by_ s) i))) (by omega) (by omega) hc
      rw [SP.canon_add] at h
      rw [SP.ws_drop i hlt, ← Nat.add_assoc]
      exact h
    refine Ev.step (fun k => ?_) key
    simp only [sternpostref02_Sum.l0]
    rw [if_pos (by omega), tmod2, bt_nth, w64 (n := (i : Int) + 1) (by omega) (by omega), w64 (n := (SP.nth (SP.by_ s) i : Int)) (by omega) (by omega)]
    have e1 : ((i : Int) + 1) = ((i + 1 : Nat) : Int) := rfl
    by_cases hp : i % 2 = 0
    · rw [if_pos (by omega), if_pos (by omega), w64 (n := 256 * (SP.nth (SP.by_ s) i : Int)) (by omega) (by omega), w64 (by omega) (by omega)]
      rw [show (n : Int) + 256 * (SP.nth (SP.by_ s) i : Int) = ((n + SP.wt i (SP.nth (SP.by_ s) i) : Nat) : Int) from by unfold SP.wt; rw [if_pos hp]; omega, e1]
    · rw [if_neg (by omega), if_pos (by omega), w64 (by omega) (by omega)]
      rw [show (n : Int) + (SP.nth (SP.by_ s) i : Int) = ((n + SP.wt i (SP.nth (SP.by_ s) i) : Nat) : Int) from by unfold SP.wt; rw [if_neg hp]; omega, e1]
theorem refsum_ev (s : ByteArray) (hs : s.size < 9223372036854775808) : Ev (fun k => sternpostref02_Sum.f k s) (65535 - ((SP.canon (SP.ws 0 (SP.by_ s)) : Nat) : Int)) := by
  have := refsum_l0 s hs s.size 0 0 rfl (by omega) (by omega)
  rw [Nat.zero_add, List.drop_zero] at this
  exact this
theorem refof_l1 (l : List ByteArray) (hl : l.length ≤ 1024) : ∀ (d i : Nat) (acc : List UInt8), l.length - i = d → i ≤ l.length → acc.length + (SPflat (l.drop i)).length ≤ 65536 →
    Ev (fun k => sternpostref02_Of.l1 k l (mkB acc) (i : Int)) (65535 - (SP.canon (SP.ws 0 (acc ++ SPflat (l.drop i))) : Int), 0) := by
  intro d
  induction d with
  | zero =>
    intro i acc hd hi hle
    rw [List.drop_eq_nil_of_le (by omega)] at hle ⊢
    have e : acc ++ SPflat [] = acc := by simp [SPflat]
    rw [e]
    refine Ev.step (f := ?fz0) (fun k => ?hz0) ?hk0
    case hz0 => simp only [sternpostref02_Of.l1]; rw [if_neg (by omega)]
    case hk0 =>
      have := refsum_ev (mkB acc) (by rw [mkB_size]; omega)
      rw [by_mkB] at this
      exact Ev.bind this (Ev.now _)
  | succ d ih =>
    intro i acc hd hi hle
    have hlt : i < l.length := by omega
    rw [flat_drop hlt] at hle ⊢
    rw [List.length_append, SP.by_len] at hle
    refine Ev.step (f := ?fz) (fun k => ?hz) ?hk
    case hz =>
      simp only [sternpostref02_Of.l1]
      rw [if_pos (by omega), if_pos (by omega), rdOf_nat, if_pos (by rw [mkB_size]; omega), w64 (by omega) (by omega)]
    case hk =>
      have := ih (i + 1) (acc ++ SP.by_ (l.getD i ByteArray.empty)) (by omega) (by omega) (by rw [List.length_append, SP.by_len]; omega)
      rw [List.append_assoc] at this
      have e : mkB acc ++ l.getD i ByteArray.empty = mkB (acc ++ SP.by_ (l.getD i ByteArray.empty)) := by rw [← mkB_append, mkB_by]
      rw [e]
      exact this
theorem refof_l0 (l : List ByteArray) (hl : l.length ≤ 1024) (hx : ∀ x ∈ l, x.size ≤ 1152921504606846976) : ∀ (d i m : Nat), l.length - i = d → i ≤ l.length → m ≤ 65536 → (SPflat l).length = m + (SPflat (l.drop i)).length →
    Ev (fun k => sternpostref02_Of.l0 k l (m : Int) (i : Int)) (OfS l) := by
  intro d
  induction d with
  | zero =>
    intro i m hd hi hm hf
    rw [List.drop_eq_nil_of_le (by omega)] at hf
    have hf' : (SPflat l).length = m := by rw [hf]; simp [SPflat]
    refine Ev.step (f := fun k => sternpostref02_Of.l1 k l (mkB []) ((0 : Nat) : Int)) (fun k => ?_) ?_
    · simp only [sternpostref02_Of.l0]; rw [if_neg (by omega)]; rfl
    · have := refof_l1 l hl l.length 0 [] (by omega) (by omega) (by rw [List.drop_zero]; simp; omega)
      rw [List.drop_zero, List.nil_append] at this
      rw [OfS, if_neg (by omega)]
      exact this
  | succ d ih =>
    intro i m hd hi hm hf
    have hlt : i < l.length := by omega
    have hxi : (l.getD i ByteArray.empty).size ≤ 1152921504606846976 := by
      rw [List.getD_eq_getElem?_getD, List.getElem?_eq_getElem hlt]; exact hx _ (List.getElem_mem _)
    rw [flat_drop hlt, List.length_append, SP.by_len] at hf
    by_cases h : 65536 - m < (l.getD i ByteArray.empty).size
    · refine Ev.step (f := fun _ => some (0, 2)) (fun k => ?_) ?_
      · simp only [sternpostref02_Of.l0]; rw [if_pos (by omega), if_pos (by omega), rdOf_nat, w64 (by omega) (by omega), if_pos (by omega)]
      · rw [OfS, if_pos (by omega)]; exact Ev.now _
    · refine Ev.step (f := fun k => sternpostref02_Of.l0 k l ((m + (l.getD i ByteArray.empty).size : Nat) : Int) ((i + 1 : Nat) : Int)) (fun k => ?_) ?_
      · simp only [sternpostref02_Of.l0]; rw [if_pos (by omega), if_pos (by omega), rdOf_nat, w64 (n := 65536 - (m : Int)) (by omega) (by omega), if_neg (by omega), w64 (n := (i : Int) + 1) (by omega) (by omega), w64 (by omega) (by omega)]; rfl
      · exact ih (i + 1) _ (by omega) (by omega) (by omega) (by omega)
theorem refof_ev (l : List ByteArray) (hx : ∀ x ∈ l, x.size ≤ 1152921504606846976) : Ev (fun k => sternpostref02_Of.f k l) (OfS l) := by
  by_cases h : 1024 < l.length
  · refine Ev.congr (f := fun _ => some (0, 2)) (fun k => ?_) ?_
    · unfold sternpostref02_Of.f; rw [if_pos (by omega)]
    · rw [OfS, if_pos (.inl h)]; exact Ev.now _
  · refine Ev.congr (f := fun k => sternpostref02_Of.l0 k l ((0 : Nat) : Int) ((0 : Nat) : Int)) (fun k => ?_) ?_
    · unfold sternpostref02_Of.f; rw [if_neg (by omega)]; rfl
    · exact refof_l0 l (by omega) hx l.length 0 0 rfl (by omega) (by omega) (by simp)
theorem same_l0 (l : List ByteArray) (hl : l.length ≤ 1152921504606846976) : ∀ (d i : Nat), l.length - i = d → i ≤ l.length → Ev (fun k => sternpostbook_SameTexts.l0 k l l (i : Int)) true := by
  intro d
  induction d with
  | zero =>
    intro i hd hi
    refine Ev.step (fun k => ?_) (Ev.now _)
    simp only [sternpostbook_SameTexts.l0]; rw [if_neg (by omega)]
  | succ d ih =>
    intro i hd hi
    refine Ev.step (fun k => ?_) (ih (i + 1) (by omega) (by omega))
    simp only [sternpostbook_SameTexts.l0]; rw [if_pos (by omega), if_pos (by omega), if_pos (by omega), if_pos trivial, w64 (by omega) (by omega)]; rfl
theorem same_ev (l : List ByteArray) (hl : l.length ≤ 1152921504606846976) : Ev (fun k => sternpostbook_SameTexts.f k l l) true := by
  refine Ev.congr (f := fun k => sternpostbook_SameTexts.l0 k l l ((0 : Nat) : Int)) (fun k => ?_) (same_l0 l hl l.length 0 rfl (by omega))
  unfold sternpostbook_SameTexts.f; rw [if_pos rfl]; rfl
theorem SumPieces : sternpostlaw02_SumPieces.Pure := by
  intro l ⟨hl, hx⟩
  have hx' : ∀ x ∈ l, x.size ≤ 1152921504606846976 := fun x h => by have := hx x h; omega
  refine Ev.rounds ?_
  refine Ev.congr (f := ?fz) (fun k => ?hz) ?hk
  case hz => unfold sternpostlaw02_SumPieces.f; simp only [Option.bind_some, List.length_nil, List.nil_append]; rw [if_pos (by omega)]
  case hk =>
    refine Ev.bind (of_ev l (by omega) hx') (Ev.bind (refof_ev l hx') ?_)
    simp only [if_true]
    refine Ev.bind (same_ev l (by omega)) ?_
    simp only [if_true]
    exact Ev.bind works_ev (Ev.now _)
end Go.Proofs.Ytfchnlneafkmcaa.Pure

-- Laid by this claim's own program over the print's words.
import Derived.Test.YtnggabbakhakaaaPIpWholex0
import Derived.Test.YtnggabbakhakaaaPIpWholex2
import Derived.Test.YtnggabbakhakaaaPIpWholex5
import Derived.Test.YtnggabbakhakaaaPIpWholex6
namespace Go.Proofs.Ytnggabbakhakaaa.PIpWhole
open Go.RowKit Go.Proofs.YtnggabbakhakaaaW.PrintWords Go.Proofs.YtnggabbakhakaaaW.PrintLast Go.Proofs.YtnggabbakhakaaaW.PrintMore
attribute [local go_sem] max2_int min2_int max_two min_two max_three min_three max_four min_four max_five min_five extract_cut tmod_nat_lit   -- for this text's walks alone
set_option linter.unusedVariables false
set_option linter.unusedSimpArgs false

/-! ### sternpostlaw05_IpWhole: function 4 -/
theorem cutS_app (s : ByteArray) (a b c : Nat) (h1 : a ≤ b) (h2 : b ≤ c) : cutS s a b ++ cutS s b c = cutS s a c := by
 unfold cutS
 rw [ByteArray.extract_append_extract, Nat.min_eq_left h1, Nat.max_eq_right h2]
theorem cutS_size (s : ByteArray) (a b : Nat) (h : b ≤ s.size) : (cutS s a b).size = b - a := by
 unfold cutS; simp; omega
theorem cutS_all (s : ByteArray) : cutS s 0 s.size = s := by unfold cutS; simp
theorem cutAll_get (p : Pk) (st : Nat) : ∀ K a, (cutAll p st K a).length = K + 1 ∧ (∀ i, i < K → (cutAll p st K a)[i]? = some (p.cut ((a + i * st : Nat) : Int) (cutS p.data (a + i * st) (a + i * st + st)) true)) ∧ (cutAll p st K a)[K]? = some (p.cut ((a + K * st : Nat) : Int) (cutS p.data (a + K * st) p.data.size) p.more)
 | 0, a => by simp [cutAll]
 | K + 1, a => by
  obtain ⟨h1, h2, h3⟩ := cutAll_get p st K (a + st)
  have hm : ∀ i, a + st + i * st = a + (i + 1) * st := fun i => by rw [Nat.add_mul]; omega
  refine ⟨by simp [cutAll, h1], fun i hi => ?_, ?_⟩
  ·cases i with
   | zero => simp [cutAll]
   | succ i => simp only [cutAll, List.getElem?_cons_succ]; rw [h2 i (by omega), hm]
  ·simp only [cutAll, List.getElem?_cons_succ]; rw [h3, hm]
def joined : List Pk → ByteArray
 | [] => ⟨#[]⟩
 | x :: l => x.data ++ joined l
theorem joined_cut (p : Pk) (st : Nat) : ∀ K a, a + K * st ≤ p.data.size → joined (cutAll p st K a) = cutS p.data a p.data.size
 | 0, a, _ => by
  show cutS p.data a p.data.size ++ (⟨#[]⟩ : ByteArray) = _
  exact ByteArray.append_empty
 | K + 1, a, h => by
  rw [Nat.add_mul] at h
  show cutS p.data a (a + st) ++ joined (cutAll p st K (a + st)) = _
  rw [joined_cut p st K (a + st) (by omega), cutS_app _ _ _ _ (by omega) (by omega)]
theorem joined_snoc (l : List Pk) (x : Pk) : joined (l ++ [x]) = joined l ++ x.data := by
 induction l with
 | nil => show x.data ++ (⟨#[]⟩ : ByteArray) = (⟨#[]⟩ : ByteArray) ++ x.data; rw [show (⟨#[]⟩ : ByteArray) = ByteArray.empty from rfl, ByteArray.append_empty, ByteArray.empty_append]
 | cons y l ih => show y.data ++ joined (l ++ [x]) = y.data ++ joined l ++ x.data; rw [ih, ByteArray.append_assoc]
def PkOk (p : Pk) : Prop := p.opts.size ≤ 40 ∧ p.data.size + p.opts.size ≤ 65515 ∧ 0 ≤ p.frag ∧ p.frag ≤ 8191 ∧ (p.more = true → 0 < p.data.size ∧ p.data.size % 8 = 0)
instance (p : Pk) : Decidable (PkOk p) := by unfold PkOk; infer_instance
theorem headL_ok (p : Pk) (h : p.opts.size ≤ 1000000) : headL p = 20 + (p.opts.size : Int) := by unfold headL; exact w64p (by omega) (by omega)
/-- what the pieces are, place by place -/
theorem pieces_at (p : Pk) (size : Int) (hok : PkOk p) (h2 : (p.pieces 0 size).2 = 0) : 20 + (p.opts.size : Int) + 8 ≤ size ∧ size ≤ 65535 ∧ ∃ st K, 8 ≤ st ∧ st % 8 = 0 ∧ K * st ≤ p.data.size ∧ (0 < K → K * st < p.data.size) ∧ (p.pieces 0 size).1.length = K + 1 ∧ ∀ i, i ≤ K → (p.pieces 0 size).1[i]? = some { p with frag := p.frag + ((i * st / 8 : Nat) : Int), data := cutS p.data (i * st) (if i < K then i * st + st else p.data.size), more := if i < K then true else p.more } ∧ 20 + (p.opts.size : Int) + ((if i < K then st else p.data.size - i * st : Nat) : Int) ≤ size := by
 unfold PkOk at hok
 have hh := headL_ok p (by omega)
 by_cases c1 : size < headL p + 8 ∨ 65535 < size
 ·unfold Pk.pieces at h2; rw [if_neg (fun h => h rfl), if_pos c1] at h2; cases h2
 have c1' : 20 + (p.opts.size : Int) + 8 ≤ size ∧ size ≤ 65535 := by omega
 refine ⟨c1'.1, c1'.2, ?_⟩
 by_cases c2 : headL p + (p.data.size : Int) ≤ size
 ·refine ⟨8, 0, by omega, by omega, by omega, by omega, ?_, fun i hi => ?_⟩
  ·unfold Pk.pieces; rw [if_neg (fun h => h rfl), if_neg c1, if_pos c2]; rfl
  ·obtain rfl : i = 0 := by omega
   refine ⟨?_, ?_⟩
   ·unfold Pk.pieces; rw [if_neg (fun h => h rfl), if_neg c1, if_pos c2]
    simp [cutS_all]
   ·rw [if_neg (by omega)]; omega
 by_cases c3 : p.dont = true
 ·unfold Pk.pieces at h2; rw [if_neg (fun h => h rfl), if_neg c1, if_neg c2, if_pos c3] at h2; cases h2
 have e : (p.pieces 0 size).1 = cutAll p ((size - headL p) / 8 * 8).toNat ((p.data.size - 1) / ((size - headL p) / 8 * 8).toNat) 0 := by unfold Pk.pieces; rw [if_neg (fun h => h rfl), if_neg c1, if_neg c2, if_neg c3]
 rw [e]
 obtain ⟨st, hst⟩ : ∃ st : Nat, ((size - headL p) / 8 * 8).toNat = st := ⟨_, rfl⟩
 rw [hst]
 have h8 : 8 ≤ st ∧ st % 8 = 0 ∧ 20 + (p.opts.size : Int) + (st : Int) ≤ size ∧ size < 20 + (p.opts.size : Int) + (st : Int) + 8 := by omega
 have hd := Nat.div_mul_le_self (p.data.size - 1) st
 have hd2 := Nat.lt_mul_of_div_lt (Nat.lt_succ_self ((p.data.size - 1) / st)) (show 0 < st by omega)
 rw [Nat.succ_mul] at hd2
 obtain ⟨K, hK⟩ : ∃ K, (p.data.size - 1) / st = K := ⟨_, rfl⟩
 rw [hK] at hd hd2 ⊢
 obtain ⟨g1, g2, g3⟩ := cutAll_get p st K 0
 refine ⟨st, K, h8.1, h8.2.1, by omega, by omega, g1, fun i hi => ?_⟩
 have him : i * st ≤ K * st := Nat.mul_le_mul_right _ hi
 have hf : wrap64 (p.frag + wrap64 (((i * st : Nat) : Int).tdiv 8)) = p.frag + ((i * st / 8 : Nat) : Int) := by
  rw [Int.tdiv_eq_ediv_of_nonneg (by omega), w64p (x := ((i * st : Nat) : Int) / 8) (by omega) (by omega), w64p (by omega) (by omega)]
  omega
 by_cases hlt : i < K
 ·rw [if_pos hlt, if_pos hlt, if_pos hlt, g2 i hlt, Nat.zero_add]
  unfold Pk.cut
  rw [hf]
  exact ⟨rfl, by omega⟩
 ·obtain rfl : i = K := by omega
  rw [if_neg hlt, if_neg hlt, if_neg hlt, g3, Nat.zero_add]
  unfold Pk.cut
  rw [hf]
  exact ⟨rfl, by omega⟩
theorem pieces_calls (k : Nat) (a b t q n f : Int) (m d : Bool) (o x : ByteArray) (size chk : Int) (w : World) (hC : ip_Check.f k a b t q n f m d o x = some chk) (ho : chk = 0 → o.size ≤ 1000000 ∧ x.size ≤ 1000000) :
  Calls Try.prog 17 #[.agg #[.int .i64 a, .int .i64 b, .int .i64 t, .int .i64 q, .int .i64 n, .int .i64 f, .bool m, .bool d, .string o, .string x], .int .i64 size] w fun e w' => ∃ v, e = .returned (.tuple #[v, .int .i64 (Pk.pieces ⟨a, b, t, q, n, f, m, d, o, x⟩ chk size).2]) ∧ ownsAt w' w.heap.size 23 10 v (Pk.pieces ⟨a, b, t, q, n, f, m, d, o, x⟩ chk size).1.length (pks (Pk.pieces ⟨a, b, t, q, n, f, m, d, o, x⟩ chk size).1) ∧ Below w.heap.size w w' :=
 ip_Pieces.calls k ⟨a, b, t, q, n, f, m, d, o, x⟩ size chk w hC ho
theorem joined_le : ∀ l : List Pk, (∀ y, y ∈ l → y.data.size ≤ 65535) → (joined l).size ≤ l.length * 65535
 | [], _ => Nat.zero_le _
 | x :: l, h => by
  have h1 := joined_le l (fun y hy => h y (List.mem_cons_of_mem _ hy))
  have h2 := h x List.mem_cons_self
  show (x.data ++ joined l).size ≤ (l.length + 1) * 65535
  rw [ByteArray.size_append]; omega
theorem frag_next (f fz : Int) (i st n : Nat) (hf0 : 0 ≤ f) (hf : f ≤ 8191) (hfz : fz = f + ((i * st / 8 : Nat) : Int)) (hst : st % 8 = 0) (hb : (i + 1) * st ≤ 65535) (hn : n = st) : wrap64 (fz + (n : Int) / 8) = f + (((i + 1) * st / 8 : Nat) : Int) := by
 subst hn hfz
 rw [Nat.add_mul] at hb ⊢
 rw [w64p (by omega) (by omega)]
 omega
theorem piece_facts (p : Pk) (st K i : Nat) (hiK : i ≤ K) (hk : K * st ≤ p.data.size) :
  (cutS p.data (i * st) (if i < K then i * st + st else p.data.size)).size = (if i < K then st else p.data.size - i * st) ∧ (cutS p.data (i * st) (if i < K then i * st + st else p.data.size)).size ≤ p.data.size ∧ (cutS p.data 0 (i * st)).size = i * st ∧
  cutS p.data 0 (i * st) ++ cutS p.data (i * st) (if i < K then i * st + st else p.data.size) = cutS p.data 0 (if i < K then (i + 1) * st else p.data.size) := by
 have him : i * st ≤ K * st := Nat.mul_le_mul_right _ hiK
 refine ⟨?_, ?_, by rw [cutS_size _ _ _ (by omega)]; omega, ?_⟩
 ·by_cases h : i < K
  ·have : (i + 1) * st ≤ K * st := Nat.mul_le_mul_right _ h
   rw [Nat.add_mul] at this
   rw [if_pos h, if_pos h, cutS_size _ _ _ (by omega)]; omega
  ·rw [if_neg h, if_neg h, cutS_size _ _ _ (by omega)]
 ·by_cases h : i < K
  ·have : (i + 1) * st ≤ K * st := Nat.mul_le_mul_right _ h
   rw [Nat.add_mul] at this
   rw [if_pos h, cutS_size _ _ _ (by omega)]; omega
  ·rw [if_neg h, cutS_size _ _ _ (by omega)]; omega
 ·by_cases h : i < K
  ·rw [if_pos h, if_pos h, cutS_app _ _ _ _ (by omega) (by omega), Nat.add_mul, Nat.one_mul]
  ·rw [if_neg h, if_neg h, cutS_app _ _ _ _ (by omega) (by omega)]
theorem again_at (x : Pk) (hn : x.data.size ≤ 65535) (ho : x.opts.size ≤ 40) : (((x.pieces 0 (28 + (x.opts.size : Int))).2 = 0 ∧ joined (x.pieces 0 (28 + (x.opts.size : Int))).1 = x.data) ∨ ((x.pieces 0 (28 + (x.opts.size : Int))).2 = 2 ∧ x.dont = true)) ∧ (x.pieces 0 (28 + (x.opts.size : Int))).1.length ≤ 70000 ∧ ∀ y, y ∈ (x.pieces 0 (28 + (x.opts.size : Int))).1 → y.data.size ≤ 65535 := by
 have hh := headL_ok x (by omega)
 have c1 : ¬ (28 + (x.opts.size : Int) < headL x + 8 ∨ 65535 < 28 + (x.opts.size : Int)) := by omega
 unfold Pk.pieces
 rw [if_neg (fun h => h rfl), if_neg c1]
 by_cases c2 : headL x + (x.data.size : Int) ≤ 28 + (x.opts.size : Int)
 ·rw [if_pos c2]
  refine ⟨.inl ⟨rfl, ?_⟩, by simp, fun y hy => ?_⟩
  ·show x.data ++ (⟨#[]⟩ : ByteArray) = _; exact ByteArray.append_empty
  ·rw [List.mem_singleton.1 hy]; exact hn
 rw [if_neg c2]
 by_cases c3 : x.dont = true
 ·rw [if_pos c3]; exact ⟨.inr ⟨rfl, c3⟩, by simp, fun y hy => nomatch hy⟩
 rw [if_neg c3]
 have hst : ((28 + (x.opts.size : Int) - headL x) / 8 * 8).toNat = 8 := by omega
 rw [hst]
 have hd := Nat.div_mul_le_self (x.data.size - 1) 8
 obtain ⟨g1, g2, g3⟩ := cutAll_get x 8 ((x.data.size - 1) / 8) 0
 refine ⟨.inl ⟨rfl, by rw [joined_cut x 8 _ 0 (by omega), cutS_all]⟩, by rw [g1]; omega, fun y hy => ?_⟩
 obtain ⟨i, hi, he⟩ := List.getElem_of_mem hy
 rw [g1] at hi
 have hy2 : (cutAll x 8 ((x.data.size - 1) / 8) 0)[i]? = some y := by rw [← he]; exact List.getElem?_eq_getElem _
 by_cases hlt : i < (x.data.size - 1) / 8
 ·rw [g2 i hlt] at hy2
  rw [← Option.some.inj hy2]
  show (cutS x.data _ _).size ≤ _
  rw [cutS_size _ _ _ (by omega)]; omega
 ·obtain rfl : i = (x.data.size - 1) / 8 := by omega
  rw [g3] at hy2
  rw [← Option.some.inj hy2]
  show (cutS x.data _ _).size ≤ _
  rw [cutS_size _ _ _ (by omega)]; omega
theorem pieces_err (p : Pk) (size : Int) (h : (p.pieces 0 size).2 ≠ 0) : (p.pieces 0 size).1 = [] := by
 unfold Pk.pieces at h ⊢
 split <;> try rfl
 split <;> try rfl
 split <;> try rfl
 ·simp_all
 split <;> try rfl
 simp_all
theorem pks_get : ∀ (l : List Pk) (i : Nat) (x : Pk), l[i]? = some x → ∀ j u, (pkc x)[j]? = some u → (pks l)[i * 10 + j]? = some u
 | [], i, x, h => by simp at h
 | y :: l, 0, x, h => by
  simp at h; subst h
  intro j u hj
  show (pkc y ++ pks l)[0 * 10 + j]? = some u
  rw [Nat.zero_mul, Nat.zero_add, List.getElem?_append_left (List.getElem?_eq_some_iff.1 hj).1]; exact hj
 | y :: l, i + 1, x, h => by
  intro j u hj
  have h1 := pks_get l i x (by simpa using h) j u hj
  show (pkc y ++ pks l)[(i + 1) * 10 + j]? = some u
  rw [show (i + 1) * 10 + j = (pkc y).length + (i * 10 + j) by show _ = 10 + _; omega, List.getElem?_append_right (Nat.le_add_right _ _), Nat.add_sub_cancel_left]; exact h1
def encAll (k : Nat) (most : Int) : List Pk → Option Bool
 | [] => some true
 | x :: l => (ip_Check.f k x.src x.dst x.ttl x.proto x.ident x.frag x.more x.dont x.opts x.data).bind fun c => if c = 0 then (ip_Encode.f k x.src x.dst x.ttl x.proto x.ident x.frag x.more x.dont x.opts x.data).bind fun r => if r.2 = 0 ∧ (r.1.size : Int) ≤ most then encAll k most l else none else none
theorem encAll_mem (k : Nat) (most : Int) : ∀ l, encAll k most l = some true → ∀ x, x ∈ l → ip_Check.f k x.src x.dst x.ttl x.proto x.ident x.frag x.more x.dont x.opts x.data = some 0 ∧ ∃ b, ip_Encode.f k x.src x.dst x.ttl x.proto x.ident x.frag x.more x.dont x.opts x.data = some (b, 0) ∧ (b.size : Int) ≤ most
 | [], _, x, hx => nomatch hx
 | y :: l, h, x, hx => by
  unfold encAll at h
  obtain ⟨c, hc, h⟩ := Option.bind_eq_some_iff.1 h
  split at h
  ·rename_i hc0
   subst hc0
   obtain ⟨⟨b, e⟩, hb, h⟩ := Option.bind_eq_some_iff.1 h
   split at h
   ·rename_i h0
    rcases List.mem_cons.1 hx with rfl | hm
    ·obtain ⟨h1, h2⟩ := h0
     change e = 0 at h1
     subst h1
     exact ⟨hc, b, hb, h2⟩
    ·exact encAll_mem k most l h x hm
   ·cases h
  ·cases h
theorem encAll_mono (k : Nat) (most : Int) : ∀ l, LeO (encAll k most l) (encAll (k + 1) most l)
 | [] => LeO.refl _
 | y :: l => by
  unfold encAll
  exact LeO.bind (ip_Check.mono _ _ _ _ _ _ _ _ _ _ _) fun _ => LeO.ite (LeO.bind (ip_Encode.mono _ _ _ _ _ _ _ _ _ _ _) fun _ => LeO.ite (encAll_mono k most l) (LeO.refl _)) (LeO.refl _)
def sternpostlaw05_IpWhole_tail.f (k : Nat) (x1 : Int) (c0 : Int) (c1 : Int) (c2 : Int) (c3 : Int) (c4 : Int) (c5 : Int) (c6 : Bool) (c7 : Bool) (c8 : ByteArray) (c9 : ByteArray) : Option Bool :=
 (sternpostlaw05_works.f k).bind fun b => if b = true then (ip_Check.f k c0 c1 c2 c3 c4 c5 c6 c7 c8 c9).bind fun c => if c = 0 then (if PkOk ⟨c0, c1, c2, c3, c4, c5, c6, c7, c8, c9⟩ then encAll k x1 (Pk.pieces ⟨c0, c1, c2, c3, c4, c5, c6, c7, c8, c9⟩ 0 x1).1 else none) else some true else none
theorem sternpostlaw05_IpWhole_tail.mono (x1 : Int) (c0 : Int) (c1 : Int) (c2 : Int) (c3 : Int) (c4 : Int) (c5 : Int) (c6 : Bool) (c7 : Bool) (c8 : ByteArray) (c9 : ByteArray) (k : Nat) : LeO (sternpostlaw05_IpWhole_tail.f k x1 c0 c1 c2 c3 c4 c5 c6 c7 c8 c9) (sternpostlaw05_IpWhole_tail.f (k + 1) x1 c0 c1 c2 c3 c4 c5 c6 c7 c8 c9) := by
 unfold sternpostlaw05_IpWhole_tail.f
 exact LeO.bind (sternpostlaw05_works.mono _) fun _ => LeO.ite (LeO.bind (ip_Check.mono _ _ _ _ _ _ _ _ _ _ _) fun _ => LeO.ite (LeO.ite (encAll_mono k x1 _) (LeO.refl _)) (LeO.refl _)) (LeO.refl _)

def sternpostlaw05_IpWhole.f (k : Nat) (a0_0 : Int) (a0_1 : Int) (a0_2 : Int) (a0_3 : Int) (a0_4 : Int) (a0_5 : Int) (a0_6 : Bool) (a0_7 : Bool) (a0_8 : ByteArray) (a0_9 : ByteArray) (a1 : Int) : Option (Bool) := sternpostlaw05_IpWhole_tail.f k a1 a0_0 a0_1 a0_2 a0_3 a0_4 a0_5 a0_6 a0_7 a0_8 a0_9
theorem sternpostlaw05_IpWhole.mono : ∀ a0 a1 a2 a3 a4 a5 a6 a7 a8 a9 a10 k, LeO (sternpostlaw05_IpWhole.f k a0 a1 a2 a3 a4 a5 a6 a7 a8 a9 a10) (sternpostlaw05_IpWhole.f (k + 1) a0 a1 a2 a3 a4 a5 a6 a7 a8 a9 a10) := by
 intro a0 a1 a2 a3 a4 a5 a6 a7 a8 a9 a10 k
 unfold sternpostlaw05_IpWhole.f
 repeat' first
   | (with_reducible exact sternpostlaw05_IpWhole_tail.mono _ _ _ _ _ _ _ _ _ _ _ _)
   | (with_reducible exact LeO.refl _)
   | (with_reducible exact LeO.none _)
   | (with_reducible refine LeO.ite ?_ ?_)
   | (with_reducible refine LeO.bind ?_ (fun _ => ?_))
   | exact sternpostlaw05_IpWhole_tail.mono _ _ _ _ _ _ _ _ _ _ _ _
   | exact LeO.none _
   | refine LeO.ite ?_ ?_
   | refine LeO.bind ?_ (fun _ => ?_)
set_option maxHeartbeats 8000000 in
set_option maxRecDepth 100000 in
theorem sternpostlaw05_IpWhole.calls (k : Nat) (a0_0 : Int) (a0_1 : Int) (a0_2 : Int) (a0_3 : Int) (a0_4 : Int) (a0_5 : Int) (a0_6 : Bool) (a0_7 : Bool) (a0_8 : ByteArray) (a0_9 : ByteArray) (a1 : Int) (r : Bool) (w : World) (h : sternpostlaw05_IpWhole.f k a0_0 a0_1 a0_2 a0_3 a0_4 a0_5 a0_6 a0_7 a0_8 a0_9 a1 = some r) (hrT_ : r = true) :
  Calls Try.prog 4 #[.agg #[.int .i64 a0_0, .int .i64 a0_1, .int .i64 a0_2, .int .i64 a0_3, .int .i64 a0_4, .int .i64 a0_5, .bool a0_6, .bool a0_7, .string a0_8, .string a0_9], .int .i64 a1] w fun e w' => e = .returned (.bool r) ∧ Below w.heap.size w w' := by
 have hu23 := Try.underlying23
 have HB := Aside0.mk (Below.refl w.heap.size w)
 have H : (sternpostlaw05_IpWhole_tail.f k a1 a0_0 a0_1 a0_2 a0_3 a0_4 a0_5 a0_6 a0_7 a0_8 a0_9) = some r := h
 clear h
 go_enter Try.func4, Try.ntmps4
 go_upto_region 1 with fail
 -- UPTO BARE
 obtain rfl : r = true := hrT_
 clear HB
 obtain ⟨p, e0, e1, e2, e3, e4, e5, e6, e7, e8, e9⟩ : ∃ p : Pk, a0_0 = p.src ∧ a0_1 = p.dst ∧ a0_2 = p.ttl ∧ a0_3 = p.proto ∧ a0_4 = p.ident ∧ a0_5 = p.frag ∧ a0_6 = p.more ∧ a0_7 = p.dont ∧ a0_8 = p.opts ∧ a0_9 = p.data := ⟨⟨a0_0, a0_1, a0_2, a0_3, a0_4, a0_5, a0_6, a0_7, a0_8, a0_9⟩, rfl, rfl, rfl, rfl, rfl, rfl, rfl, rfl, rfl, rfl⟩
 subst e0 e1 e2 e3 e4 e5 e6 e7 e8 e9
 unfold sternpostlaw05_IpWhole_tail.f at H
 have heta : (⟨p.src, p.dst, p.ttl, p.proto, p.ident, p.frag, p.more, p.dont, p.opts, p.data⟩ : Pk) = p := rfl
 rw [heta] at H
 clear heta
 obtain ⟨b, hw, H⟩ := Option.bind_eq_some_iff.mp H
 by_cases hb : b = true
 rotate_left
 ·rw [if_neg hb] at H; cases H
 subst hb
 rw [if_pos rfl] at H
 obtain ⟨c, hc, H⟩ := Option.bind_eq_some_iff.mp H
 have HW := Aside0.mk hw
 have HC := Aside0.mk hc
 have HH := Aside0.mk H
 clear hw hc H
 have hx := blk_new w (.cells #[.int .i64 p.src, .int .i64 p.dst, .int .i64 p.ttl, .int .i64 p.proto, .int .i64 p.ident, .int .i64 p.frag, .bool p.more, .bool p.dont, .string p.opts, .string p.data] 23)
 have hb := below_alloc (Below.refl w.heap.size w) (.cells #[.int .i64 p.src, .int .i64 p.dst, .int .i64 p.ttl, .int .i64 p.proto, .int .i64 p.ident, .int .i64 p.frag, .bool p.more, .bool p.dont, .string p.opts, .string p.data] 23)
 generalize hbp : w.heap.size = bp at hx ⊢
 generalize w.alloc (.cells #[.int .i64 p.src, .int .i64 p.dst, .int .i64 p.ttl, .int .i64 p.proto, .int .i64 p.ident, .int .i64 p.frag, .bool p.more, .bool p.dont, .string p.opts, .string p.data] 23) = W1 at hx hb ⊢
 have HX := Aside0.mk hx; have HB := Aside0.mk hb; clear hx hb
 have HEP := Aside0.mk (show w.heap.size ≤ bp from Nat.le_of_eq hbp)
 clear hbp
 go_wp2_with fail
 refine (sternpostlaw05_works.calls k true _ HW.out).mono ?_
 rintro e W2 ⟨rfl, hb⟩
 have HX_ := Aside0.mk (blk_below HX.out hb); have HB_ := Aside0.mk (below_step HB.out hb); clear HX HB hb; have HX := HX_; have HB := HB_; clear HX_ HB_
 clear HW
 have hx := HX.out
 obtain ⟨hc0, hc1, hc2, hc3, hc4, hc5, hc6, hc7, hc8, hc9⟩ : W2.cell? ⟨bp, 0, none⟩ = some (.int .i64 p.src) ∧ W2.cell? ⟨bp, 1, none⟩ = some (.int .i64 p.dst) ∧ W2.cell? ⟨bp, 2, none⟩ = some (.int .i64 p.ttl) ∧ W2.cell? ⟨bp, 3, none⟩ = some (.int .i64 p.proto) ∧ W2.cell? ⟨bp, 4, none⟩ = some (.int .i64 p.ident) ∧ W2.cell? ⟨bp, 5, none⟩ = some (.int .i64 p.frag) ∧ W2.cell? ⟨bp, 6, none⟩ = some (.bool p.more) ∧ W2.cell? ⟨bp, 7, none⟩ = some (.bool p.dont) ∧ W2.cell? ⟨bp, 8, none⟩ = some (.string p.opts) ∧ W2.cell? ⟨bp, 9, none⟩ = some (.string p.data) := ⟨blk_cell hx 0, blk_cell hx 1, blk_cell hx 2, blk_cell hx 3, blk_cell hx 4, blk_cell hx 5, blk_cell hx 6, blk_cell hx 7, blk_cell hx 8, blk_cell hx 9⟩
 clear hx
 by_cases hc : c = 0
 rotate_left
 ·go_wp2_with fail
  refine (ip_Pieces.calls k p a1 c _ HC.out (fun h => absurd h hc)).mono ?_
  clear hc0 hc1 hc2 hc3 hc4 hc5 hc6 hc7 hc8 hc9
  have e : p.pieces c a1 = ([], c) := by unfold Pk.pieces; rw [if_pos hc]
  rw [e]
  clear e
  rintro e W3 ⟨v, rfl, ho, hb⟩
  have HX_ := Aside0.mk (blk_below HX.out hb); have HB_ := Aside0.mk (below_step HB.out hb); clear HX HB hb; have HX := HX_; have HB := HB_; clear HX_ HB_
  obtain ⟨A, cz, rfl, _⟩ := ownsAt_len ho
  have d1 : (c != 0) = true := bne_iff_ne.mpr hc
  have d2 : decide (c = 0) = false := decide_eq_false hc
  clear ho hc
  go_wp2
  go_ret
  exact ⟨rfl, HB.out⟩
 subst hc
 have hH := HH.out
 rw [if_pos rfl] at hH
 by_cases hok : PkOk p
 rotate_left
 ·rw [if_neg hok] at hH; cases hH
 rw [if_pos hok] at hH
 have HE := Aside0.mk hH
 have HOK := Aside0.mk hok
 clear HH hH hok
 go_wp2_with fail
 refine (ip_Pieces.calls k p a1 0 _ HC.out (fun _ => by have := HOK.out; unfold PkOk at this; omega)).mono ?_
 clear hc0 hc1 hc2 hc3 hc4 hc5 hc6 hc7 hc8 hc9
 rintro e W3 ⟨v, rfl, ho, hb⟩
 by_cases h2 : (p.pieces 0 a1).2 = 0
 rotate_left
 ·rw [pieces_err p a1 h2] at ho
  have HX_ := Aside0.mk (blk_below HX.out hb); have HB_ := Aside0.mk (below_step HB.out hb); clear HX HB hb; have HX := HX_; have HB := HB_; clear HX_ HB_
  obtain ⟨A, cz, rfl, _⟩ := ownsAt_len ho
  obtain ⟨e2, he2⟩ : ∃ e_, (p.pieces 0 a1).2 = e_ := ⟨_, rfl⟩
  rw [he2] at h2 ⊢
  have d1 : (e2 != 0) = true := bne_iff_ne.mpr h2
  have d2 : decide (e2 = 0) = false := decide_eq_false h2
  clear ho h2 he2
  go_wp2
  go_ret
  exact ⟨rfl, HB.out⟩
 obtain ⟨hs1, hs2, st, K, hst⟩ := pieces_at p a1 HOK.out h2
 rw [h2]
 obtain ⟨l, hl⟩ : ∃ l_, (p.pieces 0 a1).1 = l_ := ⟨_, rfl⟩
 rw [hl] at ho hst HE
 have HV := Aside0.mk (ownsAt_low ho); have HS := Aside0.mk (And.intro hs1 (And.intro hs2 hst))
 clear ho hst hs1 hs2 h2 hl
 have HX_ := Aside0.mk (blk_below HX.out hb); have HB_ := Aside0.mk (below_step HB.out hb); clear HX HB hb; have HX := HX_; have HB := HB_; clear HX_ HB_
 obtain ⟨A0, cz, rfl, _⟩ := ownsAt_len HV.out
 have hx := HX.out
 have hc5 := blk_cell hx 5
 change _ = some (Value.int .i64 p.frag) at hc5
 clear hx
 go_upto_region 6 with fail
 have same : ∀ (ph : Nat) W', Below W3.heap.size W3 W' → True := fun _ _ _ => trivial
 refine AnyEvents.region_then 4 (E := []) (C := fun (_ : Nat) W' => Below W3.heap.size W3 W') (G := fun _ _ _ _ => True) (T := []) (R := fun _ _ _ _ => True) (vs := [?v3_0, ?v3_1, ?v3_2, ?v3_3]) (by kernel_rfl) (by kernel_rfl) rfl (by kernel_rfl) ?hc3r same (fun _ _ _ _ _ _ _ _ _ => trivial) (fun _ h => nomatch h) (fun x => ?obs3r) ?fin3r
 case hc3r => exact ⟨rfl, rfl, rfl, Nat.le_refl _, fun _ _ => rfl⟩
 case obs3r =>
  refine AnyEvents.obs_cons ?v3_0 (val_hole (by simp only [List.getD_cons_zero, List.getD_cons_succ])) (AnyEvents.ob_plain (v := ?v3_0) rfl rfl rfl same (by simp only [List.getD_cons_zero, List.getD_cons_succ]) (fun ph W' hwn hW => ?_)) ?_
  ·have z0 := pw_cell_below hW hc5; first | (go_simp; done) | (go_simp; (try simp only [i64_w]); rfl) | (go_simp; simp; rfl)
  try simp only [Act.put, List.setIfInBounds_toArray, List.set_cons_zero, List.set_cons_succ]
  refine AnyEvents.obs_cons ?v3_1 (val_hole (by simp only [List.getD_cons_zero, List.getD_cons_succ])) (AnyEvents.ob_plain (v := ?v3_1) rfl rfl rfl same (by simp only [List.getD_cons_zero, List.getD_cons_succ]) (fun ph W' hwn hW => ?_)) ?_
  ·have z0 := pw_cell_below hW hc5; first | (go_simp; done) | (go_simp; (try simp only [i64_w]); rfl) | (go_simp; simp; rfl)
  try simp only [Act.put, List.setIfInBounds_toArray, List.set_cons_zero, List.set_cons_succ]
  refine AnyEvents.obs_cons ?v3_2 (val_hole (by simp only [List.getD_cons_zero, List.getD_cons_succ])) (AnyEvents.ob_plain (v := ?v3_2) rfl rfl rfl same (by simp only [List.getD_cons_zero, List.getD_cons_succ]) (fun ph W' hwn hW => ?_)) ?_
  ·have z0 := pw_cell_below hW hc5; first | (go_simp; done) | (go_simp; (try simp only [i64_w]); rfl) | (go_simp; simp; rfl)
  try simp only [Act.put, List.setIfInBounds_toArray, List.set_cons_zero, List.set_cons_succ]
  refine AnyEvents.obs_cons ?v3_3 (val_hole (by simp only [List.getD_cons_zero, List.getD_cons_succ])) (AnyEvents.ob_plain (v := ?v3_3) rfl rfl rfl same (by simp only [List.getD_cons_zero, List.getD_cons_succ]) (fun ph W' hwn hW => ?_)) ?_
  ·have z0 := pw_cell_below hW hc5; first | (go_simp; done) | (go_simp; (try simp only [i64_w]); rfl) | (go_simp; simp; rfl)
  try simp only [Act.put, List.setIfInBounds_toArray, List.set_cons_zero, List.set_cons_succ]
  trivial
 intro x W4 hD _
 simp only [List.take_succ_cons, List.take_zero, List.drop_succ_cons, List.drop_zero]
 rw [AnyOrder.lexAt_cons ?v3_0 (val_hole (by simp only [List.getD_cons_zero, List.getD_cons_succ]))]
 try simp only [Act.put, List.setIfInBounds_toArray, List.set_cons_zero, List.set_cons_succ]
 rw [AnyOrder.lexAt_cons ?v3_1 (val_hole (by simp only [List.getD_cons_zero, List.getD_cons_succ]))]
 try simp only [Act.put, List.setIfInBounds_toArray, List.set_cons_zero, List.set_cons_succ]
 rw [AnyOrder.lexAt_cons ?v3_2 (val_hole (by simp only [List.getD_cons_zero, List.getD_cons_succ]))]
 try simp only [Act.put, List.setIfInBounds_toArray, List.set_cons_zero, List.set_cons_succ]
 rw [AnyOrder.lexAt_cons ?v3_3 (val_hole (by simp only [List.getD_cons_zero, List.getD_cons_succ]))]
 try simp only [Act.put, List.setIfInBounds_toArray, List.set_cons_zero, List.set_cons_succ]
 rw [AnyOrder.lexAt_nil]
 clear same
 have HX_ := Aside0.mk (blk_below HX.out hD); have HV_ := Aside0.mk (ownsAt_below HV.out hD); have HB_ := Aside0.mk (below_step HB.out hD); clear HX HV HB hD; have HX := HX_; have HV := HV_; have HB := HB_; clear HX_ HV_ HB_
 clear hc5
 go_wp2_with fail
 have hd0 : cutS p.data 0 (0 * st) = ⟨#[]⟩ := by rw [Nat.zero_mul]; unfold cutS; exact ByteArray.ext (by simp)
 go_loopg [7, 8, 36] (K + 1) (fun kq v7 v8 v36 W => ∃ (i : Nat) (iz fz : Int) (d : ByteArray), v7 = .string d ∧ v8 = .int .i64 fz ∧ v36 = .int .i64 iz ∧ Aside0 (iz = (i : Int) ∧ kq + i = K + 1) ∧ Aside0 ((i ≤ K → fz = p.frag + ((i * st / 8 : Nat) : Int) ∧ d = cutS p.data 0 (i * st)) ∧ (i = K + 1 → d = p.data)) ∧ Aside0 (W.heap[bp]? = some (.cells #[.int .i64 p.src, .int .i64 p.dst, .int .i64 p.ttl, .int .i64 p.proto, .int .i64 p.ident, .int .i64 p.frag, .bool p.more, .bool p.dont, .string p.opts, .string p.data] 23 (0, 0))) ∧ Aside0 (ownsAt W 0 23 10 (.slice A0 l.length cz) l.length (pks l)) ∧ Aside0 (Below w.heap.size w W))
 case atStart => exact ⟨0, 0, p.frag, _, rfl, rfl, rfl, ⟨rfl, rfl⟩, ⟨fun _ => ⟨by simp, hd0.symm⟩, fun h => absurd h (by omega)⟩, HX, HV, HB⟩
 case round =>
  clear HX HV HB hd0
  obtain ⟨i, iz, fz, d, rfl, rfl, rfl, HK, HD, HX, HV, HB⟩ := hrel
  have hK := HK.out
  obtain ⟨s1, s2, s3, s4, s5, s6, hL, hat⟩ := HS.out
  by_cases hlt : iz < (l.length : Int)
  rotate_left
  ·have d1 : decide (iz < (l.length : Int)) = false := decide_eq_false hlt
   have hd := HD.out.2 (by omega)
   subst hd
   have hx := HX.out
   have hc9 := blk_cell hx 9
   change _ = some (Value.string p.data) at hc9
   clear hx hK s1 s2 s3 s4 s5 s6 hL hat hlt
   go_wp2
   go_ret
   exact ⟨rfl, HB.out⟩
  have hiK : i ≤ K := by omega
  obtain ⟨k1, rfl⟩ : ∃ k1, gk = k1 + 1 := ⟨gk - 1, by omega⟩
  obtain ⟨hx, hsz⟩ := hat i hiK
  obtain ⟨hfz, hd⟩ := HD.out.1 hiK
  rw [← hfz] at hx
  obtain ⟨dx, hdx⟩ : ∃ d_, cutS p.data (i * st) (if i < K then i * st + st else p.data.size) = d_ := ⟨_, rfl⟩
  obtain ⟨mx, hmx⟩ : ∃ m_, (if i < K then true else p.more) = m_ := ⟨_, rfl⟩
  rw [hdx, hmx] at hx
  have him : i * st ≤ K * st := Nat.mul_le_mul_right _ hiK
  have hok := HOK.out
  unfold PkOk at hok
  have hKb : K ≤ 65535 := Nat.le_trans (Nat.le_mul_of_pos_right K (show 0 < st by omega)) (by omega)
  obtain ⟨hdxs, hdxb, hds, hend⟩ := piece_facts p st K i hiK s5
  rw [hdx] at hdxs hdxb hend
  rw [← hd] at hds hend
  rw [← hdxs] at hsz
  obtain ⟨hck, b, hen, hbm⟩ := encAll_mem k a1 l HE.out _ (List.mem_of_getElem? hx)
  have HCK := Aside0.mk (show ip_Check.f k p.src p.dst p.ttl p.proto p.ident fz mx p.dont p.opts dx = some 0 from hck); have HEN := Aside0.mk (show ip_Encode.f k p.src p.dst p.ttl p.proto p.ident fz mx p.dont p.opts dx = some (b, 0) from hen); have HBM := Aside0.mk hbm; have HDX := Aside0.mk (And.intro hdxb (And.intro hds (And.intro hdxs hend))); have HFZ := Aside0.mk hfz; have HIK := Aside0.mk hiK; have HMX := Aside0.mk hmx; have HSZ := Aside0.mk hok
  obtain ⟨g, o, rfl, hcells⟩ := ownsAt_cells HV.out (by omega)
  obtain ⟨hq0, hq1, hq2, hq3, hq4, hq5, hq6, hq7, hq8, hq9⟩ : wr.cell? ⟨g, o + i * 10, none⟩ = some (.int .i64 p.src) ∧ wr.cell? ⟨g, o + i * 10 + 1, none⟩ = some (.int .i64 p.dst) ∧ wr.cell? ⟨g, o + i * 10 + 2, none⟩ = some (.int .i64 p.ttl) ∧ wr.cell? ⟨g, o + i * 10 + 3, none⟩ = some (.int .i64 p.proto) ∧ wr.cell? ⟨g, o + i * 10 + 4, none⟩ = some (.int .i64 p.ident) ∧ wr.cell? ⟨g, o + i * 10 + 5, none⟩ = some (.int .i64 fz) ∧ wr.cell? ⟨g, o + i * 10 + 6, none⟩ = some (.bool mx) ∧ wr.cell? ⟨g, o + i * 10 + 7, none⟩ = some (.bool p.dont) ∧ wr.cell? ⟨g, o + i * 10 + 8, none⟩ = some (.string p.opts) ∧ wr.cell? ⟨g, o + i * 10 + 9, none⟩ = some (.string dx) := ⟨hcells _ _ (pks_get l i _ hx 0 _ rfl), hcells _ _ (pks_get l i _ hx 1 _ rfl), hcells _ _ (pks_get l i _ hx 2 _ rfl), hcells _ _ (pks_get l i _ hx 3 _ rfl), hcells _ _ (pks_get l i _ hx 4 _ rfl), hcells _ _ (pks_get l i _ hx 5 _ rfl), hcells _ _ (pks_get l i _ hx 6 _ rfl), hcells _ _ (pks_get l i _ hx 7 _ rfl), hcells _ _ (pks_get l i _ hx 8 _ rfl), hcells _ _ (pks_get l i _ hx 9 _ rfl)⟩
  have HLL := Aside0.mk hL
  have HST8 := Aside0.mk (And.intro s3 (And.intro s4 s5))
  have p0 : 0 ≤ iz := by omega
  have tn : iz.toNat = i := by omega
  have hn : wrap64 (iz + 1) = ((i + 1 : Nat) : Int) := by rw [w64p (by omega) (by omega)]; omega
  have HN := Aside0.mk hn
  have HLB := Aside0.mk (show (i < K → iz ≠ wrap64 ((l.length : Int) - 1)) ∧ (¬ i < K → iz = wrap64 ((l.length : Int) - 1)) by rw [w64p (by omega) (by omega)]; omega)
  replace p0 := eq_true p0
  replace hlt := eq_true hlt
  clear hcells hx hfz hd hdx hmx him hok hdxs hsz hdxb hds hend hck hen hbm hiK hL hat s1 s2 s3 s4 s5 s6 hK hn hKb
  go_upto_region 10 with fail
  have hx := blk_new wr (.cells #[.int .i64 p.src, .int .i64 p.dst, .int .i64 p.ttl, .int .i64 p.proto, .int .i64 p.ident, .int .i64 fz, .bool mx, .bool p.dont, .string p.opts, .string dx] 23)
  have hb := below_alloc (Below.refl wr.heap.size wr) (.cells #[.int .i64 p.src, .int .i64 p.dst, .int .i64 p.ttl, .int .i64 p.proto, .int .i64 p.ident, .int .i64 fz, .bool mx, .bool p.dont, .string p.opts, .string dx] 23)
  clear hq0 hq1 hq2 hq3 hq4 hq5 hq6 hq7 hq8 hq9 p0 hlt tn
  have HX_ := Aside0.mk (blk_below HX.out hb); have HV_ := Aside0.mk (ownsAt_below HV.out hb); have HB_ := Aside0.mk (below_step HB.out hb); clear HX HV HB hb; have HX := HX_; have HV := HV_; have HB := HB_; clear HX_ HV_ HB_
  generalize wr.heap.size = bx at hx ⊢
  generalize wr.alloc (.cells #[.int .i64 p.src, .int .i64 p.dst, .int .i64 p.ttl, .int .i64 p.proto, .int .i64 p.ident, .int .i64 fz, .bool mx, .bool p.dont, .string p.opts, .string dx] 23) = Wb at hx HX HV HB ⊢
  have HBX := Aside0.mk hx
  obtain ⟨hx0, hx1, hx2, hx3, hx4, hx5, hx6, hx7, hx8, hx9⟩ : Wb.cell? ⟨bx, 0, none⟩ = some (.int .i64 p.src) ∧ Wb.cell? ⟨bx, 1, none⟩ = some (.int .i64 p.dst) ∧ Wb.cell? ⟨bx, 2, none⟩ = some (.int .i64 p.ttl) ∧ Wb.cell? ⟨bx, 3, none⟩ = some (.int .i64 p.proto) ∧ Wb.cell? ⟨bx, 4, none⟩ = some (.int .i64 p.ident) ∧ Wb.cell? ⟨bx, 5, none⟩ = some (.int .i64 fz) ∧ Wb.cell? ⟨bx, 6, none⟩ = some (.bool mx) ∧ Wb.cell? ⟨bx, 7, none⟩ = some (.bool p.dont) ∧ Wb.cell? ⟨bx, 8, none⟩ = some (.string p.opts) ∧ Wb.cell? ⟨bx, 9, none⟩ = some (.string dx) := ⟨blk_cell hx 0, blk_cell hx 1, blk_cell hx 2, blk_cell hx 3, blk_cell hx 4, blk_cell hx 5, blk_cell hx 6, blk_cell hx 7, blk_cell hx 8, blk_cell hx 9⟩
  clear hx
  go_wp2_with fail
  refine (ip_Encode.calls k p.src p.dst p.ttl p.proto p.ident fz mx p.dont p.opts dx b 0 _ HEN.out).mono ?_
  rintro e W5 ⟨rfl, hb⟩
  clear hx0 hx1 hx2 hx3 hx4 hx5 hx6 hx7 hx8 hx9
  have HX_ := Aside0.mk (blk_below HX.out hb); have HV_ := Aside0.mk (ownsAt_below HV.out hb); have HB_ := Aside0.mk (below_step HB.out hb); have HBX_ := Aside0.mk (blk_below HBX.out hb); clear HX HV HB HBX hb; have HX := HX_; have HV := HV_; have HB := HB_; have HBX := HBX_; clear HX_ HV_ HB_ HBX_
  have hx := HBX.out
  obtain ⟨hx0, hx1, hx2, hx3, hx4, hx5, hx6, hx7, hx8, hx9⟩ : W5.cell? ⟨bx, 0, none⟩ = some (.int .i64 p.src) ∧ W5.cell? ⟨bx, 1, none⟩ = some (.int .i64 p.dst) ∧ W5.cell? ⟨bx, 2, none⟩ = some (.int .i64 p.ttl) ∧ W5.cell? ⟨bx, 3, none⟩ = some (.int .i64 p.proto) ∧ W5.cell? ⟨bx, 4, none⟩ = some (.int .i64 p.ident) ∧ W5.cell? ⟨bx, 5, none⟩ = some (.int .i64 fz) ∧ W5.cell? ⟨bx, 6, none⟩ = some (.bool mx) ∧ W5.cell? ⟨bx, 7, none⟩ = some (.bool p.dont) ∧ W5.cell? ⟨bx, 8, none⟩ = some (.string p.opts) ∧ W5.cell? ⟨bx, 9, none⟩ = some (.string dx) := ⟨blk_cell hx 0, blk_cell hx 1, blk_cell hx 2, blk_cell hx 3, blk_cell hx 4, blk_cell hx 5, blk_cell hx 6, blk_cell hx 7, blk_cell hx 8, blk_cell hx 9⟩
  clear hx
  have hx := HX.out
  obtain ⟨hc0, hc1, hc2, hc3, hc4, hc5, hc6, hc7, hc8, hc9⟩ : W5.cell? ⟨bp, 0, none⟩ = some (.int .i64 p.src) ∧ W5.cell? ⟨bp, 1, none⟩ = some (.int .i64 p.dst) ∧ W5.cell? ⟨bp, 2, none⟩ = some (.int .i64 p.ttl) ∧ W5.cell? ⟨bp, 3, none⟩ = some (.int .i64 p.proto) ∧ W5.cell? ⟨bp, 4, none⟩ = some (.int .i64 p.ident) ∧ W5.cell? ⟨bp, 5, none⟩ = some (.int .i64 p.frag) ∧ W5.cell? ⟨bp, 6, none⟩ = some (.bool p.more) ∧ W5.cell? ⟨bp, 7, none⟩ = some (.bool p.dont) ∧ W5.cell? ⟨bp, 8, none⟩ = some (.string p.opts) ∧ W5.cell? ⟨bp, 9, none⟩ = some (.string p.data) := ⟨blk_cell hx 0, blk_cell hx 1, blk_cell hx 2, blk_cell hx 3, blk_cell hx 4, blk_cell hx 5, blk_cell hx 6, blk_cell hx 7, blk_cell hx 8, blk_cell hx 9⟩
  clear hx
  have d1 : decide (a1 < (b.size : Int)) = false := decide_eq_false (by have := HBM.out; omega)
  go_upto_region 13 with fail
  clear d1
  obtain ⟨lb, hlb⟩ : ∃ b_ : Bool, decide (i < K) = b_ := ⟨_, rfl⟩
  have d2 : (iz == wrap64 ((l.length : Int) - 1)) = !lb := by
    rw [← hlb]
    by_cases hi : i < K
    ·rw [decide_eq_true hi]; exact beq_eq_false_iff_ne.mpr (HLB.out.1 hi)
    ·rw [decide_eq_false hi]; exact beq_iff_eq.mpr (HLB.out.2 hi)
  go_upto_region 14 with fail
  go_cut [116] (fun v116 W => v116 = .bool false ∧ Aside0 (W.heap[bp]? = some (.cells #[.int .i64 p.src, .int .i64 p.dst, .int .i64 p.ttl, .int .i64 p.proto, .int .i64 p.ident, .int .i64 p.frag, .bool p.more, .bool p.dont, .string p.opts, .string p.data] 23 (0, 0))) ∧ Aside0 (ownsAt W 0 23 10 (.slice (some ⟨g, o, none⟩) l.length cz) l.length (pks l)) ∧ Aside0 (Below w.heap.size w W) ∧ Aside0 (W.heap[bx]? = some (.cells #[.int .i64 p.src, .int .i64 p.dst, .int .i64 p.ttl, .int .i64 p.proto, .int .i64 p.ident, .int .i64 fz, .bool mx, .bool p.dont, .string p.opts, .string dx] 23 (0, 0))))
  case first =>
   as_aux_lemma =>
    cases lb
    all_goals
     have hi := hlb
     simp only [decide_eq_true_eq, decide_eq_false_iff_not] at hi
     have hm := HMX.out
     first | (rw [if_pos hi] at hm; rw [← hm] at hx6) | (rw [if_neg hi] at hm; rw [hm] at hc6)
     simp only [Bool.not_false, Bool.not_true] at d2
     clear hi hm d2
     go_wp2
     go_meet
     case rel => exact ⟨rfl, HX, HV, HB, HBX⟩
  case rest =>
   as_aux_lemma =>
    clear HX HV HB HBX d2 hc0 hx0 hc1 hx1 hc2 hx2 hc3 hx3 hc4 hx4 hc5 hx5 hc6 hx6 hc7 hx7 hc8 hx8 hc9 hx9
    obtain ⟨rfl, HX, HV, HB, HBX⟩ := hcut
    go_upto_region 16 with fail
    have hx := HBX.out
    obtain ⟨hx0, hx1, hx2, hx3, hx4, hx5, hx6, hx7, hx8, hx9⟩ : wc.cell? ⟨bx, 0, none⟩ = some (.int .i64 p.src) ∧ wc.cell? ⟨bx, 1, none⟩ = some (.int .i64 p.dst) ∧ wc.cell? ⟨bx, 2, none⟩ = some (.int .i64 p.ttl) ∧ wc.cell? ⟨bx, 3, none⟩ = some (.int .i64 p.proto) ∧ wc.cell? ⟨bx, 4, none⟩ = some (.int .i64 p.ident) ∧ wc.cell? ⟨bx, 5, none⟩ = some (.int .i64 fz) ∧ wc.cell? ⟨bx, 6, none⟩ = some (.bool mx) ∧ wc.cell? ⟨bx, 7, none⟩ = some (.bool p.dont) ∧ wc.cell? ⟨bx, 8, none⟩ = some (.string p.opts) ∧ wc.cell? ⟨bx, 9, none⟩ = some (.string dx) := ⟨blk_cell hx 0, blk_cell hx 1, blk_cell hx 2, blk_cell hx 3, blk_cell hx 4, blk_cell hx 5, blk_cell hx 6, blk_cell hx 7, blk_cell hx 8, blk_cell hx 9⟩
    clear hx
    have hx := HX.out
    have hc8 := blk_cell hx 8
    change _ = some (Value.string p.opts) at hc8
    clear hx
    have hw28 : wrap64 (28 + (p.opts.size : Int)) = 28 + (p.opts.size : Int) := by have := HSZ.out; rw [w64p (by omega) (by omega)]
    go_wp2_with fail
    refine (pieces_calls k p.src p.dst p.ttl p.proto p.ident fz mx p.dont p.opts dx (28 + (p.opts.size : Int)) 0 _ HCK.out (fun _ => by have h1 := HSZ.out; have h2 := HDX.out.1; omega)).mono ?_
    clear hc8 hx0 hx1 hx2 hx3 hx4 hx5 hx6 hx7 hx8 hx9
    clear hw28
    rintro e W6 ⟨v, rfl, ho, hb⟩
    have hag := again_at ⟨p.src, p.dst, p.ttl, p.proto, p.ident, fz, mx, p.dont, p.opts, dx⟩ (show dx.size ≤ _ by have h1 := HSZ.out; have h2 := HDX.out.1; omega) (show p.opts.size ≤ _ by have h1 := HSZ.out; omega)
    change (((Pk.pieces ⟨p.src, p.dst, p.ttl, p.proto, p.ident, fz, mx, p.dont, p.opts, dx⟩ 0 (28 + (p.opts.size : Int))).2 = 0 ∧ joined (Pk.pieces ⟨p.src, p.dst, p.ttl, p.proto, p.ident, fz, mx, p.dont, p.opts, dx⟩ 0 (28 + (p.opts.size : Int))).1 = dx) ∨ ((Pk.pieces ⟨p.src, p.dst, p.ttl, p.proto, p.ident, fz, mx, p.dont, p.opts, dx⟩ 0 (28 + (p.opts.size : Int))).2 = 2 ∧ p.dont = true)) ∧ (Pk.pieces ⟨p.src, p.dst, p.ttl, p.proto, p.ident, fz, mx, p.dont, p.opts, dx⟩ 0 (28 + (p.opts.size : Int))).1.length ≤ 70000 ∧ ∀ y, y ∈ (Pk.pieces ⟨p.src, p.dst, p.ttl, p.proto, p.ident, fz, mx, p.dont, p.opts, dx⟩ 0 (28 + (p.opts.size : Int))).1 → y.data.size ≤ 65535 at hag
    obtain ⟨q2, hp2⟩ : ∃ q_, Pk.pieces ⟨p.src, p.dst, p.ttl, p.proto, p.ident, fz, mx, p.dont, p.opts, dx⟩ 0 (28 + (p.opts.size : Int)) = q_ := ⟨_, rfl⟩
    obtain ⟨l2, e2⟩ := q2
    rw [hp2] at hag ho ⊢
    clear hp2
    dsimp only at hag ho ⊢
    have HAG := Aside0.mk hag
    have HV2 := Aside0.mk (ownsAt_low ho)
    clear hag ho
    have HX_ := Aside0.mk (blk_below HX.out hb); have HV_ := Aside0.mk (ownsAt_below HV.out hb); have HB_ := Aside0.mk (below_step HB.out hb); have HBX_ := Aside0.mk (blk_below HBX.out hb); clear HX HV HB HBX hb; have HX := HX_; have HV := HV_; have HB := HB_; have HBX := HBX_; clear HX_ HV_ HB_ HBX_
    obtain ⟨A2, c2, rfl, _⟩ := ownsAt_len HV2.out
    have hj0 : (⟨#[]⟩ : ByteArray) = joined (l2.take 0) := rfl
    go_wp2_with fail
    go_loopg [16, 128] l2.length (fun kq v16 v128 W => ∃ (j : Nat) (jz : Int) (s : ByteArray), v16 = .string s ∧ v128 = .int .i64 jz ∧ Aside0 (jz = (j : Int) ∧ kq + j = l2.length) ∧ Aside0 (s = joined (l2.take j)) ∧ Aside0 (W.heap[bp]? = some (.cells #[.int .i64 p.src, .int .i64 p.dst, .int .i64 p.ttl, .int .i64 p.proto, .int .i64 p.ident, .int .i64 p.frag, .bool p.more, .bool p.dont, .string p.opts, .string p.data] 23 (0, 0))) ∧ Aside0 (ownsAt W 0 23 10 (.slice (some ⟨g, o, none⟩) l.length cz) l.length (pks l)) ∧ Aside0 (Below w.heap.size w W) ∧ Aside0 (W.heap[bx]? = some (.cells #[.int .i64 p.src, .int .i64 p.dst, .int .i64 p.ttl, .int .i64 p.proto, .int .i64 p.ident, .int .i64 fz, .bool mx, .bool p.dont, .string p.opts, .string dx] 23 (0, 0))) ∧ Aside0 (ownsAt W 0 23 10 (.slice A2 l2.length c2) l2.length (pks l2)))
    case atStart => exact ⟨0, 0, _, rfl, rfl, ⟨rfl, by omega⟩, ⟨hj0⟩, HX, HV, HB, HBX, HV2⟩
    case round =>
    clear HX HV HB HBX HV2 hj0
    obtain ⟨j, jz, s, rfl, rfl, HJ, HSJ, HX, HV, HB, HBX, HV2⟩ := hrel
    have hJ := HJ.out
    by_cases hlt : jz < (l2.length : Int)
    ·have d1 : decide (jz < (l2.length : Int)) = true := decide_eq_true hlt
     as_aux_lemma =>
      obtain ⟨k2, hk2⟩ : ∃ k2, gk = k2 + 1 := ⟨gk - 1, by omega⟩
      subst hk2
      have hjl : j < l2.length := by omega
      obtain ⟨y, hy⟩ : ∃ y, l2[j]? = some y := ⟨_, List.getElem?_eq_getElem hjl⟩
      obtain ⟨g2, o2, rfl, hcells⟩ := ownsAt_cells HV2.out (by omega)
      obtain ⟨hq0, hq1, hq2, hq3, hq4, hq5, hq6, hq7, hq8, hq9⟩ : wr.cell? ⟨g2, o2 + j * 10, none⟩ = some (.int .i64 y.src) ∧ wr.cell? ⟨g2, o2 + j * 10 + 1, none⟩ = some (.int .i64 y.dst) ∧ wr.cell? ⟨g2, o2 + j * 10 + 2, none⟩ = some (.int .i64 y.ttl) ∧ wr.cell? ⟨g2, o2 + j * 10 + 3, none⟩ = some (.int .i64 y.proto) ∧ wr.cell? ⟨g2, o2 + j * 10 + 4, none⟩ = some (.int .i64 y.ident) ∧ wr.cell? ⟨g2, o2 + j * 10 + 5, none⟩ = some (.int .i64 y.frag) ∧ wr.cell? ⟨g2, o2 + j * 10 + 6, none⟩ = some (.bool y.more) ∧ wr.cell? ⟨g2, o2 + j * 10 + 7, none⟩ = some (.bool y.dont) ∧ wr.cell? ⟨g2, o2 + j * 10 + 8, none⟩ = some (.string y.opts) ∧ wr.cell? ⟨g2, o2 + j * 10 + 9, none⟩ = some (.string y.data) := ⟨hcells _ _ (pks_get l2 j _ hy 0 _ rfl), hcells _ _ (pks_get l2 j _ hy 1 _ rfl), hcells _ _ (pks_get l2 j _ hy 2 _ rfl), hcells _ _ (pks_get l2 j _ hy 3 _ rfl), hcells _ _ (pks_get l2 j _ hy 4 _ rfl), hcells _ _ (pks_get l2 j _ hy 5 _ rfl), hcells _ _ (pks_get l2 j _ hy 6 _ rfl), hcells _ _ (pks_get l2 j _ hy 7 _ rfl), hcells _ _ (pks_get l2 j _ hy 8 _ rfl), hcells _ _ (pks_get l2 j _ hy 9 _ rfl)⟩
      have htk : l2.take (j + 1) = l2.take j ++ [y] := by rw [List.take_add_one, hy]; rfl
      have HTK := Aside0.mk htk
      have hjs : (joined (l2.take j)).size ≤ j * 65535 := Nat.le_trans (joined_le (l2.take j) (fun z hz => HAG.out.2.2 z (List.mem_of_mem_take hz))) (Nat.mul_le_mul_right _ (by rw [List.length_take]; omega))
      have hys := HAG.out.2.2 y (List.mem_of_getElem? hy)
      have hl7 := HAG.out.2.1
      have hsz_ := congrArg ByteArray.size HSJ.out
      have HCZ := Aside0.mk (show s.size + y.data.size ≤ 9223372036854775807 by omega)
      have hn : wrap64 (jz + 1) = ((j + 1 : Nat) : Int) := by rw [w64p (by omega) (by omega)]; omega
      have HN2 := Aside0.mk hn
      have p0 : 0 ≤ jz := by omega
      have tn : jz.toNat = j := by omega
      replace p0 := eq_true p0
      replace hlt := eq_true hlt
      clear hcells hy htk hjs hys hl7 hsz_ hn hjl hJ
      go_upto_region 21 with fail
      have hx := blk_new wr (.cells #[.int .i64 y.src, .int .i64 y.dst, .int .i64 y.ttl, .int .i64 y.proto, .int .i64 y.ident, .int .i64 y.frag, .bool y.more, .bool y.dont, .string y.opts, .string y.data] 23)
      have hb := below_alloc (Below.refl wr.heap.size wr) (.cells #[.int .i64 y.src, .int .i64 y.dst, .int .i64 y.ttl, .int .i64 y.proto, .int .i64 y.ident, .int .i64 y.frag, .bool y.more, .bool y.dont, .string y.opts, .string y.data] 23)
      clear hq0 hq1 hq2 hq3 hq4 hq5 hq6 hq7 hq8 hq9 p0 hlt tn d1
      have HX_ := Aside0.mk (blk_below HX.out hb); have HV_ := Aside0.mk (ownsAt_below HV.out hb); have HB_ := Aside0.mk (below_step HB.out hb); have HBX_ := Aside0.mk (blk_below HBX.out hb); have HV2_ := Aside0.mk (ownsAt_below HV2.out hb); clear HX HV HB HBX HV2 hb; have HX := HX_; have HV := HV_; have HB := HB_; have HBX := HBX_; have HV2 := HV2_; clear HX_ HV_ HB_ HBX_ HV2_
      generalize wr.heap.size = by_ at hx ⊢
      generalize wr.alloc (.cells #[.int .i64 y.src, .int .i64 y.dst, .int .i64 y.ttl, .int .i64 y.proto, .int .i64 y.ident, .int .i64 y.frag, .bool y.more, .bool y.dont, .string y.opts, .string y.data] 23) = Wb at hx HX HV HB HBX HV2 ⊢
      have hx9 := blk_cell hx 9
      change _ = some (Value.string y.data) at hx9
      clear hx
      have cz_ := HCZ.out
      go_wp2
      go_roundg k2
      case measure => omega
      case rel => exact ⟨j + 1, _, _, rfl, rfl, ⟨HN2.out, by have := HJ.out; omega⟩, ⟨by rw [HTK.out, joined_snoc, ← HSJ.out]⟩, HX, HV, HB, HBX, HV2⟩
    ·have d1 : decide (jz < (l2.length : Int)) = false := decide_eq_false hlt
     have hsj := HSJ.out
     rw [show j = l2.length by omega, List.take_length] at hsj
     clear hJ hlt HV2 HSJ HJ
     have HS2 := Aside0.mk hsj
     clear hsj
     go_upto_region 23 with fail
     go_cut [153] (fun v153 W => v153 = .bool false ∧ Aside0 (W.heap[bp]? = some (.cells #[.int .i64 p.src, .int .i64 p.dst, .int .i64 p.ttl, .int .i64 p.proto, .int .i64 p.ident, .int .i64 p.frag, .bool p.more, .bool p.dont, .string p.opts, .string p.data] 23 (0, 0))) ∧ Aside0 (ownsAt W 0 23 10 (.slice (some ⟨g, o, none⟩) l.length cz) l.length (pks l)) ∧ Aside0 (Below w.heap.size w W) ∧ Aside0 (W.heap[bx]? = some (.cells #[.int .i64 p.src, .int .i64 p.dst, .int .i64 p.ttl, .int .i64 p.proto, .int .i64 p.ident, .int .i64 fz, .bool mx, .bool p.dont, .string p.opts, .string dx] 23 (0, 0))))
     case first =>
      as_aux_lemma =>
       have hx := HBX.out
       obtain ⟨hx0, hx1, hx2, hx3, hx4, hx5, hx6, hx7, hx8, hx9⟩ : wr.cell? ⟨bx, 0, none⟩ = some (.int .i64 p.src) ∧ wr.cell? ⟨bx, 1, none⟩ = some (.int .i64 p.dst) ∧ wr.cell? ⟨bx, 2, none⟩ = some (.int .i64 p.ttl) ∧ wr.cell? ⟨bx, 3, none⟩ = some (.int .i64 p.proto) ∧ wr.cell? ⟨bx, 4, none⟩ = some (.int .i64 p.ident) ∧ wr.cell? ⟨bx, 5, none⟩ = some (.int .i64 fz) ∧ wr.cell? ⟨bx, 6, none⟩ = some (.bool mx) ∧ wr.cell? ⟨bx, 7, none⟩ = some (.bool p.dont) ∧ wr.cell? ⟨bx, 8, none⟩ = some (.string p.opts) ∧ wr.cell? ⟨bx, 9, none⟩ = some (.string dx) := ⟨blk_cell hx 0, blk_cell hx 1, blk_cell hx 2, blk_cell hx 3, blk_cell hx 4, blk_cell hx 5, blk_cell hx 6, blk_cell hx 7, blk_cell hx 8, blk_cell hx 9⟩
       clear hx
       rcases HAG.out.1 with ⟨h0, hj⟩ | ⟨h0, hd⟩
       ·have hs2 := HS2.out
        rw [hj] at hs2
        subst hs2 h0
        clear hj
        go_wp2
        go_meet
        case rel => exact ⟨rfl, HX, HV, HB, HBX⟩
       ·rw [hd] at hx7
        subst h0
        clear hd
        go_wp2
        go_meet
        case rel => exact ⟨rfl, HX, HV, HB, HBX⟩
     case rest =>
      as_aux_lemma =>
       clear HX HV HB HBX HS2
       obtain ⟨rfl, HX, HV, HB, HBX⟩ := hcut
       have hx := HBX.out
       have hx9 := blk_cell hx 9
       change _ = some (Value.string dx) at hx9
       clear hx
       have hok := HSZ.out
       have hxb := HDX.out.1
       have hds := HDX.out.2.1
       have cz_ : d.size + dx.size ≤ 9223372036854775807 := by have := HIK.out; have := Nat.mul_le_mul_right st this; have := HST8.out; omega
       clear hok hxb hds
       go_wp2
       go_roundg k1
       case measure => omega
       case rel =>
        refine ⟨i + 1, _, _, _, rfl, rfl, rfl, ⟨HN.out, by have := HK.out; omega⟩, ⟨fun h => ?_, fun h => ?_⟩, HX, HV, HB⟩
        ·have hi : i < K := by omega
         have h1 := HDX.out.2.2.1
         have h2 := HDX.out.2.2.2
         rw [if_pos hi] at h1 h2
         have hok := HSZ.out
         have h3 := HST8.out
         have h4 : (i + 1) * st ≤ K * st := Nat.mul_le_mul_right _ h
         exact ⟨frag_next p.frag fz i st dx.size hok.2.2.1 hok.2.2.2.1 HFZ.out h3.2.1 (by omega) h1, h2⟩
        ·have hi : ¬ i < K := by omega
         have h2 := HDX.out.2.2.2
         rw [if_neg hi, cutS_all] at h2
         exact h2

/-- THE ONE PURE STATEMENT of sternpostlaw05_IpWhole: yours. -/
def fit23 (x : S23) : Prop := ((Lit.int .i64 x.f0).wf = true) ∧ ((Lit.int .i64 x.f1).wf = true) ∧ ((Lit.int .i64 x.f2).wf = true) ∧ ((Lit.int .i64 x.f3).wf = true) ∧ ((Lit.int .i64 x.f4).wf = true) ∧ ((Lit.int .i64 x.f5).wf = true) ∧ (True) ∧ (True) ∧ (x.f8.size ≤ 140737488351232) ∧ x.f9.size ≤ 140737488351232
def sternpostlaw05_IpWhole.Pure : Prop := ∀ (a0_0 : Int) (a0_1 : Int) (a0_2 : Int) (a0_3 : Int) (a0_4 : Int) (a0_5 : Int) (a0_6 : Bool) (a0_7 : Bool) (a0_8 : ByteArray) (a0_9 : ByteArray) (a1 : Int), (Lit.int .i64 a0_0).wf = true → (Lit.int .i64 a0_1).wf = true → (Lit.int .i64 a0_2).wf = true → (Lit.int .i64 a0_3).wf = true → (Lit.int .i64 a0_4).wf = true → (Lit.int .i64 a0_5).wf = true → a0_8.size ≤ 140737488351232 → a0_9.size ≤ 140737488351232 → (Lit.int .i64 a1).wf = true → ∃ k, sternpostlaw05_IpWhole.f k a0_0 a0_1 a0_2 a0_3 a0_4 a0_5 a0_6 a0_7 a0_8 a0_9 a1 = some true
theorem sternpostlaw05_IpWhole.walk (P : sternpostlaw05_IpWhole.Pure) (a0_0 : Int) (a0_1 : Int) (a0_2 : Int) (a0_3 : Int) (a0_4 : Int) (a0_5 : Int) (a0_6 : Bool) (a0_7 : Bool) (a0_8 : ByteArray) (a0_9 : ByteArray) (a1 : Int) (w : World) (w0_0 : (Lit.int .i64 a0_0).wf = true) (w0_1 : (Lit.int .i64 a0_1).wf = true) (w0_2 : (Lit.int .i64 a0_2).wf = true) (w0_3 : (Lit.int .i64 a0_3).wf = true) (w0_4 : (Lit.int .i64 a0_4).wf = true) (w0_5 : (Lit.int .i64 a0_5).wf = true) (w0_8 : a0_8.size ≤ 140737488351232) (w0_9 : a0_9.size ≤ 140737488351232) (w1 : (Lit.int .i64 a1).wf = true) :
  Calls Try.prog 4 #[.agg #[.int .i64 a0_0, .int .i64 a0_1, .int .i64 a0_2, .int .i64 a0_3, .int .i64 a0_4, .int .i64 a0_5, .bool a0_6, .bool a0_7, .string a0_8, .string a0_9], .int .i64 a1] w fun e w' => e = .returned (.bool true) ∧ Below w.heap.size w w' := by
 obtain ⟨k, h⟩ := P a0_0 a0_1 a0_2 a0_3 a0_4 a0_5 a0_6 a0_7 a0_8 a0_9 a1 w0_0 w0_1 w0_2 w0_3 w0_4 w0_5 w0_8 w0_9 w1
 refine (sternpostlaw05_IpWhole.calls k a0_0 a0_1 a0_2 a0_3 a0_4 a0_5 a0_6 a0_7 a0_8 a0_9 a1 true w  h rfl).mono ?_
 rintro e w' ⟨rfl, hd⟩
 exact ⟨rfl, hd⟩

end Go.Proofs.Ytnggabbakhakaaa.PIpWhole

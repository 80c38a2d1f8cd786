-- Laid by this claim's own program over the print's words.
import Derived.Test.YtcmpkgmhcbnmbaaPGatePlaysx0
import Derived.Test.YtcmpkgmhcbnmbaaPGatePlaysx1
import Derived.Test.YtcmpkgmhcbnmbaaPGatePlaysx2
import Derived.Test.YtcmpkgmhcbnmbaaPGatePlaysx3
import Derived.Test.YtcmpkgmhcbnmbaaPGatePlaysx4
namespace Go.Proofs.Ytcmpkgmhcbnmbaa.PGatePlays
open Go.RowKit Go.Proofs.YtcmpkgmhcbnmbaaW.PrintWords Go.Proofs.YtcmpkgmhcbnmbaaW.PrintLast Go.Proofs.YtcmpkgmhcbnmbaaW.PrintMore
attribute [local go_sem] max2_int min2_int max_two min_two max_three min_three max_four min_four max_five min_five extract_cut tmod_nat_lit   -- for this text's walks alone
set_option linter.unusedVariables false
set_option linter.unusedSimpArgs false

/-! ### sternpostlaw25_GatePlays: function 4 -/
def sternpostlaw25_GatePlays_tail.f (k : Nat) (a0 : Int) (l1 : List S41) : Option Bool := some true
theorem sternpostlaw25_GatePlays_tail.mono (a0 : Int) (l1 : List S41) (k : Nat) : LeO (sternpostlaw25_GatePlays_tail.f k a0 l1) (sternpostlaw25_GatePlays_tail.f (k + 1) a0 l1) := LeO.refl _
theorem w64_ {x : Int} (h1 : -9223372036854775808 ≤ x) (h2 : x < 9223372036854775808) : wrap64 x = x := w64r h1 h2
theorem among_lt {a n : Int} (hn : 0 < n) (hn2 : n < 4611686018427387904) : ∃ c : Int, sternpostbook_Among.f a n = some c ∧ 0 ≤ c ∧ c < n := by
 unfold sternpostbook_Among.f
 rw [if_neg (by omega)]
 have h1 := Int.tmod_lt_of_pos a hn
 have h2 : -n < Int.tmod a n := Int.lt_tmod_of_pos a hn
 rw [w64_ (by omega) (by omega), Int.tmod_eq_emod_of_nonneg (show 0 ≤ Int.tmod a n + n by omega)]
 have h3 := Int.emod_nonneg (Int.tmod a n + n) (show n ≠ 0 by omega)
 have h4 := Int.emod_lt_of_pos (Int.tmod a n + n) hn
 exact ⟨_, rfl, h3, h4⟩
def flat (q : List (Int × List ByteArray)) : List (Int × ByteArray) := q.flatMap (fun x => x.2.map (fun b => (x.1, b)))
theorem flat_cons (n : Int) (fr : List ByteArray) (q : List (Int × List ByteArray)) : flat ((n, fr) :: q) = fr.map (fun b => (n, b)) ++ flat q := rfl
theorem flat_snoc (n : Int) (fr : List ByteArray) (q : List (Int × List ByteArray)) : flat (q ++ [(n, fr)]) = flat q ++ fr.map (fun b => (n, b)) := by
 unfold flat; rw [List.flatMap_append]; simp
theorem flat_mem {q : List (Int × List ByteArray)} {y : Int × ByteArray} (h : y ∈ flat q) : ∃ x ∈ q, x.1 = y.1 := by
 unfold flat at h
 obtain ⟨x, hx, hy⟩ := List.mem_flatMap.1 h
 obtain ⟨b, _, rfl⟩ := List.mem_map.1 hy
 exact ⟨x, hx, rfl⟩
theorem outS_app (n : Int) (b : List (Int × ByteArray)) : ∀ a, outS n (a ++ b) = outS n a ++ outS n b
 | [] => rfl
 | y :: a => by simp only [List.cons_append, outS, outS_app n b a]; split <;> rfl
theorem outL_app (n : Int) (b : List (Int × ByteArray)) : ∀ a, outL n (a ++ b) = outL n a ++ outL n b
 | [] => rfl
 | y :: a => by simp only [List.cons_append, outL, outL_app n b a]; split <;> rfl
theorem outG_app (n : Int) (b : List (Int × ByteArray)) : ∀ a g, outG n g (a ++ b) = outG n (outG n g a) b
 | [], g => rfl
 | y :: a, g => by simp only [List.cons_append, outG]; split <;> exact outG_app n b a _
theorem out_all {n m : Int} (hm : m ≤ n) : ∀ (fr : List ByteArray) (g : Int), outS n (fr.map (fun b => (m, b))) = fr ∧ outL n (fr.map (fun b => (m, b))) = [] ∧ outG n g (fr.map (fun b => (m, b))) = if 0 < fr.length then (if g < m then m else g) else g
 | [], g => ⟨rfl, rfl, rfl⟩
 | f :: fr, g => by
  obtain ⟨h1, h2, h3⟩ := out_all hm fr (if g < m then m else g)
  refine ⟨?_, ?_, ?_⟩
  ·simp only [List.map_cons, outS, if_pos hm, h1]
  ·simp only [List.map_cons, outL, if_pos hm, h2]
  ·simp only [List.map_cons, outG, if_pos hm, h3]
   rw [if_pos (show 0 < (f :: fr).length from Nat.succ_pos _)]
   by_cases hgm : g < m <;> simp [hgm]
theorem out_none {n : Int} : ∀ (l : List (Int × ByteArray)) (g : Int), (∀ x ∈ l, ¬ x.1 ≤ n) → outS n l = [] ∧ outL n l = l ∧ outG n g l = g
 | [], g, _ => ⟨rfl, rfl, rfl⟩
 | y :: l, g, h => by
  obtain ⟨h1, h2, h3⟩ := out_none l g (fun x hx => h x (List.mem_cons_of_mem _ hx))
  have hy := h y List.mem_cons_self
  simp [outS, outL, outG, hy, h1, h2, h3]
theorem until_flat {n : Int} : ∀ (q : List (Int × List ByteArray)) (s : GSt), q.Pairwise (fun a b => a.1 ≤ b.1) → s.long = ((flat q).length : Int) → (flat q).length ≤ 1000000 →
  (gUntil n q s).2 = outS n (flat q) ∧ flat (gUntil n q s).1.q = outL n (flat q) ∧ (gUntil n q s).1.gone = outG n s.gone (flat q) ∧ (gUntil n q s).1.long = ((outL n (flat q)).length : Int) ∧ (gUntil n q s).1.q.Pairwise (fun a b => a.1 ≤ b.1) ∧ (∀ x ∈ (gUntil n q s).1.q, x ∈ q) ∧
   ((gUntil n q s).1.room = s.room ∧ (gUntil n q s).1.last = s.last ∧ (gUntil n q s).1.conf = s.conf ∧ (gUntil n q s).1.opn = s.opn ∧ (gUntil n q s).1.lost = s.lost) ∧ (gUntil n q s).1.q.length ≤ q.length
 | [], s, _, hl, _ => ⟨rfl, rfl, rfl, hl, List.Pairwise.nil, (fun x hx => nomatch hx), ⟨rfl, rfl, rfl, rfl, rfl⟩, Nat.le_refl _⟩
 | (m, fs) :: q, s, hs, hl, hb => by
  rw [flat_cons] at hl hb ⊢
  rw [List.length_append, List.length_map] at hl hb
  unfold gUntil
  by_cases hm : m ≤ n
  ·rw [if_pos hm]
   obtain ⟨a1, a2, a3⟩ := out_all hm fs s.gone
   have hw : ∀ (s : GSt) (n : Int) (fr : List ByteArray), (s.went n fr).long = s.long ∧ (s.went n fr).room = s.room ∧ (s.went n fr).last = s.last ∧ (s.went n fr).conf = s.conf ∧ (s.went n fr).opn = s.opn ∧ (s.went n fr).lost = s.lost := fun s n fr => by unfold GSt.went; split <;> exact ⟨rfl, rfl, rfl, rfl, rfl, rfl⟩
   have hwg : (GSt.went { s with q := q, long := wrap64 (s.long - (fs.length : Int)) } m fs).gone = if 0 < fs.length then (if s.gone < m then m else s.gone) else s.gone := by unfold GSt.went; split <;> rfl
   obtain ⟨k1, k2, k3, k4, k5, k6, k7, k8⟩ := until_flat q (GSt.went { s with q := q, long := wrap64 (s.long - (fs.length : Int)) } m fs) (List.pairwise_cons.1 hs).2
    (by rw [(hw _ _ _).1]; show wrap64 (s.long - (fs.length : Int)) = _; rw [hl, w64r (by omega) (by omega)]; omega) (by omega)
   rw [outS_app, outL_app, outG_app, a1, a2, a3, List.nil_append]
   refine ⟨by rw [k1], k2, by rw [k3, hwg], k4, k5, fun x hx => List.mem_cons_of_mem _ (k6 x hx), ?_, by rw [List.length_cons]; exact Nat.le_succ_of_le k8⟩
   obtain ⟨_, r2, r3, r4, r5, r6⟩ := hw { s with q := q, long := wrap64 (s.long - (fs.length : Int)) } m fs
   exact ⟨k7.1.trans r2, k7.2.1.trans r3, k7.2.2.1.trans r4, k7.2.2.2.1.trans r5, k7.2.2.2.2.trans r6⟩
  ·rw [if_neg hm]
   have hno : ∀ x ∈ fs.map (fun b => (m, b)) ++ flat q, ¬ x.1 ≤ n := fun x hx => by
    rcases List.mem_append.1 hx with h | h
    ·obtain ⟨b, _, rfl⟩ := List.mem_map.1 h; exact hm
    ·obtain ⟨y, hy, he⟩ := flat_mem h
     have := (List.pairwise_cons.1 hs).1 y hy
     rw [← he]; simp only at this; omega
   obtain ⟨a1, a2, a3⟩ := out_none (fs.map (fun b => (m, b)) ++ flat q) s.gone hno
   rw [a1, a2, a3]
   exact ⟨rfl, rfl, rfl, by rw [List.length_append, List.length_map]; exact hl, hs, (fun x hx => hx), ⟨rfl, rfl, rfl, rfl, rfl⟩, Nat.le_refl _⟩
structure IP (i : Nat) (s : GSt) (r : RSt) : Prop where
 room : r.room = s.room
 roomb : 1 ≤ s.room ∧ s.room ≤ 4096
 last : r.last = s.last
 conf : r.conf = s.conf
 conf0 : 0 ≤ s.conf
 gone : r.gone = s.gone
 lost : r.lost = s.lost
 opn : r.opn = s.opn
 l : r.l = flat s.q
 long : s.long = (r.l.length : Int)
 full : (r.l.length : Int) ≤ s.room
 srt : s.q.Pairwise (fun a b => a.1 ≤ b.1)
 bnd : ∀ x ∈ s.q, x.1 ≤ s.last
 ql : s.q.length ≤ i
theorem IP.mono {i j : Nat} {s : GSt} {r : RSt} (h : IP i s r) (hj : i ≤ j) : IP j s r := { h with ql := Nat.le_trans h.ql hj }
theorem IP.until {i : Nat} {s : GSt} {r : RSt} (h : IP i s r) (n : Int) : (s.until n).2 = (r.out n).2 ∧ IP i (s.until n).1 (r.out n).1 := by
 have hf := h.full
 have hr := h.roomb
 have hfl : (flat s.q).length = r.l.length := by rw [h.l]
 obtain ⟨k1, k2, k3, k4, k5, k6, k7, k8⟩ := until_flat (n := n) s.q s h.srt (by rw [h.long, h.l]) (by omega)
 have hle := outL_le n r.l
 unfold GSt.until RSt.out
 refine ⟨by rw [k1, h.l], ?_⟩
 exact ⟨h.room.trans k7.1.symm, by rw [k7.1]; exact hr, h.last.trans k7.2.1.symm, h.conf.trans k7.2.2.1.symm, by rw [k7.2.2.1]; exact h.conf0, by show outG n r.gone r.l = _; rw [k3, h.gone, h.l], h.lost.trans k7.2.2.2.2.symm, h.opn.trans k7.2.2.2.1.symm, by show outL n r.l = _; rw [k2, h.l], by show _ = ((outL n r.l).length : Int); rw [k4, h.l], by show ((outL n r.l).length : Int) ≤ _; rw [k7.1]; omega, k5, fun x hx => by rw [k7.2.1]; exact h.bnd x (k6 x hx), Nat.le_trans k8 h.ql⟩
theorem IP.confirm {i : Nat} {s : GSt} {r : RSt} (h : IP i s r) (n : Int) : (s.confirm n).2 = (r.confirm n).2 ∧ IP i (s.confirm n).1 (r.confirm n).1 := by
 unfold GSt.confirm RSt.confirm
 rw [h.opn]
 by_cases ho : s.opn = true
 ·rw [if_pos ho, if_pos ho]; exact ⟨rfl, h⟩
 ·rw [if_neg ho, if_neg ho]
  have e : (if r.conf < n then n else r.conf) = (if s.conf < n then n else s.conf) := by rw [h.conf]
  rw [e]
  have hc := h.conf0
  exact IP.until (s := s.max n) (r := r.max n) ⟨h.room, h.roomb, h.last, e, by show 0 ≤ (if s.conf < n then n else s.conf); split <;> omega, h.gone, h.lost, h.opn, h.l, h.long, h.full, h.srt, h.bnd, h.ql⟩ _
theorem IP.shut {i : Nat} {s : GSt} {r : RSt} (h : IP i s r) (n : Int) : (s.shut n).2 = (r.shut n).2 ∧ IP i (s.shut n).1 (r.shut n).1 := by
 unfold GSt.shut RSt.shut
 have hc := h.conf0
 have e : r.max0 n = (s.max n).conf := by
  unfold RSt.max0; show _ = (if s.conf < n then n else s.conf); rw [h.conf]; split <;> split <;> omega
 rw [e]
 exact IP.until (s := { s.max n with opn := false }) (r := { r with opn := false, conf := (s.max n).conf }) ⟨h.room, h.roomb, h.last, rfl, by show 0 ≤ (if s.conf < n then n else s.conf); split <;> omega, h.gone, h.lost, rfl, h.l, h.long, h.full, h.srt, h.bnd, h.ql⟩ _
theorem IP.open_ {i : Nat} {s : GSt} {r : RSt} (h : IP i s r) : s.open_.2 = r.open_.2 ∧ IP i s.open_.1 r.open_.1 := by
 unfold GSt.open_ RSt.open_
 rw [show RSt.out { r with opn := true, conf := 0 } r.last = RSt.out { r with opn := true, conf := 0 } s.last from congrArg _ h.last]
 exact IP.until (s := { s with opn := true, conf := 0 }) (r := { r with opn := true, conf := 0 }) ⟨h.room, h.roomb, h.last, rfl, Int.le_refl _, h.gone, h.lost, rfl, h.l, h.long, h.full, h.srt, h.bnd, h.ql⟩ _
theorem IP.clear {i : Nat} {s : GSt} {r : RSt} (h : IP i s r) : IP i s.clear { r with l := [] } := by
 have := h.roomb
 exact ⟨h.room, h.roomb, h.last, h.conf, h.conf0, h.gone, h.lost, h.opn, rfl, rfl, by show (0 : Int) ≤ s.room; omega, List.Pairwise.nil, (fun x hx => nomatch hx), Nat.zero_le _⟩
theorem rhold_fit (n : Int) : ∀ (fr : List ByteArray) (r : RSt), ((r.l.length + fr.length : Nat) : Int) ≤ r.room → rhold n fr r = ({ r with l := r.l ++ fr.map (fun b => (n, b)) }, 0)
 | [], r, _ => by unfold rhold; simp
 | f :: fr, r, h => by
  rw [List.length_cons] at h
  unfold rhold
  rw [if_neg (by omega), rhold_fit n fr _ (by show (((r.l ++ [(n, f)]).length + fr.length : Nat) : Int) ≤ r.room; rw [List.length_append, List.length_singleton]; omega)]
  simp
theorem rhold_full (n : Int) : ∀ (fr : List ByteArray) (r : RSt) (k : Nat), ((r.l.length + k : Nat) : Int) = r.room → k < fr.length → rhold n fr r = ({ r with l := r.l ++ (fr.take k).map (fun b => (n, b)), lost := wrap64 (r.lost + ((fr.length - k : Nat) : Int)) }, 150)
 | [], r, k, _, hk => absurd hk (Nat.not_lt_zero _)
 | f :: fr, r, 0, h, _ => by unfold rhold; rw [if_pos (by omega)]; simp
 | f :: fr, r, k + 1, h, hk => by
  rw [List.length_cons] at hk
  unfold rhold
  rw [if_neg (by omega), rhold_full n fr _ k (by show (((r.l ++ [(n, f)]).length + k : Nat) : Int) = r.room; rw [List.length_append, List.length_singleton]; omega) (by omega)]
  simp
theorem IP.put {i : Nat} {s : GSt} {r : RSt} (h : IP i s r) (n : Int) (fr : List ByteArray) (hl : fr.length ≤ 20) : (s.put n fr).2 = (r.put n fr).2 ∧ IP (i + 1) (s.put n fr).1 (r.put n fr).1 := by
 have hfull := h.full
 have hr := h.roomb
 unfold GSt.put RSt.put
 by_cases hbad : n < 1 ∨ n < s.last
 ·rw [if_pos hbad, if_pos (show n < 1 ∨ n < r.last by rw [h.last]; exact hbad)]; exact ⟨rfl, h.mono (by omega)⟩
 rw [if_neg hbad, if_neg (show ¬ (n < 1 ∨ n < r.last) by rw [h.last]; exact hbad)]
 have hb1 : ∀ x ∈ s.q, x.1 ≤ n := fun x hx => by have := h.bnd x hx; omega
 by_cases hout : s.opn = true ∨ n ≤ s.conf
 ·rw [if_pos hout, if_pos (show r.opn = true ∨ n ≤ r.conf by rw [h.opn, h.conf]; exact hout)]
  refine ⟨rfl, ?_⟩
  unfold GSt.went RSt.went
  by_cases h0 : 0 < fr.length
  ·rw [if_pos h0, if_pos h0]
   exact ⟨h.room, h.roomb, rfl, h.conf, h.conf0, by show (if r.gone < n then n else r.gone) = (if s.gone < n then n else s.gone); rw [h.gone], h.lost, h.opn, h.l, h.long, h.full, h.srt, hb1, by have := h.ql; show s.q.length ≤ i + 1; omega⟩
  ·rw [if_neg h0, if_neg h0]
   exact ⟨h.room, h.roomb, rfl, h.conf, h.conf0, h.gone, h.lost, h.opn, h.l, h.long, h.full, h.srt, hb1, by have := h.ql; show s.q.length ≤ i + 1; omega⟩
 rw [if_neg hout, if_neg (show ¬ (r.opn = true ∨ n ≤ r.conf) by rw [h.opn, h.conf]; exact hout)]
 have hql := h.ql
 have hsnoc : ∀ fs : List ByteArray, (s.q ++ [(n, fs)]).Pairwise (fun a b => a.1 ≤ b.1) := fun fs => by
  rw [List.pairwise_append]
  exact ⟨h.srt, List.pairwise_singleton _ _, fun a ha b hb => by simp at hb; subst hb; exact hb1 a ha⟩
 have hbs : ∀ fs : List ByteArray, ∀ x ∈ s.q ++ [(n, fs)], x.1 ≤ n := fun fs x hx => by
  rcases List.mem_append.1 hx with hx | hx
  ·exact hb1 x hx
  ·simp at hx; subst hx; exact Int.le_refl _
 have hlong := h.long
 have hdiff : wrap64 (s.room - s.long) = s.room - (r.l.length : Int) := by rw [hlong, w64r (by omega) (by omega)]
 by_cases hfit : ((r.l.length + fr.length : Nat) : Int) ≤ s.room
 ·have hf : s.fits fr = (fr.length : Int) := by unfold GSt.fits; rw [hdiff, if_neg (by omega)]
  rw [hf, rhold_fit n fr { r with last := n } (by show ((r.l.length + fr.length : Nat) : Int) ≤ r.room; rw [h.room]; exact hfit)]
  unfold GSt.drop GSt.held GSt.enq
  rw [if_neg (Int.lt_irrefl _), if_neg (Int.lt_irrefl _)]
  refine ⟨rfl, ?_⟩
  by_cases h0 : (0 : Int) < (fr.length : Int)
  ·rw [if_pos h0, Int.toNat_natCast, List.take_length]
   refine ⟨h.room, h.roomb, rfl, h.conf, h.conf0, h.gone, h.lost, h.opn, ?_, ?_, ?_, hsnoc fr, hbs fr, ?_⟩
   ·show r.l ++ _ = _; rw [flat_snoc, h.l]
   ·show wrap64 (s.long + _) = ((r.l ++ _).length : Int); rw [List.length_append, List.length_map, hlong, w64r (by omega) (by omega)]; omega
   ·show ((r.l ++ _).length : Int) ≤ s.room; rw [List.length_append, List.length_map]; exact hfit
   ·show (s.q ++ _).length ≤ i + 1; rw [List.length_append, List.length_singleton]; omega
  ·rw [if_neg h0]
   have hn : fr = [] := List.eq_nil_of_length_eq_zero (by omega)
   subst hn
   exact ⟨h.room, h.roomb, rfl, h.conf, h.conf0, h.gone, h.lost, h.opn, by show r.l ++ [] = flat s.q; rw [List.append_nil, h.l], by show s.long = ((r.l ++ []).length : Int); rw [List.append_nil, hlong], by show ((r.l ++ []).length : Int) ≤ s.room; rw [List.append_nil]; exact h.full, h.srt, hb1, by show s.q.length ≤ i + 1; omega⟩
 ·obtain ⟨k, hk⟩ : ∃ k : Nat, ((r.l.length + k : Nat) : Int) = s.room := ⟨(s.room - (r.l.length : Int)).toNat, by omega⟩
  have hkl : k < fr.length := by omega
  have hf : s.fits fr = (k : Int) := by unfold GSt.fits; rw [hdiff, if_pos (by omega)]; omega
  rw [hf, rhold_full n fr { r with last := n } k (by show ((r.l.length + k : Nat) : Int) = r.room; rw [h.room]; exact hk) hkl]
  unfold GSt.drop GSt.held GSt.enq
  have hlt : (k : Int) < (fr.length : Int) := by omega
  rw [if_pos hlt, if_pos hlt]
  have hlo : wrap64 ((fr.length : Int) - (k : Int)) = ((fr.length - k : Nat) : Int) := by rw [w64r (by omega) (by omega)]; omega
  refine ⟨rfl, ?_⟩
  by_cases h0 : (0 : Int) < (k : Int)
  ·rw [if_pos h0, Int.toNat_natCast]
   refine ⟨h.room, h.roomb, rfl, h.conf, h.conf0, h.gone, ?_, h.opn, ?_, ?_, ?_, hsnoc _, hbs _, ?_⟩
   ·show wrap64 (r.lost + _) = wrap64 (s.lost + wrap64 _); rw [hlo, h.lost]
   ·show r.l ++ _ = _; rw [flat_snoc, h.l]
   ·show wrap64 (s.long + _) = ((r.l ++ _).length : Int); rw [List.length_append, List.length_map, List.length_take, Nat.min_eq_left (by omega), hlong, w64r (by omega) (by omega)]; omega
   ·show ((r.l ++ _).length : Int) ≤ s.room; rw [List.length_append, List.length_map, List.length_take, Nat.min_eq_left (by omega)]; omega
   ·show (s.q ++ _).length ≤ i + 1; rw [List.length_append, List.length_singleton]; omega
  ·rw [if_neg h0]
   obtain rfl : k = 0 := by omega
   refine ⟨h.room, h.roomb, rfl, h.conf, h.conf0, h.gone, ?_, h.opn, by show r.l ++ [] = flat s.q; rw [List.append_nil, h.l], by show s.long = ((r.l ++ []).length : Int); rw [List.append_nil, hlong], by show ((r.l ++ []).length : Int) ≤ s.room; rw [List.append_nil]; exact h.full, h.srt, hb1, by show s.q.length ≤ i + 1; omega⟩
   show wrap64 (r.lost + _) = wrap64 (s.lost + wrap64 _); rw [hlo, h.lost]
theorem GateAt.keepR {T : List TypeId} {w w' : World} {base top g : Nat} {s : GSt} (h : GateAt w base top g s) (hk : KeepT T w w') (h1 : 53 ∉ T) (h2 : 56 ∉ T) (h3 : 9 ∉ T) : GateAt w' base top g s := by
 obtain ⟨v, cs, a1, a2, a3, a4⟩ := h
 have low : ∀ {q : List (Int × List ByteArray)} {cs : List Value}, QC w base top q cs → QC w' base top q cs := fun {q} {cs} hq => by
  induction q generalizing cs with
  | nil => exact hq
  | cons x q ih =>
   obtain ⟨f, cs', e1, e2, e3, e4⟩ := hq
   exact ⟨f, cs', e1, ownsAt_keepT e2 hk h3, e3, ih e4⟩
 exact ⟨v, cs, (hk.cells a1 h1).trans a1, a2, ownsAt_keepT a3 hk h2, low a4⟩
theorem same_l0 (l : List ByteArray) (hl : l.length ≤ 9223372036854775807) : ∀ (d i : Nat), i + d = l.length → sternpostbook_SameTexts.l0 (d + 1) l l (i : Int) = some true
 | 0, i, h => by unfold sternpostbook_SameTexts.l0; rw [if_neg (by omega)]
 | d + 1, i, h => by
  unfold sternpostbook_SameTexts.l0
  rw [if_pos (by omega), if_pos (by omega), if_pos (by omega), if_pos rfl, w64r (by omega) (by omega)]
  exact same_l0 l hl d (i + 1) (by omega)
theorem same_true (l : List ByteArray) (hl : l.length ≤ 9223372036854775807) : sternpostbook_SameTexts.f (l.length + 1) l l = some true := by
 unfold sternpostbook_SameTexts.f; rw [if_pos rfl]; exact same_l0 l hl l.length 0 (by omega)
theorem confirm_len (r : RSt) (n : Int) : (r.confirm n).2.length ≤ r.l.length := by
 unfold RSt.confirm; split
 ·exact Nat.zero_le _
 ·exact outS_le _ _
theorem own_max {w : World} {base : Nat} {e : TypeId} {size n : Nat} {v : Value} {xs : List Value} (h : ownsAt w base e size v n xs) : n ≤ 9223372036854775807 := by
 obtain ⟨_, _, _, h1, h2, _⟩ := ownsAt_len h
 simp only [maxLen] at h2; omega
set_option maxRecDepth 100000 in
theorem gate_New_bad (room : Int) (w : World) (h1 : room < 1 ∨ 4096 < room) :
  Calls Try.prog 5 #[.int .i64 room] w fun e w' => e = .returned (.tuple #[.pointer none, .int .i64 1]) ∧ w' = w := by
 by_cases h : room < 1
 ·have d1 : decide (room < 1) = true := decide_eq_true h
  go_enter Try.func5, Try.ntmps5
  go_wp2
  go_ret2
  exact ⟨rfl, rfl⟩
 ·have d1 : decide (room < 1) = false := decide_eq_false h
  have d2 : decide (4096 < room) = true := decide_eq_true (by omega)
  clear h1
  go_enter Try.func5, Try.ntmps5
  go_wp2
  go_ret2
  exact ⟨rfl, rfl⟩

def sternpostlaw25_GatePlays.f (k : Nat) (a0 : Int) (l1 : List (S41)) : Option (Bool) := sternpostlaw25_GatePlays_tail.f k a0 l1
theorem sternpostlaw25_GatePlays.mono : ∀ a0 a1 k, LeO (sternpostlaw25_GatePlays.f k a0 a1) (sternpostlaw25_GatePlays.f (k + 1) a0 a1) := by
 intro a0 a1 k
 unfold sternpostlaw25_GatePlays.f
 repeat' first
   | (with_reducible exact sternpostlaw25_GatePlays_tail.mono _ _ _)
   | (with_reducible exact LeO.refl _)
   | (with_reducible exact LeO.none _)
   | (with_reducible refine LeO.ite ?_ ?_)
   | (with_reducible refine LeO.bind ?_ (fun _ => ?_))
   | exact sternpostlaw25_GatePlays_tail.mono _ _ _
   | exact LeO.none _
   | refine LeO.ite ?_ ?_
   | refine LeO.bind ?_ (fun _ => ?_)
set_option maxHeartbeats 8000000 in
set_option maxRecDepth 100000 in
theorem sternpostlaw25_GatePlays.calls (k : Nat) (a0 : Int) (A1 : Option Addr) (c1 : Nat) (l1 : List (S41)) (r : Bool) (w : World) (hr1 : Kd.C k41 w A1 l1.length l1) (hc1 : l1.length ≤ c1) (h : sternpostlaw25_GatePlays.f k a0 l1 = some r) (hrT_ : r = true) :
  Calls Try.prog 4 #[.int .i64 a0, .slice A1 l1.length c1] w fun e w' => e = .returned (.bool r) ∧ Below w.heap.size w w' := by
 have hu41 := Try.underlying41
 have HR1 := Aside0.mk hr1
 have HC1 := Aside0.mk hc1
 clear hr1 hc1
 have HB := Aside0.mk (Below.refl w.heap.size w)
 have H : (sternpostlaw25_GatePlays_tail.f k a0 l1) = some r := h
 clear h
 go_enter Try.func4, Try.ntmps4
 go_upto_region 1 with (fail)
 have HBt := Aside0.mk (show Below w.heap.size w _ from by repeat (first | (with_reducible first | exact HB.out | apply below_alloc | apply pw_below_drewN | apply below_drew1) | exact HB.out))
 -- UPTO
 obtain rfl : r = true := hrT_
 clear H HB
 by_cases hroom : a0 < 1 ∨ 4096 < a0
 ·go_wp2_with fail
  refine (gate_New_bad a0 _ hroom).mono ?_
  rintro e W1 ⟨rfl, hw⟩
  rw [hw]
  clear hw W1
  go_wp2_with fail
  refine (sternpostref25_New.bad a0 _ hroom).mono ?_
  rintro e W2 ⟨rfl, hw⟩
  rw [hw]
  clear hw W2
  clear hroom
  go_wp2_with fail
  refine (sternpostlaw25_works.calls _).mono ?_
  rintro e W3 ⟨rfl, hb⟩
  have HB := Aside0.mk (below_step HBt.out hb)
  clear hb HBt
  go_wp2_with fail
  go_loopg [9] 0 (fun kq v9 W => v9 = .int .i64 0 ∧ Aside0 (Below w.heap.size w W))
  case atStart => exact ⟨rfl, HB⟩
  case round =>
   clear HB
   obtain ⟨rfl, HB⟩ := hrel
   go_wp2
   go_ret
   exact ⟨rfl, HB.out⟩
 have hr1 : 1 ≤ a0 := by omega
 have hr2 : a0 ≤ 4096 := by omega
 clear hroom
 go_wp2_with fail
 refine (gate_New.calls a0 w _ HBt.out hr1 hr2).mono ?_
 rintro e W1 ⟨g, rfl, hG, hB, _, _⟩
 have HG := Aside0.mk hG; have HB := Aside0.mk hB; clear hG hB HBt
 go_wp2_with fail
 refine (sternpostref25_New.calls a0 w _ HB.out hr1 hr2).mono ?_
 rintro e W2 ⟨gr, rfl, hR, hB, hb, _⟩
 have HG_ := Aside0.mk (HG.out.kept hb); have HRf := Aside0.mk hR; clear HG HB; have HB := Aside0.mk hB; have HG := HG_; clear HG_ hR hB hb
 have HI0 := Aside0.mk (show IP 0 (GSt.new a0) (RSt.new a0) from ⟨rfl, ⟨hr1, hr2⟩, rfl, rfl, Int.le_refl _, rfl, rfl, rfl, rfl, rfl, by show (0 : Int) ≤ a0; omega, List.Pairwise.nil, (fun x hx => nomatch hx), Nat.le_refl _⟩)
 clear hr1 hr2
 go_wp2_with fail
 refine (sternpostlaw25_works.calls _).mono ?_
 rintro e W3 ⟨rfl, hb⟩
 have HG_ := Aside0.mk (HG.out.kept hb); have HRf_ := Aside0.mk (HRf.out.kept hb); have HB_ := Aside0.mk (below_step HB.out hb); clear HG HB HRf hb; have HG := HG_; have HB := HB_; have HRf := HRf_; clear HG_ HB_ HRf_
 go_wp2_with fail
 go_loopg [9] 100 (fun kq v9 W => ∃ (i : Nat) (iz : Int) (s : GSt) (r : RSt) (top : Nat), v9 = .int .i64 iz ∧ Aside0 (iz = (i : Int) ∧ kq + i = 100) ∧ Aside0 (IP i s r) ∧ Aside0 (GateAt W w.heap.size top g s ∧ top ≤ W.heap.size) ∧ Aside0 (RefAt W w.heap.size gr r) ∧ Aside0 (Below w.heap.size w W))
 case atStart => exact ⟨0, 0, _, _, 0, rfl, ⟨rfl, rfl⟩, HI0, ⟨HG.out, Nat.zero_le _⟩, HRf, HB⟩
 case round =>
  clear HG HB HRf HI0
  obtain ⟨i, iz, s, r, top, rfl, HK, HI, HG, HRf, HB⟩ := hrel
  have hk_ := HK.out
  by_cases hlt : iz < (l1.length : Int)
  rotate_left
  ·have d1 : decide (iz < (l1.length : Int)) = false := decide_eq_false hlt
   clear hlt hk_
   go_wp2
   go_ret
   exact ⟨rfl, HB.out⟩
  have d1 : decide (iz < (l1.length : Int)) = true := decide_eq_true hlt
  by_cases h100 : iz < 100
  rotate_left
  ·have d2 : decide (iz < 100) = false := decide_eq_false h100
   clear hlt h100 hk_
   go_wp2
   go_ret
   exact ⟨rfl, HB.out⟩
  have d2 : decide (iz < 100) = true := decide_eq_true h100
  obtain ⟨k1, rfl⟩ : ∃ k1, gk = k1 + 1 := ⟨gk - 1, by omega⟩
  have p0 : 0 ≤ iz := by omega
  have H100 := Aside0.mk (show i < 100 by omega)
  have hii : wrap64 (iz + 1) = ((i + 1 : Nat) : Int) := by rw [w64r (by omega) (by omega)]; omega
  have HII := Aside0.mk hii
  clear hii
  obtain ⟨ad, A2, c2, ead, hx0, hx1, hx2, hx3, hlc, hC2⟩ := at_T41 HR1.out iz p0 hlt
  subst ead
  replace hx0 := pw_cell_below HB.out hx0
  replace hx1 := pw_cell_below HB.out hx1
  replace hx2 := pw_cell_below HB.out hx2
  replace hx3 := pw_cell_below HB.out hx3
  obtain ⟨f0, hf0⟩ : ∃ f_, (rd_T41 l1 iz).f0 = f_ := ⟨_, rfl⟩
  obtain ⟨f1, hf1⟩ : ∃ f_, (rd_T41 l1 iz).f1 = f_ := ⟨_, rfl⟩
  obtain ⟨f2, hf2⟩ : ∃ f_, (rd_T41 l1 iz).f2 = f_ := ⟨_, rfl⟩
  obtain ⟨f3, hf3⟩ : ∃ f_, (rd_T41 l1 iz).f3 = f_ := ⟨_, rfl⟩
  rw [hf0] at hx0
  rw [hf1] at hx1
  rw [hf2] at hx2 hlc hC2
  rw [hf3] at hx3
  clear hf0 hf1 hf2 hf3
  have HLC := Aside0.mk hlc
  have HC2 := Aside0.mk hC2
  clear hlc hC2
  replace p0 := eq_true p0
  replace hlt := eq_true hlt
  clear h100 hk_
  go_upto_region 9 with fail
  have hx := blk_new wr (.cells #[.int .i64 f0, .int .i64 f1, .slice A2 f2.length c2, .bool f3] 41)
  have hb := below_alloc (Below.refl wr.heap.size wr) (Obj.cells #[.int .i64 f0, .int .i64 f1, .slice A2 f2.length c2, .bool f3] 41)
  generalize hbx : wr.heap.size = bx at hx ⊢
  generalize wr.alloc (Obj.cells #[.int .i64 f0, .int .i64 f1, .slice A2 f2.length c2, .bool f3] 41) = Wb at hx hb ⊢
  have HG_ := Aside0.mk (And.intro (HG.out.1.kept hb) (Nat.le_trans HG.out.2 hb.size)); have HRf_ := Aside0.mk (HRf.out.kept hb); have HB_ := Aside0.mk (below_step HB.out hb); clear HG HRf HB  hb; have HG := HG_; have HRf := HRf_; have HB := HB_; clear HG_ HRf_ HB_ 
  clear hx0 hx1 hx2 hx3 p0 hlt hbx d1 d2
  have HX := Aside0.mk hx
  clear hx
  have hx2 := blk_cell HX.out 2
  have hz2 := blk_frozen HX.out 2
  change _ = some (Value.slice A2 f2.length c2) at hx2
  by_cases h20 : (20 : Int) < (f2.length : Int)
  ·have d1 : decide ((20 : Int) < (f2.length : Int)) = true := decide_eq_true h20
   clear h20
   go_wp2
   go_roundg k1
   case measure => omega
   case rel => exact ⟨i + 1, _, s, r, top, rfl, ⟨HII.out, by have := HK.out; omega⟩, ⟨HI.out.mono (by omega)⟩, HG, HRf, HB⟩
  have d1 : decide ((20 : Int) < (f2.length : Int)) = false := decide_eq_false h20
  have H20 := Aside0.mk (show f2.length ≤ 20 by omega)
  clear h20
  have hx1 := blk_cell HX.out 1
  have hz1 := blk_frozen HX.out 1
  change _ = some (Value.int .i64 f1) at hx1
  have hx3 := blk_cell HX.out 3
  have hz3 := blk_frozen HX.out 3
  change _ = some (Value.bool f3) at hx3
  cases f3
  have hx0 := blk_cell HX.out 0
  have hz0 := blk_frozen HX.out 0
  change _ = some (Value.int .i64 f0) at hx0
  go_wp2_with fail
  clear hx0 hz0 hx1 hz1 hx2 hz2 hx3 hz3 d1
  generalize Wb = Wc at HG HRf HB HX ⊢
  obtain ⟨n, hn⟩ : ∃ n_ : Int, f1 = n_ := ⟨_, rfl⟩
  rw [hn] at HX ⊢
  clear hn
  skip
  obtain ⟨f3, hf3⟩ : ∃ f_ : Bool, false = f_ := ⟨_, rfl⟩
  rw [hf3] at HX
  clear hf3
  obtain ⟨f1', hf1'⟩ : ∃ n_ : Int, n = n_ := ⟨_, rfl⟩
  rw [hf1'] at HX
  clear hf1'
  rotate_left
  obtain ⟨c5, hc5_, _, _⟩ := among_lt (a := f1) (n := 5) (by decide) (by decide)
  have HC5 := Aside0.mk hc5_
  clear hc5_
  obtain ⟨Az, cz, ⟨hbg, hle⟩, hcm, ⟨hc0, hc1, hc2, hc3⟩, ⟨hc4, hc5, hc6⟩, ⟨hf0, hf1, hf2, hf3⟩, ⟨hf4, hf5, hf6⟩, HQ⟩ := HRf.out.cell
  go_upto_region 12 with fail
  clear d1
  have same : ∀ (p : Nat) W', Drawn0 Wb W' → True := fun _ _ _ => trivial
  refine AnyEvents.region_then 10 (E := []) (C := fun (_ : Nat) W' => Drawn0 Wb W') (G := fun _ _ _ _ => True) (T := []) (R := fun _ _ _ _ => True) (vs := [(.pointer (some ⟨gr, 0, none⟩)), (.pointer (some ⟨gr, 0, none⟩)), (.pointer (some ⟨gr, 1, none⟩)), (.int .i64 r.last), (.pointer (some ⟨bx, 1, none⟩)), (.int .i64 f1), (.int .i64 c5), (.int .i64 (wrap64 (r.last + c5))), (.int .i64 (wrap64 (wrap64 (r.last + c5) - 1))), (.int .i64 (wrap64 (wrap64 (r.last + c5) - 1)))]) (by kernel_rfl) (by kernel_rfl) rfl (by kernel_rfl) ?hc0 same (fun _ _ _ _ _ _ _ _ _ => trivial) (fun _ h => nomatch h) (fun x => ?obs) ?fin
  case hc0 => exact ⟨1, rfl⟩
  case obs =>
   as_aux_lemma =>
    refine AnyEvents.obs_cons (.pointer (some ⟨gr, 0, none⟩)) rfl (AnyEvents.ob_plain rfl rfl rfl same rfl (fun p W' hwn hW => ?_)) ?_
    ·obtain ⟨nd, rfl⟩ := hW; first | rfl | (go_simp; done) | (go_simp; rfl) | (go_simp; simp only [i64_w]; done) | (go_simp; simp; done)
    try simp only [Act.put, List.setIfInBounds_toArray, List.set_cons_zero, List.set_cons_succ]
    refine AnyEvents.obs_cons (.pointer (some ⟨gr, 0, none⟩)) rfl (AnyEvents.ob_plain rfl rfl rfl same rfl (fun p W' hwn hW => ?_)) ?_
    ·obtain ⟨nd, rfl⟩ := hW; first | rfl | (go_simp; done) | (go_simp; rfl) | (go_simp; simp only [i64_w]; done) | (go_simp; simp; done)
    try simp only [Act.put, List.setIfInBounds_toArray, List.set_cons_zero, List.set_cons_succ]
    refine AnyEvents.obs_cons (.pointer (some ⟨gr, 1, none⟩)) rfl (AnyEvents.ob_plain rfl rfl rfl same rfl (fun p W' hwn hW => ?_)) ?_
    ·obtain ⟨nd, rfl⟩ := hW; first | rfl | (go_simp; done) | (go_simp; rfl) | (go_simp; simp only [i64_w]; done) | (go_simp; simp; done)
    try simp only [Act.put, List.setIfInBounds_toArray, List.set_cons_zero, List.set_cons_succ]
    refine AnyEvents.obs_cons (.int .i64 r.last) rfl (AnyEvents.ob_plain rfl rfl rfl same rfl (fun p W' hwn hW => ?_)) ?_
    ·obtain ⟨nd, rfl⟩ := hW; have z0 : (Wb.drewN nd).cell? ⟨gr, 1, none⟩ = some (.int .i64 r.last) := hc1; have z1 : (Wb.drewN nd).frozen? ⟨gr, 1, none⟩ = false := hf1; first | rfl | (go_simp; done) | (go_simp; rfl) | (go_simp; simp only [i64_w]; done) | (go_simp; simp; done)
    try simp only [Act.put, List.setIfInBounds_toArray, List.set_cons_zero, List.set_cons_succ]
    refine AnyEvents.obs_cons (.pointer (some ⟨bx, 1, none⟩)) rfl (AnyEvents.ob_plain rfl rfl rfl same rfl (fun p W' hwn hW => ?_)) ?_
    ·obtain ⟨nd, rfl⟩ := hW; first | rfl | (go_simp; done) | (go_simp; rfl) | (go_simp; simp only [i64_w]; done) | (go_simp; simp; done)
    try simp only [Act.put, List.setIfInBounds_toArray, List.set_cons_zero, List.set_cons_succ]
    refine AnyEvents.obs_cons (.int .i64 f1) rfl (AnyEvents.ob_plain rfl rfl rfl same rfl (fun p W' hwn hW => ?_)) ?_
    ·obtain ⟨nd, rfl⟩ := hW; have z0 : (Wb.drewN nd).cell? ⟨bx, 1, none⟩ = some (.int .i64 f1) := hx1; have z1 : (Wb.drewN nd).frozen? ⟨bx, 1, none⟩ = false := hz1; first | rfl | (go_simp; done) | (go_simp; rfl) | (go_simp; simp only [i64_w]; done) | (go_simp; simp; done)
    try simp only [Act.put, List.setIfInBounds_toArray, List.set_cons_zero, List.set_cons_succ]
    refine AnyEvents.obs_cons (.int .i64 c5) rfl (AnyEvents.ob_call rfl rfl rfl rfl 8 #[.int .i64 f1, .int .i64 5] (fun p W' hwn hW => ?_) (fun p W' hwn hW => ?_)) ?_
    ·first | rfl | (go_simp; done) | (go_simp; rfl)
    ·refine (sternpostbook_Among.calls _ 5 _ _ HC5.out).mono ?_; rintro e W2_ ⟨rfl, hd⟩; obtain ⟨nd2, rfl⟩ := hd; exact ⟨rfl, hW.step nd2, trivial⟩
    try simp only [Act.put, List.setIfInBounds_toArray, List.set_cons_zero, List.set_cons_succ]
    refine AnyEvents.obs_cons (.int .i64 (wrap64 (r.last + c5))) rfl (AnyEvents.ob_plain rfl rfl rfl same rfl (fun p W' hwn hW => ?_)) ?_
    ·obtain ⟨nd, rfl⟩ := hW; first | rfl | (go_simp; done) | (go_simp; rfl) | (go_simp; simp only [i64_w]; done) | (go_simp; simp; done)
    try simp only [Act.put, List.setIfInBounds_toArray, List.set_cons_zero, List.set_cons_succ]
    refine AnyEvents.obs_cons (.int .i64 (wrap64 (wrap64 (r.last + c5) - 1))) rfl (AnyEvents.ob_plain rfl rfl rfl same rfl (fun p W' hwn hW => ?_)) ?_
    ·obtain ⟨nd, rfl⟩ := hW; first | rfl | (go_simp; done) | (go_simp; rfl) | (go_simp; simp only [i64_w]; done) | (go_simp; simp; done)
    try simp only [Act.put, List.setIfInBounds_toArray, List.set_cons_zero, List.set_cons_succ]
    refine AnyEvents.obs_cons (.int .i64 (wrap64 (wrap64 (r.last + c5) - 1))) rfl (AnyEvents.ob_plain rfl rfl rfl same rfl (fun p W' hwn hW => ?_)) ?_
    ·obtain ⟨nd, rfl⟩ := hW; first | rfl | (go_simp; done) | (go_simp; rfl) | (go_simp; simp only [i64_w]; done) | (go_simp; simp; done)
    try simp only [Act.put, List.setIfInBounds_toArray, List.set_cons_zero, List.set_cons_succ]
    trivial
  intro x W' hD _
  simp only [List.take_succ_cons, List.take_zero, List.drop_succ_cons, List.drop_zero]
  rw [AnyOrder.lexAt_cons (.pointer (some ⟨gr, 0, none⟩)) rfl]
  try simp only [Act.put, List.setIfInBounds_toArray, List.set_cons_zero, List.set_cons_succ]
  rw [AnyOrder.lexAt_cons (.pointer (some ⟨gr, 0, none⟩)) rfl]
  try simp only [Act.put, List.setIfInBounds_toArray, List.set_cons_zero, List.set_cons_succ]
  rw [AnyOrder.lexAt_cons (.pointer (some ⟨gr, 1, none⟩)) rfl]
  try simp only [Act.put, List.setIfInBounds_toArray, List.set_cons_zero, List.set_cons_succ]
  rw [AnyOrder.lexAt_cons (.int .i64 r.last) rfl]
  try simp only [Act.put, List.setIfInBounds_toArray, List.set_cons_zero, List.set_cons_succ]
  rw [AnyOrder.lexAt_cons (.pointer (some ⟨bx, 1, none⟩)) rfl]
  try simp only [Act.put, List.setIfInBounds_toArray, List.set_cons_zero, List.set_cons_succ]
  rw [AnyOrder.lexAt_cons (.int .i64 f1) rfl]
  try simp only [Act.put, List.setIfInBounds_toArray, List.set_cons_zero, List.set_cons_succ]
  rw [AnyOrder.lexAt_cons (.int .i64 c5) rfl]
  try simp only [Act.put, List.setIfInBounds_toArray, List.set_cons_zero, List.set_cons_succ]
  rw [AnyOrder.lexAt_cons (.int .i64 (wrap64 (r.last + c5))) rfl]
  try simp only [Act.put, List.setIfInBounds_toArray, List.set_cons_zero, List.set_cons_succ]
  rw [AnyOrder.lexAt_cons (.int .i64 (wrap64 (wrap64 (r.last + c5) - 1))) rfl]
  try simp only [Act.put, List.setIfInBounds_toArray, List.set_cons_zero, List.set_cons_succ]
  rw [AnyOrder.lexAt_cons (.int .i64 (wrap64 (wrap64 (r.last + c5) - 1))) rfl]
  try simp only [Act.put, List.setIfInBounds_toArray, List.set_cons_zero, List.set_cons_succ]
  rw [AnyOrder.lexAt_nil]
  clear same
  obtain ⟨nd, rfl⟩ := hD
  have HG_ := Aside0.mk (show GateAt (Wb.drewN nd) w.heap.size top g s ∧ top ≤ (Wb.drewN nd).heap.size from ⟨HG.out.1.drawn rfl, HG.out.2⟩); have HRf_ := Aside0.mk (show RefAt (Wb.drewN nd) w.heap.size gr r from HRf.out.drawn rfl); have HB_ := Aside0.mk (pw_below_drewN HB.out nd); have HX_ := Aside0.mk (show (Wb.drewN nd).heap[bx]? = _ from HX.out)
  clear hbg hle hcm hc0 hc1 hc2 hc3 hc4 hc5 hc6 hf0 hf1 hf2 hf3 hf4 hf5 hf6 HQ
  clear hx1 hz1 hx2 hz2 hx3 hz3 HG HRf HB HX
  have HG := HG_; have HRf := HRf_; have HB := HB_; have HX := HX_; clear HG_ HRf_ HB_ HX_
  generalize Wb.drewN nd = Wc at HG HRf HB HX ⊢
  obtain ⟨n, hn⟩ : ∃ n_ : Int, wrap64 (wrap64 (r.last + c5) - 1) = n_ := ⟨_, rfl⟩
  rw [hn]
  clear hn HC5
  obtain ⟨f3, hf3⟩ : ∃ f_ : Bool, true = f_ := ⟨_, rfl⟩
  rw [hf3] at HX
  clear hf3
  obtain ⟨f1', hf1'⟩ : ∃ n_ : Int, f1 = n_ := ⟨_, rfl⟩
  rw [hf1'] at HX
  clear hf1'
  have hx0 := blk_cell HX.out 0
  have hz0 := blk_frozen HX.out 0
  change _ = some (Value.int .i64 f0) at hx0
  go_wp2_with fail
  clear hx0 hz0
  all_goals
   as_aux_lemma =>
    obtain ⟨c, hc, hc0, hc4⟩ := among_lt (a := f0) (n := 5) (by decide) (by decide)
    have HC := Aside0.mk hc
    have HC4 := Aside0.mk (And.intro hc0 hc4)
    clear hc hc0 hc4
    refine (sternpostbook_Among.calls _ 5 _ _ HC.out).mono ?_
    rintro e W5 ⟨rfl, hd⟩
    have hb := hd.below
    clear hd HC
    have HG_ := Aside0.mk (And.intro (HG.out.1.kept hb) (Nat.le_trans HG.out.2 hb.size)); have HRf_ := Aside0.mk (HRf.out.kept hb); have HB_ := Aside0.mk (below_step HB.out hb); have HX_ := Aside0.mk (blk_below HX.out hb); clear HG HRf HB HX hb; have HG := HG_; have HRf := HRf_; have HB := HB_; have HX := HX_; clear HG_ HRf_ HB_ HX_
    go_upto_block 2 with fail
    go_cut [12, 13] (fun v12 v13 W => ∃ (s' : GSt) (r' : RSt) (top' bl : Nat) (lo : List ByteArray), Aside0 (ownsAt W bl 9 1 v12 lo.length (txt lo) ∧ top' ≤ bl ∧ w.heap.size ≤ bl) ∧ Aside0 (ownsAt W 0 9 1 v13 lo.length (txt lo)) ∧ Aside0 (IP (i + 1) s' r') ∧ Aside0 (GateAt W w.heap.size top' g s' ∧ top' ≤ W.heap.size) ∧ Aside0 (RefAt W w.heap.size gr r') ∧ Aside0 (Below w.heap.size w W))
    case first =>
     as_aux_lemma =>
      go_upto_region 17 with fail
      have hc4 : c = 0 ∨ c = 1 ∨ c = 2 ∨ c = 3 ∨ c = 4 := by have := HC4.out; omega
      clear HC4
      have HRL := Aside0.mk (show r.l.length ≤ 4096 ∧ s.q.length ≤ 100 by have := HI.out.full; have := HI.out.roomb; have := HI.out.ql; have := H100.out; omega)
      have HW5 := Aside0.mk (show top ≤ W5.heap.size ∧ w.heap.size ≤ W5.heap.size from ⟨HG.out.2, HB.out.size⟩)
      rcases hc4 with rfl | rfl | rfl | rfl | rfl
      case inl =>
       as_aux_lemma =>
        obtain ⟨hp1, hp2⟩ := HI.out.put n f2 H20.out
        obtain ⟨s', lo, ec, hs⟩ : ∃ a b c, s.put n f2 = (a, b, c) := ⟨_, _, _, rfl⟩
        obtain ⟨r', lo2, ec2, hr⟩ : ∃ a b c, r.put n f2 = (a, b, c) := ⟨_, _, _, rfl⟩
        rw [hs, hr] at hp1 hp2
        obtain ⟨e1, e2⟩ := Prod.mk.inj hp1
        subst e1 e2
        have HS := Aside0.mk hs
        have HRR := Aside0.mk hr
        have HI' := Aside0.mk (show IP (i + 1) s' r' from hp2)
        clear hp1 hp2 hs hr
        have hb := below_alloc (Below.refl W5.heap.size W5) (Obj.cells #[] 9)
        have HNW := Aside0.mk (blk_new W5 (.cells #[] 9))
        have HSX := Aside0.mk (show W5.heap.size ≤ (W5.alloc (Obj.cells #[] 9)).heap.size from hb.size)
        have HG_ := Aside0.mk (And.intro (HG.out.1.kept hb) (Nat.le_trans HG.out.2 hb.size)); have HRf_ := Aside0.mk (HRf.out.kept hb); have HB_ := Aside0.mk (below_step HB.out hb); have HX_ := Aside0.mk (blk_below HX.out hb); clear HG HRf HB HX hb; have HG := HG_; have HRf := HRf_; have HB := HB_; have HX := HX_; clear HG_ HRf_ HB_ HX_
        have HSR := Aside0.mk (SrcAt.texts (c := c2) (Kd.C_below HC2.out HB.out))
        have hx2 := blk_cell HX.out 2
        have hz2 := blk_frozen HX.out 2
        change _ = some (Value.slice A2 f2.length c2) at hx2
        go_wp2_with (first | ((with_reducible refine gate_dst (N := 95) rfl ?_); refine wl_append0 28 9 (.string (⟨#[]⟩ : ByteArray)) 1 16 rfl rfl Try.underlying28 (by kernel_rfl) rfl (b := W5.heap.size) (base := W5.heap.size) rfl rfl (Nat.le_refl _) HNW.out HSR.out (by have := H20.out; simp only [maxLen]; omega) (by have := H20.out; omega) HSX.out (fun v9 W9 hv9 hb9 => ?_); have HV9 := Aside0.mk hv9; have HB9 := Aside0.mk hb9; clear hv9 hb9))
        have hb := HB9.out
        clear hx2 hz2 HSR HSX HNW
        have HG_ := Aside0.mk (And.intro (HG.out.1.kept hb) (Nat.le_trans HG.out.2 hb.size)); have HRf_ := Aside0.mk (HRf.out.kept hb); have HB_ := Aside0.mk (below_step HB.out hb); have HX_ := Aside0.mk (blk_below HX.out hb); clear HG HRf HB HX hb; have HG := HG_; have HRf := HRf_; have HB := HB_; have HX := HX_; clear HG_ HRf_ HB_ HX_
        clear HB9
        obtain ⟨A9, c9, rfl, _⟩ := ownsAt_len HV9.out
        refine (gate_Gate_Put.calls g W5.heap.size top s n _ f2 w _ HG.out.1 HB.out HG.out.2 HV9.out (by have := H20.out; omega) (by have := HRL.out; omega)).mono ?_
        rintro e W8 ⟨v8, top8, rfl, hG, hO, hT0, hT, hB, hK⟩
        rw [HS.out] at hG hO ⊢
        obtain ⟨A8, c8, rfl, _⟩ := ownsAt_len hO
        have HL := Aside0.mk (show ownsAt W8 top8 9 1 (.slice A8 lo.length c8) lo.length (txt lo) ∧ w.heap.size ≤ top8 from ⟨hO, Nat.le_trans HB.out.size hT0⟩)
        have HG_ := Aside0.mk (And.intro hG hT)
        have HRf_ := Aside0.mk (HRf.out.keepT hK (by decide) (by decide))
        have HX_ := Aside0.mk ((hK.cells HX.out (by decide)).trans HX.out)
        have HV_ := Aside0.mk (ownsAt_keepT HV9.out hK (by decide))
        clear HG HRf HB HX HV9 hG hO hT0 hT hK HS
        have HG := HG_; have HRf := HRf_; have HB := Aside0.mk hB; have HX := HX_; have HV9 := HV_; clear HG_ HRf_ HX_ HV_ hB
        have hx2 := blk_cell HX.out 2
        have hz2 := blk_frozen HX.out 2
        change _ = some (Value.slice A2 f2.length c2) at hx2
        go_wp2_with fail
        refine (sternpostref25_Gate_Put.calls gr r n A2 c2 f2 w _ HRf.out HB.out HC2.out (by have := H20.out; omega) (by have := HRL.out; omega)).mono ?_
        rintro e W10 ⟨v10, rfl, hR, hO, hB, hK⟩
        rw [HRR.out] at hR hO ⊢
        obtain ⟨A10, c10, rfl, _⟩ := ownsAt_len hO
        clear hx2 hz2
        have HG_ := Aside0.mk (And.intro (HG.out.1.keepR hK (by decide) (by decide) (by decide)) (Nat.le_trans HG.out.2 hK.1))
        have HX_ := Aside0.mk ((hK.cells HX.out (by decide)).trans HX.out)
        have HV_ := Aside0.mk (ownsAt_keepT HV9.out hK (by decide))
        have HL_ := Aside0.mk (And.intro (ownsAt_keepT HL.out.1 hK (by decide)) HL.out.2)
        clear HG HRf HB HX HV9 HL hK HRR
        have HG := HG_; have HRf := Aside0.mk (show RefAt W10 w.heap.size gr r' from hR); have HB := Aside0.mk hB; have HX := HX_; have HV9 := HV_; have HL := HL_; have HO := Aside0.mk (show ownsAt W10 0 9 1 (.slice A10 lo.length c10) lo.length (txt lo) from hO); clear HG_ HX_ HV_ HL_ hR hB hO
        have hx2 := blk_cell HX.out 2
        have hz2 := blk_frozen HX.out 2
        change _ = some (Value.slice A2 f2.length c2) at hx2
        go_wp2_with fail
        refine (sternpostbook_SameTexts.calls (f2.length + 1) A9 c9 f2 A2 c2 f2 true _ (ownsAt_texts HV9.out).1 (ownsAt_texts HV9.out).2 (Kd.C_below HC2.out HB.out) HLC.out (same_true f2 (own_max HV9.out))).mono ?_
        rintro e W11 ⟨rfl, hd⟩
        have hb := hd.below
        clear hd hx2 hz2
        have HL_ := Aside0.mk (And.intro (ownsAt_below HL.out.1 hb) HL.out.2)
        have HO_ := Aside0.mk (ownsAt_below HO.out hb)
        have HG_ := Aside0.mk (And.intro (HG.out.1.kept hb) (Nat.le_trans HG.out.2 hb.size)); have HRf_ := Aside0.mk (HRf.out.kept hb); have HB_ := Aside0.mk (below_step HB.out hb); have HX_ := Aside0.mk (blk_below HX.out hb); clear HG HRf HB HX hb; have HG := HG_; have HRf := HRf_; have HB := HB_; have HX := HX_; clear HG_ HRf_ HB_ HX_
        go_wp2
        go_meet
        case rel => exact ⟨s', r', top8, top8, lo, ⟨HL_.out.1, Nat.le_refl _, HL_.out.2⟩, HO_, HI', HG, HRf, HB⟩
      case inr.inl =>
       as_aux_lemma =>
        obtain ⟨hp1, hp2⟩ := HI.out.confirm n
        have hle : (r.confirm n).2.length ≤ r.l.length := confirm_len r n
        obtain ⟨s', lo, hs⟩ : ∃ a b, s.confirm n = (a, b) := ⟨_, _, rfl⟩
        obtain ⟨r', lo2, hr⟩ : ∃ a b, r.confirm n = (a, b) := ⟨_, _, rfl⟩
        rw [hr] at hle
        rw [hs, hr] at hp1 hp2
        have e1 : lo = lo2 := hp1
        subst e1
        have HS := Aside0.mk hs
        have HRR := Aside0.mk hr
        have HI' := Aside0.mk (IP.mono (show IP i s' r' from hp2) (Nat.le_succ i))
        have HLE := Aside0.mk (show lo.length ≤ r.l.length from hle)
        clear hp1 hp2 hs hr hle
        go_wp2_with fail
        refine (gate_Gate_Confirm.calls g top s n w _ HG.out.1 HB.out HG.out.2 (by rw [HS.out]; show lo.length ≤ _; have := HLE.out; have := HRL.out; omega)).mono ?_
        rintro e W7 ⟨v7, rfl, hG, hO, hB, hK⟩
        rw [HS.out] at hG hO
        obtain ⟨A7, c7, rfl, _⟩ := ownsAt_len hO
        have HL := Aside0.mk (show ownsAt W7 W5.heap.size 9 1 (.slice A7 lo.length c7) lo.length (txt lo) from hO)
        have HG_ := Aside0.mk (And.intro (show GateAt W7 w.heap.size top g s' from hG) (Nat.le_trans HG.out.2 hK.1))
        have HRf_ := Aside0.mk (HRf.out.keepT hK (by decide) (by decide))
        clear HG HRf HB HX hG hO hK HS
        have HG := HG_; have HRf := HRf_; have HB := Aside0.mk hB; clear HG_ HRf_ hB
        go_wp2_with fail
        refine (sternpostref25_Gate_Confirm.calls gr r n w _ HRf.out HB.out (by have := HRL.out; omega)).mono ?_
        rintro e W9 ⟨v9, rfl, hR, hO, hB, hK⟩
        rw [HRR.out] at hR hO
        obtain ⟨A9, c9, rfl, _⟩ := ownsAt_len hO
        have HA := Aside0.mk (And.intro (ownsAt_keepT HL.out hK (by decide)) (And.intro (ownsAt_low hO) (And.intro (HG.out.1.keepR hK (by decide) (by decide) (by decide)) (And.intro (Nat.le_trans HG.out.2 hK.1) (And.intro hR hB)))))
        clear HL HG HRf HB hR hO hB hK HRR
        go_wp2
        go_meet
        case rel => exact ⟨s', r', top, W5.heap.size, lo, ⟨HA.out.1, HW5.out.1, HW5.out.2⟩, ⟨HA.out.2.1⟩, HI', ⟨HA.out.2.2.1, HA.out.2.2.2.1⟩, ⟨HA.out.2.2.2.2.1⟩, ⟨HA.out.2.2.2.2.2⟩⟩
      case inr.inr.inl =>
       as_aux_lemma =>
        obtain ⟨hp1, hp2⟩ := HI.out.open_ 
        have hle : (r.open_ ).2.length ≤ r.l.length := outS_le _ r.l
        obtain ⟨s', lo, hs⟩ : ∃ a b, s.open_  = (a, b) := ⟨_, _, rfl⟩
        obtain ⟨r', lo2, hr⟩ : ∃ a b, r.open_  = (a, b) := ⟨_, _, rfl⟩
        rw [hr] at hle
        rw [hs, hr] at hp1 hp2
        have e1 : lo = lo2 := hp1
        subst e1
        have HS := Aside0.mk hs
        have HRR := Aside0.mk hr
        have HI' := Aside0.mk (IP.mono (show IP i s' r' from hp2) (Nat.le_succ i))
        have HLE := Aside0.mk (show lo.length ≤ r.l.length from hle)
        clear hp1 hp2 hs hr hle
        go_wp2_with fail
        refine (gate_Gate_Open.calls g top s  w _ HG.out.1 HB.out HG.out.2 (by rw [HS.out]; show lo.length ≤ _; have := HLE.out; have := HRL.out; omega)).mono ?_
        rintro e W7 ⟨v7, rfl, hG, hO, hB, hK⟩
        rw [HS.out] at hG hO
        obtain ⟨A7, c7, rfl, _⟩ := ownsAt_len hO
        have HL := Aside0.mk (show ownsAt W7 W5.heap.size 9 1 (.slice A7 lo.length c7) lo.length (txt lo) from hO)
        have HG_ := Aside0.mk (And.intro (show GateAt W7 w.heap.size top g s' from hG) (Nat.le_trans HG.out.2 hK.1))
        have HRf_ := Aside0.mk (HRf.out.keepT hK (by decide) (by decide))
        clear HG HRf HB HX hG hO hK HS
        have HG := HG_; have HRf := HRf_; have HB := Aside0.mk hB; clear HG_ HRf_ hB
        go_wp2_with fail
        refine (sternpostref25_Gate_Open.calls gr r  w _ HRf.out HB.out (by have := HRL.out; omega)).mono ?_
        rintro e W9 ⟨v9, rfl, hR, hO, hB, hK⟩
        rw [HRR.out] at hR hO
        obtain ⟨A9, c9, rfl, _⟩ := ownsAt_len hO
        have HA := Aside0.mk (And.intro (ownsAt_keepT HL.out hK (by decide)) (And.intro (ownsAt_low hO) (And.intro (HG.out.1.keepR hK (by decide) (by decide) (by decide)) (And.intro (Nat.le_trans HG.out.2 hK.1) (And.intro hR hB)))))
        clear HL HG HRf HB hR hO hB hK HRR
        go_wp2
        go_meet
        case rel => exact ⟨s', r', top, W5.heap.size, lo, ⟨HA.out.1, HW5.out.1, HW5.out.2⟩, ⟨HA.out.2.1⟩, HI', ⟨HA.out.2.2.1, HA.out.2.2.2.1⟩, ⟨HA.out.2.2.2.2.1⟩, ⟨HA.out.2.2.2.2.2⟩⟩
      case inr.inr.inr.inl =>
       as_aux_lemma =>
        obtain ⟨hp1, hp2⟩ := HI.out.shut n
        have hle : (r.shut n).2.length ≤ r.l.length := outS_le _ r.l
        obtain ⟨s', lo, hs⟩ : ∃ a b, s.shut n = (a, b) := ⟨_, _, rfl⟩
        obtain ⟨r', lo2, hr⟩ : ∃ a b, r.shut n = (a, b) := ⟨_, _, rfl⟩
        rw [hr] at hle
        rw [hs, hr] at hp1 hp2
        have e1 : lo = lo2 := hp1
        subst e1
        have HS := Aside0.mk hs
        have HRR := Aside0.mk hr
        have HI' := Aside0.mk (IP.mono (show IP i s' r' from hp2) (Nat.le_succ i))
        have HLE := Aside0.mk (show lo.length ≤ r.l.length from hle)
        clear hp1 hp2 hs hr hle
        go_wp2_with fail
        refine (gate_Gate_Shut.calls g top s n w _ HG.out.1 HB.out HG.out.2 (by rw [HS.out]; show lo.length ≤ _; have := HLE.out; have := HRL.out; omega)).mono ?_
        rintro e W7 ⟨v7, rfl, hG, hO, hB, hK⟩
        rw [HS.out] at hG hO
        obtain ⟨A7, c7, rfl, _⟩ := ownsAt_len hO
        have HL := Aside0.mk (show ownsAt W7 W5.heap.size 9 1 (.slice A7 lo.length c7) lo.length (txt lo) from hO)
        have HG_ := Aside0.mk (And.intro (show GateAt W7 w.heap.size top g s' from hG) (Nat.le_trans HG.out.2 hK.1))
        have HRf_ := Aside0.mk (HRf.out.keepT hK (by decide) (by decide))
        clear HG HRf HB HX hG hO hK HS
        have HG := HG_; have HRf := HRf_; have HB := Aside0.mk hB; clear HG_ HRf_ hB
        go_wp2_with fail
        refine (sternpostref25_Gate_Shut.calls gr r n w _ HRf.out HB.out (by have := HRL.out; omega)).mono ?_
        rintro e W9 ⟨v9, rfl, hR, hO, hB, hK⟩
        rw [HRR.out] at hR hO
        obtain ⟨A9, c9, rfl, _⟩ := ownsAt_len hO
        have HA := Aside0.mk (And.intro (ownsAt_keepT HL.out hK (by decide)) (And.intro (ownsAt_low hO) (And.intro (HG.out.1.keepR hK (by decide) (by decide) (by decide)) (And.intro (Nat.le_trans HG.out.2 hK.1) (And.intro hR hB)))))
        clear HL HG HRf HB hR hO hB hK HRR
        go_wp2
        go_meet
        case rel => exact ⟨s', r', top, W5.heap.size, lo, ⟨HA.out.1, HW5.out.1, HW5.out.2⟩, ⟨HA.out.2.1⟩, HI', ⟨HA.out.2.2.1, HA.out.2.2.2.1⟩, ⟨HA.out.2.2.2.2.1⟩, ⟨HA.out.2.2.2.2.2⟩⟩
      case inr.inr.inr.inr =>
       as_aux_lemma =>
        have HI' := Aside0.mk (IP.mono HI.out.clear (Nat.le_succ i))
        go_wp2_with fail
        refine (gate_Gate_Clear.calls g top s w _ HG.out.1 HB.out).mono ?_
        rintro e W7 ⟨rfl, hG, hB, hK⟩
        rw [HI.out.long]
        have HG_ := Aside0.mk (And.intro hG (Nat.le_trans HG.out.2 hK.1))
        have HRf_ := Aside0.mk (HRf.out.keepT hK (by decide) (by decide))
        clear HG HRf HB HX hG hK
        have HG := HG_; have HRf := HRf_; have HB := Aside0.mk hB; clear HG_ HRf_ hB
        go_wp2_with fail
        refine (sternpostref25_Gate_Clear.calls gr r w _ HRf.out HB.out).mono ?_
        rintro e W9 ⟨rfl, hR, hB, hK⟩
        have HA := Aside0.mk (And.intro (HG.out.1.keepR hK (by decide) (by decide) (by decide)) (And.intro (Nat.le_trans HG.out.2 hK.1) (And.intro hR hB)))
        clear HG HRf HB hR hB hK
        go_wp2
        go_meet
        case rel => exact ⟨_, _, top, W5.heap.size, [], ⟨ownsAt_nil _ _ _ _, HW5.out.1, HW5.out.2⟩, ⟨ownsAt_nil _ _ _ _⟩, HI', ⟨HA.out.1, HA.out.2.1⟩, ⟨HA.out.2.2.1⟩, ⟨HA.out.2.2.2⟩⟩
    case rest =>
     as_aux_lemma =>
      clear HG HRf HB HX HI HC4
      obtain ⟨s', r', top', bl, lo, HL, HO, HI, HG, HRf, HB⟩ := hcut
      obtain ⟨A12, c12, rfl, _⟩ := ownsAt_len HL.out.1
      obtain ⟨A13, c13, rfl, _⟩ := ownsAt_len HO.out
      go_wp2_with fail
      refine (sternpostbook_SameTexts.calls (lo.length + 1) A12 c12 lo A13 c13 lo true _ (ownsAt_texts HL.out.1).1 (ownsAt_texts HL.out.1).2 (ownsAt_texts HO.out).1 (ownsAt_texts HO.out).2 (same_true lo (own_max HL.out.1))).mono ?_
      rintro e W11 ⟨rfl, hd⟩
      have hb := hd.below
      clear hd HO
      have HL_ := Aside0.mk (And.intro (ownsAt_below HL.out.1 hb) HL.out.2)
      clear HL
      have HL := HL_
      clear HL_
      have HG_ := Aside0.mk (And.intro (HG.out.1.kept hb) (Nat.le_trans HG.out.2 hb.size)); have HRf_ := Aside0.mk (HRf.out.kept hb); have HB_ := Aside0.mk (below_step HB.out hb); clear HG HRf HB  hb; have HG := HG_; have HRf := HRf_; have HB := HB_; clear HG_ HRf_ HB_ 
      go_wp2_with fail
      refine (sternpostbook_SpoilTexts.calls bl A12 c12 lo _ HL.out.1).mono ?_
      rintro e W12 ⟨rfl, hg⟩
      have hrow : ∀ b, Value.ownBlock (.slice A12 lo.length c12) = some b → bl ≤ b ∧ ∃ cur, W11.heap[b]? = some (Obj.cells cur 9 (0, 0)) := fun b hb => ownsAt_block HL.out.1 hb
      have HG_ := Aside0.mk (And.intro (HG.out.1.grown hg (fun b hb => ⟨Nat.le_trans HL.out.2.1 (hrow b hb).1, (hrow b hb).2⟩)) (Nat.le_trans HG.out.2 hg.size))
      have HRf_ := Aside0.mk (HRf.out.keepT (KeepT.of_grown (T := [9]) hg (fun b hb => by obtain ⟨_, cur, hc⟩ := hrow b hb; exact ⟨cur, _, hc, by decide⟩)) (by decide) (by decide))
      have HB_ := Aside0.mk (below_of_grown HB.out hg HB.out.size (fun b hb => Nat.le_trans HL.out.2.2 (hrow b hb).1))
      clear HG HRf HB HL hg hrow
      have HG := HG_; have HRf := HRf_; have HB := HB_; clear HG_ HRf_ HB_
      go_wp2_with fail
      refine (gate_Gate_State.calls g w.heap.size top' s' _ HG.out.1).mono ?_
      rintro e W13 ⟨rfl, hd⟩
      have hb := hd.below
      clear hd
      have HG_ := Aside0.mk (And.intro (HG.out.1.kept hb) (Nat.le_trans HG.out.2 hb.size)); have HRf_ := Aside0.mk (HRf.out.kept hb); have HB_ := Aside0.mk (below_step HB.out hb); clear HG HRf HB  hb; have HG := HG_; have HRf := HRf_; have HB := HB_; clear HG_ HRf_ HB_ 
      rw [← HI.out.opn, ← HI.out.conf, ← HI.out.gone, ← HI.out.lost]
      obtain ⟨Az, cz, ⟨hbg, hle⟩, hcm, ⟨hc0, hc1, hc2, hc3⟩, ⟨hc4, hc5, hc6⟩, ⟨hf0, hf1, hf2, hf3⟩, ⟨hf4, hf5, hf6⟩, HQ⟩ := HRf.out.cell
      go_upto_region 34 with fail
      have same : ∀ (p : Nat) W', Drawn0 W13 W' → True := fun _ _ _ => trivial
      refine AnyEvents.region_then 40 (E := []) (C := fun (_ : Nat) W' => Drawn0 W13 W') (G := fun _ _ _ _ => True) (T := []) (R := fun _ _ _ _ => True) (vs := [(.bool r'.opn), (.pointer (some ⟨gr, 0, none⟩)), (.pointer (some ⟨gr, 0, none⟩)), (.pointer (some ⟨gr, 5, none⟩)), (.bool r'.opn), (.bool false), (.bool false), (.int .i64 r'.conf), (.pointer (some ⟨gr, 0, none⟩)), (.pointer (some ⟨gr, 0, none⟩)), (.pointer (some ⟨gr, 2, none⟩)), (.int .i64 r'.conf), (.bool false), (.bool false), (.bool false), (.int .i64 r'.gone), (.pointer (some ⟨gr, 0, none⟩)), (.pointer (some ⟨gr, 0, none⟩)), (.pointer (some ⟨gr, 3, none⟩)), (.int .i64 r'.gone), (.bool false), (.bool false), (.bool false), (.int .i64 r'.lost), (.pointer (some ⟨gr, 0, none⟩)), (.pointer (some ⟨gr, 0, none⟩)), (.pointer (some ⟨gr, 4, none⟩)), (.int .i64 r'.lost), (.bool false), (.bool false), (.bool false), (.pointer (some ⟨g, 0, none⟩)), (.int .i64 (r'.l.length : Int)), (.pointer (some ⟨gr, 0, none⟩)), (.pointer (some ⟨gr, 0, none⟩)), (.pointer (some ⟨gr, 6, none⟩)), (.slice Az r'.l.length cz), (.int .i64 (r'.l.length : Int)), (.bool false), (.bool false)]) (by kernel_rfl) (by kernel_rfl) rfl (by kernel_rfl) ?hc9 same (fun _ _ _ _ _ _ _ _ _ => trivial) (fun _ h => nomatch h) (fun x => ?obs9) ?fin9
      case hc9 => exact ⟨1, rfl⟩
      case obs9 =>
       as_aux_lemma =>
        refine AnyEvents.obs_cons (.bool r'.opn) rfl (AnyEvents.ob_plain rfl rfl rfl same rfl (fun p W' hwn hW => ?_)) ?_
        ·obtain ⟨nd, rfl⟩ := hW; first | rfl | (go_simp; done) | (go_simp; rfl) | (go_simp; simp only [i64_w]; done) | (go_simp; simp; done)
        try simp only [Act.put, List.setIfInBounds_toArray, List.set_cons_zero, List.set_cons_succ]
        refine AnyEvents.obs_cons (.pointer (some ⟨gr, 0, none⟩)) rfl (AnyEvents.ob_plain rfl rfl rfl same rfl (fun p W' hwn hW => ?_)) ?_
        ·obtain ⟨nd, rfl⟩ := hW; first | rfl | (go_simp; done) | (go_simp; rfl) | (go_simp; simp only [i64_w]; done) | (go_simp; simp; done)
        try simp only [Act.put, List.setIfInBounds_toArray, List.set_cons_zero, List.set_cons_succ]
        refine AnyEvents.obs_cons (.pointer (some ⟨gr, 0, none⟩)) rfl (AnyEvents.ob_plain rfl rfl rfl same rfl (fun p W' hwn hW => ?_)) ?_
        ·obtain ⟨nd, rfl⟩ := hW; first | rfl | (go_simp; done) | (go_simp; rfl) | (go_simp; simp only [i64_w]; done) | (go_simp; simp; done)
        try simp only [Act.put, List.setIfInBounds_toArray, List.set_cons_zero, List.set_cons_succ]
        refine AnyEvents.obs_cons (.pointer (some ⟨gr, 5, none⟩)) rfl (AnyEvents.ob_plain rfl rfl rfl same rfl (fun p W' hwn hW => ?_)) ?_
        ·obtain ⟨nd, rfl⟩ := hW; first | rfl | (go_simp; done) | (go_simp; rfl) | (go_simp; simp only [i64_w]; done) | (go_simp; simp; done)
        try simp only [Act.put, List.setIfInBounds_toArray, List.set_cons_zero, List.set_cons_succ]
        refine AnyEvents.obs_cons (.bool r'.opn) rfl (AnyEvents.ob_plain rfl rfl rfl same rfl (fun p W' hwn hW => ?_)) ?_
        ·obtain ⟨nd, rfl⟩ := hW; have z0 : (W13.drewN nd).cell? ⟨gr, 5, none⟩ = some (.bool r'.opn) := hc5; have z1 : (W13.drewN nd).frozen? ⟨gr, 5, none⟩ = false := hf5; first | rfl | (go_simp; done) | (go_simp; rfl) | (go_simp; simp only [i64_w]; done) | (go_simp; simp; done)
        try simp only [Act.put, List.setIfInBounds_toArray, List.set_cons_zero, List.set_cons_succ]
        refine AnyEvents.obs_cons (.bool false) rfl (AnyEvents.ob_plain rfl rfl rfl same rfl (fun p W' hwn hW => ?_)) ?_
        ·obtain ⟨nd, rfl⟩ := hW; first | rfl | (go_simp; done) | (go_simp; rfl) | (go_simp; simp only [i64_w]; done) | (go_simp; simp; done)
        try simp only [Act.put, List.setIfInBounds_toArray, List.set_cons_zero, List.set_cons_succ]
        refine AnyEvents.obs_cons (.bool false) rfl (AnyEvents.ob_plain rfl rfl rfl same rfl (fun p W' hwn hW => ?_)) ?_
        ·obtain ⟨nd, rfl⟩ := hW; first | rfl | (go_simp; done) | (go_simp; rfl) | (go_simp; simp only [i64_w]; done) | (go_simp; simp; done)
        try simp only [Act.put, List.setIfInBounds_toArray, List.set_cons_zero, List.set_cons_succ]
        refine AnyEvents.obs_cons (.int .i64 r'.conf) rfl (AnyEvents.ob_plain rfl rfl rfl same rfl (fun p W' hwn hW => ?_)) ?_
        ·obtain ⟨nd, rfl⟩ := hW; first | rfl | (go_simp; done) | (go_simp; rfl) | (go_simp; simp only [i64_w]; done) | (go_simp; simp; done)
        try simp only [Act.put, List.setIfInBounds_toArray, List.set_cons_zero, List.set_cons_succ]
        refine AnyEvents.obs_cons (.pointer (some ⟨gr, 0, none⟩)) rfl (AnyEvents.ob_plain rfl rfl rfl same rfl (fun p W' hwn hW => ?_)) ?_
        ·obtain ⟨nd, rfl⟩ := hW; first | rfl | (go_simp; done) | (go_simp; rfl) | (go_simp; simp only [i64_w]; done) | (go_simp; simp; done)
        try simp only [Act.put, List.setIfInBounds_toArray, List.set_cons_zero, List.set_cons_succ]
        refine AnyEvents.obs_cons (.pointer (some ⟨gr, 0, none⟩)) rfl (AnyEvents.ob_plain rfl rfl rfl same rfl (fun p W' hwn hW => ?_)) ?_
        ·obtain ⟨nd, rfl⟩ := hW; first | rfl | (go_simp; done) | (go_simp; rfl) | (go_simp; simp only [i64_w]; done) | (go_simp; simp; done)
        try simp only [Act.put, List.setIfInBounds_toArray, List.set_cons_zero, List.set_cons_succ]
        refine AnyEvents.obs_cons (.pointer (some ⟨gr, 2, none⟩)) rfl (AnyEvents.ob_plain rfl rfl rfl same rfl (fun p W' hwn hW => ?_)) ?_
        ·obtain ⟨nd, rfl⟩ := hW; first | rfl | (go_simp; done) | (go_simp; rfl) | (go_simp; simp only [i64_w]; done) | (go_simp; simp; done)
        try simp only [Act.put, List.setIfInBounds_toArray, List.set_cons_zero, List.set_cons_succ]
        refine AnyEvents.obs_cons (.int .i64 r'.conf) rfl (AnyEvents.ob_plain rfl rfl rfl same rfl (fun p W' hwn hW => ?_)) ?_
        ·obtain ⟨nd, rfl⟩ := hW; have z0 : (W13.drewN nd).cell? ⟨gr, 2, none⟩ = some (.int .i64 r'.conf) := hc2; have z1 : (W13.drewN nd).frozen? ⟨gr, 2, none⟩ = false := hf2; first | rfl | (go_simp; done) | (go_simp; rfl) | (go_simp; simp only [i64_w]; done) | (go_simp; simp; done)
        try simp only [Act.put, List.setIfInBounds_toArray, List.set_cons_zero, List.set_cons_succ]
        refine AnyEvents.obs_cons (.bool false) rfl (AnyEvents.ob_plain rfl rfl rfl same rfl (fun p W' hwn hW => ?_)) ?_
        ·obtain ⟨nd, rfl⟩ := hW; first | rfl | (go_simp; done) | (go_simp; rfl) | (go_simp; simp only [i64_w]; done) | (go_simp; simp; done)
        try simp only [Act.put, List.setIfInBounds_toArray, List.set_cons_zero, List.set_cons_succ]
        refine AnyEvents.obs_cons (.bool false) rfl (AnyEvents.ob_plain rfl rfl rfl same rfl (fun p W' hwn hW => ?_)) ?_
        ·obtain ⟨nd, rfl⟩ := hW; first | rfl | (go_simp; done) | (go_simp; rfl) | (go_simp; simp only [i64_w]; done) | (go_simp; simp; done)
        try simp only [Act.put, List.setIfInBounds_toArray, List.set_cons_zero, List.set_cons_succ]
        refine AnyEvents.obs_cons (.bool false) rfl (AnyEvents.ob_plain rfl rfl rfl same rfl (fun p W' hwn hW => ?_)) ?_
        ·obtain ⟨nd, rfl⟩ := hW; first | rfl | (go_simp; done) | (go_simp; rfl) | (go_simp; simp only [i64_w]; done) | (go_simp; simp; done)
        try simp only [Act.put, List.setIfInBounds_toArray, List.set_cons_zero, List.set_cons_succ]
        refine AnyEvents.obs_cons (.int .i64 r'.gone) rfl (AnyEvents.ob_plain rfl rfl rfl same rfl (fun p W' hwn hW => ?_)) ?_
        ·obtain ⟨nd, rfl⟩ := hW; first | rfl | (go_simp; done) | (go_simp; rfl) | (go_simp; simp only [i64_w]; done) | (go_simp; simp; done)
        try simp only [Act.put, List.setIfInBounds_toArray, List.set_cons_zero, List.set_cons_succ]
        refine AnyEvents.obs_cons (.pointer (some ⟨gr, 0, none⟩)) rfl (AnyEvents.ob_plain rfl rfl rfl same rfl (fun p W' hwn hW => ?_)) ?_
        ·obtain ⟨nd, rfl⟩ := hW; first | rfl | (go_simp; done) | (go_simp; rfl) | (go_simp; simp only [i64_w]; done) | (go_simp; simp; done)
        try simp only [Act.put, List.setIfInBounds_toArray, List.set_cons_zero, List.set_cons_succ]
        refine AnyEvents.obs_cons (.pointer (some ⟨gr, 0, none⟩)) rfl (AnyEvents.ob_plain rfl rfl rfl same rfl (fun p W' hwn hW => ?_)) ?_
        ·obtain ⟨nd, rfl⟩ := hW; first | rfl | (go_simp; done) | (go_simp; rfl) | (go_simp; simp only [i64_w]; done) | (go_simp; simp; done)
        try simp only [Act.put, List.setIfInBounds_toArray, List.set_cons_zero, List.set_cons_succ]
        refine AnyEvents.obs_cons (.pointer (some ⟨gr, 3, none⟩)) rfl (AnyEvents.ob_plain rfl rfl rfl same rfl (fun p W' hwn hW => ?_)) ?_
        ·obtain ⟨nd, rfl⟩ := hW; first | rfl | (go_simp; done) | (go_simp; rfl) | (go_simp; simp only [i64_w]; done) | (go_simp; simp; done)
        try simp only [Act.put, List.setIfInBounds_toArray, List.set_cons_zero, List.set_cons_succ]
        refine AnyEvents.obs_cons (.int .i64 r'.gone) rfl (AnyEvents.ob_plain rfl rfl rfl same rfl (fun p W' hwn hW => ?_)) ?_
        ·obtain ⟨nd, rfl⟩ := hW; have z0 : (W13.drewN nd).cell? ⟨gr, 3, none⟩ = some (.int .i64 r'.gone) := hc3; have z1 : (W13.drewN nd).frozen? ⟨gr, 3, none⟩ = false := hf3; first | rfl | (go_simp; done) | (go_simp; rfl) | (go_simp; simp only [i64_w]; done) | (go_simp; simp; done)
        try simp only [Act.put, List.setIfInBounds_toArray, List.set_cons_zero, List.set_cons_succ]
        refine AnyEvents.obs_cons (.bool false) rfl (AnyEvents.ob_plain rfl rfl rfl same rfl (fun p W' hwn hW => ?_)) ?_
        ·obtain ⟨nd, rfl⟩ := hW; first | rfl | (go_simp; done) | (go_simp; rfl) | (go_simp; simp only [i64_w]; done) | (go_simp; simp; done)
        try simp only [Act.put, List.setIfInBounds_toArray, List.set_cons_zero, List.set_cons_succ]
        refine AnyEvents.obs_cons (.bool false) rfl (AnyEvents.ob_plain rfl rfl rfl same rfl (fun p W' hwn hW => ?_)) ?_
        ·obtain ⟨nd, rfl⟩ := hW; first | rfl | (go_simp; done) | (go_simp; rfl) | (go_simp; simp only [i64_w]; done) | (go_simp; simp; done)
        try simp only [Act.put, List.setIfInBounds_toArray, List.set_cons_zero, List.set_cons_succ]
        refine AnyEvents.obs_cons (.bool false) rfl (AnyEvents.ob_plain rfl rfl rfl same rfl (fun p W' hwn hW => ?_)) ?_
        ·obtain ⟨nd, rfl⟩ := hW; first | rfl | (go_simp; done) | (go_simp; rfl) | (go_simp; simp only [i64_w]; done) | (go_simp; simp; done)
        try simp only [Act.put, List.setIfInBounds_toArray, List.set_cons_zero, List.set_cons_succ]
        refine AnyEvents.obs_cons (.int .i64 r'.lost) rfl (AnyEvents.ob_plain rfl rfl rfl same rfl (fun p W' hwn hW => ?_)) ?_
        ·obtain ⟨nd, rfl⟩ := hW; first | rfl | (go_simp; done) | (go_simp; rfl) | (go_simp; simp only [i64_w]; done) | (go_simp; simp; done)
        try simp only [Act.put, List.setIfInBounds_toArray, List.set_cons_zero, List.set_cons_succ]
        refine AnyEvents.obs_cons (.pointer (some ⟨gr, 0, none⟩)) rfl (AnyEvents.ob_plain rfl rfl rfl same rfl (fun p W' hwn hW => ?_)) ?_
        ·obtain ⟨nd, rfl⟩ := hW; first | rfl | (go_simp; done) | (go_simp; rfl) | (go_simp; simp only [i64_w]; done) | (go_simp; simp; done)
        try simp only [Act.put, List.setIfInBounds_toArray, List.set_cons_zero, List.set_cons_succ]
        refine AnyEvents.obs_cons (.pointer (some ⟨gr, 0, none⟩)) rfl (AnyEvents.ob_plain rfl rfl rfl same rfl (fun p W' hwn hW => ?_)) ?_
        ·obtain ⟨nd, rfl⟩ := hW; first | rfl | (go_simp; done) | (go_simp; rfl) | (go_simp; simp only [i64_w]; done) | (go_simp; simp; done)
        try simp only [Act.put, List.setIfInBounds_toArray, List.set_cons_zero, List.set_cons_succ]
        refine AnyEvents.obs_cons (.pointer (some ⟨gr, 4, none⟩)) rfl (AnyEvents.ob_plain rfl rfl rfl same rfl (fun p W' hwn hW => ?_)) ?_
        ·obtain ⟨nd, rfl⟩ := hW; first | rfl | (go_simp; done) | (go_simp; rfl) | (go_simp; simp only [i64_w]; done) | (go_simp; simp; done)
        try simp only [Act.put, List.setIfInBounds_toArray, List.set_cons_zero, List.set_cons_succ]
        refine AnyEvents.obs_cons (.int .i64 r'.lost) rfl (AnyEvents.ob_plain rfl rfl rfl same rfl (fun p W' hwn hW => ?_)) ?_
        ·obtain ⟨nd, rfl⟩ := hW; have z0 : (W13.drewN nd).cell? ⟨gr, 4, none⟩ = some (.int .i64 r'.lost) := hc4; have z1 : (W13.drewN nd).frozen? ⟨gr, 4, none⟩ = false := hf4; first | rfl | (go_simp; done) | (go_simp; rfl) | (go_simp; simp only [i64_w]; done) | (go_simp; simp; done)
        try simp only [Act.put, List.setIfInBounds_toArray, List.set_cons_zero, List.set_cons_succ]
        refine AnyEvents.obs_cons (.bool false) rfl (AnyEvents.ob_plain rfl rfl rfl same rfl (fun p W' hwn hW => ?_)) ?_
        ·obtain ⟨nd, rfl⟩ := hW; first | rfl | (go_simp; done) | (go_simp; rfl) | (go_simp; simp only [i64_w]; done) | (go_simp; simp; done)
        try simp only [Act.put, List.setIfInBounds_toArray, List.set_cons_zero, List.set_cons_succ]
        refine AnyEvents.obs_cons (.bool false) rfl (AnyEvents.ob_plain rfl rfl rfl same rfl (fun p W' hwn hW => ?_)) ?_
        ·obtain ⟨nd, rfl⟩ := hW; first | rfl | (go_simp; done) | (go_simp; rfl) | (go_simp; simp only [i64_w]; done) | (go_simp; simp; done)
        try simp only [Act.put, List.setIfInBounds_toArray, List.set_cons_zero, List.set_cons_succ]
        refine AnyEvents.obs_cons (.bool false) rfl (AnyEvents.ob_plain rfl rfl rfl same rfl (fun p W' hwn hW => ?_)) ?_
        ·obtain ⟨nd, rfl⟩ := hW; first | rfl | (go_simp; done) | (go_simp; rfl) | (go_simp; simp only [i64_w]; done) | (go_simp; simp; done)
        try simp only [Act.put, List.setIfInBounds_toArray, List.set_cons_zero, List.set_cons_succ]
        refine AnyEvents.obs_cons (.pointer (some ⟨g, 0, none⟩)) rfl (AnyEvents.ob_plain rfl rfl rfl same rfl (fun p W' hwn hW => ?_)) ?_
        ·obtain ⟨nd, rfl⟩ := hW; first | rfl | (go_simp; done) | (go_simp; rfl) | (go_simp; simp only [i64_w]; done) | (go_simp; simp; done)
        try simp only [Act.put, List.setIfInBounds_toArray, List.set_cons_zero, List.set_cons_succ]
        refine AnyEvents.obs_cons (.int .i64 (r'.l.length : Int)) rfl (AnyEvents.ob_call rfl rfl rfl rfl 10 #[.pointer (some ⟨g, 0, none⟩)] (fun p W' hwn hW => ?_) (fun p W' hwn hW => ?_)) ?_
        ·first | rfl | (go_simp; done) | (go_simp; rfl)
        ·obtain ⟨nd, rfl⟩ := hW; refine (gate_Gate_Len.calls g _ top' s' _ (show GateAt (W13.drewN nd) w.heap.size top' g s' from HG.out.1.drawn rfl)).mono ?_; rintro e W2_ ⟨rfl, hw⟩; exact ⟨by rw [HI.out.long]; rfl, by rw [hw]; exact ⟨nd, rfl⟩, trivial⟩
        try simp only [Act.put, List.setIfInBounds_toArray, List.set_cons_zero, List.set_cons_succ]
        refine AnyEvents.obs_cons (.pointer (some ⟨gr, 0, none⟩)) rfl (AnyEvents.ob_plain rfl rfl rfl same rfl (fun p W' hwn hW => ?_)) ?_
        ·obtain ⟨nd, rfl⟩ := hW; first | rfl | (go_simp; done) | (go_simp; rfl) | (go_simp; simp only [i64_w]; done) | (go_simp; simp; done)
        try simp only [Act.put, List.setIfInBounds_toArray, List.set_cons_zero, List.set_cons_succ]
        refine AnyEvents.obs_cons (.pointer (some ⟨gr, 0, none⟩)) rfl (AnyEvents.ob_plain rfl rfl rfl same rfl (fun p W' hwn hW => ?_)) ?_
        ·obtain ⟨nd, rfl⟩ := hW; first | rfl | (go_simp; done) | (go_simp; rfl) | (go_simp; simp only [i64_w]; done) | (go_simp; simp; done)
        try simp only [Act.put, List.setIfInBounds_toArray, List.set_cons_zero, List.set_cons_succ]
        refine AnyEvents.obs_cons (.pointer (some ⟨gr, 6, none⟩)) rfl (AnyEvents.ob_plain rfl rfl rfl same rfl (fun p W' hwn hW => ?_)) ?_
        ·obtain ⟨nd, rfl⟩ := hW; first | rfl | (go_simp; done) | (go_simp; rfl) | (go_simp; simp only [i64_w]; done) | (go_simp; simp; done)
        try simp only [Act.put, List.setIfInBounds_toArray, List.set_cons_zero, List.set_cons_succ]
        refine AnyEvents.obs_cons (.slice Az r'.l.length cz) rfl (AnyEvents.ob_plain rfl rfl rfl same rfl (fun p W' hwn hW => ?_)) ?_
        ·obtain ⟨nd, rfl⟩ := hW; have z0 : (W13.drewN nd).cell? ⟨gr, 6, none⟩ = some (.slice Az r'.l.length cz) := hc6; have z1 : (W13.drewN nd).frozen? ⟨gr, 6, none⟩ = false := hf6; first | rfl | (go_simp; done) | (go_simp; rfl) | (go_simp; simp only [i64_w]; done) | (go_simp; simp; done)
        try simp only [Act.put, List.setIfInBounds_toArray, List.set_cons_zero, List.set_cons_succ]
        refine AnyEvents.obs_cons (.int .i64 (r'.l.length : Int)) rfl (AnyEvents.ob_plain rfl rfl rfl same rfl (fun p W' hwn hW => ?_)) ?_
        ·obtain ⟨nd, rfl⟩ := hW; first | rfl | (go_simp; done) | (go_simp; rfl) | (go_simp; simp only [i64_w]; done) | (go_simp; simp; done)
        try simp only [Act.put, List.setIfInBounds_toArray, List.set_cons_zero, List.set_cons_succ]
        refine AnyEvents.obs_cons (.bool false) rfl (AnyEvents.ob_plain rfl rfl rfl same rfl (fun p W' hwn hW => ?_)) ?_
        ·obtain ⟨nd, rfl⟩ := hW; first | rfl | (go_simp; done) | (go_simp; rfl) | (go_simp; simp only [i64_w]; done) | (go_simp; simp; done)
        try simp only [Act.put, List.setIfInBounds_toArray, List.set_cons_zero, List.set_cons_succ]
        refine AnyEvents.obs_cons (.bool false) rfl (AnyEvents.ob_plain rfl rfl rfl same rfl (fun p W' hwn hW => ?_)) ?_
        ·obtain ⟨nd, rfl⟩ := hW; first | rfl | (go_simp; done) | (go_simp; rfl) | (go_simp; simp only [i64_w]; done) | (go_simp; simp; done)
        try simp only [Act.put, List.setIfInBounds_toArray, List.set_cons_zero, List.set_cons_succ]
        trivial
      case fin9 =>
       as_aux_lemma =>
        intro x W' hD _
        simp only [List.take_succ_cons, List.take_zero, List.drop_succ_cons, List.drop_zero]
        rw [AnyOrder.lexAt_cons (.bool r'.opn) rfl]
        try simp only [Act.put, List.setIfInBounds_toArray, List.set_cons_zero, List.set_cons_succ]
        rw [AnyOrder.lexAt_cons (.pointer (some ⟨gr, 0, none⟩)) rfl]
        try simp only [Act.put, List.setIfInBounds_toArray, List.set_cons_zero, List.set_cons_succ]
        rw [AnyOrder.lexAt_cons (.pointer (some ⟨gr, 0, none⟩)) rfl]
        try simp only [Act.put, List.setIfInBounds_toArray, List.set_cons_zero, List.set_cons_succ]
        rw [AnyOrder.lexAt_cons (.pointer (some ⟨gr, 5, none⟩)) rfl]
        try simp only [Act.put, List.setIfInBounds_toArray, List.set_cons_zero, List.set_cons_succ]
        rw [AnyOrder.lexAt_cons (.bool r'.opn) rfl]
        try simp only [Act.put, List.setIfInBounds_toArray, List.set_cons_zero, List.set_cons_succ]
        rw [AnyOrder.lexAt_cons (.bool false) rfl]
        try simp only [Act.put, List.setIfInBounds_toArray, List.set_cons_zero, List.set_cons_succ]
        rw [AnyOrder.lexAt_cons (.bool false) rfl]
        try simp only [Act.put, List.setIfInBounds_toArray, List.set_cons_zero, List.set_cons_succ]
        rw [AnyOrder.lexAt_cons (.int .i64 r'.conf) rfl]
        try simp only [Act.put, List.setIfInBounds_toArray, List.set_cons_zero, List.set_cons_succ]
        rw [AnyOrder.lexAt_cons (.pointer (some ⟨gr, 0, none⟩)) rfl]
        try simp only [Act.put, List.setIfInBounds_toArray, List.set_cons_zero, List.set_cons_succ]
        rw [AnyOrder.lexAt_cons (.pointer (some ⟨gr, 0, none⟩)) rfl]
        try simp only [Act.put, List.setIfInBounds_toArray, List.set_cons_zero, List.set_cons_succ]
        rw [AnyOrder.lexAt_cons (.pointer (some ⟨gr, 2, none⟩)) rfl]
        try simp only [Act.put, List.setIfInBounds_toArray, List.set_cons_zero, List.set_cons_succ]
        rw [AnyOrder.lexAt_cons (.int .i64 r'.conf) rfl]
        try simp only [Act.put, List.setIfInBounds_toArray, List.set_cons_zero, List.set_cons_succ]
        rw [AnyOrder.lexAt_cons (.bool false) rfl]
        try simp only [Act.put, List.setIfInBounds_toArray, List.set_cons_zero, List.set_cons_succ]
        rw [AnyOrder.lexAt_cons (.bool false) rfl]
        try simp only [Act.put, List.setIfInBounds_toArray, List.set_cons_zero, List.set_cons_succ]
        rw [AnyOrder.lexAt_cons (.bool false) rfl]
        try simp only [Act.put, List.setIfInBounds_toArray, List.set_cons_zero, List.set_cons_succ]
        rw [AnyOrder.lexAt_cons (.int .i64 r'.gone) rfl]
        try simp only [Act.put, List.setIfInBounds_toArray, List.set_cons_zero, List.set_cons_succ]
        rw [AnyOrder.lexAt_cons (.pointer (some ⟨gr, 0, none⟩)) rfl]
        try simp only [Act.put, List.setIfInBounds_toArray, List.set_cons_zero, List.set_cons_succ]
        rw [AnyOrder.lexAt_cons (.pointer (some ⟨gr, 0, none⟩)) rfl]
        try simp only [Act.put, List.setIfInBounds_toArray, List.set_cons_zero, List.set_cons_succ]
        rw [AnyOrder.lexAt_cons (.pointer (some ⟨gr, 3, none⟩)) rfl]
        try simp only [Act.put, List.setIfInBounds_toArray, List.set_cons_zero, List.set_cons_succ]
        rw [AnyOrder.lexAt_cons (.int .i64 r'.gone) rfl]
        try simp only [Act.put, List.setIfInBounds_toArray, List.set_cons_zero, List.set_cons_succ]
        rw [AnyOrder.lexAt_cons (.bool false) rfl]
        try simp only [Act.put, List.setIfInBounds_toArray, List.set_cons_zero, List.set_cons_succ]
        rw [AnyOrder.lexAt_cons (.bool false) rfl]
        try simp only [Act.put, List.setIfInBounds_toArray, List.set_cons_zero, List.set_cons_succ]
        rw [AnyOrder.lexAt_cons (.bool false) rfl]
        try simp only [Act.put, List.setIfInBounds_toArray, List.set_cons_zero, List.set_cons_succ]
        rw [AnyOrder.lexAt_cons (.int .i64 r'.lost) rfl]
        try simp only [Act.put, List.setIfInBounds_toArray, List.set_cons_zero, List.set_cons_succ]
        rw [AnyOrder.lexAt_cons (.pointer (some ⟨gr, 0, none⟩)) rfl]
        try simp only [Act.put, List.setIfInBounds_toArray, List.set_cons_zero, List.set_cons_succ]
        rw [AnyOrder.lexAt_cons (.pointer (some ⟨gr, 0, none⟩)) rfl]
        try simp only [Act.put, List.setIfInBounds_toArray, List.set_cons_zero, List.set_cons_succ]
        rw [AnyOrder.lexAt_cons (.pointer (some ⟨gr, 4, none⟩)) rfl]
        try simp only [Act.put, List.setIfInBounds_toArray, List.set_cons_zero, List.set_cons_succ]
        rw [AnyOrder.lexAt_cons (.int .i64 r'.lost) rfl]
        try simp only [Act.put, List.setIfInBounds_toArray, List.set_cons_zero, List.set_cons_succ]
        rw [AnyOrder.lexAt_cons (.bool false) rfl]
        try simp only [Act.put, List.setIfInBounds_toArray, List.set_cons_zero, List.set_cons_succ]
        rw [AnyOrder.lexAt_cons (.bool false) rfl]
        try simp only [Act.put, List.setIfInBounds_toArray, List.set_cons_zero, List.set_cons_succ]
        rw [AnyOrder.lexAt_cons (.bool false) rfl]
        try simp only [Act.put, List.setIfInBounds_toArray, List.set_cons_zero, List.set_cons_succ]
        rw [AnyOrder.lexAt_cons (.pointer (some ⟨g, 0, none⟩)) rfl]
        try simp only [Act.put, List.setIfInBounds_toArray, List.set_cons_zero, List.set_cons_succ]
        rw [AnyOrder.lexAt_cons (.int .i64 (r'.l.length : Int)) rfl]
        try simp only [Act.put, List.setIfInBounds_toArray, List.set_cons_zero, List.set_cons_succ]
        rw [AnyOrder.lexAt_cons (.pointer (some ⟨gr, 0, none⟩)) rfl]
        try simp only [Act.put, List.setIfInBounds_toArray, List.set_cons_zero, List.set_cons_succ]
        rw [AnyOrder.lexAt_cons (.pointer (some ⟨gr, 0, none⟩)) rfl]
        try simp only [Act.put, List.setIfInBounds_toArray, List.set_cons_zero, List.set_cons_succ]
        rw [AnyOrder.lexAt_cons (.pointer (some ⟨gr, 6, none⟩)) rfl]
        try simp only [Act.put, List.setIfInBounds_toArray, List.set_cons_zero, List.set_cons_succ]
        rw [AnyOrder.lexAt_cons (.slice Az r'.l.length cz) rfl]
        try simp only [Act.put, List.setIfInBounds_toArray, List.set_cons_zero, List.set_cons_succ]
        rw [AnyOrder.lexAt_cons (.int .i64 (r'.l.length : Int)) rfl]
        try simp only [Act.put, List.setIfInBounds_toArray, List.set_cons_zero, List.set_cons_succ]
        rw [AnyOrder.lexAt_cons (.bool false) rfl]
        try simp only [Act.put, List.setIfInBounds_toArray, List.set_cons_zero, List.set_cons_succ]
        rw [AnyOrder.lexAt_cons (.bool false) rfl]
        try simp only [Act.put, List.setIfInBounds_toArray, List.set_cons_zero, List.set_cons_succ]
        rw [AnyOrder.lexAt_nil]
        clear same
        obtain ⟨nd, rfl⟩ := hD
        clear hbg hle hcm hc0 hc1 hc2 hc3 hc4 hc5 hc6 hf0 hf1 hf2 hf3 hf4 hf5 hf6 HQ
        go_wp2
        go_roundg k1
        case measure => omega
        case rel => exact ⟨i + 1, _, s', r', top', rfl, ⟨HII.out, by have := HK.out; omega⟩, HI, ⟨HG.out.1.drawn rfl, HG.out.2⟩, ⟨HRf.out.drawn rfl⟩, ⟨pw_below_drewN HB.out nd⟩⟩

/-- THE ONE PURE STATEMENT of sternpostlaw25_GatePlays: yours. -/
def fit41 (x : S41) : Prop := ((Lit.int .i64 x.f0).wf = true) ∧ ((Lit.int .i64 x.f1).wf = true) ∧ ((x.f2.length * 16 ≤ 140737488351232 ∧ ∀ x_ ∈ x.f2, x_.size ≤ 140737488351232)) ∧ True
def sternpostlaw25_GatePlays.Pure : Prop := ∀ (a0 : Int) (l1 : List (S41)), (Lit.int .i64 a0).wf = true → (l1.length * 48 ≤ 140737488351232 ∧ ∀ x_ ∈ l1, fit41 x_) → ∃ k, sternpostlaw25_GatePlays.f k a0 l1 = some true
theorem sternpostlaw25_GatePlays.walk (P : sternpostlaw25_GatePlays.Pure) (a0 : Int) (A1 : Option Addr) (c1 : Nat) (l1 : List (S41)) (w : World) (w0 : (Lit.int .i64 a0).wf = true) (hr1 : Kd.C k41 w A1 l1.length l1) (hc1 : l1.length ≤ c1) (w1 : (l1.length * 48 ≤ 140737488351232 ∧ ∀ x_ ∈ l1, fit41 x_)) :
  Calls Try.prog 4 #[.int .i64 a0, .slice A1 l1.length c1] w fun e w' => e = .returned (.bool true) ∧ Below w.heap.size w w' := by
 obtain ⟨k, h⟩ := P a0 l1 w0 w1
 refine (sternpostlaw25_GatePlays.calls k a0 _ _ l1 true w hr1 hc1 h rfl).mono ?_
 rintro e w' ⟨rfl, hd⟩
 exact ⟨rfl, hd⟩

end Go.Proofs.Ytcmpkgmhcbnmbaa.PGatePlays

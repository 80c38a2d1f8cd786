-- Laid by this claim's own program over the print's words.
import Derived.Test.YtobndcdohehhbaaPSendqPlaysx0
import Derived.Test.YtobndcdohehhbaaPSendqPlaysx1
import Derived.Test.YtobndcdohehhbaaPSendqPlaysx2
import Derived.Test.YtobndcdohehhbaaPSendqPlaysx3
import Derived.Test.YtobndcdohehhbaaPSendqPlaysx4
import Derived.Test.YtobndcdohehhbaaPSendqPlaysx5
import Derived.Test.YtobndcdohehhbaaPSendqPlaysx6
import Derived.Test.YtobndcdohehhbaaPSendqPlaysx7
import Derived.Test.YtobndcdohehhbaaPSendqPlaysx8
import Derived.Test.YtobndcdohehhbaaPSendqPlaysx9
namespace Go.Proofs.Ytobndcdohehhbaa.PSendqPlays
open Go.RowKit Go.Proofs.YtobndcdohehhbaaW.PrintWords Go.Proofs.YtobndcdohehhbaaW.PrintLast Go.Proofs.YtobndcdohehhbaaW.PrintMore
attribute [local go_sem] max2_int min2_int max_two min_two max_three min_three max_four min_four max_five min_five extract_cut tmod_nat_lit   -- for this text's walks alone
set_option linter.unusedVariables false
set_option linter.unusedSimpArgs false


/-! ### sternpostlaw15_step: function 21 (by hand) -/
-- over sternpostlaw15_near.calls sternpostlaw15_near.callsR sendq_Queue_Write.calls sendq_Queue_Write.callsR sendq_Queue_Ack.calls sendq_Queue_Ack.callsR sendq_Queue_Next.calls sendq_Queue_Next.callsR sendq_Queue_Apart.calls sendq_Queue_Apart.callsR sendq_Queue_Hole.calls sendq_Queue_Hole.callsR sendq_Queue_Probe.calls sendq_Queue_Probe.callsR sternpostref15_Queue_Write.calls sternpostref15_Queue_Write.callsR sternpostref15_Queue_Ack.calls sternpostref15_Queue_Ack.callsR sternpostref15_Queue_Next.calls sternpostref15_Queue_Next.callsR sternpostref15_Queue_Apart.calls sternpostref15_Queue_Apart.callsR sternpostref15_Queue_Hole.calls sternpostref15_Queue_Hole.callsR sternpostref15_Queue_Probe.calls sternpostref15_Queue_Probe.callsR sternpostref15_Queue_Fork.calls sternpostref15_Queue_Fork.callsR
/-- the queue of the document beside the program's: the same but for what was received apart -/
def rq (q : QS) (got : List Bool) : RQ := ⟨q.left, q.sent, q.room, q.s, got⟩
structure QG (q : QS) (got : List Bool) : Prop where
 ok : sqOk q.left
 le : 0 ≤ q.sent ∧ q.sent ≤ (q.s.size : Int) ∧ (q.s.size : Int) ≤ q.room ∧ q.room ≤ 65536
 ap : QAp q
 len : got.length = q.s.size
 cov : ∀ k : Nat, k < q.s.size → (got[k]? = some true ↔ Cov q.ap (k : Int))
theorem cutS_size' {s : ByteArray} {a b : Nat} (h : a ≤ b) (hb : b ≤ s.size) : (cutS s a b).size = b - a := by unfold cutS; simp [ByteArray.size_extract]; omega
theorem cov_hi {q : QS} (h : QAp q) {k : Int} (hk : q.sent ≤ k) : ¬ Cov q.ap k := fun ⟨y, hy, _, h2⟩ => by have := (h.2 y hy).2; omega
theorem qg_write {q : QS} {got : List Bool} (h : QG q got) (s : ByteArray) : ∃ got', (rq q got).write s = (rq (q.write s).1 got', (q.write s).2) ∧ QG (q.write s).1 got' := by
 have hn : q.room_ s ≤ s.size ∧ (q.room_ s : Int) ≤ q.room - q.s.size := by have := h.le; unfold QS.room_; omega
 unfold RQ.write QS.write
 rw [show (rq q got).room_ s = q.room_ s from rfl]
 generalize q.room_ s = n at hn ⊢
 by_cases hc : n = 0 ∧ s.toList ≠ []
 ·rw [if_pos hc, if_pos hc]; exact ⟨got, rfl, h⟩
 ·rw [if_neg hc, if_neg hc]
  have hsz : (q.s ++ cutS s 0 n).size = q.s.size + n := by rw [ByteArray.size_append, cutS_size' (Nat.zero_le _) hn.1]; rfl
  refine ⟨got ++ List.replicate n false, rfl, h.ok, ?_, h.ap, ?_, fun k hk => ?_⟩
  ·have := h.le; show 0 ≤ q.sent ∧ q.sent ≤ ((q.s ++ cutS s 0 n).size : Int) ∧ ((q.s ++ cutS s 0 n).size : Int) ≤ q.room ∧ q.room ≤ 65536; rw [hsz]; omega
  ·show _ = (q.s ++ cutS s 0 n).size; rw [hsz, List.length_append, List.length_replicate, h.len]
  ·show _ ↔ Cov q.ap _
   have hl := h.len
   by_cases hk2 : k < got.length
   ·rw [List.getElem?_append_left hk2]; exact h.cov k (by omega)
   ·rw [List.getElem?_append_right (by omega), List.getElem?_replicate]
    have := cov_hi h.ap (k := (k : Int)) (by have := h.le; omega)
    constructor
    ·intro h2; split at h2 <;> simp at h2
    ·intro h2; exact absurd h2 this
theorem off_rel {q : QS} {got : List Bool} (n : Int) : (rq q got).off n = if (q.off n).2 = true then (q.off n).1 else -1 := by
 unfold RQ.off QS.off
 by_cases h1 : sqOk n
 ·by_cases h2 : (n - q.left) % 4294967296 ≤ q.sent
  ·rw [if_pos (show sqOk n ∧ (n - (rq q got).left) % 4294967296 ≤ (rq q got).sent from ⟨h1, h2⟩), if_pos h1, if_pos (decide_eq_true h2)]; rfl
  ·rw [if_neg (show ¬ (sqOk n ∧ (n - (rq q got).left) % 4294967296 ≤ (rq q got).sent) from fun h => h2 h.2), if_pos h1, if_neg (by simpa using h2)]
 ·rw [if_neg (show ¬ (sqOk n ∧ (n - (rq q got).left) % 4294967296 ≤ (rq q got).sent) from fun h => h1 h.1), if_neg h1, if_neg (by decide)]
theorem ackAp_mem (d : Int) : ∀ (l : List (Int × Int)) (z : Int × Int), z ∈ ackAp d l → ∃ y ∈ l, d < y.2 ∧ z = (if 0 < y.1 - d then y.1 - d else 0, y.2 - d)
 | [], z, h => by cases h
 | y :: l, z, h => by
  unfold ackAp at h
  split at h
  ·rcases List.mem_cons.1 h with rfl | h
   ·rename_i hd; exact ⟨y, List.mem_cons_self, hd, rfl⟩
   ·obtain ⟨x, hx, h2⟩ := ackAp_mem d l z h; exact ⟨x, List.mem_cons_of_mem _ hx, h2⟩
  ·obtain ⟨x, hx, h2⟩ := ackAp_mem d l z h; exact ⟨x, List.mem_cons_of_mem _ hx, h2⟩
theorem ackAp_in (d : Int) : ∀ (l : List (Int × Int)) (y : Int × Int), y ∈ l → d < y.2 → (if 0 < y.1 - d then y.1 - d else 0, y.2 - d) ∈ ackAp d l
 | [], y, h, _ => by cases h
 | x :: l, y, h, hd => by
  unfold ackAp
  rcases List.mem_cons.1 h with rfl | h
  ·rw [if_pos hd]; exact List.mem_cons_self
  ·have := ackAp_in d l y h hd
   split
   ·exact List.mem_cons_of_mem _ this
   ·exact this
theorem ackAp_sep (d : Int) : ∀ (l : List (Int × Int)), SepL l → SepL (ackAp d l)
 | [], h => h
 | y :: l, h => by
  have ih := ackAp_sep d l h.tail
  have hy := (List.pairwise_cons.1 h.1).1
  unfold ackAp
  split
  ·rename_i hd
   refine ⟨List.pairwise_cons.2 ⟨fun z hz => ?_, ih.1⟩, fun z hz => ?_⟩
   ·obtain ⟨x, hx, h2, rfl⟩ := ackAp_mem d l z hz
    have := hy x hx
    dsimp only; split <;> omega
   ·rcases List.mem_cons.1 hz with rfl | hz
    ·have := h.2 y List.mem_cons_self; dsimp only; split <;> omega
    ·exact ih.2 z hz
  ·exact ih
theorem ackAp_cov (d : Int) (l : List (Int × Int)) (k : Int) (hk : 0 ≤ k) : Cov (ackAp d l) k ↔ Cov l (k + d) := by
 constructor
 ·rintro ⟨z, hz, h1, h2⟩
  obtain ⟨y, hy, h3, rfl⟩ := ackAp_mem d l z hz
  refine ⟨y, hy, ?_, ?_⟩
  ·dsimp only at h1; split at h1 <;> omega
  ·dsimp only at h2; omega
 ·rintro ⟨y, hy, h1, h2⟩
  refine ⟨_, ackAp_in d l y hy (by omega), ?_, ?_⟩
  ·dsimp only; split <;> omega
  ·dsimp only; omega
theorem qg_ack {q : QS} {got : List Bool} (h : QG q got) (n : Int) : ∃ got', (rq q got).ack n = (rq (q.ack n).1 got', (q.ack n).2) ∧ QG (q.ack n).1 got' := by
 unfold RQ.ack QS.ack
 rw [off_rel]
 by_cases ho : (q.off n).2 = true
 ·have h1 := off_ok ho
  have hn : sqOk n := by unfold QS.off at ho; split at ho; assumption; cases ho
  rw [if_pos ho, if_pos ho, if_neg (by omega)]
  obtain ⟨d, hd⟩ : ∃ d : Nat, (q.off n).1 = (d : Int) := ⟨_, (Int.toNat_of_nonneg h1.1).symm⟩
  rw [hd] at h1 ⊢
  have hle := h.le
  have hsz : (cutS q.s d q.s.size).size = q.s.size - d := cutS_size' (by omega) (Nat.le_refl _)
  refine ⟨got.drop d, rfl, hn, ?_, ⟨ackAp_sep _ _ h.ap.1, fun z hz => ?_⟩, ?_, fun k hk => ?_⟩
  ·show 0 ≤ q.sent - (d : Int) ∧ q.sent - (d : Int) ≤ ((cutS q.s d q.s.size).size : Int) ∧ ((cutS q.s d q.s.size).size : Int) ≤ q.room ∧ q.room ≤ 65536
   rw [hsz]; omega
  ·obtain ⟨y, hy, h3, rfl⟩ := ackAp_mem _ _ z hz
   have := h.ap.2 y hy
   show 0 ≤ (if 0 < y.1 - (d : Int) then y.1 - (d : Int) else 0) ∧ y.2 - (d : Int) ≤ q.sent - (d : Int)
   constructor
   ·split <;> omega
   ·omega
  ·show _ = (cutS q.s d q.s.size).size
   rw [hsz, List.length_drop, h.len]
  ·have hk2 : k < q.s.size - d := by rw [← hsz]; exact hk
   rw [List.getElem?_drop]
   show _ ↔ Cov (ackAp (d : Int) q.ap) _
   rw [ackAp_cov _ _ _ (by omega), h.cov (d + k) (by omega)]
   rw [show ((d + k : Nat) : Int) = (k : Int) + (d : Int) by omega]
 ·rw [if_neg ho, if_neg ho, if_pos (by decide)]
  exact ⟨got, rfl, h⟩
theorem qg_next {q : QS} {got : List Bool} (h : QG q got) (wd mst : Int) : (rq q got).next wd mst = (rq (q.next wd mst).1 got, (q.next wd mst).2) ∧ QG (q.next wd mst).1 got := by
 unfold RQ.next QS.next
 by_cases hc : wd < 1 ∨ mst < 1 ∨ wd ≤ q.sent
 ·rw [if_pos hc, if_pos (show wd < 1 ∨ mst < 1 ∨ wd ≤ (rq q got).sent from hc)]; exact ⟨rfl, h⟩
 ·rw [if_neg hc, if_neg (show ¬ (wd < 1 ∨ mst < 1 ∨ wd ≤ (rq q got).sent) from hc)]
  refine ⟨rfl, h.ok, ?_, ⟨h.ap.1, fun y hy => ⟨(h.ap.2 y hy).1, ?_⟩⟩, h.len, h.cov⟩
  ·have := h.le; show 0 ≤ q.sent + (q.nextN wd mst : Int) ∧ q.sent + (q.nextN wd mst : Int) ≤ (q.s.size : Int) ∧ _; unfold QS.nextN; refine ⟨?_, ?_, this.2.2⟩ <;> omega
  ·have := (h.ap.2 y hy).2; show y.2 ≤ q.sent + (q.nextN wd mst : Int); omega
theorem str_ne' {s : ByteArray} (h : 0 < s.size) : s.toList.isEmpty = false := by
 rw [Lib.toList_data]
 cases hl : s.data.toList with
 | nil =>
  have : s.size = 0 := by show s.data.size = 0; rw [← Array.length_toList, hl]; rfl
  omega
 | cons _ _ => rfl
theorem qg_probe {q : QS} {got : List Bool} (h : QG q got) : (rq q got).probe = (rq q.probe.1 got, q.probe.2) ∧ QG q.probe.1 got := by
 unfold RQ.probe QS.probe
 show (if 0 < q.sent then _ else if q.s.toList.isEmpty = true then _ else _) = _ ∧ _
 have hle := h.le
 by_cases hp : 0 < q.sent
 ·rw [if_pos hp, if_neg (by rw [str_ne' (by omega)]; decide), if_neg (by omega)]
  exact ⟨rfl, h⟩
 ·rw [if_neg hp]
  by_cases he : q.s.toList.isEmpty = true
  ·rw [if_pos he, if_pos he]; exact ⟨rfl, h⟩
  ·rw [if_neg he, if_neg he, if_pos (by omega)]
   have hs : 1 ≤ q.s.size := str_pos (by simpa using he)
   exact ⟨rfl, h.ok, ⟨(show (0 : Int) ≤ 1 by decide), (show (1 : Int) ≤ (q.s.size : Int) by omega), hle.2.2⟩, ⟨h.ap.1, fun y hy => ⟨(h.ap.2 y hy).1, by have := (h.ap.2 y hy).2; show y.2 ≤ 1; omega⟩⟩, h.len, h.cov⟩
theorem setN_get (l : List Bool) (a : Nat) : ∀ m, a + m ≤ l.length → ∀ k : Nat, ((setN l a m)[k]? = some true ↔ (a ≤ k ∧ k < a + m) ∨ l[k]? = some true)
 | 0, _, k => by unfold setN; constructor; exact .inr; rintro (h | h); omega; exact h
 | m + 1, hm, k => by
  rw [setN]
  by_cases hk : a + m = k
  ·subst hk; rw [List.getElem?_set_self (by rw [setN_length]; omega)]; simp
  ·rw [List.getElem?_set_ne hk, setN_get l a m (by omega) k]
   constructor
   ·rintro (h | h); exact .inl (by omega); exact .inr h
   ·rintro (h | h); exact .inl (by omega); exact .inr h
theorem qg_note {q : QS} {got : List Bool} (h : QG q got) (x : Int × Int) : ∃ got', (rq q got).note x = rq (q.note x) got' ∧ QG (q.note x) got' := by
 unfold RQ.note QS.note
 rw [off_rel, off_rel]
 have hle := h.le
 by_cases h1 : (q.off x.1).2 = true
 ·by_cases h2 : (q.off x.2).2 = true
  ·rw [if_pos h1, if_pos h2]
   have g1 := off_ok h1
   have g2 := off_ok h2
   by_cases h3 : (q.off x.1).1 < (q.off x.2).1
   ·rw [if_pos ⟨g1.1, g2.1, h3⟩, if_pos ⟨h1, h2, h3⟩]
    refine ⟨_, rfl, h.ok, h.le, ⟨addSpan_sep _ _ h3 h.ap.1, addSpan_in q.sent _ _ ⟨g1.1, g2.2⟩ h.ap.2⟩, ?_, fun k hk => ?_⟩
    ·show (setN got _ _).length = _; rw [setN_length]; exact h.len
    ·show (setN got _ _)[k]? = some true ↔ Cov (addSpan _ q.ap) _
     rw [setN_get _ _ _ (by rw [h.len]; omega), cov_add _ _ _ h3 h.ap.1, h.cov k hk]
     have : ((q.off x.1).1.toNat ≤ k ∧ k < (q.off x.1).1.toNat + ((q.off x.2).1 - (q.off x.1).1).toNat) ↔ ((q.off x.1).1 ≤ (k : Int) ∧ (k : Int) < (q.off x.2).1) := by omega
     rw [this]
   ·rw [if_neg (fun hh => h3 hh.2.2), if_neg (fun hh => h3 hh.2.2)]; exact ⟨got, rfl, h⟩
  ·rw [if_neg h2, if_neg (fun hh => absurd hh.2.1 (by decide)), if_neg (fun hh => h2 hh.2.1)]; exact ⟨got, rfl, h⟩
 ·rw [if_neg h1, if_neg (fun hh => absurd hh.1 (by decide)), if_neg (fun hh => h1 hh.1)]; exact ⟨got, rfl, h⟩
theorem qg_notes : ∀ (l : List (Int × Int)) {q : QS} {got : List Bool}, QG q got → ∃ got', l.foldl RQ.note (rq q got) = rq (l.foldl QS.note q) got' ∧ QG (l.foldl QS.note q) got'
 | [], q, got, h => ⟨got, rfl, h⟩
 | x :: l, q, got, h => by
  obtain ⟨g1, e, h1⟩ := qg_note h x
  simp only [List.foldl_cons, e]
  exact qg_notes l h1
theorem cnt_step {got : List Bool} {k : Nat} {b : Bool} (h : got[k]? = some b) : cntT got (k + 1) = cntT got k + (if b = true then 1 else 0) := by
 unfold cntT
 rw [List.take_add_one, h]
 cases b <;> simp
theorem cnt_all {got : List Bool} (b : Bool) (a : Nat) : ∀ m : Nat, (∀ k, a ≤ k → k < a + m → got[k]? = some b) → cntT got (a + m) = cntT got a + (if b = true then (m : Int) else 0)
 | 0, _ => by simp
 | m + 1, h => by
  rw [← Nat.add_assoc, cnt_step (h (a + m) (by omega) (by omega)), cnt_all b a m (fun k h1 h2 => h k h1 (by omega))]
  split <;> omega
theorem apSum_from (l : List (Int × Int)) : ∀ n : Int, l.foldl (fun n x => n + (x.2 - x.1)) n = n + apSum l := by
 unfold apSum
 induction l with
 | nil => intro n; simp
 | cons x l ih => intro n; simp only [List.foldl_cons]; rw [ih, ih (0 + _)]; omega
theorem cnt_spans {got : List Bool} (sent : Nat) (hb : ∀ k, k < sent → ∃ b, got[k]? = some b) : ∀ (l : List (Int × Int)) (lo : Nat), lo ≤ sent → SepL l → (∀ y ∈ l, (lo : Int) ≤ y.1 ∧ y.2 ≤ (sent : Int)) → (∀ k : Nat, lo ≤ k → k < sent → (got[k]? = some true ↔ Cov l (k : Int))) → cntT got sent = cntT got lo + apSum l
 | [], lo, hlo, _, _, hc => by
  have := cnt_all (got := got) false lo (sent - lo) (fun k h1 h2 => by
   obtain ⟨b, hb⟩ := hb k (by omega)
   cases b
   ·exact hb
   ·obtain ⟨y, hy, _⟩ := (hc k h1 (by omega)).1 hb; cases hy)
  rw [show lo + (sent - lo) = sent by omega] at this
  rw [this]; simp [apSum]
 | y :: l, lo, hlo, hs, hin, hc => by
  have hy := hin y List.mem_cons_self
  have hy2 := hs.2 y List.mem_cons_self
  have hyl := (List.pairwise_cons.1 hs.1).1
  obtain ⟨a, ha⟩ : ∃ a : Nat, y.1 = (a : Int) := ⟨_, (Int.toNat_of_nonneg (by omega)).symm⟩
  obtain ⟨b, hbb⟩ : ∃ b : Nat, y.2 = (b : Int) := ⟨_, (Int.toNat_of_nonneg (by omega)).symm⟩
  have hcc : ∀ k : Int, Cov (y :: l) k ↔ (y.1 ≤ k ∧ k < y.2) ∨ Cov l k := fun k => by unfold Cov; simp
  have hout : ∀ k : Int, k ≤ y.2 → ¬ Cov l k := fun k hk ⟨z, hz, h1, h2⟩ => by have := hyl z hz; omega
  have e1 := cnt_all (got := got) false lo (a - lo) (fun k h1 h2 => by
   obtain ⟨c, hc2⟩ := hb k (by omega)
   cases c
   ·exact hc2
   ·rcases (hcc _).1 ((hc k h1 (by omega)).1 hc2) with h3 | h3
    ·omega
    ·exact absurd h3 (hout _ (by omega)))
  have e2 := cnt_all (got := got) true a (b - a) (fun k h1 h2 => (hc k (by omega) (by omega)).2 ((hcc _).2 (.inl (by omega))))
  rw [show lo + (a - lo) = a by omega] at e1
  rw [show a + (b - a) = b by omega] at e2
  have ih := cnt_spans sent hb l b (by omega) hs.tail (fun z hz => ⟨by have := hyl z hz; omega, (hin z (List.mem_cons_of_mem _ hz)).2⟩) (fun k h1 h2 => by
   rw [hc k (by omega) h2, hcc]
   constructor
   ·rintro (h | h); omega; exact h
   ·exact .inr)
  rw [ih, e2, e1]
  have : apSum (y :: l) = (y.2 - y.1) + apSum l := by
   show l.foldl _ (0 + (y.2 - y.1)) = _
   rw [apSum_from]; omega
  rw [this]
  simp; omega
theorem qg_count {q : QS} {got : List Bool} (h : QG q got) : cntT got q.sent.toNat = apSum q.ap := by
 have hle := h.le
 have := cnt_spans (got := got) q.sent.toNat (fun k hk => ⟨_, List.getElem?_eq_getElem (show k < got.length by rw [h.len]; omega)⟩) q.ap 0 (Nat.zero_le _) h.ap.1 (fun y hy => by have := h.ap.2 y hy; omega) (fun k _ hk => h.cov k (by omega))
 rw [this]; show cntT got 0 + _ = _; unfold cntT; simp
theorem trues_eq : ∀ (L : List Bool) (f : Nat), f ≤ L.length → (∀ k, k < f → L[k]? = some true) → (f < L.length → L[f]? = some false) → trues L = f
 | [], f, hf, _, _ => by simp at hf; subst hf; rfl
 | b :: L, 0, _, _, h => by
  have := h (by simp)
  simp at this; subst this; rfl
 | b :: L, f + 1, hf, ha, h => by
  have h0 := ha 0 (by omega)
  simp at h0; subst h0
  unfold trues
  rw [if_pos rfl, trues_eq L f (by simpa using hf) (fun k hk => by have := ha (k + 1) (by omega); simpa using this) (fun hl => by have := h (by simpa using hl); simpa using this)]
theorem falses_eq (most : Int) : ∀ (L : List Bool) (k m : Nat), m ≤ L.length → (∀ j, j < m → L[j]? = some false) → (m < L.length → L[m]? = some true) → falses most L k = k + min m (most - (k : Int)).toNat
 | [], k, m, hm, _, _ => by simp at hm; subst hm; unfold falses; simp
 | b :: L, k, 0, _, _, h => by
  have := h (by simp)
  simp at this; subst this
  unfold falses; rw [if_pos rfl]; simp
 | b :: L, k, m + 1, hm, ha, h => by
  have h0 := ha 0 (by omega)
  simp at h0; subst h0
  unfold falses
  rw [if_neg (by decide)]
  split
  ·rw [falses_eq most L (k + 1) m (by simpa using hm) (fun j hj => by have := ha (j + 1) (by omega); simpa using this) (fun hl => by have := h (by simpa using hl); simpa using this)]
   omega
  ·omega
theorem hole_spec (sent : Int) : ∀ (l : List (Int × Int)) (f : Int), SepL l → (∀ y ∈ l, f ≤ y.1 ∧ y.2 ≤ sent) → f ≤ sent →
  f ≤ (holeL sent f l).1 ∧ (holeL sent f l).1 ≤ sent ∧ (∀ k, f ≤ k → k < (holeL sent f l).1 → Cov l k) ∧ (∀ k, (holeL sent f l).1 ≤ k → k < (holeL sent f l).2 → ¬ Cov l k) ∧ ((holeL sent f l).2 < sent → Cov l (holeL sent f l).2) ∧ ((holeL sent f l).1 < (holeL sent f l).2 ∨ ((holeL sent f l).1 = sent ∧ (holeL sent f l).2 = sent)) ∧ (holeL sent f l).2 ≤ sent
 | [], f, _, _, hf => by
  unfold holeL
  refine ⟨Int.le_refl _, hf, fun k h1 h2 => absurd h2 (by dsimp only; omega), (fun k _ _ h => by obtain ⟨y, hy, _⟩ := h; cases hy), fun h => absurd h (by dsimp only; omega), ?_, Int.le_refl _⟩
  dsimp only; omega
 | x :: l, f, hl, hb, hf => by
  have hx := hb x List.mem_cons_self
  have hx2 := hl.2 x List.mem_cons_self
  have hxl := (List.pairwise_cons.1 hl.1).1
  have hc : ∀ (k : Int), Cov (x :: l) k ↔ (x.1 ≤ k ∧ k < x.2) ∨ Cov l k := fun k => by unfold Cov; simp
  unfold holeL
  by_cases h : f < x.1
  ·rw [if_pos h]
   refine ⟨Int.le_refl _, hf, fun k h1 h2 => absurd h2 (by dsimp only; omega), fun k h1 h2 hk => ?_, fun _ => (hc _).2 (.inl ⟨Int.le_refl _, hx2⟩), .inl h, by dsimp only; omega⟩
   obtain ⟨y, hy, hy1, hy2⟩ := hk
   dsimp only at h2
   rcases List.mem_cons.1 hy with rfl | hy
   ·omega
   ·have := hxl y hy; omega
  ·rw [if_neg h]
   obtain ⟨g1, g2, g3, g4, g5, g6, g7⟩ := hole_spec sent l x.2 hl.tail (fun y hy => ⟨by have := hxl y hy; omega, (hb y (List.mem_cons_of_mem _ hy)).2⟩) hx.2
   refine ⟨by omega, g2, fun k h1 h2 => (hc k).2 ?_, fun k h1 h2 hk => ?_, fun h2 => (hc _).2 (.inr (g5 h2)), g6, g7⟩
   ·by_cases hk : k < x.2
    ·exact .inl ⟨by omega, hk⟩
    ·exact .inr (g3 k (by omega) h2)
   ·rcases (hc k).1 hk with h3 | h3
    ·omega
    ·exact g4 k h1 h2 h3
theorem qg_hole {q : QS} {got : List Bool} (h : QG q got) (most : Int) : (rq q got).hole most = q.hole most := by
 have hle := h.le
 obtain ⟨sent, hse⟩ : ∃ n : Nat, q.sent = (n : Int) := ⟨_, (Int.toNat_of_nonneg hle.1).symm⟩
 obtain ⟨g1, g2, g3, g4, g5, g6, g7⟩ := hole_spec q.sent q.ap 0 h.ap.1 h.ap.2 hle.1
 unfold QS.hole QS.holeTo RQ.hole
 obtain ⟨f, hf⟩ : ∃ f : Nat, (holeL q.sent 0 q.ap).1 = (f : Int) := ⟨_, (Int.toNat_of_nonneg g1).symm⟩
 generalize (holeL q.sent 0 q.ap).2 = t at *
 rw [hf] at g2 g3 g4 g6 ⊢
 have hb : ∀ k, k < sent → ∃ b, got[k]? = some b := fun k hk => ⟨_, List.getElem?_eq_getElem (show k < got.length by rw [h.len]; omega)⟩
 have hL : (got.take sent).length = sent := by rw [List.length_take, h.len]; omega
 have hget : ∀ k, k < sent → (got.take sent)[k]? = got[k]? := fun k hk => by rw [List.getElem?_take, if_pos hk]
 have hA : (rq q got).holeA = f := by
  show trues (got.take q.sent.toNat) = f
  rw [hse, Int.toNat_natCast]
  refine trues_eq _ f (by omega) (fun k hk => ?_) (fun hlt => ?_)
  ·rw [hget k (by omega)]; exact (h.cov k (by omega)).2 (g3 k (by omega) (by omega))
  ·rw [hget f (by omega)]
   obtain ⟨b, hb2⟩ := hb f (by omega)
   cases b
   ·exact hb2
   ·exact absurd ((h.cov f (by omega)).1 hb2) (g4 f (Int.le_refl _) (by omega))
 have hB : (rq q got).holeB most = f + min (t - (f : Int)).toNat most.toNat := by
  unfold RQ.holeB
  rw [hA]
  show f + falses most ((got.take q.sent.toNat).drop f) 0 = _
  rw [hse, Int.toNat_natCast]
  rw [falses_eq most _ 0 (t - (f : Int)).toNat (by rw [List.length_drop, hL]; omega) (fun j hj => ?_) (fun hlt => ?_)]
  ·simp
  ·rw [List.getElem?_drop, hget _ (by omega)]
   obtain ⟨b, hb2⟩ := hb (f + j) (by omega)
   cases b
   ·exact hb2
   ·exact absurd ((h.cov (f + j) (by omega)).1 hb2) (g4 _ (by omega) (by omega))
  ·rw [List.length_drop, hL] at hlt
   rw [List.getElem?_drop, hget _ (by omega)]
   refine (h.cov _ (by omega)).2 ?_
   have := g5 (by omega)
   rw [show ((f + (t - (f : Int)).toNat : Nat) : Int) = t by omega]; exact this
 rw [hA, hB]
 by_cases hc : min t ((f : Int) + max 0 (min most q.sent)) ≤ (f : Int)
 ·rw [if_pos hc, if_pos (by omega)]; rfl
 ·rw [if_neg hc, if_neg (by omega)]
  show (_, cutS q.s _ _) = (_, cutS q.s _ _)
  have e1 : f + min (t - (f : Int)).toNat most.toNat = (min t ((f : Int) + max 0 (min most q.sent))).toNat := by omega
  rw [e1, Int.toNat_natCast]
  rfl
theorem QG.aplen {q : QS} {got : List Bool} (h : QG q got) : (∀ y ∈ q.ap, InB y) ∧ q.ap.length ≤ 1000000 := QAp.len h.ap (by have := h.le; omega)
theorem among_lt {a n : Int} (hn : 0 < n) (hn2 : n < 4611686018427387904) : ∃ c : Int, sternpostbook_Among.f a n = some c ∧ 0 ≤ c ∧ c < n := by
 unfold sternpostbook_Among.f
 rw [if_neg (by omega)]
 have h1 := Int.tmod_lt_of_pos a hn
 have h2 : -n < Int.tmod a n := Int.lt_tmod_of_pos a hn
 rw [w64p (by omega) (by omega), Int.tmod_eq_emod_of_nonneg (show 0 ≤ Int.tmod a n + n by omega)]
 have h3 := Int.emod_nonneg (Int.tmod a n + n) (show n ≠ 0 by omega)
 have h4 := Int.emod_lt_of_pos (Int.tmod a n + n) hn
 exact ⟨_, rfl, h3, h4⟩
theorem near_some (a n : Int) : ∃ v, sternpostlaw15_near.f a n = some v := by
 unfold sternpostlaw15_near.f
 obtain ⟨c, hc, _⟩ := among_lt (a := wrap64 (a + Int.tmod n 100000)) (n := 4294967296) (by decide) (by decide)
 rw [hc]; exact ⟨c, rfl⟩
theorem SrcAt.kept {w w' : World} {size m : Nat} {y : Value} {news : List Value} (h : SrcAt w size y m news) (hb : Below w.heap.size w w') : SrcAt w' size y m news := ⟨h.1, h.2.imp id fun ⟨a, c, e, hc⟩ => ⟨a, c, e, fun j u hu => pw_cell_below hb (hc j u hu)⟩⟩
theorem own_put {w : World} {base : Nat} {e : TypeId} {size g o n c j : Nat} {xs : List Value} {u : Value} (h : ownsAt w base e size (.slice (some ⟨g, o, none⟩) n c) n xs) : ownsAt (w.setCell ⟨g, o + j, none⟩ u) base e size (.slice (some ⟨g, o, none⟩) n c) n (xs.set j u) := by
 rcases h with ⟨hl, ⟨hv, h0⟩ | ⟨g', o', cap, cur, hv, hb, hg, hc, hm, hs, ht⟩⟩
 ·simp at hv
 ·injection hv with h1 h2 h3
  injection h1 with h1
  injection h1 with h1 h4 _
  subst h1 h3 h4
  refine ⟨by rw [List.length_set, hl], .inr ⟨g, o, c, cur.setIfInBounds (o + j) u, rfl, hb, blk_put hg (o + j) u rfl, hc, hm, by simpa using hs, ?_⟩⟩
  rw [Array.toList_setIfInBounds, List.drop_set, if_neg (by omega), List.take_set, ht, Nat.add_sub_cancel_left]
theorem spc_set : ∀ (l : List (Int × Int)) (k : Nat) (x : Int × Int), ((spc l).set (k * 2) (.int .i64 x.1)).set (k * 2 + 1) (.int .i64 x.2) = spc (l.set k x)
 | [], k, x => by simp [spc]
 | y :: l, 0, x => rfl
 | y :: l, k + 1, x => by
  have := spc_set l k x
  rw [show (k + 1) * 2 = (k * 2) + 1 + 1 by omega]
  show (((.int .i64 y.1 : Value) :: .int .i64 y.2 :: spc l).set (k * 2 + 1 + 1) _).set (k * 2 + 1 + 1 + 1) _ = (.int .i64 y.1 : Value) :: .int .i64 y.2 :: spc (l.set k x)
  rw [← this]; rfl
theorem QAt.keepR {w w' : World} {base base' top g g' : Nat} {q : QS} {r : RQ} (h : QAt w base g q) (hr : RefAt w base' top g' r) (hk : KeepG g' w w') : QAt w' base g q := by
 obtain ⟨v', h4, _⟩ := hr
 obtain ⟨v, h1, h2, h3⟩ := h
 have hne : ∀ (b : Nat) (cs : Array Value) (e : TypeId), w.heap[b]? = some (.cells cs e (0, 0)) → e ≠ 61 → b ≠ g' := fun b cs e hb he e1 => by rw [e1, h4] at hb; simp at hb; exact he hb.2.symm
 exact ⟨v, (hk.2 g (blk_lt h1) (hne g _ _ h1 (by decide))).trans h1, h2, ownsAt_kept h3 (fun b cur _ hb => hk.2 b (blk_lt hb) (hne b _ _ hb (by decide)))⟩
theorem box_keepG {w w' : World} {b g base : Nat} {cs : Array Value} {q : QS} (h : w.heap[b]? = some (.cells cs 55 (0, 0))) (hq : QAt w base g q) (hk : KeepG g w w') : w'.heap[b]? = some (.cells cs 55 (0, 0)) := by
 obtain ⟨v, h1, _⟩ := hq
 exact (hk.2 b (blk_lt h) (fun e => by subst e; rw [h1] at h; simp at h)).trans h
theorem box_keepR {w w' : World} {b g base top : Nat} {cs : Array Value} {r : RQ} (h : w.heap[b]? = some (.cells cs 55 (0, 0))) (hq : RefAt w base top g r) (hk : KeepG g w w') : w'.heap[b]? = some (.cells cs 55 (0, 0)) := by
 obtain ⟨v, h1, _⟩ := hq
 exact (hk.2 b (blk_lt h) (fun e => by subst e; rw [h1] at h; simp at h)).trans h
theorem own_keepQ {w w' : World} {base base' g : Nat} {l : List (Int × Int)} {v : Value} {n : Nat} {q : QS} (h : ownsAt w base 47 2 v n (spc l)) (hq : QAt w base' g q) (hk : KeepG g w w') : ownsAt w' base 47 2 v n (spc l) := own_keepG h (by decide) hq hk
set_option maxHeartbeats 4000000 in
set_option maxRecDepth 100000 in
theorem sternpostlaw15_step.callsR (gq gr top : Nat) (q : QS) (got : List Bool) (kd n m : Int) (tx : ByteArray) (Aa : Option Addr) (ca : Nat) (la : List (Int × Int)) (nr : Bool) (w0 w : World) (hQ : QAt w w0.heap.size gq q) (hR : RefAt w w0.heap.size top gr (rq q got)) (hB : Below w0.heap.size w0 w) (hG : QG q got) (hA : SrcAt w 2 (.slice Aa la.length ca) la.length (spc la)) (hll : la.length ≤ 50) (htx : tx.size ≤ 2000) (hT : top ≤ w.heap.size) (hT0 : w0.heap.size ≤ top) (hn : -9223372036854775808 ≤ n ∧ n < 9223372036854775808) :
  Calls Try.prog 21 #[.pointer (some ⟨gq, 0, none⟩), .pointer (some ⟨gr, 0, none⟩), .agg #[.int .i64 kd, .int .i64 n, .int .i64 m, .string tx, .slice Aa la.length ca, .bool nr]] w fun e w' => e = .returned (.bool true) ∧ ∃ q' got', QAt w' w0.heap.size gq q' ∧ RefAt w' w0.heap.size top gr (rq q' got') ∧ QG q' got' ∧ Below w0.heap.size w0 w' ∧ KeepX top [gq, gr] w w' := by
 have HQ := Aside0.mk hQ
 have HR := Aside0.mk hR
 have HB := Aside0.mk hB
 have HG := Aside0.mk hG
 have HA := Aside0.mk hA
 have HL := Aside0.mk (And.intro hll htx)
 have HT := Aside0.mk (And.intro hT hT0)
 have HN := Aside0.mk hn
 obtain ⟨c, hc, hc0, hc6⟩ := among_lt (a := kd) (n := 6) (by decide) (by decide)
 have HC := Aside0.mk hc
 have HC6 := Aside0.mk (And.intro hc0 hc6)
 clear hQ hR hB hG hA hll htx hT hT0 hn hc hc0 hc6
 go_enter Try.func21, Try.ntmps21
 go_upto_region 1 with fail
 have hx := blk_new w (.cells #[.int .i64 kd, .int .i64 n, .int .i64 m, .string tx, .slice Aa la.length ca, .bool nr] 55)
 have hb := below_alloc (Below.refl w.heap.size w) (.cells #[.int .i64 kd, .int .i64 n, .int .i64 m, .string tx, .slice Aa la.length ca, .bool nr] 55)
 have HA1 := Aside0.mk (SrcAt.kept HA.out hb)
 have HBW := Aside0.mk hb
 obtain ⟨gb, hgb⟩ : ∃ g_, w.heap.size = g_ := ⟨_, rfl⟩
 have HGB := Aside0.mk hgb
 rw [hgb] at hx ⊢
 clear hgb hb HA
 generalize w.alloc (.cells #[.int .i64 kd, .int .i64 n, .int .i64 m, .string tx, .slice Aa la.length ca, .bool nr] 55) = W1 at hx HA1 HBW ⊢
 have HX := Aside0.mk hx
 clear hx
 have hx1 := blk_cell HX.out 1
 change _ = some (Value.int .i64 n) at hx1
 go_upto_region 2 with fail
 have hb := below_alloc (Below.refl W1.heap.size W1) (Obj.cells #[] 47)
 have HNW := Aside0.mk (blk_new W1 (.cells #[] 47))
 have HX2 := Aside0.mk (blk_below HX.out hb)
 have HA2 := Aside0.mk (SrcAt.kept HA1.out hb)
 have HBW2 := Aside0.mk (below_step HBW.out hb)
 have HSZ := Aside0.mk HBW.out.size
 have hx4 := blk_cell HX2.out 4
 change _ = some (Value.slice Aa la.length ca) at hx4
 clear hb hx1 HX HA1 HBW
 go_wp2_with (first | ((with_reducible refine gate_dst (N := 35) rfl ?_); refine stop_ ?_))
 unfold Stop_
 refine wl_append0 43 47 (.agg #[.int .i64 0, .int .i64 0]) 2 16 rfl rfl Try.underlying43 (by kernel_rfl) rfl (b := W1.heap.size) (base := w.heap.size) rfl rfl HSZ.out HNW.out HA2.out (by have := HL.out; simp only [maxLen]; omega) (by have := HL.out; omega) HBW2.out.size (fun v8 W8 hv8 hb8 => ?_)
 obtain ⟨A8, c8, e8, _⟩ := ownsAt_len hv8
 subst e8
 have HX := Aside0.mk (blk_below HX2.out hb8)
 have HBW := Aside0.mk (below_step HBW2.out hb8)
 have HV := Aside0.mk hv8
 clear hv8 hb8 hx4 HX2 HA2 HBW2 HSZ HNW
 have hx5 := blk_cell HX.out 5
 change _ = some (Value.bool nr) at hx5
 go_upto_if 37 with fail
 clear hx5
 go_cut [7, 8] (fun v7 v8 W => ∃ (n' : Int) (l' : List (Int × Int)), v7 = .int .i64 n' ∧ v8 = .slice A8 l'.length c8 ∧ Aside0 (ownsAt W 0 47 2 (.slice A8 l'.length c8) l'.length (spc l')) ∧ Aside0 (W.heap[gb]? = some (.cells #[.int .i64 kd, .int .i64 n, .int .i64 m, .string tx, .slice Aa la.length ca, .bool nr] 55 (0, 0))) ∧ Aside0 (Below w.heap.size w W))
 case first =>
  cases nr
  ·go_wp2
   go_meet
   case rel => exact ⟨n, la, rfl, rfl, ⟨ownsAt_base HV.out (Nat.zero_le _)⟩, HX, HBW⟩
  ·obtain ⟨nv, hnv⟩ := near_some q.left n
   have HNV := Aside0.mk hnv
   clear hnv
   have hx1 := blk_cell HX.out 1
   change _ = some (Value.int .i64 n) at hx1
   have HI := Aside0.mk (HR.out.kept HBW.out)
   obtain ⟨Az, cz, ⟨hbg, hge⟩, ⟨hle, hcm⟩, ⟨hc0, hc1, hc2, hc3, hc4⟩, ⟨hf0, hf1, hf2, hf3, hf4⟩, HQ_⟩ := HI.out.cell
   change W8.cell? ⟨gr, 0, none⟩ = some (.int .i64 q.left) at hc0
   clear hbg hge hle hcm hc1 hc2 hc3 hc4 hf0 hf1 hf2 hf3 hf4 HQ_
   go_upto_region 4 with fail
   have same : ∀ (ph : Nat) W', Drawn0 W8 W' → True := fun _ _ _ => trivial
   refine AnyEvents.region_then 7 (E := []) (C := fun (_ : Nat) W' => Drawn0 W8 W') (G := fun _ _ _ _ => True) (T := []) (R := fun _ _ _ _ => True) (vs := [?v35_0, ?v35_1, ?v35_2, ?v35_3, ?v35_4, ?v35_5, (.int .i64 nv)]) (by kernel_rfl) (by kernel_rfl) rfl (by kernel_rfl) ?hc35r same (fun _ _ _ _ _ _ _ _ _ => trivial) (fun _ h => nomatch h) (fun x => ?obs35r) ?fin35r
   case hc35r => exact ⟨1, rfl⟩
   case obs35r =>
    refine AnyEvents.obs_cons ?v35_0 (val_hole (by simp only [List.getD_cons_zero, List.getD_cons_succ])) (AnyEvents.ob_plain (v := ?v35_0) rfl rfl rfl same (by simp only [List.getD_cons_zero, List.getD_cons_succ]) (fun ph W' hwn hW => ?_)) ?_
    ·obtain ⟨nd, rfl⟩ := hW; have z0 := drew_cell nd hc0; have z1 := drew_cell nd hx1; first | (go_simp; done) | (go_simp; (try simp only [i64_w]); rfl) | (go_simp; simp; rfl)
    try simp only [Act.put, List.setIfInBounds_toArray, List.set_cons_zero, List.set_cons_succ]
    refine AnyEvents.obs_cons ?v35_1 (val_hole (by simp only [List.getD_cons_zero, List.getD_cons_succ])) (AnyEvents.ob_plain (v := ?v35_1) rfl rfl rfl same (by simp only [List.getD_cons_zero, List.getD_cons_succ]) (fun ph W' hwn hW => ?_)) ?_
    ·obtain ⟨nd, rfl⟩ := hW; have z0 := drew_cell nd hc0; have z1 := drew_cell nd hx1; first | (go_simp; done) | (go_simp; (try simp only [i64_w]); rfl) | (go_simp; simp; rfl)
    try simp only [Act.put, List.setIfInBounds_toArray, List.set_cons_zero, List.set_cons_succ]
    refine AnyEvents.obs_cons ?v35_2 (val_hole (by simp only [List.getD_cons_zero, List.getD_cons_succ])) (AnyEvents.ob_plain (v := ?v35_2) rfl rfl rfl same (by simp only [List.getD_cons_zero, List.getD_cons_succ]) (fun ph W' hwn hW => ?_)) ?_
    ·obtain ⟨nd, rfl⟩ := hW; have z0 := drew_cell nd hc0; have z1 := drew_cell nd hx1; first | (go_simp; done) | (go_simp; (try simp only [i64_w]); rfl) | (go_simp; simp; rfl)
    try simp only [Act.put, List.setIfInBounds_toArray, List.set_cons_zero, List.set_cons_succ]
    refine AnyEvents.obs_cons ?v35_3 (val_hole (by simp only [List.getD_cons_zero, List.getD_cons_succ])) (AnyEvents.ob_plain (v := ?v35_3) rfl rfl rfl same (by simp only [List.getD_cons_zero, List.getD_cons_succ]) (fun ph W' hwn hW => ?_)) ?_
    ·obtain ⟨nd, rfl⟩ := hW; have z0 := drew_cell nd hc0; have z1 := drew_cell nd hx1; first | (go_simp; done) | (go_simp; (try simp only [i64_w]); rfl) | (go_simp; simp; rfl)
    try simp only [Act.put, List.setIfInBounds_toArray, List.set_cons_zero, List.set_cons_succ]
    refine AnyEvents.obs_cons ?v35_4 (val_hole (by simp only [List.getD_cons_zero, List.getD_cons_succ])) (AnyEvents.ob_plain (v := ?v35_4) rfl rfl rfl same (by simp only [List.getD_cons_zero, List.getD_cons_succ]) (fun ph W' hwn hW => ?_)) ?_
    ·obtain ⟨nd, rfl⟩ := hW; have z0 := drew_cell nd hc0; have z1 := drew_cell nd hx1; first | (go_simp; done) | (go_simp; (try simp only [i64_w]); rfl) | (go_simp; simp; rfl)
    try simp only [Act.put, List.setIfInBounds_toArray, List.set_cons_zero, List.set_cons_succ]
    refine AnyEvents.obs_cons ?v35_5 (val_hole (by simp only [List.getD_cons_zero, List.getD_cons_succ])) (AnyEvents.ob_plain (v := ?v35_5) rfl rfl rfl same (by simp only [List.getD_cons_zero, List.getD_cons_succ]) (fun ph W' hwn hW => ?_)) ?_
    ·obtain ⟨nd, rfl⟩ := hW; have z0 := drew_cell nd hc0; have z1 := drew_cell nd hx1; first | (go_simp; done) | (go_simp; (try simp only [i64_w]); rfl) | (go_simp; simp; rfl)
    try simp only [Act.put, List.setIfInBounds_toArray, List.set_cons_zero, List.set_cons_succ]
    refine AnyEvents.obs_cons (.int .i64 nv) (val_hole (by simp only [List.getD_cons_zero, List.getD_cons_succ])) (AnyEvents.ob_call (v := (.int .i64 nv)) rfl rfl rfl (by simp only [List.getD_cons_zero, List.getD_cons_succ]) 33 #[.int .i64 q.left, .int .i64 n] (fun ph W' hwn hW => ?_) (fun ph W' hwn hW => ?_)) ?_
    ·first | (go_simp; done) | (go_simp; rfl)
    ·obtain ⟨nd, rfl⟩ := hW; refine (sternpostlaw15_near.calls q.left n nv _ HNV.out).mono ?_; rintro e W2_ ⟨rfl, nd2, rfl⟩; exact ⟨rfl, ⟨nd + nd2, drewN_drewN _ _ _⟩, trivial⟩
    try simp only [Act.put, List.setIfInBounds_toArray, List.set_cons_zero, List.set_cons_succ]
    trivial
   case fin35r =>
    intro x W' hD _
    simp only [List.take_succ_cons, List.take_zero, List.drop_succ_cons, List.drop_zero]
    rw [AnyOrder.lexAt_cons ?v35_0 (val_hole (by simp only [List.getD_cons_zero, List.getD_cons_succ]))]
    try simp only [Act.put, List.setIfInBounds_toArray, List.set_cons_zero, List.set_cons_succ]
    rw [AnyOrder.lexAt_cons ?v35_1 (val_hole (by simp only [List.getD_cons_zero, List.getD_cons_succ]))]
    try simp only [Act.put, List.setIfInBounds_toArray, List.set_cons_zero, List.set_cons_succ]
    rw [AnyOrder.lexAt_cons ?v35_2 (val_hole (by simp only [List.getD_cons_zero, List.getD_cons_succ]))]
    try simp only [Act.put, List.setIfInBounds_toArray, List.set_cons_zero, List.set_cons_succ]
    rw [AnyOrder.lexAt_cons ?v35_3 (val_hole (by simp only [List.getD_cons_zero, List.getD_cons_succ]))]
    try simp only [Act.put, List.setIfInBounds_toArray, List.set_cons_zero, List.set_cons_succ]
    rw [AnyOrder.lexAt_cons ?v35_4 (val_hole (by simp only [List.getD_cons_zero, List.getD_cons_succ]))]
    try simp only [Act.put, List.setIfInBounds_toArray, List.set_cons_zero, List.set_cons_succ]
    rw [AnyOrder.lexAt_cons ?v35_5 (val_hole (by simp only [List.getD_cons_zero, List.getD_cons_succ]))]
    try simp only [Act.put, List.setIfInBounds_toArray, List.set_cons_zero, List.set_cons_succ]
    rw [AnyOrder.lexAt_cons (.int .i64 nv) (val_hole (by simp only [List.getD_cons_zero, List.getD_cons_succ]))]
    try simp only [Act.put, List.setIfInBounds_toArray, List.set_cons_zero, List.set_cons_succ]
    rw [AnyOrder.lexAt_nil]
    clear same
    obtain ⟨nd, rfl⟩ := hD
    clear hx1 hc0 HI
    have n0_ := Aside0.mk (ownsAt_kept (w' := W8.drewN nd) HV.out (fun _ _ _ _ => rfl)); have n1_ := Aside0.mk (show (W8.drewN nd).heap[_]? = _ from HX.out); have n2_ := Aside0.mk (pw_below_drewN HBW.out nd)
    clear HV HX HBW
    have HV := n0_; have HX := n1_; have HBW := n2_
    clear n0_ n1_ n2_
    generalize W8.drewN nd = W9 at HV HX HBW ⊢
    go_wp2_with fail
    go_loopg [9] la.length (fun kq v9 W => ∃ (i : Nat) (iz : Int) (l' : List (Int × Int)), v9 = .int .i64 iz ∧ Aside0 (iz = (i : Int) ∧ kq + i = la.length ∧ l'.length = la.length) ∧ Aside0 (ownsAt W w.heap.size 47 2 (.slice A8 la.length c8) la.length (spc l')) ∧ Aside0 (W.heap[gb]? = some (.cells #[.int .i64 kd, .int .i64 n, .int .i64 m, .string tx, .slice Aa la.length ca, .bool true] 55 (0, 0))) ∧ Aside0 (Below w.heap.size w W))
    case atStart => exact ⟨0, 0, la, rfl, ⟨rfl, by simp, rfl⟩, HV, HX, HBW⟩
    case round =>
     clear HV HX HBW
     obtain ⟨i, iz, l', rfl, HK, HV, HX, HBW⟩ := hrel
     have hk := HK.out
     by_cases hlt : iz < (la.length : Int)
     ·have d1 : decide (iz < (la.length : Int)) = true := decide_eq_true hlt
      obtain ⟨k1, rfl⟩ : ∃ k1, gk = k1 + 1 := ⟨gk - 1, by omega⟩
      obtain ⟨⟨fa, fb⟩, hx⟩ : ∃ x, l'[i]? = some x := ⟨_, List.getElem?_eq_getElem (by omega)⟩
      obtain ⟨gq_, oq, rfl, hcells⟩ := ownsAt_cells HV.out (by omega)
      obtain ⟨hq0, hq1⟩ : wr.cell? ⟨gq_, oq + i * 2, none⟩ = some (.int .i64 fa) ∧ wr.cell? ⟨gq_, oq + i * 2 + 1, none⟩ = some (.int .i64 fb) := ⟨hcells _ _ (spc_get l' i _ hx).1, hcells _ _ (spc_get l' i _ hx).2⟩
      have hn : wrap64 (iz + 1) = ((i + 1 : Nat) : Int) := by have := HL.out; rw [w64p (by omega) (by omega)]; omega
      have HN1 := Aside0.mk hn
      obtain ⟨va, hva⟩ := near_some q.left fa
      obtain ⟨vb, hvb⟩ := near_some q.left fb
      have HVA := Aside0.mk hva
      have HVB := Aside0.mk hvb
      have HI := Aside0.mk (HR.out.kept HBW.out)
      obtain ⟨Az, cz, ⟨hbg, hge⟩, ⟨hle, hcm⟩, ⟨hc0, hc1, hc2, hc3, hc4⟩, ⟨hf0, hf1, hf2, hf3, hf4⟩, HQ_⟩ := HI.out.cell
      change wr.cell? ⟨gr, 0, none⟩ = some (.int .i64 q.left) at hc0
      have p0 : 0 ≤ iz := by omega
      have tn : iz.toNat = i := by omega
      replace p0 := eq_true p0
      replace hlt := eq_true hlt
      clear hbg hge hle hcm hc1 hc2 hc3 hc4 hf0 hf1 hf2 hf3 hf4 HQ_ hcells hx hn hva hvb hk d1
      obtain ⟨cur, hblk, hgeq⟩ := ownsAt_blk HV.out
      have hfz0 := blk_frozen hblk (oq + i * 2)
      have hfz1 := blk_frozen hblk (oq + i * 2 + 1)
      have HBK := Aside0.mk hblk
      have HGE := Aside0.mk hgeq
      clear hblk hgeq
      go_upto_region 8 with fail
      have same : ∀ (ph : Nat) W', Drawn0 wr W' → True := fun _ _ _ => trivial
      refine AnyEvents.region_then 24 (E := []) (C := fun (_ : Nat) W' => Drawn0 wr W') (G := fun _ _ _ _ => True) (T := []) (R := fun _ _ _ _ => True) (vs := [?v36_0, ?v36_1, ?v36_2, ?v36_3, ?v36_4, ?v36_5, ?v36_6, ?v36_7, ?v36_8, ?v36_9, ?v36_10, (.int .i64 va), ?v36_12, ?v36_13, ?v36_14, ?v36_15, ?v36_16, ?v36_17, ?v36_18, ?v36_19, ?v36_20, (.int .i64 vb), ?v36_22, ?v36_23]) (by kernel_rfl) (by kernel_rfl) rfl (by kernel_rfl) ?hc36r same (fun _ _ _ _ _ _ _ _ _ => trivial) (fun _ h => nomatch h) (fun x => ?obs36r) ?fin36r
      case hc36r => exact ⟨1, rfl⟩
      case obs36r =>
       refine AnyEvents.obs_cons ?v36_0 (val_hole (by simp only [List.getD_cons_zero, List.getD_cons_succ])) (AnyEvents.ob_plain (v := ?v36_0) rfl rfl rfl same (by simp only [List.getD_cons_zero, List.getD_cons_succ]) (fun ph W' hwn hW => ?_)) ?_
       ·obtain ⟨nd, rfl⟩ := hW; have z0 := drew_cell nd hc0; have z1 := drew_cell nd hq0; have z2 := drew_cell nd hq1; first | (go_simp; done) | (go_simp; (try simp only [i64_w]); rfl) | (go_simp; simp; rfl)
       try simp only [Act.put, List.setIfInBounds_toArray, List.set_cons_zero, List.set_cons_succ]
       refine AnyEvents.obs_cons ?v36_1 (val_hole (by simp only [List.getD_cons_zero, List.getD_cons_succ])) (AnyEvents.ob_plain (v := ?v36_1) rfl rfl rfl same (by simp only [List.getD_cons_zero, List.getD_cons_succ]) (fun ph W' hwn hW => ?_)) ?_
       ·obtain ⟨nd, rfl⟩ := hW; have z0 := drew_cell nd hc0; have z1 := drew_cell nd hq0; have z2 := drew_cell nd hq1; first | (go_simp; done) | (go_simp; (try simp only [i64_w]); rfl) | (go_simp; simp; rfl)
       try simp only [Act.put, List.setIfInBounds_toArray, List.set_cons_zero, List.set_cons_succ]
       refine AnyEvents.obs_cons ?v36_2 (val_hole (by simp only [List.getD_cons_zero, List.getD_cons_succ])) (AnyEvents.ob_plain (v := ?v36_2) rfl rfl rfl same (by simp only [List.getD_cons_zero, List.getD_cons_succ]) (fun ph W' hwn hW => ?_)) ?_
       ·obtain ⟨nd, rfl⟩ := hW; have z0 := drew_cell nd hc0; have z1 := drew_cell nd hq0; have z2 := drew_cell nd hq1; first | (go_simp; done) | (go_simp; (try simp only [i64_w]); rfl) | (go_simp; simp; rfl)
       try simp only [Act.put, List.setIfInBounds_toArray, List.set_cons_zero, List.set_cons_succ]
       refine AnyEvents.obs_cons ?v36_3 (val_hole (by simp only [List.getD_cons_zero, List.getD_cons_succ])) (AnyEvents.ob_plain (v := ?v36_3) rfl rfl rfl same (by simp only [List.getD_cons_zero, List.getD_cons_succ]) (fun ph W' hwn hW => ?_)) ?_
       ·obtain ⟨nd, rfl⟩ := hW; have z0 := drew_cell nd hc0; have z1 := drew_cell nd hq0; have z2 := drew_cell nd hq1; first | (go_simp; done) | (go_simp; (try simp only [i64_w]); rfl) | (go_simp; simp; rfl)
       try simp only [Act.put, List.setIfInBounds_toArray, List.set_cons_zero, List.set_cons_succ]
       refine AnyEvents.obs_cons ?v36_4 (val_hole (by simp only [List.getD_cons_zero, List.getD_cons_succ])) (AnyEvents.ob_plain (v := ?v36_4) rfl rfl rfl same (by simp only [List.getD_cons_zero, List.getD_cons_succ]) (fun ph W' hwn hW => ?_)) ?_
       ·obtain ⟨nd, rfl⟩ := hW; have z0 := drew_cell nd hc0; have z1 := drew_cell nd hq0; have z2 := drew_cell nd hq1; first | (go_simp; done) | (go_simp; (try simp only [i64_w]); rfl) | (go_simp; simp; rfl)
       try simp only [Act.put, List.setIfInBounds_toArray, List.set_cons_zero, List.set_cons_succ]
       refine AnyEvents.obs_cons ?v36_5 (val_hole (by simp only [List.getD_cons_zero, List.getD_cons_succ])) (AnyEvents.ob_plain (v := ?v36_5) rfl rfl rfl same (by simp only [List.getD_cons_zero, List.getD_cons_succ]) (fun ph W' hwn hW => ?_)) ?_
       ·obtain ⟨nd, rfl⟩ := hW; have z0 := drew_cell nd hc0; have z1 := drew_cell nd hq0; have z2 := drew_cell nd hq1; first | (go_simp; done) | (go_simp; (try simp only [i64_w]); rfl) | (go_simp; simp; rfl)
       try simp only [Act.put, List.setIfInBounds_toArray, List.set_cons_zero, List.set_cons_succ]
       refine AnyEvents.obs_cons ?v36_6 (val_hole (by simp only [List.getD_cons_zero, List.getD_cons_succ])) (AnyEvents.ob_plain (v := ?v36_6) rfl rfl rfl same (by simp only [List.getD_cons_zero, List.getD_cons_succ]) (fun ph W' hwn hW => ?_)) ?_
       ·obtain ⟨nd, rfl⟩ := hW; have z0 := drew_cell nd hc0; have z1 := drew_cell nd hq0; have z2 := drew_cell nd hq1; first | (go_simp; done) | (go_simp; (try simp only [i64_w]); rfl) | (go_simp; simp; rfl)
       try simp only [Act.put, List.setIfInBounds_toArray, List.set_cons_zero, List.set_cons_succ]
       refine AnyEvents.obs_cons ?v36_7 (val_hole (by simp only [List.getD_cons_zero, List.getD_cons_succ])) (AnyEvents.ob_plain (v := ?v36_7) rfl rfl rfl same (by simp only [List.getD_cons_zero, List.getD_cons_succ]) (fun ph W' hwn hW => ?_)) ?_
       ·obtain ⟨nd, rfl⟩ := hW; have z0 := drew_cell nd hc0; have z1 := drew_cell nd hq0; have z2 := drew_cell nd hq1; first | (go_simp; done) | (go_simp; (try simp only [i64_w]); rfl) | (go_simp; simp; rfl)
       try simp only [Act.put, List.setIfInBounds_toArray, List.set_cons_zero, List.set_cons_succ]
       refine AnyEvents.obs_cons ?v36_8 (val_hole (by simp only [List.getD_cons_zero, List.getD_cons_succ])) (AnyEvents.ob_plain (v := ?v36_8) rfl rfl rfl same (by simp only [List.getD_cons_zero, List.getD_cons_succ]) (fun ph W' hwn hW => ?_)) ?_
       ·obtain ⟨nd, rfl⟩ := hW; have z0 := drew_cell nd hc0; have z1 := drew_cell nd hq0; have z2 := drew_cell nd hq1; first | (go_simp; done) | (go_simp; (try simp only [i64_w]); rfl) | (go_simp; simp; rfl)
       try simp only [Act.put, List.setIfInBounds_toArray, List.set_cons_zero, List.set_cons_succ]
       refine AnyEvents.obs_cons ?v36_9 (val_hole (by simp only [List.getD_cons_zero, List.getD_cons_succ])) (AnyEvents.ob_plain (v := ?v36_9) rfl rfl rfl same (by simp only [List.getD_cons_zero, List.getD_cons_succ]) (fun ph W' hwn hW => ?_)) ?_
       ·obtain ⟨nd, rfl⟩ := hW; have z0 := drew_cell nd hc0; have z1 := drew_cell nd hq0; have z2 := drew_cell nd hq1; first | (go_simp; done) | (go_simp; (try simp only [i64_w]); rfl) | (go_simp; simp; rfl)
       try simp only [Act.put, List.setIfInBounds_toArray, List.set_cons_zero, List.set_cons_succ]
       refine AnyEvents.obs_cons ?v36_10 (val_hole (by simp only [List.getD_cons_zero, List.getD_cons_succ])) (AnyEvents.ob_plain (v := ?v36_10) rfl rfl rfl same (by simp only [List.getD_cons_zero, List.getD_cons_succ]) (fun ph W' hwn hW => ?_)) ?_
       ·obtain ⟨nd, rfl⟩ := hW; have z0 := drew_cell nd hc0; have z1 := drew_cell nd hq0; have z2 := drew_cell nd hq1; first | (go_simp; done) | (go_simp; (try simp only [i64_w]); rfl) | (go_simp; simp; rfl)
       try simp only [Act.put, List.setIfInBounds_toArray, List.set_cons_zero, List.set_cons_succ]
       refine AnyEvents.obs_cons (.int .i64 va) (val_hole (by simp only [List.getD_cons_zero, List.getD_cons_succ])) (AnyEvents.ob_call (v := (.int .i64 va)) rfl rfl rfl (by simp only [List.getD_cons_zero, List.getD_cons_succ]) 33 #[.int .i64 q.left, .int .i64 fa] (fun ph W' hwn hW => ?_) (fun ph W' hwn hW => ?_)) ?_
       ·first | (go_simp; done) | (go_simp; rfl)
       ·obtain ⟨nd, rfl⟩ := hW; refine (sternpostlaw15_near.calls q.left fa va _ HVA.out).mono ?_; rintro e W2_ ⟨rfl, nd2, rfl⟩; exact ⟨rfl, ⟨nd + nd2, drewN_drewN _ _ _⟩, trivial⟩
       try simp only [Act.put, List.setIfInBounds_toArray, List.set_cons_zero, List.set_cons_succ]
       refine AnyEvents.obs_cons ?v36_12 (val_hole (by simp only [List.getD_cons_zero, List.getD_cons_succ])) (AnyEvents.ob_plain (v := ?v36_12) rfl rfl rfl same (by simp only [List.getD_cons_zero, List.getD_cons_succ]) (fun ph W' hwn hW => ?_)) ?_
       ·obtain ⟨nd, rfl⟩ := hW; have z0 := drew_cell nd hc0; have z1 := drew_cell nd hq0; have z2 := drew_cell nd hq1; first | (go_simp; done) | (go_simp; (try simp only [i64_w]); rfl) | (go_simp; simp; rfl)
       try simp only [Act.put, List.setIfInBounds_toArray, List.set_cons_zero, List.set_cons_succ]
       refine AnyEvents.obs_cons ?v36_13 (val_hole (by simp only [List.getD_cons_zero, List.getD_cons_succ])) (AnyEvents.ob_plain (v := ?v36_13) rfl rfl rfl same (by simp only [List.getD_cons_zero, List.getD_cons_succ]) (fun ph W' hwn hW => ?_)) ?_
       ·obtain ⟨nd, rfl⟩ := hW; have z0 := drew_cell nd hc0; have z1 := drew_cell nd hq0; have z2 := drew_cell nd hq1; first | (go_simp; done) | (go_simp; (try simp only [i64_w]); rfl) | (go_simp; simp; rfl)
       try simp only [Act.put, List.setIfInBounds_toArray, List.set_cons_zero, List.set_cons_succ]
       refine AnyEvents.obs_cons ?v36_14 (val_hole (by simp only [List.getD_cons_zero, List.getD_cons_succ])) (AnyEvents.ob_plain (v := ?v36_14) rfl rfl rfl same (by simp only [List.getD_cons_zero, List.getD_cons_succ]) (fun ph W' hwn hW => ?_)) ?_
       ·obtain ⟨nd, rfl⟩ := hW; have z0 := drew_cell nd hc0; have z1 := drew_cell nd hq0; have z2 := drew_cell nd hq1; first | (go_simp; done) | (go_simp; (try simp only [i64_w]); rfl) | (go_simp; simp; rfl)
       try simp only [Act.put, List.setIfInBounds_toArray, List.set_cons_zero, List.set_cons_succ]
       refine AnyEvents.obs_cons ?v36_15 (val_hole (by simp only [List.getD_cons_zero, List.getD_cons_succ])) (AnyEvents.ob_plain (v := ?v36_15) rfl rfl rfl same (by simp only [List.getD_cons_zero, List.getD_cons_succ]) (fun ph W' hwn hW => ?_)) ?_
       ·obtain ⟨nd, rfl⟩ := hW; have z0 := drew_cell nd hc0; have z1 := drew_cell nd hq0; have z2 := drew_cell nd hq1; first | (go_simp; done) | (go_simp; (try simp only [i64_w]); rfl) | (go_simp; simp; rfl)
       try simp only [Act.put, List.setIfInBounds_toArray, List.set_cons_zero, List.set_cons_succ]
       refine AnyEvents.obs_cons ?v36_16 (val_hole (by simp only [List.getD_cons_zero, List.getD_cons_succ])) (AnyEvents.ob_plain (v := ?v36_16) rfl rfl rfl same (by simp only [List.getD_cons_zero, List.getD_cons_succ]) (fun ph W' hwn hW => ?_)) ?_
       ·obtain ⟨nd, rfl⟩ := hW; have z0 := drew_cell nd hc0; have z1 := drew_cell nd hq0; have z2 := drew_cell nd hq1; first | (go_simp; done) | (go_simp; (try simp only [i64_w]); rfl) | (go_simp; simp; rfl)
       try simp only [Act.put, List.setIfInBounds_toArray, List.set_cons_zero, List.set_cons_succ]
       refine AnyEvents.obs_cons ?v36_17 (val_hole (by simp only [List.getD_cons_zero, List.getD_cons_succ])) (AnyEvents.ob_plain (v := ?v36_17) rfl rfl rfl same (by simp only [List.getD_cons_zero, List.getD_cons_succ]) (fun ph W' hwn hW => ?_)) ?_
       ·obtain ⟨nd, rfl⟩ := hW; have z0 := drew_cell nd hc0; have z1 := drew_cell nd hq0; have z2 := drew_cell nd hq1; first | (go_simp; done) | (go_simp; (try simp only [i64_w]); rfl) | (go_simp; simp; rfl)
       try simp only [Act.put, List.setIfInBounds_toArray, List.set_cons_zero, List.set_cons_succ]
       refine AnyEvents.obs_cons ?v36_18 (val_hole (by simp only [List.getD_cons_zero, List.getD_cons_succ])) (AnyEvents.ob_plain (v := ?v36_18) rfl rfl rfl same (by simp only [List.getD_cons_zero, List.getD_cons_succ]) (fun ph W' hwn hW => ?_)) ?_
       ·obtain ⟨nd, rfl⟩ := hW; have z0 := drew_cell nd hc0; have z1 := drew_cell nd hq0; have z2 := drew_cell nd hq1; first | (go_simp; done) | (go_simp; (try simp only [i64_w]); rfl) | (go_simp; simp; rfl)
       try simp only [Act.put, List.setIfInBounds_toArray, List.set_cons_zero, List.set_cons_succ]
       refine AnyEvents.obs_cons ?v36_19 (val_hole (by simp only [List.getD_cons_zero, List.getD_cons_succ])) (AnyEvents.ob_plain (v := ?v36_19) rfl rfl rfl same (by simp only [List.getD_cons_zero, List.getD_cons_succ]) (fun ph W' hwn hW => ?_)) ?_
       ·obtain ⟨nd, rfl⟩ := hW; have z0 := drew_cell nd hc0; have z1 := drew_cell nd hq0; have z2 := drew_cell nd hq1; first | (go_simp; done) | (go_simp; (try simp only [i64_w]); rfl) | (go_simp; simp; rfl)
       try simp only [Act.put, List.setIfInBounds_toArray, List.set_cons_zero, List.set_cons_succ]
       refine AnyEvents.obs_cons ?v36_20 (val_hole (by simp only [List.getD_cons_zero, List.getD_cons_succ])) (AnyEvents.ob_plain (v := ?v36_20) rfl rfl rfl same (by simp only [List.getD_cons_zero, List.getD_cons_succ]) (fun ph W' hwn hW => ?_)) ?_
       ·obtain ⟨nd, rfl⟩ := hW; have z0 := drew_cell nd hc0; have z1 := drew_cell nd hq0; have z2 := drew_cell nd hq1; first | (go_simp; done) | (go_simp; (try simp only [i64_w]); rfl) | (go_simp; simp; rfl)
       try simp only [Act.put, List.setIfInBounds_toArray, List.set_cons_zero, List.set_cons_succ]
       refine AnyEvents.obs_cons (.int .i64 vb) (val_hole (by simp only [List.getD_cons_zero, List.getD_cons_succ])) (AnyEvents.ob_call (v := (.int .i64 vb)) rfl rfl rfl (by simp only [List.getD_cons_zero, List.getD_cons_succ]) 33 #[.int .i64 q.left, .int .i64 fb] (fun ph W' hwn hW => ?_) (fun ph W' hwn hW => ?_)) ?_
       ·first | (go_simp; done) | (go_simp; rfl)
       ·obtain ⟨nd, rfl⟩ := hW; refine (sternpostlaw15_near.calls q.left fb vb _ HVB.out).mono ?_; rintro e W2_ ⟨rfl, nd2, rfl⟩; exact ⟨rfl, ⟨nd + nd2, drewN_drewN _ _ _⟩, trivial⟩
       try simp only [Act.put, List.setIfInBounds_toArray, List.set_cons_zero, List.set_cons_succ]
       refine AnyEvents.obs_cons ?v36_22 (val_hole (by simp only [List.getD_cons_zero, List.getD_cons_succ])) (AnyEvents.ob_plain (v := ?v36_22) rfl rfl rfl same (by simp only [List.getD_cons_zero, List.getD_cons_succ]) (fun ph W' hwn hW => ?_)) ?_
       ·obtain ⟨nd, rfl⟩ := hW; have z0 := drew_cell nd hc0; have z1 := drew_cell nd hq0; have z2 := drew_cell nd hq1; first | (go_simp; done) | (go_simp; (try simp only [i64_w]); rfl) | (go_simp; simp; rfl)
       try simp only [Act.put, List.setIfInBounds_toArray, List.set_cons_zero, List.set_cons_succ]
       refine AnyEvents.obs_cons ?v36_23 (val_hole (by simp only [List.getD_cons_zero, List.getD_cons_succ])) (AnyEvents.ob_plain (v := ?v36_23) rfl rfl rfl same (by simp only [List.getD_cons_zero, List.getD_cons_succ]) (fun ph W' hwn hW => ?_)) ?_
       ·obtain ⟨nd, rfl⟩ := hW; have z0 := drew_cell nd hc0; have z1 := drew_cell nd hq0; have z2 := drew_cell nd hq1; first | (go_simp; done) | (go_simp; (try simp only [i64_w]); rfl) | (go_simp; simp; rfl)
       try simp only [Act.put, List.setIfInBounds_toArray, List.set_cons_zero, List.set_cons_succ]
       trivial
      case fin36r =>
       intro x W' hD _
       simp only [List.take_succ_cons, List.take_zero, List.drop_succ_cons, List.drop_zero]
       rw [AnyOrder.lexAt_cons ?v36_0 (val_hole (by simp only [List.getD_cons_zero, List.getD_cons_succ]))]
       try simp only [Act.put, List.setIfInBounds_toArray, List.set_cons_zero, List.set_cons_succ]
       rw [AnyOrder.lexAt_cons ?v36_1 (val_hole (by simp only [List.getD_cons_zero, List.getD_cons_succ]))]
       try simp only [Act.put, List.setIfInBounds_toArray, List.set_cons_zero, List.set_cons_succ]
       rw [AnyOrder.lexAt_cons ?v36_2 (val_hole (by simp only [List.getD_cons_zero, List.getD_cons_succ]))]
       try simp only [Act.put, List.setIfInBounds_toArray, List.set_cons_zero, List.set_cons_succ]
       rw [AnyOrder.lexAt_cons ?v36_3 (val_hole (by simp only [List.getD_cons_zero, List.getD_cons_succ]))]
       try simp only [Act.put, List.setIfInBounds_toArray, List.set_cons_zero, List.set_cons_succ]
       rw [AnyOrder.lexAt_cons ?v36_4 (val_hole (by simp only [List.getD_cons_zero, List.getD_cons_succ]))]
       try simp only [Act.put, List.setIfInBounds_toArray, List.set_cons_zero, List.set_cons_succ]
       rw [AnyOrder.lexAt_cons ?v36_5 (val_hole (by simp only [List.getD_cons_zero, List.getD_cons_succ]))]
       try simp only [Act.put, List.setIfInBounds_toArray, List.set_cons_zero, List.set_cons_succ]
       rw [AnyOrder.lexAt_cons ?v36_6 (val_hole (by simp only [List.getD_cons_zero, List.getD_cons_succ]))]
       try simp only [Act.put, List.setIfInBounds_toArray, List.set_cons_zero, List.set_cons_succ]
       rw [AnyOrder.lexAt_cons ?v36_7 (val_hole (by simp only [List.getD_cons_zero, List.getD_cons_succ]))]
       try simp only [Act.put, List.setIfInBounds_toArray, List.set_cons_zero, List.set_cons_succ]
       rw [AnyOrder.lexAt_cons ?v36_8 (val_hole (by simp only [List.getD_cons_zero, List.getD_cons_succ]))]
       try simp only [Act.put, List.setIfInBounds_toArray, List.set_cons_zero, List.set_cons_succ]
       rw [AnyOrder.lexAt_cons ?v36_9 (val_hole (by simp only [List.getD_cons_zero, List.getD_cons_succ]))]
       try simp only [Act.put, List.setIfInBounds_toArray, List.set_cons_zero, List.set_cons_succ]
       rw [AnyOrder.lexAt_cons ?v36_10 (val_hole (by simp only [List.getD_cons_zero, List.getD_cons_succ]))]
       try simp only [Act.put, List.setIfInBounds_toArray, List.set_cons_zero, List.set_cons_succ]
       rw [AnyOrder.lexAt_cons (.int .i64 va) (val_hole (by simp only [List.getD_cons_zero, List.getD_cons_succ]))]
       try simp only [Act.put, List.setIfInBounds_toArray, List.set_cons_zero, List.set_cons_succ]
       rw [AnyOrder.lexAt_cons ?v36_12 (val_hole (by simp only [List.getD_cons_zero, List.getD_cons_succ]))]
       try simp only [Act.put, List.setIfInBounds_toArray, List.set_cons_zero, List.set_cons_succ]
       rw [AnyOrder.lexAt_cons ?v36_13 (val_hole (by simp only [List.getD_cons_zero, List.getD_cons_succ]))]
       try simp only [Act.put, List.setIfInBounds_toArray, List.set_cons_zero, List.set_cons_succ]
       rw [AnyOrder.lexAt_cons ?v36_14 (val_hole (by simp only [List.getD_cons_zero, List.getD_cons_succ]))]
       try simp only [Act.put, List.setIfInBounds_toArray, List.set_cons_zero, List.set_cons_succ]
       rw [AnyOrder.lexAt_cons ?v36_15 (val_hole (by simp only [List.getD_cons_zero, List.getD_cons_succ]))]
       try simp only [Act.put, List.setIfInBounds_toArray, List.set_cons_zero, List.set_cons_succ]
       rw [AnyOrder.lexAt_cons ?v36_16 (val_hole (by simp only [List.getD_cons_zero, List.getD_cons_succ]))]
       try simp only [Act.put, List.setIfInBounds_toArray, List.set_cons_zero, List.set_cons_succ]
       rw [AnyOrder.lexAt_cons ?v36_17 (val_hole (by simp only [List.getD_cons_zero, List.getD_cons_succ]))]
       try simp only [Act.put, List.setIfInBounds_toArray, List.set_cons_zero, List.set_cons_succ]
       rw [AnyOrder.lexAt_cons ?v36_18 (val_hole (by simp only [List.getD_cons_zero, List.getD_cons_succ]))]
       try simp only [Act.put, List.setIfInBounds_toArray, List.set_cons_zero, List.set_cons_succ]
       rw [AnyOrder.lexAt_cons ?v36_19 (val_hole (by simp only [List.getD_cons_zero, List.getD_cons_succ]))]
       try simp only [Act.put, List.setIfInBounds_toArray, List.set_cons_zero, List.set_cons_succ]
       rw [AnyOrder.lexAt_cons ?v36_20 (val_hole (by simp only [List.getD_cons_zero, List.getD_cons_succ]))]
       try simp only [Act.put, List.setIfInBounds_toArray, List.set_cons_zero, List.set_cons_succ]
       rw [AnyOrder.lexAt_cons (.int .i64 vb) (val_hole (by simp only [List.getD_cons_zero, List.getD_cons_succ]))]
       try simp only [Act.put, List.setIfInBounds_toArray, List.set_cons_zero, List.set_cons_succ]
       rw [AnyOrder.lexAt_cons ?v36_22 (val_hole (by simp only [List.getD_cons_zero, List.getD_cons_succ]))]
       try simp only [Act.put, List.setIfInBounds_toArray, List.set_cons_zero, List.set_cons_succ]
       rw [AnyOrder.lexAt_cons ?v36_23 (val_hole (by simp only [List.getD_cons_zero, List.getD_cons_succ]))]
       try simp only [Act.put, List.setIfInBounds_toArray, List.set_cons_zero, List.set_cons_succ]
       rw [AnyOrder.lexAt_nil]
       clear same
       obtain ⟨nd, rfl⟩ := hD
       replace hq0 := drew_cell nd hq0
       replace hq1 := drew_cell nd hq1
       replace hfz0 : (wr.drewN nd).frozen? ⟨gq_, oq + i * 2, none⟩ = false := hfz0
       replace hfz1 : (wr.drewN nd).frozen? ⟨gq_, oq + i * 2 + 1, none⟩ = false := hfz1
       clear hc0 HI
       have n0_ := Aside0.mk (ownsAt_kept (w' := wr.drewN nd) HV.out (fun _ _ _ _ => rfl)); have n1_ := Aside0.mk (show (wr.drewN nd).heap[_]? = _ from HX.out); have n2_ := Aside0.mk (pw_below_drewN HBW.out nd); have n3_ := Aside0.mk (show (wr.drewN nd).heap[_]? = _ from HBK.out)
       clear HV HX HBW HBK
       have HV := n0_; have HX := n1_; have HBW := n2_; have HBK := n3_
       clear n0_ n1_ n2_ n3_
       generalize wr.drewN nd = W2 at HV HX HBW HBK hq0 hq1 hfz0 hfz1 ⊢
       have HNE := Aside0.mk (show gb ≠ gq_ from fun e => by have h := HBK.out; rw [← e, HX.out] at h; simp at h)
       go_wp2
       go_roundg k1
       case measure => omega
       case rel =>
        have hv := own_put (j := i * 2 + 1) (u := .int .i64 vb) (own_put (j := i * 2) (u := .int .i64 va) HV.out)
        rw [spc_set l' i (va, vb)] at hv
        exact ⟨i + 1, _, l'.set i (va, vb), rfl, ⟨HN1.out, by have := HK.out; omega, by rw [List.length_set]; exact HK.out.2.2⟩, ⟨hv⟩, ⟨(heap_setCell_other _ _ _ _ HNE.out).trans ((heap_setCell_other _ _ _ _ HNE.out).trans HX.out)⟩, ⟨below_set (below_set HBW.out HGE.out) HGE.out⟩⟩
     ·have d1 : decide (iz < (la.length : Int)) = false := decide_eq_false hlt
      clear hlt hk
      go_wp2
      go_meet
      case rel => exact ⟨nv, l', rfl, by rw [HK.out.2.2], ⟨by rw [HK.out.2.2]; exact ownsAt_base HV.out (Nat.zero_le _)⟩, HX, HBW⟩
 case rest =>
  clear HV HX HBW
  obtain ⟨n', l', rfl, rfl, HV, HX, HBW⟩ := hcut
  have HQ1 := Aside0.mk (HQ.out.kept HBW.out)
  have HR1 := Aside0.mk (HR.out.kept HBW.out)
  have HB1 := Aside0.mk (below_step HB.out HBW.out)
  have HK := Aside0.mk (show KeepX top [gq, gr] w wc from KeepX.of_below HBW.out)
  clear HQ HR HB HBW
  have HQ := HQ1; have HR := HR1; have HB := HB1
  clear HQ1 HR1 HB1
  have hx0 := blk_cell HX.out 0
  change _ = some (Value.int .i64 kd) at hx0
  go_wp2_with fail
  refine (sternpostbook_Among.calls kd 6 c _ HC.out).mono ?_
  rintro e W3 ⟨rfl, hd⟩
  have hb := hd.below
  clear hx0 hd
  have n1_ := Aside0.mk (HQ.out.kept hb); have n2_ := Aside0.mk (HR.out.kept hb); have n3_ := Aside0.mk (below_step HB.out hb); have n4_ := Aside0.mk (HK.out.trans (KeepX.of_below hb)); have n5_ := Aside0.mk (ownsAt_below HV.out hb); have n6_ := Aside0.mk (blk_below HX.out hb)
  clear HQ HR HB HK HV HX hb
  have HQ := n1_; have HR := n2_; have HB := n3_; have HK := n4_; have HV := n5_; have HX := n6_
  clear n1_ n2_ n3_ n4_ n5_ n6_
  have hle := HG.out.le
  have HLE := Aside0.mk hle
  clear hle
  obtain rfl | rfl | rfl | rfl | rfl | rfl : c = 0 ∨ c = 1 ∨ c = 2 ∨ c = 3 ∨ c = 4 ∨ c = 5 := by have := HC6.out; omega
  ·skip
   have hx3 := blk_cell HX.out 3
   change _ = some (Value.string tx) at hx3
   go_wp2_with fail
   refine (sendq_Queue_Write.calls gq q tx w0 _ HQ.out HB.out (show (q.s.size : Int) ≤ q.room ∧ q.room ≤ 65536 by have := HLE.out; omega) (by have := HL.out; omega)).mono ?_
   rintro e W4 ⟨rfl, hQ, hB, hK⟩
   clear hx3
   have n2_ := Aside0.mk (HR.out.keepG HQ.out hK); have n4_ := Aside0.mk (HK.out.trans (KeepX.of_keepG hK (by simp))); have n5_ := Aside0.mk (own_keepG HV.out (by decide) HQ.out hK); have n6_ := Aside0.mk (box_keepG HX.out HQ.out hK)
   clear HQ HR HB HK HV HX hK
   have HQ := Aside0.mk hQ; have HR := n2_; have HB := Aside0.mk hB; have HK := n4_; have HV := n5_; have HX := n6_
   clear hQ hB n2_ n4_ n5_ n6_
   have hx3 := blk_cell HX.out 3
   change _ = some (Value.string tx) at hx3
   obtain ⟨got', he, hg⟩ := qg_write HG.out tx
   go_wp2_with fail
   refine (sternpostref15_Queue_Write.callsR gr top (rq q got) tx w0 _ HR.out HB.out (show (q.s.size : Int) ≤ q.room ∧ q.room ≤ 65536 by have := HLE.out; omega) (by have := HL.out; omega) (Nat.le_trans HT.out.1 HK.out.1) (show got.length ≤ 1000000 by have := HG.out.len; have := HLE.out; omega)).mono ?_
   rw [he]
   dsimp only
   rintro e W5 ⟨rfl, hR, hB, hK⟩
   have n4_ := Aside0.mk (HK.out.trans (KeepX.of_keepG hK (by simp)))
   have n1_ := Aside0.mk (HQ.out.keepR HR.out hK)
   clear HQ HR HB HK hK HV HX hx3
   have HR := Aside0.mk hR; have HB := Aside0.mk hB
   clear hR hB
   go_wp2
   go_ret
   exact ⟨rfl, _, _, n1_.out, HR.out, hg, HB.out, n4_.out⟩
  ·skip
   go_wp2_with fail
   refine (sendq_Queue_Ack.calls gq q n' w0 _ HQ.out HB.out HG.out.ok (show (0 : Int) ≤ q.sent ∧ q.sent ≤ (q.s.size : Int) ∧ (q.s.size : Int) ≤ 65536 by have := HLE.out; omega) HG.out.aplen).mono ?_
   rintro e W4 ⟨rfl, hQ, hB, hK⟩
   skip
   have n2_ := Aside0.mk (HR.out.keepG HQ.out hK); have n4_ := Aside0.mk (HK.out.trans (KeepX.of_keepG hK (by simp))); have n5_ := Aside0.mk (own_keepG HV.out (by decide) HQ.out hK); have n6_ := Aside0.mk (box_keepG HX.out HQ.out hK)
   clear HQ HR HB HK HV HX hK
   have HQ := Aside0.mk hQ; have HR := n2_; have HB := Aside0.mk hB; have HK := n4_; have HV := n5_; have HX := n6_
   clear hQ hB n2_ n4_ n5_ n6_
   obtain ⟨got', he, hg⟩ := qg_ack HG.out n'
   go_wp2_with fail
   refine (sternpostref15_Queue_Ack.callsR gr top (rq q got) n' w0 _ HR.out HB.out HG.out.ok (show (0 : Int) ≤ q.sent ∧ q.sent ≤ (q.s.size : Int) ∧ (q.s.size : Int) ≤ 65536 by have := HLE.out; omega) (show got.length = q.s.size from HG.out.len) (Nat.le_trans HT.out.1 HK.out.1)).mono ?_
   rw [he]
   dsimp only
   rintro e W5 ⟨rfl, hR, hB, hK⟩
   have n4_ := Aside0.mk (HK.out.trans (KeepX.of_keepG hK (by simp)))
   have n1_ := Aside0.mk (HQ.out.keepR HR.out hK)
   clear HQ HR HB HK hK HV HX 
   have HR := Aside0.mk hR; have HB := Aside0.mk hB
   clear hR hB
   go_wp2
   go_ret
   exact ⟨rfl, _, _, n1_.out, HR.out, hg, HB.out, n4_.out⟩
  ·skip
   have hx1 := blk_cell HX.out 1
   change _ = some (Value.int .i64 n) at hx1
   have hx2 := blk_cell HX.out 2
   change _ = some (Value.int .i64 m) at hx2
   go_wp2_with fail
   refine (sendq_Queue_Next.calls gq q n m w0 _ HQ.out HB.out HG.out.ok (show (0 : Int) ≤ q.sent ∧ q.sent ≤ (q.s.size : Int) ∧ (q.s.size : Int) ≤ 65536 by have := HLE.out; omega) HN.out).mono ?_
   rintro e W4 ⟨rfl, hQ, hB, hK⟩
   clear hx1 hx2
   have n2_ := Aside0.mk (HR.out.keepG HQ.out hK); have n4_ := Aside0.mk (HK.out.trans (KeepX.of_keepG hK (by simp))); have n5_ := Aside0.mk (own_keepG HV.out (by decide) HQ.out hK); have n6_ := Aside0.mk (box_keepG HX.out HQ.out hK)
   clear HQ HR HB HK HV HX hK
   have HQ := Aside0.mk hQ; have HR := n2_; have HB := Aside0.mk hB; have HK := n4_; have HV := n5_; have HX := n6_
   clear hQ hB n2_ n4_ n5_ n6_
   have hx1 := blk_cell HX.out 1
   change _ = some (Value.int .i64 n) at hx1
   have hx2 := blk_cell HX.out 2
   change _ = some (Value.int .i64 m) at hx2
   obtain ⟨he, hg⟩ := qg_next HG.out n m
   go_wp2_with fail
   refine (sternpostref15_Queue_Next.callsR gr top (rq q got) n m w0 _ HR.out HB.out HG.out.ok (show (0 : Int) ≤ q.sent ∧ q.sent ≤ (q.s.size : Int) ∧ (q.s.size : Int) ≤ 65536 by have := HLE.out; omega) HN.out).mono ?_
   rw [he, show (rq q got).at_ (rq q got).sent = q.at_ q.sent from rfl]
   dsimp only
   rintro e W5 ⟨rfl, hR, hB, hK⟩
   have n4_ := Aside0.mk (HK.out.trans (KeepX.of_keepG hK (by simp)))
   have n1_ := Aside0.mk (HQ.out.keepR HR.out hK)
   clear HQ HR HB HK hK HV HX hx1 hx2
   have HR := Aside0.mk hR; have HB := Aside0.mk hB
   clear hR hB
   go_wp2
   go_ret
   exact ⟨rfl, _, _, n1_.out, HR.out, hg, HB.out, n4_.out⟩
  ·go_wp2_with fail
   refine (sendq_Queue_Apart.calls gq q A8 c8 l' w0 _ HQ.out HB.out HV.out HG.out.ok (by have := HLE.out; omega) HG.out.ap).mono ?_
   rintro e W4 ⟨rfl, hQ, hB, hK⟩
   have n2_ := Aside0.mk (HR.out.keepG HQ.out hK); have n4_ := Aside0.mk (HK.out.trans (KeepX.of_keepG hK (by simp))); have n5_ := Aside0.mk (own_keepG HV.out (by decide) HQ.out hK); have n6_ := Aside0.mk (box_keepG HX.out HQ.out hK)
   clear HQ HR HB HK HV HX hK
   have HQ := Aside0.mk hQ; have HR := n2_; have HB := Aside0.mk hB; have HK := n4_; have HV := n5_; have HX := n6_
   clear hQ hB n2_ n4_ n5_ n6_
   obtain ⟨got', he, hg⟩ := qg_notes l' HG.out
   have hct := qg_count hg
   rw [(notes_same l' q).2.1] at hct
   go_wp2_with fail
   refine (sternpostref15_Queue_Apart.callsR gr top (rq q got) A8 c8 l' w0 _ HR.out HB.out HV.out HG.out.ok (show (0 : Int) ≤ q.sent ∧ q.sent ≤ (q.s.size : Int) ∧ (q.s.size : Int) ≤ 65536 by have := HLE.out; omega) (show got.length = q.s.size from HG.out.len) HT.out.2).mono ?_
   rw [he, show (rq (l'.foldl QS.note q) got').got = got' from rfl, show (rq q got).sent = q.sent from rfl, hct]
   rintro e W5 ⟨rfl, hR, hB, hK⟩
   have n4_ := Aside0.mk (HK.out.trans (hK.mono (Nat.le_refl _) (fun _ h => nomatch h)))
   have n1_ := Aside0.mk (HQ.out.keepX hK (fun h => nomatch h) (fun _ _ _ h => nomatch h))
   clear HQ HR HB HK hK HV HX hct
   have HR := Aside0.mk hR; have HB := Aside0.mk hB
   clear hR hB
   go_wp2
   go_ret
   exact ⟨rfl, _, _, n1_.out, HR.out, hg, HB.out, n4_.out⟩
  ·skip
   have hx2 := blk_cell HX.out 2
   change _ = some (Value.int .i64 m) at hx2
   go_wp2_with fail
   refine (sendq_Queue_Hole.calls gq q m w0 _ HQ.out HG.out.ok (show (0 : Int) ≤ q.sent ∧ q.sent ≤ (q.s.size : Int) ∧ (q.s.size : Int) ≤ 65536 by have := HLE.out; omega) ⟨fun x hx => ⟨HG.out.aplen.1 x hx, by have h1 := HG.out.ap.2 x hx; have h2 := HG.out.ap.1.2 x hx; omega⟩, HG.out.aplen.2⟩).mono ?_
   rintro e W4 ⟨rfl, hb⟩
   clear hx2
   have n1_ := Aside0.mk (HQ.out.kept hb); have n2_ := Aside0.mk (HR.out.kept hb); have n3_ := Aside0.mk (below_step HB.out hb); have n4_ := Aside0.mk (HK.out.trans (KeepX.of_below hb)); have n5_ := Aside0.mk (ownsAt_below HV.out hb); have n6_ := Aside0.mk (blk_below HX.out hb)
   clear HQ HR HB HK HV HX hb
   have HQ := n1_; have HR := n2_; have HB := n3_; have HK := n4_; have HV := n5_; have HX := n6_
   clear n1_ n2_ n3_ n4_ n5_ n6_
   have hx2 := blk_cell HX.out 2
   change _ = some (Value.int .i64 m) at hx2
   have he := qg_hole HG.out m
   go_wp2_with fail
   refine (sternpostref15_Queue_Hole.callsR gr top (rq q got) m w0 _ HR.out HG.out.ok (show (0 : Int) ≤ q.sent ∧ q.sent ≤ (q.s.size : Int) ∧ (q.s.size : Int) ≤ 65536 by have := HLE.out; omega) (show got.length = q.s.size from HG.out.len)).mono ?_
   rw [he]
   rintro e W5 ⟨rfl, hd⟩
   have hb := hd.below
   clear hx2 hd he
   have n1_ := Aside0.mk (HQ.out.kept hb); have n2_ := Aside0.mk (HR.out.kept hb); have n3_ := Aside0.mk (below_step HB.out hb); have n4_ := Aside0.mk (HK.out.trans (KeepX.of_below hb)); have n5_ := Aside0.mk (ownsAt_below HV.out hb); have n6_ := Aside0.mk (blk_below HX.out hb)
   clear HQ HR HB HK HV HX hb
   have HQ := n1_; have HR := n2_; have HB := n3_; have HK := n4_; have HV := n5_; have HX := n6_
   clear n1_ n2_ n3_ n4_ n5_ n6_
   clear HV HX
   go_wp2
   go_ret
   exact ⟨rfl, _, _, HQ.out, HR.out, HG.out, HB.out, HK.out⟩
  ·skip
   go_wp2_with fail
   refine (sendq_Queue_Probe.calls gq q w0 _ HQ.out HB.out).mono ?_
   rintro e W4 ⟨rfl, hQ, hB, hK⟩
   skip
   have n2_ := Aside0.mk (HR.out.keepG HQ.out hK); have n4_ := Aside0.mk (HK.out.trans (KeepX.of_keepG hK (by simp))); have n5_ := Aside0.mk (own_keepG HV.out (by decide) HQ.out hK); have n6_ := Aside0.mk (box_keepG HX.out HQ.out hK)
   clear HQ HR HB HK HV HX hK
   have HQ := Aside0.mk hQ; have HR := n2_; have HB := Aside0.mk hB; have HK := n4_; have HV := n5_; have HX := n6_
   clear hQ hB n2_ n4_ n5_ n6_
   obtain ⟨he, hg⟩ := qg_probe HG.out
   go_wp2_with fail
   refine (sternpostref15_Queue_Probe.callsR gr top (rq q got) w0 _ HR.out HB.out (show (0 : Int) ≤ q.sent ∧ q.sent ≤ (q.s.size : Int) by have := HLE.out; omega)).mono ?_
   rw [he, show (rq q got).left = q.left from rfl]
   dsimp only
   rintro e W5 ⟨rfl, hR, hB, hK⟩
   have n4_ := Aside0.mk (HK.out.trans (KeepX.of_keepG hK (by simp)))
   have n1_ := Aside0.mk (HQ.out.keepR HR.out hK)
   clear HQ HR HB HK hK HV HX 
   have HR := Aside0.mk hR; have HB := Aside0.mk hB
   clear hR hB
   go_wp2
   go_ret
   exact ⟨rfl, _, _, n1_.out, HR.out, hg, HB.out, n4_.out⟩


end Go.Proofs.Ytobndcdohehhbaa.PSendqPlays

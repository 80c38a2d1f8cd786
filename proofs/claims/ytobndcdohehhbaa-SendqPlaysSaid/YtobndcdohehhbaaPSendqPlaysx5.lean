-- Laid by this claim's own program over the print's words.
import Derived.Test.YtobndcdohehhbaaPSendqPlaysx0
import Derived.Test.YtobndcdohehhbaaPSendqPlaysx1
import Derived.Test.YtobndcdohehhbaaPSendqPlaysx2
import Derived.Test.YtobndcdohehhbaaPSendqPlaysx3
import Derived.Test.YtobndcdohehhbaaPSendqPlaysx4
namespace Go.Proofs.Ytobndcdohehhbaa.PSendqPlays
open Go.RowKit Go.Proofs.YtobndcdohehhbaaW.PrintWords Go.Proofs.YtobndcdohehhbaaW.PrintLast Go.Proofs.YtobndcdohehhbaaW.PrintMore
attribute [local go_sem] max2_int min2_int max_two min_two max_three min_three max_four min_four max_five min_five extract_cut tmod_nat_lit   -- for this text's walks alone
set_option linter.unusedVariables false
set_option linter.unusedSimpArgs false


/-! ### sendq_Queue_Apart: function 18 (by hand) -/
-- over sendq_Queue_mark.calls sendq_Queue_mark.callsR sendq_Queue_off.calls sendq_Queue_off.callsR
/-- a span put into a list of spans that rise, none touching another one -/
def addSpan (x : Int × Int) : List (Int × Int) → List (Int × Int)
 | [] => [x]
 | y :: l => if y.2 < x.1 then y :: addSpan x l else if x.2 < y.1 then x :: y :: l else addSpan (if y.1 < x.1 then y.1 else x.1, if x.2 < y.2 then y.2 else x.2) l
def SepL (l : List (Int × Int)) : Prop := l.Pairwise (fun a b => a.2 < b.1) ∧ ∀ y ∈ l, y.1 < y.2
theorem SepL.tail {y : Int × Int} {l : List (Int × Int)} (h : SepL (y :: l)) : SepL l := ⟨(List.pairwise_cons.1 h.1).2, fun z hz => h.2 z (List.mem_cons_of_mem _ hz)⟩
theorem markF_right (x : Int × Int) : ∀ (l : List (Int × Int)) (k : List (Int × Int)), (∀ y ∈ l, x.2 < y.1) → l.foldl markS (k, x) = (k ++ l, x)
 | [], k, _ => by simp
 | y :: l, k, h => by
  have hy := h y List.mem_cons_self
  show l.foldl markS (markS (k, x) y) = _
  have e : markS (k, x) y = (k ++ [y], x) := by unfold markS; rw [if_pos (.inr hy)]
  rw [e, markF_right x l _ (fun z hz => h z (List.mem_cons_of_mem _ hz))]; simp
theorem markF_add : ∀ (l : List (Int × Int)) (k : List (Int × Int)) (x : Int × Int), SepL l → ((l.foldl markS (k, x)).1 ++ [(l.foldl markS (k, x)).2]).Perm (k ++ addSpan x l)
 | [], k, x, _ => List.Perm.refl _
 | y :: l, k, x, h => by
  show ((l.foldl markS (markS (k, x) y)).1 ++ [(l.foldl markS (markS (k, x) y)).2]).Perm _
  unfold addSpan
  by_cases h1 : y.2 < x.1
  ·have e : markS (k, x) y = (k ++ [y], x) := by unfold markS; rw [if_pos (.inl h1)]
   rw [e, if_pos h1]
   have := markF_add l (k ++ [y]) x h.tail
   simpa using this
  ·rw [if_neg h1]
   by_cases h2 : x.2 < y.1
   ·have e : markS (k, x) y = (k ++ [y], x) := by unfold markS; rw [if_pos (.inr h2)]
    rw [e, if_pos h2, markF_right x l _ (fun z hz => by have h3 := (List.pairwise_cons.1 h.1).1 z hz; have h4 := h.2 y List.mem_cons_self; omega)]
    have : (k ++ [y] ++ l ++ [x]).Perm (k ++ ([y] ++ l ++ [x])) := by simp
    refine this.trans (List.Perm.append_left k ?_)
    exact List.perm_append_comm (l₁ := [y] ++ l) (l₂ := [x])
   ·have e : markS (k, x) y = (k, (if y.1 < x.1 then y.1 else x.1, if x.2 < y.2 then y.2 else x.2)) := by unfold markS; rw [if_neg (by intro h; rcases h with h | h; exact h1 h; exact h2 h)]
    rw [e, if_neg h2]
    exact markF_add l k _ h.tail
theorem addSpan_low {x : Int × Int} {m : Int} : ∀ {l : List (Int × Int)}, m < x.1 → (∀ y ∈ l, m < y.1) → ∀ z ∈ addSpan x l, m < z.1
 | [], hx, _, z, hz => by rw [List.mem_singleton.1 hz]; exact hx
 | y :: l, hx, h, z, hz => by
  have hy := h y List.mem_cons_self
  have hl : ∀ y ∈ l, m < y.1 := fun w hw => h w (List.mem_cons_of_mem _ hw)
  unfold addSpan at hz
  split at hz
  ·rcases List.mem_cons.1 hz with rfl | hz
   ·exact hy
   ·exact addSpan_low hx hl z hz
  ·split at hz
   ·rcases List.mem_cons.1 hz with rfl | hz
    ·exact hx
    ·exact h z hz
   ·exact addSpan_low (x := (if y.1 < x.1 then y.1 else x.1, if x.2 < y.2 then y.2 else x.2)) (by show m < if y.1 < x.1 then y.1 else x.1; split <;> assumption) hl z hz
theorem addSpan_sep : ∀ (l : List (Int × Int)) (x : Int × Int), x.1 < x.2 → SepL l → SepL (addSpan x l)
 | [], x, hx, _ => ⟨List.pairwise_singleton _ _, fun y hy => by rw [List.mem_singleton.1 hy]; exact hx⟩
 | y :: l, x, hx, h => by
  have hy := h.2 y List.mem_cons_self
  have hyl := (List.pairwise_cons.1 h.1).1
  unfold addSpan
  split
  ·rename_i h1
   have ih := addSpan_sep l x hx h.tail
   exact ⟨List.pairwise_cons.2 ⟨fun z hz => addSpan_low h1 hyl z hz, ih.1⟩, fun z hz => by rcases List.mem_cons.1 hz with rfl | hz; exact hy; exact ih.2 z hz⟩
  ·split
   ·rename_i h1 h2
    refine ⟨List.pairwise_cons.2 ⟨fun z hz => ?_, h.1⟩, fun z hz => by rcases List.mem_cons.1 hz with rfl | hz; exact hx; exact h.2 z hz⟩
    rcases List.mem_cons.1 hz with rfl | hz
    ·exact h2
    ·have := hyl z hz; omega
   ·exact addSpan_sep l _ (by dsimp only; split <;> split <;> omega) h.tail
/-- what is covered -/
def Cov (l : List (Int × Int)) (k : Int) : Prop := ∃ y ∈ l, y.1 ≤ k ∧ k < y.2
theorem cov_add (k : Int) : ∀ (l : List (Int × Int)) (x : Int × Int), x.1 < x.2 → SepL l → (Cov (addSpan x l) k ↔ (x.1 ≤ k ∧ k < x.2) ∨ Cov l k)
 | [], x, _, _ => by unfold addSpan Cov; simp
 | y :: l, x, hx, h => by
  have hy := h.2 y List.mem_cons_self
  have hc : ∀ (z : Int × Int) (l : List (Int × Int)), Cov (z :: l) k ↔ (z.1 ≤ k ∧ k < z.2) ∨ Cov l k := fun z l => by unfold Cov; simp
  unfold addSpan
  split
  ·rw [hc, hc, cov_add k l x hx h.tail]
   constructor
   ·rintro (h | h | h); exact .inr (.inl h); exact .inl h; exact .inr (.inr h)
   ·rintro (h | h | h); exact .inr (.inl h); exact .inl h; exact .inr (.inr h)
  ·split
   ·rw [hc]
   ·rw [cov_add k l _ (by dsimp only; split <;> split <;> omega) h.tail, hc]
    dsimp only
    constructor
    ·rintro (h | h)
     ·by_cases hk : x.1 ≤ k ∧ k < x.2
      ·exact .inl hk
      ·refine .inr (.inl ?_); split at h <;> split at h <;> omega
     ·exact .inr (.inr h)
    ·rintro (h | h | h)
     ·refine .inl ?_; split <;> split <;> omega
     ·refine .inl ?_; split <;> split <;> omega
     ·exact .inr h
theorem addSpan_in (s : Int) : ∀ (l : List (Int × Int)) (x : Int × Int), (0 ≤ x.1 ∧ x.2 ≤ s) → (∀ y ∈ l, 0 ≤ y.1 ∧ y.2 ≤ s) → ∀ y ∈ addSpan x l, 0 ≤ y.1 ∧ y.2 ≤ s
 | [], x, hx, _, y, hy => by rw [List.mem_singleton.1 hy]; exact hx
 | z :: l, x, hx, h, y, hy => by
  have hz := h z List.mem_cons_self
  have hl : ∀ y ∈ l, 0 ≤ y.1 ∧ y.2 ≤ s := fun w hw => h w (List.mem_cons_of_mem _ hw)
  unfold addSpan at hy
  split at hy
  ·rcases List.mem_cons.1 hy with rfl | hy
   ·exact hz
   ·exact addSpan_in s l x hx hl y hy
  ·split at hy
   ·rcases List.mem_cons.1 hy with rfl | hy
    ·exact hx
    ·exact h y hy
   ·exact addSpan_in s l _ (by dsimp only; constructor <;> split <;> omega) hl y hy
theorem sep_strict {l : List (Int × Int)} (h : SepL l) : l.Pairwise (fun a b => a.1 < b.1) := by
 have := h.1
 refine List.Pairwise.imp_of_mem ?_ this
 intro a b ha _ hab
 have := h.2 a ha; omega
theorem sorted_unique : ∀ {l r : List (Int × Int)}, r.Perm l → r.Pairwise (fun a b => a.1 ≤ b.1) → l.Pairwise (fun a b => a.1 < b.1) → r = l
 | [], r, hp, _, _ => hp.eq_nil
 | x :: l, r, hp, hr, hl => by
  cases r with
  | nil => exact absurd hp.symm.eq_nil (by simp)
  | cons y r =>
   have hx : x = y := by
    rcases List.mem_cons.1 (hp.symm.mem_iff.1 (List.mem_cons_self (a := x) (l := l))) with h | h
    ·exact h
    ·have h1 := (List.pairwise_cons.1 hr).1 x h
     rcases List.mem_cons.1 (hp.mem_iff.1 (List.mem_cons_self (a := y) (l := r))) with h2 | h2
     ·exact h2.symm
     ·have h3 := (List.pairwise_cons.1 hl).1 y h2; omega
   subst hx
   rw [sorted_unique (hp.cons_inv) (List.pairwise_cons.1 hr).2 (List.pairwise_cons.1 hl).2]
theorem mark_unique {x : Int × Int} {l r : List (Int × Int)} (hx : x.1 < x.2) (hl : SepL l) (hp : r.Perm ((markL x l).1 ++ [(markL x l).2])) (hr : r.Pairwise (fun a b => a.1 ≤ b.1)) : r = addSpan x l :=
 sorted_unique (hp.trans (by have := markF_add l [] x hl; simpa [markL] using this)) hr (sep_strict (addSpan_sep l x hx hl))
theorem sep_len : ∀ (l : List (Int × Int)) (lo hi : Int), SepL l → (∀ y ∈ l, lo ≤ y.1 ∧ y.2 ≤ hi) → lo ≤ hi + 1 → (l.length : Int) ≤ hi + 1 - lo
 | [], lo, hi, _, _, h => by simp; omega
 | y :: l, lo, hi, h, hb, hlo => by
  have hy := h.2 y List.mem_cons_self
  have h1 := hb y List.mem_cons_self
  have := sep_len l (y.2 + 1) hi h.tail (fun z hz => ⟨by have := (List.pairwise_cons.1 h.1).1 z hz; omega, (hb z (List.mem_cons_of_mem _ hz)).2⟩) (by omega)
  simp only [List.length_cons]; omega

theorem seqdist_any (a b : Int) : seq_Distance.f a b = some (if sqOk a ∧ sqOk b then ((b - a) % 4294967296, 0) else (0, 1)) := by
 by_cases ha : sqOk a
 ·rw [seqdist_ a b ha]
  by_cases hb : sqOk b
  ·rw [if_pos hb, if_pos ⟨ha, hb⟩]
  ·rw [if_neg hb, if_neg (fun h => hb h.2)]
 ·unfold seq_Distance.f seq_both.f
  rw [seqcheck_ a, seqcheck_ b, if_neg ha, if_neg (show ¬ (sqOk a ∧ sqOk b) from fun h => ha h.1)]
  simp only [Option.bind_some]
  by_cases hb : sqOk b
  ·rw [if_pos hb]; rfl
  ·rw [if_neg hb]; rfl
theorem seqahead_ (a b : Int) : ∃ ah er, seq_Ahead.f a b = some (ah, er) ∧ (sqOk a → sqOk b → er = 0 ∧ ah = decide (1 ≤ (b - a) % 4294967296 ∧ (b - a) % 4294967296 ≤ 2147483647)) := by
 unfold seq_Ahead.f seq_within.f
 rw [seqdist_any]
 simp only [Option.bind_some]
 by_cases h : sqOk a ∧ sqOk b
 ·rw [if_pos h]
  have h0 := Int.emod_nonneg (b - a) (show (4294967296 : Int) ≠ 0 by decide)
  by_cases h1 : (b - a) % 4294967296 ≥ 1
  ·rw [if_pos h1]
   refine ⟨_, _, rfl, fun _ _ => ⟨rfl, ?_⟩⟩
   rw [Bool.eq_iff_iff]; simp only [decide_eq_true_eq]; omega
  ·rw [if_neg h1]
   exact ⟨_, _, rfl, fun _ _ => ⟨rfl, (decide_eq_false (by omega)).symm⟩⟩
 ·rw [if_neg h]
  exact ⟨_, _, rfl, fun ha hb => absurd ⟨ha, hb⟩ h⟩
def QS.note (q : QS) (x : Int × Int) : QS := if (q.off x.1).2 = true ∧ (q.off x.2).2 = true ∧ (q.off x.1).1 < (q.off x.2).1 then { q with ap := addSpan ((q.off x.1).1, (q.off x.2).1) q.ap } else q
def QAp (q : QS) : Prop := SepL q.ap ∧ ∀ y ∈ q.ap, 0 ≤ y.1 ∧ y.2 ≤ q.sent
def apSum (l : List (Int × Int)) : Int := l.foldl (fun n x => n + (x.2 - x.1)) 0
theorem apSum_snoc (l : List (Int × Int)) (x : Int × Int) : apSum (l ++ [x]) = apSum l + (x.2 - x.1) := by unfold apSum; rw [List.foldl_append]; rfl
theorem note_same (q : QS) (x : Int × Int) : (q.note x).left = q.left ∧ (q.note x).sent = q.sent ∧ (q.note x).room = q.room ∧ (q.note x).s = q.s := by unfold QS.note; split <;> exact ⟨rfl, rfl, rfl, rfl⟩
theorem note_ap {q : QS} (x : Int × Int) (h : QAp q) : QAp (q.note x) := by
 unfold QS.note
 split
 ·rename_i hc
  obtain ⟨h1, h2, h3⟩ := hc
  have h4 := off_ok h1
  have h5 := off_ok h2
  exact ⟨addSpan_sep q.ap _ h3 h.1, addSpan_in q.sent q.ap _ ⟨h4.1, h5.2⟩ h.2⟩
 ·exact h
theorem notes_same (l : List (Int × Int)) : ∀ q : QS, (l.foldl QS.note q).left = q.left ∧ (l.foldl QS.note q).sent = q.sent ∧ (l.foldl QS.note q).room = q.room ∧ (l.foldl QS.note q).s = q.s := by
 induction l with
 | nil => exact fun q => ⟨rfl, rfl, rfl, rfl⟩
 | cons x l ih => exact fun q => by obtain ⟨h1, h2, h3, h4⟩ := ih (q.note x); obtain ⟨g1, g2, g3, g4⟩ := note_same q x; exact ⟨h1.trans g1, h2.trans g2, h3.trans g3, h4.trans g4⟩
theorem notes_ap (l : List (Int × Int)) : ∀ q : QS, QAp q → QAp (l.foldl QS.note q) := by
 induction l with
 | nil => exact fun q h => h
 | cons x l ih => exact fun q h => ih (q.note x) (note_ap x h)
theorem QAp.len {q : QS} (h : QAp q) (hs : 0 ≤ q.sent ∧ q.sent ≤ 65536) : (∀ y ∈ q.ap, InB y) ∧ q.ap.length ≤ 1000000 := by
 refine ⟨fun y hy => ?_, ?_⟩
 ·have h1 := h.2 y hy; have h2 := h.1.2 y hy; unfold InB; omega
 ·have := sep_len q.ap 0 q.sent h.1 h.2 (by omega); omega
theorem apSum_in {s : Int} (hs : 0 ≤ s ∧ s ≤ 65536) : ∀ (l : List (Int × Int)), (∀ y ∈ l, 0 ≤ y.1 ∧ y.1 < y.2 ∧ y.2 ≤ s) → ∀ n : Int, n ≤ l.foldl (fun n x => n + (x.2 - x.1)) n ∧ l.foldl (fun n x => n + (x.2 - x.1)) n ≤ n + 65536 * (l.length : Int)
 | [], _, n => by simp
 | x :: l, h, n => by
  have hx := h x List.mem_cons_self
  have := apSum_in hs l (fun y hy => h y (List.mem_cons_of_mem _ hy)) (n + (x.2 - x.1))
  simp only [List.foldl_cons, List.length_cons]; omega
theorem own_keepG {w w' : World} {base base' g : Nat} {e : TypeId} {size : Nat} {v : Value} {n : Nat} {xs : List Value} {q : QS} (h : ownsAt w base e size v n xs) (he : e ≠ 67) (hQ : QAt w base' g q) (hk : KeepG g w w') : ownsAt w' base e size v n xs :=
 ownsAt_kept h (fun b cur _ hb => hk.2 b (blk_lt hb) (fun e1 => by
  obtain ⟨v', h4, _⟩ := hQ
  rw [e1, h4] at hb
  simp at hb
  exact he hb.2.symm))
set_option maxHeartbeats 4000000 in
set_option maxRecDepth 100000 in
theorem sendq_Queue_Apart.calls (g : Nat) (q : QS) (Aa : Option Addr) (ca : Nat) (l : List (Int × Int)) (w0 w : World) (hI : QAt w w0.heap.size g q) (hB : Below w0.heap.size w0 w) (hA : ownsAt w 0 47 2 (.slice Aa l.length ca) l.length (spc l)) (hl : sqOk q.left) (hs : 0 ≤ q.sent ∧ q.sent ≤ 65536) (hap : QAp q) :
  Calls Try.prog 18 #[.pointer (some ⟨g, 0, none⟩), .slice Aa l.length ca] w fun e w' => e = .returned (.int .i64 (apSum (l.foldl QS.note q).ap)) ∧ QAt w' w0.heap.size g (l.foldl QS.note q) ∧ Below w0.heap.size w0 w' ∧ KeepG g w w' := by
 have HI := Aside0.mk hI
 have HB := Aside0.mk hB
 have HA := Aside0.mk hA
 have HL := Aside0.mk hl
 have HS := Aside0.mk hs
 have HAP := Aside0.mk hap
 have HKs := Aside0.mk (KeepG.refl g w)
 have HLM := Aside0.mk (show l.length ≤ 9223372036854775807 by obtain ⟨_, _, he, h1, h2, _⟩ := ownsAt_len hA; injection he with _ _ h3; simp only [maxLen] at h2; omega)
 clear hI hB hA hl hs hap
 go_enter Try.func18, Try.ntmps18
 go_wp2_with fail
 go_loopg [18] l.length (fun kq v18 W => ∃ (i : Nat) (iz : Int), v18 = .int .i64 iz ∧ Aside0 (iz = (i : Int) ∧ kq + i = l.length) ∧ Aside0 (QAt W w0.heap.size g ((l.take i).foldl QS.note q)) ∧ Aside0 (ownsAt W 0 47 2 (.slice Aa l.length ca) l.length (spc l)) ∧ Aside0 (Below w0.heap.size w0 W) ∧ Aside0 (KeepG g w W))
 case atStart => exact ⟨0, 0, rfl, ⟨rfl, by simp⟩, HI, HA, HB, HKs⟩
 case round =>
  clear HI HA HB HKs
  obtain ⟨i, iz, rfl, HK, HI, HA, HB, HKs⟩ := hrel
  have hk := HK.out
  obtain ⟨qi, hqi⟩ : ∃ q_, (l.take i).foldl QS.note q = q_ := ⟨_, rfl⟩
  rw [hqi] at HI
  have hsame := notes_same (l.take i) q
  have hapi := notes_ap (l.take i) q HAP.out
  rw [hqi] at hsame hapi
  have HQI := Aside0.mk hqi
  have HAI := Aside0.mk hapi
  have HLI := Aside0.mk (show sqOk qi.left by rw [hsame.1]; exact HL.out)
  have HSI := Aside0.mk (show 0 ≤ qi.sent ∧ qi.sent ≤ 65536 by rw [hsame.2.1]; exact HS.out)
  clear hqi hsame hapi
  by_cases hlt : iz < (l.length : Int)
  ·have d1 : decide (iz < (l.length : Int)) = true := decide_eq_true hlt
   obtain ⟨k1, rfl⟩ : ∃ k1, gk = k1 + 1 := ⟨gk - 1, by omega⟩
   have hil : i < l.length := by omega
   obtain ⟨⟨fa, fb⟩, hx⟩ : ∃ x, l[i]? = some x := ⟨_, List.getElem?_eq_getElem hil⟩
   have HTK := Aside0.mk (show (l.take (i + 1)).foldl QS.note q = qi.note (fa, fb) by rw [List.take_add_one, hx, List.foldl_append, HQI.out]; rfl)
   obtain ⟨gq, oq, rfl, hcells⟩ := ownsAt_cells HA.out (by omega)
   obtain ⟨hq0, hq1⟩ : wr.cell? ⟨gq, oq + i * 2, none⟩ = some (.int .i64 fa) ∧ wr.cell? ⟨gq, oq + i * 2 + 1, none⟩ = some (.int .i64 fb) := ⟨hcells _ _ (spc_get l i _ hx).1, hcells _ _ (spc_get l i _ hx).2⟩
   have hn : wrap64 (iz + 1) = ((i + 1 : Nat) : Int) := by have := HLM.out; rw [w64p (by omega) (by omega)]; omega
   have HN := Aside0.mk hn
   have p0 : 0 ≤ iz := by omega
   have tn : iz.toNat = i := by omega
   replace p0 := eq_true p0
   replace hlt := eq_true hlt
   clear hcells hx hn hk hil
   go_upto_region 4 with fail
   have hby := blk_new wr (.cells #[.int .i64 fa, .int .i64 fb] 47)
   have hb := below_alloc (Below.refl wr.heap.size wr) (.cells #[.int .i64 fa, .int .i64 fb] 47)
   clear hq0 hq1 p0 hlt tn d1
   have n0_ := Aside0.mk (HI.out.kept hb); have n1_ := Aside0.mk (ownsAt_below HA.out hb); have n2_ := Aside0.mk (below_step HB.out hb); have n3_ := Aside0.mk (HKs.out.trans (KeepG.of_below hb))
   clear HI HA HB HKs hb
   have HI := n0_; have HA := n1_; have HB := n2_; have HKs := n3_
   clear n0_ n1_ n2_ n3_
   generalize wr.heap.size = by_ at hby ⊢
   generalize wr.alloc (.cells #[.int .i64 fa, .int .i64 fb] 47) = Wb at hby HI HA HB HKs ⊢
   have HX := Aside0.mk hby
   have hy0 := blk_cell hby 0
   change _ = some (Value.int .i64 fa) at hy0
   clear hby
   obtain ⟨ah, er, hah, hahf⟩ := seqahead_ fa fb
   have HAH := Aside0.mk hah
   obtain ⟨⟨da, oa⟩, hoa⟩ : ∃ p_, qi.off fa = p_ := ⟨_, rfl⟩
   obtain ⟨⟨db, ob⟩, hob⟩ : ∃ p_, qi.off fb = p_ := ⟨_, rfl⟩
   have hno : oa = true → ob = true → er = 0 ∧ (ah = true ↔ da < db) := fun h1 h2 => by
    subst h1 h2
    have s1 := HSI.out; have s2 := HLI.out
    unfold QS.off at hoa hob
    by_cases ka : sqOk fa
    ·by_cases kb : sqOk fb
     ·rw [if_pos ka] at hoa
      rw [if_pos kb] at hob
      obtain ⟨e1, e2⟩ := Prod.mk.inj hoa
      obtain ⟨e3, e4⟩ := Prod.mk.inj hob
      have e2 := of_decide_eq_true e2
      have e4 := of_decide_eq_true e4
      obtain ⟨f1, f2⟩ := hahf ka kb
      refine ⟨f1, ?_⟩
      rw [f2, decide_eq_true_eq]
      unfold sqOk at ka kb s2
      omega
     ·rw [if_neg kb] at hob; exact absurd (Prod.mk.inj hob).2 (by decide)
    ·rw [if_neg ka] at hoa; exact absurd (Prod.mk.inj hoa).2 (by decide)
   have HNO := Aside0.mk hno
   have HOA := Aside0.mk hoa
   have HOB := Aside0.mk hob
   clear hah hahf hno hoa hob
   go_wp2_with fail
   refine (sendq_Queue_off.calls g qi fa w0 _ HI.out HLI.out).mono ?_
   rw [HOA.out]
   rintro e W2 ⟨rfl, hb⟩
   clear hy0
   have n0_ := Aside0.mk (HI.out.kept hb); have n1_ := Aside0.mk (ownsAt_below HA.out hb); have n2_ := Aside0.mk (below_step HB.out hb); have n3_ := Aside0.mk (HKs.out.trans (KeepG.of_below hb)); have n4_ := Aside0.mk (blk_below HX.out hb)
   clear HI HA HB HKs HX hb
   have HI := n0_; have HA := n1_; have HB := n2_; have HKs := n3_; have HX := n4_
   clear n0_ n1_ n2_ n3_ n4_
   have hx := HX.out
   have hy1 := blk_cell hx 1
   change _ = some (Value.int .i64 fb) at hy1
   clear hx
   go_wp2_with fail
   refine (sendq_Queue_off.calls g qi fb w0 _ HI.out HLI.out).mono ?_
   rw [HOB.out]
   rintro e W3 ⟨rfl, hb⟩
   clear hy1
   have n0_ := Aside0.mk (HI.out.kept hb); have n1_ := Aside0.mk (ownsAt_below HA.out hb); have n2_ := Aside0.mk (below_step HB.out hb); have n3_ := Aside0.mk (HKs.out.trans (KeepG.of_below hb)); have n4_ := Aside0.mk (blk_below HX.out hb)
   clear HI HA HB HKs HX hb
   have HI := n0_; have HA := n1_; have HB := n2_; have HKs := n3_; have HX := n4_
   clear n0_ n1_ n2_ n3_ n4_
   have hx := HX.out
   have hy0 := blk_cell hx 0
   have hy1 := blk_cell hx 1
   change _ = some (Value.int .i64 fa) at hy0
   change _ = some (Value.int .i64 fb) at hy1
   clear hx
   go_wp2_with fail
   refine (seq_Ahead.calls fa fb ah er _ HAH.out).mono ?_
   rintro e W4 ⟨rfl, hb⟩
   clear hy0 hy1
   have n0_ := Aside0.mk (HI.out.kept hb); have n1_ := Aside0.mk (ownsAt_below HA.out hb); have n2_ := Aside0.mk (below_step HB.out hb); have n3_ := Aside0.mk (HKs.out.trans (KeepG.of_below hb)); have n4_ := Aside0.mk (blk_below HX.out hb)
   clear HI HA HB HKs HX hb
   have HI := n0_; have HA := n1_; have HB := n2_; have HKs := n3_; have HX := n4_
   clear n0_ n1_ n2_ n3_ n4_
   by_cases hc : oa = true ∧ ob = true ∧ da < db
   ·obtain ⟨rfl, rfl, hlt2⟩ := hc
    obtain ⟨rfl, hh⟩ := HNO.out rfl rfl
    have hah2 := hh.mpr hlt2
    subst hah2
    have HLT := Aside0.mk hlt2
    have hin1 := off_ok (show (qi.off fa).2 = true by rw [HOA.out])
    have hin2 := off_ok (show (qi.off fb).2 = true by rw [HOB.out])
    rw [HOA.out] at hin1
    rw [HOB.out] at hin2
    have HIN := Aside0.mk (And.intro hin1 hin2)
    clear hh hlt2 hin1 hin2
    go_wp2_with fail
    refine (sendq_Queue_mark.calls g qi da db w0 _ HI.out HB.out (by have h1 := HIN.out; have h2 := HSI.out; unfold InB; dsimp only at *; omega) (HAI.out.len HSI.out)).mono ?_
    rintro e W5 ⟨rfl, r, hp, hs, hQ, hB, hK⟩
    have hr := mark_unique (x := (da, db)) HLT.out HAI.out.1 hp hs
    rw [hr] at hQ
    have n1_ := Aside0.mk (show QAt W5 w0.heap.size g (qi.note (fa, fb)) by
     have e : qi.note (fa, fb) = { qi with ap := addSpan (da, db) qi.ap } := by unfold QS.note; rw [HOA.out, HOB.out, if_pos ⟨rfl, rfl, HLT.out⟩]
     rw [e]; exact hQ)
    have n2_ := Aside0.mk (own_keepG HA.out (by decide) HI.out hK)
    have n3_ := Aside0.mk hB
    have n4_ := Aside0.mk (HKs.out.trans hK)
    clear HI HA HB HKs hQ hB hK hp hs hr
    have HI := n1_; have HA := n2_; have HB := n3_; have HKs := n4_
    clear n1_ n2_ n3_ n4_
    go_wp2
    go_roundg k1
    case measure => omega
    case rel => exact ⟨i + 1, _, rfl, ⟨HN.out, by have := HK.out; omega⟩, ⟨by rw [HTK.out]; exact HI.out⟩, HA, HB, HKs⟩
   ·have e : qi.note (fa, fb) = qi := by unfold QS.note; rw [HOA.out, HOB.out, if_neg hc]
    have HE := Aside0.mk e
    have hcc : oa = false ∨ (oa = true ∧ ob = false) ∨ (oa = true ∧ ob = true ∧ ah = false ∧ er = 0) := by
     cases oa
     ·exact .inl rfl
     ·cases ob
      ·exact .inr (.inl ⟨rfl, rfl⟩)
      ·obtain ⟨h1, h2⟩ := HNO.out rfl rfl
       refine .inr (.inr ⟨rfl, rfl, ?_, h1⟩)
       cases ah
       ·rfl
       ·exact absurd ⟨rfl, rfl, h2.mp rfl⟩ hc
    clear hc e
    rcases hcc with rfl | ⟨rfl, rfl⟩ | ⟨rfl, rfl, rfl, rfl⟩
    all_goals
     go_wp2
     go_roundg k1
     case measure => omega
     case rel => exact ⟨i + 1, _, rfl, ⟨HN.out, by have := HK.out; omega⟩, ⟨by rw [HTK.out, HE.out]; exact HI.out⟩, HA, HB, HKs⟩
  ·have d1 : decide (iz < (l.length : Int)) = false := decide_eq_false hlt
   have hil : i = l.length := by omega
   have hqi := HQI.out
   rw [hil, List.take_length] at hqi
   have HAPI := Aside0.mk (HAI.out.len HSI.out)
   have HQ2 := Aside0.mk hqi
   clear hk hil hqi HK HQI hlt
   obtain ⟨Az, cz, ⟨hbg, hge⟩, ⟨hle, hcm⟩, ⟨hc0, hc1, hc2, hc3, hc4⟩, ⟨hf0, hf1, hf2, hf3, hf4⟩, HQ⟩ := HI.out.cell
   change _ = some (Value.slice Az qi.ap.length cz) at hc4
   have HQA := Aside0.mk HQ
   go_wp2_with fail
   have hz0 : apSum (qi.ap.take 0) = 0 := rfl
   go_loopg [13, 66] qi.ap.length (fun kq v13 v66 W => ∃ (j : Nat) (jz nz : Int), v13 = .int .i64 nz ∧ v66 = .int .i64 jz ∧ Aside0 (jz = (j : Int) ∧ kq + j = qi.ap.length) ∧ Aside0 (nz = apSum (qi.ap.take j)) ∧ Aside0 (QAt W w0.heap.size g qi) ∧ Aside0 (ownsAt W w0.heap.size 73 2 (.slice Az qi.ap.length cz) qi.ap.length (spc qi.ap)) ∧ Aside0 (Below w0.heap.size w0 W) ∧ Aside0 (KeepG g w W))
   case atStart => exact ⟨0, 0, 0, rfl, rfl, ⟨rfl, by omega⟩, ⟨hz0.symm⟩, HI, HQA, HB, HKs⟩
   case round =>
    clear hbg hge hle hcm hc0 hc1 hc2 hc3 hc4 hf0 hf1 hf2 hf3 hf4 HQ
    clear HI HQA HB HKs HA hz0 d1
    obtain ⟨j, jz, nz, rfl, rfl, HJ, HN, HI, HQA, HB, HKs⟩ := hrel
    have hj := HJ.out
    by_cases hlt : jz < (qi.ap.length : Int)
    ·have d1 : decide (jz < (qi.ap.length : Int)) = true := decide_eq_true hlt
     obtain ⟨k2, hk2⟩ : ∃ k2, gk = k2 + 1 := ⟨gk - 1, by omega⟩
     subst hk2
     have hjl : j < qi.ap.length := by omega
     obtain ⟨⟨a, b⟩, hx⟩ : ∃ x, qi.ap[j]? = some x := ⟨_, List.getElem?_eq_getElem hjl⟩
     have htk : qi.ap.take (j + 1) = qi.ap.take j ++ [(a, b)] := by rw [List.take_add_one, hx]; rfl
     have HTK := Aside0.mk htk
     have hab := HAPI.out.1 _ (List.mem_of_getElem? hx)
     unfold InB at hab
     dsimp only at hab
     have hsum := apSum_in (s := qi.sent) HSI.out (qi.ap.take j) (fun y hy => ⟨(HAI.out.2 y (List.mem_of_mem_take hy)).1, HAI.out.1.2 y (List.mem_of_mem_take hy), (HAI.out.2 y (List.mem_of_mem_take hy)).2⟩) 0
     have hnz := HN.out
     unfold apSum at hnz
     rw [← hnz, List.length_take] at hsum
     have hlen := HAPI.out.2
     have hw1 : wrap64 (b - a) = b - a := w64p (by omega) (by omega)
     have hw2 : wrap64 (nz + (b - a)) = nz + (b - a) := w64p (by omega) (by omega)
     obtain ⟨gq, oq, rfl, hcells⟩ := ownsAt_cells HQA.out (by omega)
     obtain ⟨hq0, hq1⟩ : wr.cell? ⟨gq, oq + j * 2, none⟩ = some (.int .i64 a) ∧ wr.cell? ⟨gq, oq + j * 2 + 1, none⟩ = some (.int .i64 b) := ⟨hcells _ _ (spc_get qi.ap j _ hx).1, hcells _ _ (spc_get qi.ap j _ hx).2⟩
     have hn : wrap64 (jz + 1) = ((j + 1 : Nat) : Int) := by rw [w64p (by omega) (by omega)]; omega
     have HN1 := Aside0.mk hn
     have HW := Aside0.mk (And.intro hw1 hw2)
     have p0 : 0 ≤ jz := by omega
     have tn : jz.toNat = j := by omega
     replace p0 := eq_true p0
     replace hlt := eq_true hlt
     clear hcells hx hn hj hjl htk hab hsum hnz hlen hw1 hw2
     go_upto_region 14 with fail
     have hby := blk_new wr (.cells #[.int .i64 a, .int .i64 b] 73)
     have hb := below_alloc (Below.refl wr.heap.size wr) (.cells #[.int .i64 a, .int .i64 b] 73)
     clear hq0 hq1 p0 hlt tn d1
     have n0_ := Aside0.mk (HI.out.kept hb); have n1_ := Aside0.mk (ownsAt_below HQA.out hb); have n2_ := Aside0.mk (below_step HB.out hb); have n3_ := Aside0.mk (HKs.out.trans (KeepG.of_below hb))
     clear HI HQA HB HKs hb
     have HI := n0_; have HQA := n1_; have HB := n2_; have HKs := n3_
     clear n0_ n1_ n2_ n3_
     generalize wr.heap.size = by_ at hby ⊢
     generalize wr.alloc (.cells #[.int .i64 a, .int .i64 b] 73) = Wb at hby HI HQA HB HKs ⊢
     have hy0 := blk_cell hby 0
     have hy1 := blk_cell hby 1
     change _ = some (Value.int .i64 a) at hy0
     change _ = some (Value.int .i64 b) at hy1
     have hw1 := HW.out.1
     have hw2 := HW.out.2
     clear hby
     go_wp2
     go_roundg k2
     case measure => omega
     case rel => exact ⟨j + 1, _, _, rfl, rfl, ⟨HN1.out, by have := HJ.out; omega⟩, ⟨by rw [HTK.out, apSum_snoc, ← HN.out]; first | rfl | exact hw2⟩, HI, HQA, HB, HKs⟩
    ·have d1 : decide (jz < (qi.ap.length : Int)) = false := decide_eq_false hlt
     have hn := HN.out
     rw [show j = qi.ap.length by omega, List.take_length] at hn
     have HNN := Aside0.mk hn
     clear hn hj hlt
     go_wp2
     go_ret
     exact ⟨by rw [HQ2.out, ← HNN.out]; rfl, by rw [HQ2.out]; exact HI.out, HB.out, HKs.out⟩



/-! ### sternpostref15_Queue_Fork: function 22 (by hand) -/
-- over sternpostref15_New.calls sternpostref15_New.callsR
def SrcAt (w : World) (size : Nat) (y : Value) (m : Nat) (news : List Value) : Prop := news.length = m * size ∧ ((m = 0 ∧ ∃ A c, y = .slice A 0 c) ∨ ∃ a c, y = .slice (some a) m c ∧ ∀ j u, news[j]? = some u → w.cell? (a.add j) = some u)
theorem SrcAt.own {w : World} {base : Nat} {e : TypeId} {size m : Nat} {y : Value} {news : List Value} (h : ownsAt w base e size y m news) : SrcAt w size y m news := by
 refine ⟨h.1, ?_⟩
 obtain ⟨A, c, rfl, _⟩ := ownsAt_len h
 by_cases h0 : 0 < m
 ·obtain ⟨g, o, rfl, hc⟩ := ownsAt_cells h h0
  refine .inr ⟨_, c, rfl, fun j u hu => ?_⟩
  have hadd : (⟨g, o, none⟩ : Addr).add j = ⟨g, o + j, none⟩ := by unfold Addr.add; split <;> simp_all
  rw [hadd]; exact hc j u hu
 ·obtain rfl : m = 0 := by omega
  exact .inl ⟨rfl, A, c, rfl⟩
theorem run_append0 {P : Program} {w : World} {base b : Nat} {cur : Array Value} {t ty e : TypeId} {z : Value} {size bytes m : Nat} {y : Value} {news : List Value} (ht : P.underlying t = some (.slice e)) (hi : (P.info? e).map (fun i => (i.size, i.bytes, i.zero)) = some (size, bytes, some z)) (hzs : z.cells.size = size)
  (hb : base ≤ b) (hcur : w.heap[b]? = some (.cells cur e (0, 0))) (hy : SrcAt w size y m news) (h63 : m ≤ maxLen) (hbytes : m * bytes ≤ 140737488355328) (hbase : base ≤ w.heap.size) :
  ∃ v' w', (Builtin.append_ #[t, t] ty #[.slice (some ⟨b, 0, none⟩) 0 0, y]).run P w = .ok v' w' ∧ ownsAt w' base e size v' m news ∧ Below w.heap.size w w' := by
 rw [Option.map_eq_some_iff] at hi
 obtain ⟨i, hi, he⟩ := hi
 simp only [Prod.mk.injEq] at he
 obtain ⟨rfl, rfl, e3⟩ := he
 obtain ⟨hl, ⟨rfl, A, c, rfl⟩ | ⟨a, c, rfl, hnews⟩⟩ := hy
 ·have hn : news = [] := List.eq_nil_of_length_eq_zero (by simpa using hl)
  subst hn
  refine ⟨.slice (some ⟨b, 0, none⟩) 0 0, w, ?_, ⟨by simp, .inr ⟨b, 0, 0, cur, rfl, hb, hcur, Nat.le_refl _, Nat.zero_le _, by omega, by simp⟩⟩, Below.refl _ _⟩
  cases A <;> simp [Builtin.append_, run_underlying ht, sizeOf, typeInfo, hi, Builtin.lenOf, Builtin.firstCells, loadCells, loadCellsFrom, storeCells]
 ·by_cases h0 : 0 < m
  ·have hr := run_append_grow (P := P) (w := w) t ty e i z ht hi e3 ⟨b, 0, none⟩ 0 0 [] (by simp) (fun j v h => by simp at h) a m c news hl hnews (by omega) (by simp only [maxLen] at h63; omega) (growslice_fits (by omega) (by simpa using hbytes))
   have hge := grownCap_ge w (0 + m) 0 e
   have hcm' : grownCap w (0 + m) 0 e ≤ maxLen := grownCap_le_maxLen w (0 + m) 0 e (by simpa using h63)
   refine ⟨_, _, hr, ⟨hl, .inr ⟨w.heap.size, 0, _, _, by rw [Nat.zero_add], hbase, heap_alloc_new w.drew _, by simpa using hge, by simpa using hcm', ?_, ?_⟩⟩, ⟨rfl, rfl, rfl, by simp, fun k hk => by first | exact heap_alloc_old w.drew _ hk | exact heap_alloc_old w.drew _ k hk⟩⟩
   ·simp only [Array.size_append, List.size_toArray, size_zeroCells, hzs, hl, List.length_nil, Nat.zero_add]
    rw [← Nat.add_mul]
    apply Nat.mul_le_mul_right
    have hge' : m ≤ grownCap w m 0 e := by simpa using hge
    omega
   ·simp only [Array.toList_append, List.append_assoc, List.drop_zero, List.nil_append]
    rw [← hl]
    exact List.take_left
  ·obtain rfl : m = 0 := by omega
   have hn : news = [] := List.eq_nil_of_length_eq_zero (by simpa using hl)
   subst hn
   refine ⟨.slice (some ⟨b, 0, none⟩) 0 0, w, ?_, ⟨by simp, .inr ⟨b, 0, 0, cur, rfl, hb, hcur, Nat.le_refl _, Nat.zero_le _, by omega, by simp⟩⟩, Below.refl _ _⟩
   simp [Builtin.append_, run_underlying ht, sizeOf, typeInfo, hi, Builtin.lenOf, Builtin.firstCells, loadCells, loadCellsFrom, storeCells]
theorem wl_append0 {P : Program} {ops : Array Oper} {rest : List Oper} {o : Oper} {a : Act} {Q : Exit → Act → World → Prop} {w : World} {base b : Nat} {cur : Array Value} (t e : TypeId) (z : Value) (size bytes : Nat) {s x : Operand}
  (hw : Region.wanted o (yielded ops a.tmps) = true) (ho : o.op = .call { callee := .builtin .append, args := #[s, x], argTypes := #[t, t] }) (ht : P.underlying t = some (.slice e)) (hi : (P.info? e).map (fun i => (i.size, i.bytes, i.zero)) = some (size, bytes, some z))
  (hzs : z.cells.size = size) {y : Value} {m : Nat} {news : List Value} (hs : a.eval s = .slice (some ⟨b, 0, none⟩) 0 0) (hx : a.eval x = y) (hb : base ≤ b) (hcur : w.heap[b]? = some (.cells cur e (0, 0))) (hy : SrcAt w size y m news) 
  (h63 : m ≤ maxLen) (hbytes : m * bytes ≤ 140737488355328) (hbase : base ≤ w.heap.size)
  (h : ∀ v' w', ownsAt w' base e size v' m news → Below w.heap.size w w' → wpList P ops Q rest (a.put o.dst v') w') : wpList P ops Q (o :: rest) a w := by
 obtain ⟨v', w', hr, h2, h3⟩ := run_append0 (P := P) (ty := o.type) ht hi hzs hb hcur hy h63 hbytes hbase
 unfold wpList
 rw [if_pos hw]
 refine .inl ?_
 unfold Oper.wp execOp
 simp only [ho, resolve, invoke, builtin, Sem.run_bind, Sem.run_pure, Result.andThen_ok, List.map_toArray, List.map_cons, List.map_nil, hs, hx, hr]
 exact h v' w' h2 h3
theorem val_holeT {T : List Nat} {vs : List Value} {x : Nat → Value} {k : Nat} {u : Value} (ht : T.contains k = false) (h : vs.getD k undef = u) : AnyOrder.val_ T vs x k = u := by unfold AnyOrder.val_; rw [ht]; exact h
theorem bos_len (l : List Bool) : (bos l).length = l.length := by unfold bos; rw [List.length_map]
def sternpostref15_Queue_Fork.R (wb : World) (q : RQ) (j : Nat) (W : World) (v : Value) : Prop :=
 if j = 16 then ∃ b cur, v = .slice (some ⟨b, 0, none⟩) 0 0 ∧ wb.heap.size ≤ b ∧ W.heap[b]? = some (.cells cur 4 (0, 0))
 else if j = 21 then ownsAt W wb.heap.size 4 1 v q.got.length (bos q.got)
 else if j = 22 then ∃ r, v = .agg (cellsR q r) ∧ ownsAt W wb.heap.size 4 1 r q.got.length (bos q.got)
 else ∃ g', v = .pointer (some ⟨g', 0, none⟩) ∧ wb.heap.size ≤ g' ∧ RefAt W wb.heap.size wb.heap.size g' q
theorem sternpostref15_Queue_Fork.R_keep {wb : World} {q : RQ} {j : Nat} {W W' : World} {v : Value} (hb : Below W.heap.size W W') (h : sternpostref15_Queue_Fork.R wb q j W v) : sternpostref15_Queue_Fork.R wb q j W' v := by
 unfold sternpostref15_Queue_Fork.R at h ⊢
 split
 ·rename_i h1; rw [if_pos h1] at h; obtain ⟨b, cur, h1, h2, h3⟩ := h; exact ⟨b, cur, h1, h2, blk_below h3 hb⟩
 ·rename_i h1; rw [if_neg h1] at h
  split
  ·rename_i h1; rw [if_pos h1] at h; exact ownsAt_below h hb
  ·rename_i h1; rw [if_neg h1] at h
   split
   ·rename_i h1; rw [if_pos h1] at h; obtain ⟨r, h1, h2⟩ := h; exact ⟨r, h1, ownsAt_below h2 hb⟩
   ·rename_i h1; rw [if_neg h1] at h; obtain ⟨g', h1, h2, h3⟩ := h; exact ⟨g', h1, h2, h3.kept hb⟩
set_option maxHeartbeats 4000000 in
set_option maxRecDepth 100000 in
theorem sternpostref15_Queue_Fork.callsR (g top : Nat) (q : RQ) (w0 w : World) (hI : RefAt w w0.heap.size top g q) (hB : Below w0.heap.size w0 w) (hn : q.got.length ≤ 1000000) :
  Calls Try.prog 22 #[.pointer (some ⟨g, 0, none⟩)] w fun e w' => ∃ g', e = .returned (.pointer (some ⟨g', 0, none⟩)) ∧ RefAt w' w0.heap.size w.heap.size g' q ∧ Below w0.heap.size w0 w' ∧ Below w.heap.size w w' ∧ w.heap.size ≤ g' := by
 have HI := Aside0.mk hI
 have HB := Aside0.mk hB
 have HN := Aside0.mk hn
 clear hI hB hn
 obtain ⟨Az, cz, ⟨hbg, hge⟩, ⟨hle, hcm⟩, ⟨hc0, hc1, hc2, hc3, hc4⟩, ⟨hf0, hf1, hf2, hf3, hf4⟩, HQ⟩ := HI.out.cell
 have HQ_ := Aside0.mk HQ
 have HSZ := Aside0.mk HB.out.size
 have R_keep_ : ∀ {j : Nat} {W1 W2 : World} {v : Value}, Below W1.heap.size W1 W2 → sternpostref15_Queue_Fork.R w q j W1 v → sternpostref15_Queue_Fork.R w q j W2 v := sternpostref15_Queue_Fork.R_keep
 go_enter Try.func22, Try.ntmps22
 go_upto_region 1 with fail
 have same : ∀ (ph : Nat) W', Below w.heap.size w W' → Below W'.heap.size W' W' := fun _ W' _ => Below.refl _ _
 refine AnyEvents.region_then (P := Try.prog) 24 (E := []) (C := fun (_ : Nat) W' => Below w.heap.size w W') (G := fun _ _ W1_ W2_ => Below W1_.heap.size W1_ W2_) (T := [16, 21, 22, 23]) (R := fun _ => sternpostref15_Queue_Fork.R w q) (vs := [?v26_0, ?v26_1, ?v26_2, ?v26_3, ?v26_4, ?v26_5, ?v26_6, ?v26_7, ?v26_8, ?v26_9, ?v26_10, ?v26_11, ?v26_12, ?v26_13, ?v26_14, ?v26_15, undef, ?v26_17, ?v26_18, ?v26_19, ?v26_20, undef, undef, undef]) (by kernel_rfl) (by kernel_rfl) rfl (by kernel_rfl) ?hc26r same (fun _ _ _ _ _ _ _ hg h => R_keep_ hg h) (fun _ h => nomatch h) (fun x => ?obs26r) ?fin26r
 case hc26r => exact ⟨rfl, rfl, rfl, Nat.le_refl _, fun _ _ => rfl⟩
 case obs26r =>
  refine AnyEvents.obs_cons ?v26_0 (val_holeT rfl (by simp only [List.getD_cons_zero, List.getD_cons_succ])) (AnyEvents.ob_plain (v := ?v26_0) rfl rfl rfl same (by simp only [List.getD_cons_zero, List.getD_cons_succ]) (fun ph W' hwn hW => ?_)) ?_
  ·have z0 := pw_cell_below hW hc0; have z1 := pw_cell_below hW hc1; have z2 := pw_cell_below hW hc2; have z3 := pw_cell_below hW hc3; have z4 := pw_cell_below hW hc4; first | (go_simp; done) | (go_simp; (try simp only [i64_w]); rfl) | (go_simp; simp; rfl)
  try simp only [Act.put, List.setIfInBounds_toArray, List.set_cons_zero, List.set_cons_succ]
  refine AnyEvents.obs_cons ?v26_1 (val_holeT rfl (by simp only [List.getD_cons_zero, List.getD_cons_succ])) (AnyEvents.ob_plain (v := ?v26_1) rfl rfl rfl same (by simp only [List.getD_cons_zero, List.getD_cons_succ]) (fun ph W' hwn hW => ?_)) ?_
  ·have z0 := pw_cell_below hW hc0; have z1 := pw_cell_below hW hc1; have z2 := pw_cell_below hW hc2; have z3 := pw_cell_below hW hc3; have z4 := pw_cell_below hW hc4; first | (go_simp; done) | (go_simp; (try simp only [i64_w]); rfl) | (go_simp; simp; rfl)
  try simp only [Act.put, List.setIfInBounds_toArray, List.set_cons_zero, List.set_cons_succ]
  refine AnyEvents.obs_cons ?v26_2 (val_holeT rfl (by simp only [List.getD_cons_zero, List.getD_cons_succ])) (AnyEvents.ob_plain (v := ?v26_2) rfl rfl rfl same (by simp only [List.getD_cons_zero, List.getD_cons_succ]) (fun ph W' hwn hW => ?_)) ?_
  ·have z0 := pw_cell_below hW hc0; have z1 := pw_cell_below hW hc1; have z2 := pw_cell_below hW hc2; have z3 := pw_cell_below hW hc3; have z4 := pw_cell_below hW hc4; first | (go_simp; done) | (go_simp; (try simp only [i64_w]); rfl) | (go_simp; simp; rfl)
  try simp only [Act.put, List.setIfInBounds_toArray, List.set_cons_zero, List.set_cons_succ]
  refine AnyEvents.obs_cons ?v26_3 (val_holeT rfl (by simp only [List.getD_cons_zero, List.getD_cons_succ])) (AnyEvents.ob_plain (v := ?v26_3) rfl rfl rfl same (by simp only [List.getD_cons_zero, List.getD_cons_succ]) (fun ph W' hwn hW => ?_)) ?_
  ·have z0 := pw_cell_below hW hc0; have z1 := pw_cell_below hW hc1; have z2 := pw_cell_below hW hc2; have z3 := pw_cell_below hW hc3; have z4 := pw_cell_below hW hc4; first | (go_simp; done) | (go_simp; (try simp only [i64_w]); rfl) | (go_simp; simp; rfl)
  try simp only [Act.put, List.setIfInBounds_toArray, List.set_cons_zero, List.set_cons_succ]
  refine AnyEvents.obs_cons ?v26_4 (val_holeT rfl (by simp only [List.getD_cons_zero, List.getD_cons_succ])) (AnyEvents.ob_plain (v := ?v26_4) rfl rfl rfl same (by simp only [List.getD_cons_zero, List.getD_cons_succ]) (fun ph W' hwn hW => ?_)) ?_
  ·have z0 := pw_cell_below hW hc0; have z1 := pw_cell_below hW hc1; have z2 := pw_cell_below hW hc2; have z3 := pw_cell_below hW hc3; have z4 := pw_cell_below hW hc4; first | (go_simp; done) | (go_simp; (try simp only [i64_w]); rfl) | (go_simp; simp; rfl)
  try simp only [Act.put, List.setIfInBounds_toArray, List.set_cons_zero, List.set_cons_succ]
  refine AnyEvents.obs_cons ?v26_5 (val_holeT rfl (by simp only [List.getD_cons_zero, List.getD_cons_succ])) (AnyEvents.ob_plain (v := ?v26_5) rfl rfl rfl same (by simp only [List.getD_cons_zero, List.getD_cons_succ]) (fun ph W' hwn hW => ?_)) ?_
  ·have z0 := pw_cell_below hW hc0; have z1 := pw_cell_below hW hc1; have z2 := pw_cell_below hW hc2; have z3 := pw_cell_below hW hc3; have z4 := pw_cell_below hW hc4; first | (go_simp; done) | (go_simp; (try simp only [i64_w]); rfl) | (go_simp; simp; rfl)
  try simp only [Act.put, List.setIfInBounds_toArray, List.set_cons_zero, List.set_cons_succ]
  refine AnyEvents.obs_cons ?v26_6 (val_holeT rfl (by simp only [List.getD_cons_zero, List.getD_cons_succ])) (AnyEvents.ob_plain (v := ?v26_6) rfl rfl rfl same (by simp only [List.getD_cons_zero, List.getD_cons_succ]) (fun ph W' hwn hW => ?_)) ?_
  ·have z0 := pw_cell_below hW hc0; have z1 := pw_cell_below hW hc1; have z2 := pw_cell_below hW hc2; have z3 := pw_cell_below hW hc3; have z4 := pw_cell_below hW hc4; first | (go_simp; done) | (go_simp; (try simp only [i64_w]); rfl) | (go_simp; simp; rfl)
  try simp only [Act.put, List.setIfInBounds_toArray, List.set_cons_zero, List.set_cons_succ]
  refine AnyEvents.obs_cons ?v26_7 (val_holeT rfl (by simp only [List.getD_cons_zero, List.getD_cons_succ])) (AnyEvents.ob_plain (v := ?v26_7) rfl rfl rfl same (by simp only [List.getD_cons_zero, List.getD_cons_succ]) (fun ph W' hwn hW => ?_)) ?_
  ·have z0 := pw_cell_below hW hc0; have z1 := pw_cell_below hW hc1; have z2 := pw_cell_below hW hc2; have z3 := pw_cell_below hW hc3; have z4 := pw_cell_below hW hc4; first | (go_simp; done) | (go_simp; (try simp only [i64_w]); rfl) | (go_simp; simp; rfl)
  try simp only [Act.put, List.setIfInBounds_toArray, List.set_cons_zero, List.set_cons_succ]
  refine AnyEvents.obs_cons ?v26_8 (val_holeT rfl (by simp only [List.getD_cons_zero, List.getD_cons_succ])) (AnyEvents.ob_plain (v := ?v26_8) rfl rfl rfl same (by simp only [List.getD_cons_zero, List.getD_cons_succ]) (fun ph W' hwn hW => ?_)) ?_
  ·have z0 := pw_cell_below hW hc0; have z1 := pw_cell_below hW hc1; have z2 := pw_cell_below hW hc2; have z3 := pw_cell_below hW hc3; have z4 := pw_cell_below hW hc4; first | (go_simp; done) | (go_simp; (try simp only [i64_w]); rfl) | (go_simp; simp; rfl)
  try simp only [Act.put, List.setIfInBounds_toArray, List.set_cons_zero, List.set_cons_succ]
  refine AnyEvents.obs_cons ?v26_9 (val_holeT rfl (by simp only [List.getD_cons_zero, List.getD_cons_succ])) (AnyEvents.ob_plain (v := ?v26_9) rfl rfl rfl same (by simp only [List.getD_cons_zero, List.getD_cons_succ]) (fun ph W' hwn hW => ?_)) ?_
  ·have z0 := pw_cell_below hW hc0; have z1 := pw_cell_below hW hc1; have z2 := pw_cell_below hW hc2; have z3 := pw_cell_below hW hc3; have z4 := pw_cell_below hW hc4; first | (go_simp; done) | (go_simp; (try simp only [i64_w]); rfl) | (go_simp; simp; rfl)
  try simp only [Act.put, List.setIfInBounds_toArray, List.set_cons_zero, List.set_cons_succ]
  refine AnyEvents.obs_cons ?v26_10 (val_holeT rfl (by simp only [List.getD_cons_zero, List.getD_cons_succ])) (AnyEvents.ob_plain (v := ?v26_10) rfl rfl rfl same (by simp only [List.getD_cons_zero, List.getD_cons_succ]) (fun ph W' hwn hW => ?_)) ?_
  ·have z0 := pw_cell_below hW hc0; have z1 := pw_cell_below hW hc1; have z2 := pw_cell_below hW hc2; have z3 := pw_cell_below hW hc3; have z4 := pw_cell_below hW hc4; first | (go_simp; done) | (go_simp; (try simp only [i64_w]); rfl) | (go_simp; simp; rfl)
  try simp only [Act.put, List.setIfInBounds_toArray, List.set_cons_zero, List.set_cons_succ]
  refine AnyEvents.obs_cons ?v26_11 (val_holeT rfl (by simp only [List.getD_cons_zero, List.getD_cons_succ])) (AnyEvents.ob_plain (v := ?v26_11) rfl rfl rfl same (by simp only [List.getD_cons_zero, List.getD_cons_succ]) (fun ph W' hwn hW => ?_)) ?_
  ·have z0 := pw_cell_below hW hc0; have z1 := pw_cell_below hW hc1; have z2 := pw_cell_below hW hc2; have z3 := pw_cell_below hW hc3; have z4 := pw_cell_below hW hc4; first | (go_simp; done) | (go_simp; (try simp only [i64_w]); rfl) | (go_simp; simp; rfl)
  try simp only [Act.put, List.setIfInBounds_toArray, List.set_cons_zero, List.set_cons_succ]
  refine AnyEvents.obs_cons ?v26_12 (val_holeT rfl (by simp only [List.getD_cons_zero, List.getD_cons_succ])) (AnyEvents.ob_plain (v := ?v26_12) rfl rfl rfl same (by simp only [List.getD_cons_zero, List.getD_cons_succ]) (fun ph W' hwn hW => ?_)) ?_
  ·have z0 := pw_cell_below hW hc0; have z1 := pw_cell_below hW hc1; have z2 := pw_cell_below hW hc2; have z3 := pw_cell_below hW hc3; have z4 := pw_cell_below hW hc4; first | (go_simp; done) | (go_simp; (try simp only [i64_w]); rfl) | (go_simp; simp; rfl)
  try simp only [Act.put, List.setIfInBounds_toArray, List.set_cons_zero, List.set_cons_succ]
  refine AnyEvents.obs_cons ?v26_13 (val_holeT rfl (by simp only [List.getD_cons_zero, List.getD_cons_succ])) (AnyEvents.ob_plain (v := ?v26_13) rfl rfl rfl same (by simp only [List.getD_cons_zero, List.getD_cons_succ]) (fun ph W' hwn hW => ?_)) ?_
  ·have z0 := pw_cell_below hW hc0; have z1 := pw_cell_below hW hc1; have z2 := pw_cell_below hW hc2; have z3 := pw_cell_below hW hc3; have z4 := pw_cell_below hW hc4; first | (go_simp; done) | (go_simp; (try simp only [i64_w]); rfl) | (go_simp; simp; rfl)
  try simp only [Act.put, List.setIfInBounds_toArray, List.set_cons_zero, List.set_cons_succ]
  refine AnyEvents.obs_cons ?v26_14 (val_holeT rfl (by simp only [List.getD_cons_zero, List.getD_cons_succ])) (AnyEvents.ob_plain (v := ?v26_14) rfl rfl rfl same (by simp only [List.getD_cons_zero, List.getD_cons_succ]) (fun ph W' hwn hW => ?_)) ?_
  ·have z0 := pw_cell_below hW hc0; have z1 := pw_cell_below hW hc1; have z2 := pw_cell_below hW hc2; have z3 := pw_cell_below hW hc3; have z4 := pw_cell_below hW hc4; first | (go_simp; done) | (go_simp; (try simp only [i64_w]); rfl) | (go_simp; simp; rfl)
  try simp only [Act.put, List.setIfInBounds_toArray, List.set_cons_zero, List.set_cons_succ]
  refine AnyEvents.obs_cons ?v26_15 (val_holeT rfl (by simp only [List.getD_cons_zero, List.getD_cons_succ])) (AnyEvents.ob_plain (v := ?v26_15) rfl rfl rfl same (by simp only [List.getD_cons_zero, List.getD_cons_succ]) (fun ph W' hwn hW => ?_)) ?_
  ·have z0 := pw_cell_below hW hc0; have z1 := pw_cell_below hW hc1; have z2 := pw_cell_below hW hc2; have z3 := pw_cell_below hW hc3; have z4 := pw_cell_below hW hc4; first | (go_simp; done) | (go_simp; (try simp only [i64_w]); rfl) | (go_simp; simp; rfl)
  try simp only [Act.put, List.setIfInBounds_toArray, List.set_cons_zero, List.set_cons_succ]
  refine AnyEvents.obs_cons (x 16) rfl (AnyEvents.ob_hand rfl (fun ph W' hwn hW ht => ?_)) ?_
  ·have hb := below_alloc (Below.refl W'.heap.size W') (Obj.cells #[] 4)
   refine res_ok (v := .slice (some ⟨W'.heap.size, 0, none⟩) 0 0) (w' := W'.alloc (.cells #[] 4)) (by first | (go_simp; done) | (go_simp; rfl)) ⟨below_step hW hb, hb, ?_⟩
   rw [if_pos (by decide)]; unfold sternpostref15_Queue_Fork.R; rw [if_pos rfl]
   exact ⟨_, _, rfl, hW.size, blk_new _ _⟩
  try simp only [Act.put, List.setIfInBounds_toArray, List.set_cons_zero, List.set_cons_succ]
  refine AnyEvents.obs_cons ?v26_17 (val_holeT rfl (by simp only [List.getD_cons_zero, List.getD_cons_succ])) (AnyEvents.ob_plain (v := ?v26_17) rfl rfl rfl same (by simp only [List.getD_cons_zero, List.getD_cons_succ]) (fun ph W' hwn hW => ?_)) ?_
  ·have z0 := pw_cell_below hW hc0; have z1 := pw_cell_below hW hc1; have z2 := pw_cell_below hW hc2; have z3 := pw_cell_below hW hc3; have z4 := pw_cell_below hW hc4; first | (go_simp; done) | (go_simp; (try simp only [i64_w]); rfl) | (go_simp; simp; rfl)
  try simp only [Act.put, List.setIfInBounds_toArray, List.set_cons_zero, List.set_cons_succ]
  refine AnyEvents.obs_cons ?v26_18 (val_holeT rfl (by simp only [List.getD_cons_zero, List.getD_cons_succ])) (AnyEvents.ob_plain (v := ?v26_18) rfl rfl rfl same (by simp only [List.getD_cons_zero, List.getD_cons_succ]) (fun ph W' hwn hW => ?_)) ?_
  ·have z0 := pw_cell_below hW hc0; have z1 := pw_cell_below hW hc1; have z2 := pw_cell_below hW hc2; have z3 := pw_cell_below hW hc3; have z4 := pw_cell_below hW hc4; first | (go_simp; done) | (go_simp; (try simp only [i64_w]); rfl) | (go_simp; simp; rfl)
  try simp only [Act.put, List.setIfInBounds_toArray, List.set_cons_zero, List.set_cons_succ]
  refine AnyEvents.obs_cons ?v26_19 (val_holeT rfl (by simp only [List.getD_cons_zero, List.getD_cons_succ])) (AnyEvents.ob_plain (v := ?v26_19) rfl rfl rfl same (by simp only [List.getD_cons_zero, List.getD_cons_succ]) (fun ph W' hwn hW => ?_)) ?_
  ·have z0 := pw_cell_below hW hc0; have z1 := pw_cell_below hW hc1; have z2 := pw_cell_below hW hc2; have z3 := pw_cell_below hW hc3; have z4 := pw_cell_below hW hc4; first | (go_simp; done) | (go_simp; (try simp only [i64_w]); rfl) | (go_simp; simp; rfl)
  try simp only [Act.put, List.setIfInBounds_toArray, List.set_cons_zero, List.set_cons_succ]
  refine AnyEvents.obs_cons ?v26_20 (val_holeT rfl (by simp only [List.getD_cons_zero, List.getD_cons_succ])) (AnyEvents.ob_plain (v := ?v26_20) rfl rfl rfl same (by simp only [List.getD_cons_zero, List.getD_cons_succ]) (fun ph W' hwn hW => ?_)) ?_
  ·have z0 := pw_cell_below hW hc0; have z1 := pw_cell_below hW hc1; have z2 := pw_cell_below hW hc2; have z3 := pw_cell_below hW hc3; have z4 := pw_cell_below hW hc4; first | (go_simp; done) | (go_simp; (try simp only [i64_w]); rfl) | (go_simp; simp; rfl)
  try simp only [Act.put, List.setIfInBounds_toArray, List.set_cons_zero, List.set_cons_succ]
  refine AnyEvents.obs_cons (x 21) rfl (AnyEvents.ob_hand rfl (fun ph W' hwn hW ht => ?_)) ?_
  ·have h1 := ht 16 _ _ rfl rfl (by decide) (by kernel_rfl)
   unfold sternpostref15_Queue_Fork.R at h1; rw [if_pos rfl] at h1
   obtain ⟨b, cur, e1, e2, e3⟩ := h1
   obtain ⟨v', w', hr, ho, hb⟩ := run_append0 (P := Try.prog) (w := W') (base := w.heap.size) (b := b) (cur := cur) (t := 59) (ty := 59) (e := 4) (z := .bool false) (size := 1) (bytes := 1) Try.underlying59 (by kernel_rfl) rfl e2 e3 (SrcAt.own (ownsAt_below HQ_.out hW)) (by have := HN.out; simp only [maxLen]; omega) (by have := HN.out; omega) hW.size
   refine res_ok (exec_append' rfl e1 rfl hr) ⟨below_step hW hb, hb, ?_⟩
   rw [if_pos (by decide)]; unfold sternpostref15_Queue_Fork.R; rw [if_neg (by decide), if_pos rfl]
   exact ho
  try simp only [Act.put, List.setIfInBounds_toArray, List.set_cons_zero, List.set_cons_succ]
  refine AnyEvents.obs_cons (x 22) rfl (AnyEvents.ob_hand rfl (fun ph W' hwn hW ht => ?_)) ?_
  ·have h1 := ht 21 _ _ rfl rfl (by decide) (by kernel_rfl)
   unfold sternpostref15_Queue_Fork.R at h1; rw [if_neg (by decide), if_pos rfl] at h1
   obtain ⟨Ax, cx, ex, _⟩ := ownsAt_len h1
   rw [ex] at h1
   refine res_ok (v := .agg (cellsR q (.slice Ax q.got.length cx))) (w' := W') (by rw [ex]; first | (go_simp; done) | (go_simp; rfl)) ⟨hW, Below.refl _ _, ?_⟩
   rw [if_pos (by decide)]; unfold sternpostref15_Queue_Fork.R; rw [if_neg (by decide), if_neg (by decide), if_pos rfl]
   exact ⟨_, rfl, h1⟩
  try simp only [Act.put, List.setIfInBounds_toArray, List.set_cons_zero, List.set_cons_succ]
  refine AnyEvents.obs_cons (x 23) rfl (AnyEvents.ob_hand rfl (fun ph W' hwn hW ht => ?_)) ?_
  ·have h1 := ht 22 _ _ rfl rfl (by decide) (by kernel_rfl)
   unfold sternpostref15_Queue_Fork.R at h1; rw [if_neg (by decide), if_neg (by decide), if_pos rfl] at h1
   obtain ⟨r, e1, ho⟩ := h1
   have hb := below_alloc (Below.refl W'.heap.size W') (Obj.cells (cellsR q r) 61)
   refine res_ok (v := .pointer (some ⟨W'.heap.size, 0, none⟩)) (w' := W'.alloc (.cells (cellsR q r) 61)) (by rw [e1]; first | (go_simp; done) | (go_simp; rfl)) ⟨below_step hW hb, hb, ?_⟩
   rw [if_pos (by decide)]; unfold sternpostref15_Queue_Fork.R; rw [if_neg (by decide), if_neg (by decide), if_neg (by decide)]
   exact ⟨_, rfl, hW.size, _, blk_new _ _, hW.size, ownsAt_below ho hb⟩
  try simp only [Act.put, List.setIfInBounds_toArray, List.set_cons_zero, List.set_cons_succ]
  trivial
 case fin26r =>
  intro x W' hD hR
  simp only [List.take_succ_cons, List.take_zero, List.drop_succ_cons, List.drop_zero]
  rw [AnyOrder.lexAt_cons ?v26_0 (val_holeT rfl (by simp only [List.getD_cons_zero, List.getD_cons_succ]))]
  try simp only [Act.put, List.setIfInBounds_toArray, List.set_cons_zero, List.set_cons_succ]
  rw [AnyOrder.lexAt_cons ?v26_1 (val_holeT rfl (by simp only [List.getD_cons_zero, List.getD_cons_succ]))]
  try simp only [Act.put, List.setIfInBounds_toArray, List.set_cons_zero, List.set_cons_succ]
  rw [AnyOrder.lexAt_cons ?v26_2 (val_holeT rfl (by simp only [List.getD_cons_zero, List.getD_cons_succ]))]
  try simp only [Act.put, List.setIfInBounds_toArray, List.set_cons_zero, List.set_cons_succ]
  rw [AnyOrder.lexAt_cons ?v26_3 (val_holeT rfl (by simp only [List.getD_cons_zero, List.getD_cons_succ]))]
  try simp only [Act.put, List.setIfInBounds_toArray, List.set_cons_zero, List.set_cons_succ]
  rw [AnyOrder.lexAt_cons ?v26_4 (val_holeT rfl (by simp only [List.getD_cons_zero, List.getD_cons_succ]))]
  try simp only [Act.put, List.setIfInBounds_toArray, List.set_cons_zero, List.set_cons_succ]
  rw [AnyOrder.lexAt_cons ?v26_5 (val_holeT rfl (by simp only [List.getD_cons_zero, List.getD_cons_succ]))]
  try simp only [Act.put, List.setIfInBounds_toArray, List.set_cons_zero, List.set_cons_succ]
  rw [AnyOrder.lexAt_cons ?v26_6 (val_holeT rfl (by simp only [List.getD_cons_zero, List.getD_cons_succ]))]
  try simp only [Act.put, List.setIfInBounds_toArray, List.set_cons_zero, List.set_cons_succ]
  rw [AnyOrder.lexAt_cons ?v26_7 (val_holeT rfl (by simp only [List.getD_cons_zero, List.getD_cons_succ]))]
  try simp only [Act.put, List.setIfInBounds_toArray, List.set_cons_zero, List.set_cons_succ]
  rw [AnyOrder.lexAt_cons ?v26_8 (val_holeT rfl (by simp only [List.getD_cons_zero, List.getD_cons_succ]))]
  try simp only [Act.put, List.setIfInBounds_toArray, List.set_cons_zero, List.set_cons_succ]
  rw [AnyOrder.lexAt_cons ?v26_9 (val_holeT rfl (by simp only [List.getD_cons_zero, List.getD_cons_succ]))]
  try simp only [Act.put, List.setIfInBounds_toArray, List.set_cons_zero, List.set_cons_succ]
  rw [AnyOrder.lexAt_cons ?v26_10 (val_holeT rfl (by simp only [List.getD_cons_zero, List.getD_cons_succ]))]
  try simp only [Act.put, List.setIfInBounds_toArray, List.set_cons_zero, List.set_cons_succ]
  rw [AnyOrder.lexAt_cons ?v26_11 (val_holeT rfl (by simp only [List.getD_cons_zero, List.getD_cons_succ]))]
  try simp only [Act.put, List.setIfInBounds_toArray, List.set_cons_zero, List.set_cons_succ]
  rw [AnyOrder.lexAt_cons ?v26_12 (val_holeT rfl (by simp only [List.getD_cons_zero, List.getD_cons_succ]))]
  try simp only [Act.put, List.setIfInBounds_toArray, List.set_cons_zero, List.set_cons_succ]
  rw [AnyOrder.lexAt_cons ?v26_13 (val_holeT rfl (by simp only [List.getD_cons_zero, List.getD_cons_succ]))]
  try simp only [Act.put, List.setIfInBounds_toArray, List.set_cons_zero, List.set_cons_succ]
  rw [AnyOrder.lexAt_cons ?v26_14 (val_holeT rfl (by simp only [List.getD_cons_zero, List.getD_cons_succ]))]
  try simp only [Act.put, List.setIfInBounds_toArray, List.set_cons_zero, List.set_cons_succ]
  rw [AnyOrder.lexAt_cons ?v26_15 (val_holeT rfl (by simp only [List.getD_cons_zero, List.getD_cons_succ]))]
  try simp only [Act.put, List.setIfInBounds_toArray, List.set_cons_zero, List.set_cons_succ]
  rw [AnyOrder.lexAt_cons (x 16) rfl]
  try simp only [Act.put, List.setIfInBounds_toArray, List.set_cons_zero, List.set_cons_succ]
  rw [AnyOrder.lexAt_cons ?v26_17 (val_holeT rfl (by simp only [List.getD_cons_zero, List.getD_cons_succ]))]
  try simp only [Act.put, List.setIfInBounds_toArray, List.set_cons_zero, List.set_cons_succ]
  rw [AnyOrder.lexAt_cons ?v26_18 (val_holeT rfl (by simp only [List.getD_cons_zero, List.getD_cons_succ]))]
  try simp only [Act.put, List.setIfInBounds_toArray, List.set_cons_zero, List.set_cons_succ]
  rw [AnyOrder.lexAt_cons ?v26_19 (val_holeT rfl (by simp only [List.getD_cons_zero, List.getD_cons_succ]))]
  try simp only [Act.put, List.setIfInBounds_toArray, List.set_cons_zero, List.set_cons_succ]
  rw [AnyOrder.lexAt_cons ?v26_20 (val_holeT rfl (by simp only [List.getD_cons_zero, List.getD_cons_succ]))]
  try simp only [Act.put, List.setIfInBounds_toArray, List.set_cons_zero, List.set_cons_succ]
  rw [AnyOrder.lexAt_cons (x 21) rfl]
  try simp only [Act.put, List.setIfInBounds_toArray, List.set_cons_zero, List.set_cons_succ]
  rw [AnyOrder.lexAt_cons (x 22) rfl]
  try simp only [Act.put, List.setIfInBounds_toArray, List.set_cons_zero, List.set_cons_succ]
  rw [AnyOrder.lexAt_cons (x 23) rfl]
  try simp only [Act.put, List.setIfInBounds_toArray, List.set_cons_zero, List.set_cons_succ]
  rw [AnyOrder.lexAt_nil]
  clear same
  have h23 := hR 23 _ _ (by decide) rfl rfl (by decide)
  unfold sternpostref15_Queue_Fork.R at h23; rw [if_neg (by decide), if_neg (by decide), if_neg (by decide)] at h23
  obtain ⟨g', e23, h2, v_, h3, h4, h5⟩ := h23
  rw [e23]
  clear hR R_keep_ e23 hbg hge hle hcm hc0 hc1 hc2 hc3 hc4 hf0 hf1 hf2 hf3 hf4 HQ
  have HO := Aside0.mk h5
  have HG := Aside0.mk h3
  clear h3 h5
  go_wp2
  go_ret
  exact ⟨g', rfl, ⟨v_, HG.out, Nat.le_trans HSZ.out h2, HO.out⟩, below_step HB.out hD, hD, h2⟩


/-! ### sternpostlaw15_near: function 33 -/
def sternpostlaw15_near.f (a0 : Int) (a1 : Int) : Option (Int) := (sternpostbook_Among.f (wrap64 (a0 + (Int.tmod a1 100000))) 4294967296).bind fun t111 => (some t111)
set_option maxHeartbeats 8000000 in
set_option maxRecDepth 100000 in
theorem sternpostlaw15_near.calls (a0 : Int) (a1 : Int) (r : Int) (w : World) (h : sternpostlaw15_near.f a0 a1 = some r) :
  Calls Try.prog 33 #[.int .i64 a0, .int .i64 a1] w fun e w' => e = .returned (.int .i64 r) ∧ Drawn0 w w' := by
 have H : ((sternpostbook_Among.f (wrap64 (a0 + (Int.tmod a1 100000))) 4294967296).bind fun t111 => (some t111)) = some r := h
 clear h
 replace H := Option.bind_eq_some_iff.mp H
 obtain ⟨t111, A30, H⟩ := H
 replace H : (some t111) = some r := H
 have A3 := Aside0.mk A30
 clear A30
 obtain rfl := Option.some.inj H
 go_enter Try.func33, Try.ntmps33
 go_wp2_with (first | ((with_reducible refine gate_callee (f := 8) rfl ?_); refine goesL_ (some 9) rfl rfl Try.func8 (by kernel_rfl) rfl #[.int .i64 (wrap64 (a0 + (Int.tmod a1 100000))), .int .i64 4294967296] rfl (by (try simp only [List.map_toArray, List.map_cons, List.map_nil]); first | done | rfl | (simp only [List.length_drop, List.length_take]; rfl)) ?_; (with_reducible refine (sternpostbook_Among.calls (wrap64 (a0 + (Int.tmod a1 100000))) 4294967296 t111 _ A3.out).mono ?_); rintro e w' ⟨rfl, ⟨nd, rfl⟩⟩; refine ⟨_, rfl, ?_⟩))
 go_ret
 exact ⟨by first | rfl | (simp; done) | (simp [*]; done), by repeat (first | exact Drawn0.refl _ | apply Drawn0.step)⟩

end Go.Proofs.Ytobndcdohehhbaa.PSendqPlays

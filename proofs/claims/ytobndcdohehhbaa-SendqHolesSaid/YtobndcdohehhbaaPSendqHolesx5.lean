-- Laid by this claim's own program over the print's words.
import Derived.Test.YtobndcdohehhbaaPSendqHolesx0
import Derived.Test.YtobndcdohehhbaaPSendqHolesx1
import Derived.Test.YtobndcdohehhbaaPSendqHolesx2
import Derived.Test.YtobndcdohehhbaaPSendqHolesx3
import Derived.Test.YtobndcdohehhbaaPSendqHolesx4
namespace Go.Proofs.Ytobndcdohehhbaa.PSendqHoles
open Go.RowKit Go.Proofs.YtobndcdohehhbaaW.PrintWords Go.Proofs.YtobndcdohehhbaaW.PrintLast Go.Proofs.YtobndcdohehhbaaW.PrintMore
attribute [local go_sem] max2_int min2_int max_two min_two max_three min_three max_four min_four max_five min_five extract_cut tmod_nat_lit   -- for this text's walks alone
set_option linter.unusedVariables false
set_option linter.unusedSimpArgs false

/-! ### sternpostlaw15_SendqHoles: function 5 -/
def sternpostlaw15_SendqHoles_tail.f (k : Nat) (a0 : Int) (l1 : List S47) (a2 : Int) : Option Bool := some true
theorem sternpostlaw15_SendqHoles_tail.mono (a0 : Int) (l1 : List S47) (a2 : Int) (k : Nat) : LeO (sternpostlaw15_SendqHoles_tail.f k a0 l1 a2) (sternpostlaw15_SendqHoles_tail.f (k + 1) a0 l1 a2) := LeO.refl _
theorem among_lt {a n : Int} (hn : 0 < n) (hn2 : n < 4611686018427387904) : ∃ c : Int, sternpostbook_Among.f a n = some c ∧ 0 ≤ c ∧ c < n := by
 unfold sternpostbook_Among.f
 rw [if_neg (by omega)]
 have h1 := Int.tmod_lt_of_pos a hn
 have h2 : -n < Int.tmod a n := Int.lt_tmod_of_pos a hn
 rw [w64p (by omega) (by omega), Int.tmod_eq_emod_of_nonneg (show 0 ≤ Int.tmod a n + n by omega)]
 have h3 := Int.emod_nonneg (Int.tmod a n + n) (show n ≠ 0 by omega)
 have h4 := Int.emod_lt_of_pos (Int.tmod a n + n) hn
 exact ⟨_, rfl, h3, h4⟩
def txtN (i : Nat) : ByteArray := strOfNums ((List.range i).map (fun k : Nat => (k : Int)))
theorem txtN_size (i : Nat) : (txtN i).size = i := by unfold txtN; rw [strOfNums_size]; simp
theorem strOfNums_app (a b : List Int) : strOfNums a ++ strOfNums b = strOfNums (a ++ b) := by
 apply ByteArray.ext; unfold strOfNums; simp [ByteArray.data_append]
theorem txtN_succ (i : Nat) : txtN i ++ strOfNums [(i : Int)] = txtN (i + 1) := by
 unfold txtN; rw [strOfNums_app, List.range_succ, List.map_append]; rfl
theorem write_txt (fz : Int) : QS.write ⟨fz, 0, 200, (⟨#[]⟩ : ByteArray), []⟩ (txtN 100) = (⟨fz, 0, 200, txtN 100, []⟩, 100, 0) := by
 have hr : QS.room_ ⟨fz, 0, 200, (⟨#[]⟩ : ByteArray), []⟩ (txtN 100) = 100 := by unfold QS.room_; rw [txtN_size]; rfl
 unfold QS.write
 rw [hr, if_neg (by simp)]
 have e : cutS (txtN 100) 0 100 = txtN 100 := by
  have h := txtN_size 100
  unfold cutS
  rw [show (txtN 100).extract 0 100 = (txtN 100).extract 0 (txtN 100).size by rw [h]]
  simp
 dsimp only
 rw [e, show (⟨#[]⟩ : ByteArray) = ByteArray.empty from rfl, ByteArray.empty_append]
 rfl
theorem next_txt (fz : Int) : (QS.next ⟨fz, 0, 200, txtN 100, []⟩ 100 100).1 = ⟨fz, 100, 200, txtN 100, []⟩ := by
 have hr : QS.nextN ⟨fz, 0, 200, txtN 100, []⟩ 100 100 = 100 := by unfold QS.nextN; dsimp only; rw [txtN_size]; rfl
 unfold QS.next
 rw [hr, if_neg (by simp)]
 rfl
theorem QAt.far {w : World} {base g b k : Nat} {e : TypeId} {cs : Array Value} {q : QS} (h : QAt w base g q) (hn : g ≠ b) (hb : w.heap[b]? = some (.cells cs e (0, 0))) (he : e ≠ 73) (u : Value) : QAt (w.setCell ⟨b, k, none⟩ u) base g q := by
 obtain ⟨v, h1, h2, h3⟩ := h
 refine ⟨v, (heap_setCell_other _ _ _ _ hn).trans h1, h2, ownsAt_kept h3 (fun c cur _ hc => heap_setCell_other _ _ _ _ (fun e1 => ?_))⟩
 rw [e1, hb] at hc
 simp at hc
 exact he hc.2
abbrev QT_ (fz : Int) (ap : List (Int × Int)) : QS := ⟨fz, 100, 200, txtN 100, ap⟩
theorem note_near (fz a b : Int) (ap : List (Int × Int)) (hf : sqOk fz) (ha : 0 ≤ a ∧ a ≤ 100) (hb : 0 ≤ b ∧ b ≤ 100) : (QT_ fz ap).note ((fz + a) % 4294967296, (fz + b) % 4294967296) = QT_ fz (if a < b then addSpan (a, b) ap else ap) := by
 unfold sqOk at hf
 have ho : ∀ c : Int, 0 ≤ c ∧ c ≤ 100 → (QT_ fz ap).off ((fz + c) % 4294967296) = (c, true) := fun c hc => by
  unfold QS.off
  rw [if_pos (show sqOk _ by unfold sqOk; omega)]
  have e : ((fz + c) % 4294967296 - (QT_ fz ap).left) % 4294967296 = c := by show ((fz + c) % 4294967296 - fz) % 4294967296 = c; omega
  rw [e]
  exact congrArg (Prod.mk c) (decide_eq_true (show c ≤ 100 by omega))
 unfold QS.note
 rw [ho a ha, ho b hb]
 dsimp only
 by_cases h : a < b
 ·rw [if_pos ⟨rfl, rfl, h⟩, if_pos h]
 ·rw [if_neg (fun hh => h hh.2.2), if_neg h]
def ApOk (ap : List (Int × Int)) : Prop := SepL ap ∧ ∀ y ∈ ap, 0 ≤ y.1 ∧ y.2 ≤ 100
theorem apok_add {ap : List (Int × Int)} (h : ApOk ap) (a b : Int) (ha : 0 ≤ a) (hb : b ≤ 100) : ApOk (if a < b then addSpan (a, b) ap else ap) := by
 split
 ·rename_i hlt
  exact ⟨addSpan_sep ap (a, b) hlt h.1, addSpan_in 100 ap (a, b) ⟨ha, hb⟩ h.2⟩
 ·exact h
theorem apok_cov {ap : List (Int × Int)} (h : ApOk ap) (a b k : Int) : Cov (if a < b then addSpan (a, b) ap else ap) k ↔ (a ≤ k ∧ k < b) ∨ Cov ap k := by
 split
 ·rename_i hlt; exact cov_add k ap (a, b) hlt h.1
 ·exact ⟨.inr, fun hh => hh.resolve_left (by omega)⟩
def GotOk (ap : List (Int × Int)) (gs : List Bool) : Prop := gs.length = 100 ∧ ∀ k : Nat, k < 100 → (gs[k]? = some true ↔ Cov ap (k : Int))
def bcs (gs : List Bool) : Array Value := (gs.map Value.bool).toArray
theorem bcs_set (gs : List Bool) (k : Nat) (b : Bool) : (bcs gs).setIfInBounds k (.bool b) = bcs (gs.set k b) := by unfold bcs; simp [List.map_set]
theorem bcs_get {gs : List Bool} {k : Nat} {b : Bool} (h : gs[k]? = some b) : (bcs gs)[k]? = some (.bool b) := by unfold bcs; simp [h]
theorem got_set {gs : List Bool} {k j : Nat} (hk : k < gs.length) : (gs.set k true)[j]? = some true ↔ (j = k ∨ gs[j]? = some true) := by
 by_cases h : k = j
 ·subst h; rw [List.getElem?_set_self hk]; simp
 ·rw [List.getElem?_set_ne h]; constructor
  ·exact .inr
  ·rintro (h2 | h2); exact absurd h2.symm h; exact h2
theorem got_step {gs gs' : List Bool} {a : Int} {kn : Nat} (hl : gs'.length = 100) (hk : kn < 100) (hak : a ≤ (kn : Int)) (h : ∀ j : Nat, j < 100 → (gs'[j]? = some true ↔ ((a ≤ (j : Int) ∧ (j : Int) < (kn : Int)) ∨ gs[j]? = some true))) :
  ∀ j : Nat, j < 100 → ((gs'.set kn true)[j]? = some true ↔ ((a ≤ (j : Int) ∧ (j : Int) < ((kn + 1 : Nat) : Int)) ∨ gs[j]? = some true)) := by
 intro j hj
 rw [got_set (by omega), h j hj]
 constructor
 ·rintro (h | h | h)
  ·exact .inl (by omega)
  ·exact .inl (by omega)
  ·exact .inr h
 ·rintro (h | h)
  ·by_cases hj2 : j = kn
   ·exact .inl hj2
   ·exact .inr (.inl (by omega))
  ·exact .inr (.inr h)
theorem got_done {gs gs' : List Bool} {ap ap2 : List (Int × Int)} {a b kz : Int} (hg : GotOk ap gs) (hl : gs'.length = 100) (h : ∀ j : Nat, j < 100 → (gs'[j]? = some true ↔ ((a ≤ (j : Int) ∧ (j : Int) < kz) ∨ gs[j]? = some true))) (hk : ¬ kz < b) (hk2 : kz ≤ b ∨ kz = a) (hC : ∀ k, Cov ap2 k ↔ (a ≤ k ∧ k < b) ∨ Cov ap k) : GotOk ap2 gs' := ⟨hl, fun j hj => by
 rw [h j hj, hC, hg.2 j hj]
 have h1 : (a ≤ (j : Int) ∧ (j : Int) < kz) ↔ (a ≤ (j : Int) ∧ (j : Int) < b) := by omega
 rw [h1]⟩
theorem hole_spec (sent : Int) : ∀ (l : List (Int × Int)) (f : Int), SepL l → (∀ y ∈ l, f ≤ y.1 ∧ y.2 ≤ sent) → f ≤ sent →
  f ≤ (holeL sent f l).1 ∧ (holeL sent f l).1 ≤ sent ∧ (∀ k, f ≤ k → k < (holeL sent f l).1 → Cov l k) ∧ (∀ k, (holeL sent f l).1 ≤ k → k < (holeL sent f l).2 → ¬ Cov l k) ∧ ((holeL sent f l).2 < sent → Cov l (holeL sent f l).2) ∧ ((holeL sent f l).1 < (holeL sent f l).2 ∨ ((holeL sent f l).1 = sent ∧ (holeL sent f l).2 = sent)) ∧ (holeL sent f l).2 ≤ sent
 | [], f, _, _, hf => by
  unfold holeL
  refine ⟨Int.le_refl _, hf, fun k h1 h2 => absurd h2 (by dsimp only; omega), (fun k _ _ h => by obtain ⟨y, hy, _⟩ := h; cases hy), fun h => absurd h (by dsimp only; omega), ?_, Int.le_refl _⟩
  dsimp only; omega
 | x :: l, f, hl, hb, hf => by
  have hx := hb x List.mem_cons_self
  have hx2 := hl.2 x List.mem_cons_self
  have hxl := (List.pairwise_cons.1 hl.1).1
  have hc : ∀ (k : Int), Cov (x :: l) k ↔ (x.1 ≤ k ∧ k < x.2) ∨ Cov l k := fun k => by unfold Cov; simp
  unfold holeL
  by_cases h : f < x.1
  ·rw [if_pos h]
   refine ⟨Int.le_refl _, hf, fun k h1 h2 => absurd h2 (by dsimp only; omega), fun k h1 h2 hk => ?_, fun _ => (hc _).2 (.inl ⟨Int.le_refl _, hx2⟩), .inl h, by dsimp only; omega⟩
   obtain ⟨y, hy, hy1, hy2⟩ := hk
   dsimp only at h2
   rcases List.mem_cons.1 hy with rfl | hy
   ·omega
   ·have := hxl y hy; omega
  ·rw [if_neg h]
   obtain ⟨g1, g2, g3, g4, g5, g6, g7⟩ := hole_spec sent l x.2 hl.tail (fun y hy => ⟨by have := hxl y hy; omega, (hb y (List.mem_cons_of_mem _ hy)).2⟩) hx.2
   refine ⟨by omega, g2, fun k h1 h2 => (hc k).2 ?_, fun k h1 h2 hk => ?_, fun h2 => (hc _).2 (.inr (g5 h2)), g6, g7⟩
   ·by_cases hk : k < x.2
    ·exact .inl ⟨by omega, hk⟩
    ·exact .inr (g3 k (by omega) h2)
   ·rcases (hc k).1 hk with h3 | h3
    ·omega
    ·exact g4 k h1 h2 h3
theorem full_cov {ap : List (Int × Int)} (h : ApOk ap) (hc : ∀ k : Int, 0 ≤ k → k < 100 → Cov ap k) : ap = [(0, 100)] := by
 cases ap with
 | nil => obtain ⟨y, hy, _⟩ := hc 0 (by omega) (by omega); cases hy
 | cons y l =>
  have hy := h.1.2 y List.mem_cons_self
  have hy0 := h.2 y List.mem_cons_self
  have hyl := (List.pairwise_cons.1 h.1.1).1
  have e1 : y.1 = 0 := by
   obtain ⟨z, hz, h1, h2⟩ := hc 0 (by omega) (by omega)
   rcases List.mem_cons.1 hz with rfl | hz
   ·omega
   ·have := hyl z hz; omega
  have e2 : y.2 = 100 := by
   by_cases hlt : y.2 < 100
   ·obtain ⟨z, hz, h1, h2⟩ := hc y.2 (by omega) hlt
    rcases List.mem_cons.1 hz with rfl | hz
    ·omega
    ·have := hyl z hz; omega
   ·omega
  have e3 : l = [] := by
   cases l with
   | nil => rfl
   | cons z l => have h1 := hyl z List.mem_cons_self; have h2 := h.2 z (List.mem_cons_of_mem _ List.mem_cons_self); have h3 := h.1.2 z (List.mem_cons_of_mem _ List.mem_cons_self); omega
  rw [e3, show y = (0, 100) from Prod.ext e1 e2]
theorem hole_cases (fz mst : Int) (ap : List (Int × Int)) (h : ApOk ap) (hm : 1 ≤ mst ∧ mst ≤ 30) : ((QT_ fz ap).hole mst = (fz, (⟨#[]⟩ : ByteArray)) ∧ ∀ k : Int, 0 ≤ k → k < 100 → Cov ap k) ∨
  ∃ f te : Nat, f < te ∧ te ≤ 100 ∧ ((te : Int) - f ≤ mst) ∧ (QT_ fz ap).hole mst = ((fz + (f : Int)) % 4294967296, cutS (txtN 100) f te) ∧ (∀ k : Int, 0 ≤ k → k < f → Cov ap k) ∧ (∀ k : Int, (f : Int) ≤ k → k < te → ¬ Cov ap k) ∧ ((te : Int) - f < mst → te < 100 → Cov ap te) := by
 obtain ⟨g1, g2, g3, g4, g5, g6, g7⟩ := hole_spec 100 ap 0 h.1 h.2 (by decide)
 have he : (QT_ fz ap).hole mst = if min (holeL 100 0 ap).2 ((holeL 100 0 ap).1 + max 0 (min mst 100)) ≤ (holeL 100 0 ap).1 then (fz, (⟨#[]⟩ : ByteArray)) else ((fz + (holeL 100 0 ap).1) % 4294967296, cutS (txtN 100) (holeL 100 0 ap).1.toNat (min (holeL 100 0 ap).2 ((holeL 100 0 ap).1 + max 0 (min mst 100))).toNat) := rfl
 generalize (holeL 100 0 ap).1 = f at *
 generalize (holeL 100 0 ap).2 = t at *
 rw [he]
 by_cases hc : min t (f + max 0 (min mst 100)) ≤ f
 ·rw [if_pos hc]
  exact .inl ⟨rfl, fun k h1 h2 => g3 k h1 (by omega)⟩
 ·rw [if_neg hc]
  obtain ⟨fn, rfl⟩ := Int.eq_ofNat_of_zero_le g1
  obtain ⟨te, hto⟩ : ∃ t_ : Nat, min t ((fn : Int) + max 0 (min mst 100)) = (t_ : Int) := ⟨_, (Int.toNat_of_nonneg (show 0 ≤ min t ((fn : Int) + max 0 (min mst 100)) by omega)).symm⟩
  refine .inr ⟨fn, te, by omega, by omega, by omega, by rw [hto, Int.toNat_natCast, Int.toNat_natCast], g3, fun k h1 h2 => g4 k h1 (by omega), fun h1 h2 => ?_⟩
  have e : t = (te : Int) := by omega
  rw [e] at g5
  exact g5 (by omega)
theorem count_set : ∀ (gs : List Bool) (k : Nat), gs[k]? = some false → (gs.set k true).count false + 1 = gs.count false
 | [], k, h => by simp at h
 | b :: gs, 0, h => by simp at h; subst h; simp
 | b :: gs, k + 1, h => by
  have := count_set gs k (by simpa using h)
  simp only [List.set_cons_succ, List.count_cons]; omega
theorem got_false {gs gs' : List Bool} {f k : Nat} (hl : gs'.length = 100) (hk : f + k < 100) (hg : ¬ gs[f + k]? = some true) (h : ∀ j : Nat, j < 100 → (gs'[j]? = some true ↔ (((f : Int) ≤ (j : Int) ∧ (j : Int) < ((f + k : Nat) : Int)) ∨ gs[j]? = some true))) : gs'[f + k]? = some false := by
 have h1 : gs'[f + k]? ≠ some true := fun e => by rcases (h (f + k) hk).1 e with h2 | h2; omega; exact hg h2
 rw [List.getElem?_eq_getElem (by omega)] at h1 ⊢
 cases hb : gs'[f + k] with
 | false => rfl
 | true => rw [hb] at h1; exact absurd rfl h1
theorem cut_txt (f te k : Nat) (hto : te ≤ 100) (hk : k < te - f) (h : k < (cutS (txtN 100) f te).size) : ((cutS (txtN 100) f te)[k]'h).toNat = f + k := by
 have e : (cutS (txtN 100) f te).data[k]? = some (UInt8.ofNat (f + k)) := by
  unfold cutS txtN strOfNums
  simp only [ByteArray.data_extract, Array.getElem?_extract, List.getElem?_toArray, List.getElem?_map]
  rw [if_pos (by simp; omega)]
  rw [List.getElem?_range (by omega)]
  rfl
 have e2 : (cutS (txtN 100) f te)[k]'h = UInt8.ofNat (f + k) := by
  have h2 := Array.getElem?_eq_some_iff.1 e
  exact h2.choose_spec
 rw [e2, UInt8.toNat_ofNat']
 omega
theorem cut_txt_size (f te : Nat) (hto : te ≤ 100) : (cutS (txtN 100) f te).size = te - f := by
 have h := txtN_size 100
 unfold cutS; simp [ByteArray.size_extract]; omega
theorem idx_bcs {gs : List Bool} (hl : gs.length = 100) {j : Nat} (hj : j < 100) {b : Bool} (h : gs[j]? = some b) (w : World) : (Instr.index 45 (.agg (bcs gs)) (.int .i64 (j : Int))).run Try.prog w = .ok (.bool b) w := by
 have hp : (part 4 (bcs gs) j).run Try.prog w = .ok (.bool b) w := by
  unfold part
  rw [Sem.run_bind, Try.isAgg4]
  simp [bcs_get h]
 unfold Instr.index
 have hlt : (0 : Int) ≤ (j : Int) ∧ (j : Int) < ((100 : Nat) : Int) := by omega
 simp only [asIntOf, Sem.run_bind, Sem.run_pure, Result.andThen_ok, run_underlying Try.underlying45]
 rw [if_pos hlt, Sem.run_bind, Try.sizeOf4]
 simpa using hp
theorem idx_txt (f te k : Nat) (hto : te ≤ 100) (hk : k < te - f) (w : World) : (Instr.index 9 (.string (cutS (txtN 100) f te)) (.int .i64 (k : Int))).run Try.prog w = .ok (.int .u8 ((f + k : Nat) : Int)) w := by
 have hs := cut_txt_size f te hto
 unfold Instr.index
 simp only [asIntOf, Sem.run_bind, Sem.run_pure, Result.andThen_ok, run_underlying Try.underlying9]
 rw [if_pos (show (0 : Int) ≤ (k : Int) by omega), Int.toNat_natCast, getElem?_pos _ k (show k < (cutS (txtN 100) f te).size by omega)]
 have := cut_txt f te k hto hk (by omega)
 simp only [Sem.run_pure]
 rw [this]
theorem str_ne {s : ByteArray} (h : 0 < s.size) : s.toList.isEmpty = false := by
 rw [Lib.toList_data]
 cases hl : s.data.toList with
 | nil =>
  have : s.size = 0 := by show s.data.size = 0; rw [← Array.length_toList, hl]; rfl
  omega
 | cons _ _ => rfl

def sternpostlaw15_SendqHoles.f (k : Nat) (a0 : Int) (l1 : List (S47)) (a2 : Int) : Option (Bool) := sternpostlaw15_SendqHoles_tail.f k a0 l1 a2
theorem sternpostlaw15_SendqHoles.mono : ∀ a0 a1 a2 k, LeO (sternpostlaw15_SendqHoles.f k a0 a1 a2) (sternpostlaw15_SendqHoles.f (k + 1) a0 a1 a2) := by
 intro a0 a1 a2 k
 unfold sternpostlaw15_SendqHoles.f
 repeat' first
   | (with_reducible exact sternpostlaw15_SendqHoles_tail.mono _ _ _ _)
   | (with_reducible exact LeO.refl _)
   | (with_reducible exact LeO.none _)
   | (with_reducible refine LeO.ite ?_ ?_)
   | (with_reducible refine LeO.bind ?_ (fun _ => ?_))
   | exact sternpostlaw15_SendqHoles_tail.mono _ _ _ _
   | exact LeO.none _
   | refine LeO.ite ?_ ?_
   | refine LeO.bind ?_ (fun _ => ?_)
set_option maxHeartbeats 8000000 in
set_option maxRecDepth 100000 in
theorem sternpostlaw15_SendqHoles.calls (k : Nat) (a0 : Int) (A1 : Option Addr) (c1 : Nat) (l1 : List (S47)) (a2 : Int) (r : Bool) (w : World) (hr1 : Kd.C k47 w A1 l1.length l1) (hc1 : l1.length ≤ c1) (h : sternpostlaw15_SendqHoles.f k a0 l1 a2 = some r) (hrT_ : r = true) :
  Calls Try.prog 5 #[.int .i64 a0, .slice A1 l1.length c1, .int .i64 a2] w fun e w' => e = .returned (.bool r) ∧ Below w.heap.size w w' := by
 have hu47 := Try.underlying47
 have HR1 := Aside0.mk hr1
 have HC1 := Aside0.mk hc1
 clear hr1 hc1
 have HB := Aside0.mk (Below.refl w.heap.size w)
 have H : (sternpostlaw15_SendqHoles_tail.f k a0 l1 a2) = some r := h
 clear h
 go_enter Try.func5, Try.ntmps5
 go_upto_region 1 with fail
 -- UPTO BARE
 obtain rfl : r = true := hrT_
 clear H
 go_wp2_with fail
 refine (sternpostlaw15_works.calls _).mono ?_
 rintro e W1 ⟨rfl, hb⟩
 have HB1 := Aside0.mk (below_step HB.out hb)
 clear HB hb
 have HB := HB1
 clear HB1
 obtain ⟨fz, hfz, hf0, hf1⟩ := among_lt (a := a0) (n := 4294967296) (by decide) (by decide)
 obtain ⟨m0, hm0, hm1, hm2⟩ := among_lt (a := a2) (n := 30) (by decide) (by decide)
 have HF := Aside0.mk hfz
 have HM := Aside0.mk hm0
 have HFB := Aside0.mk (show sqOk fz by unfold sqOk; omega)
 obtain ⟨mst, hmst⟩ : ∃ m_, 1 + m0 = m_ := ⟨_, rfl⟩
 have hwm : wrap64 (1 + m0) = mst := (w64p (by omega) (by omega)).trans hmst
 have HMB := Aside0.mk (show 1 ≤ mst ∧ mst ≤ 30 by omega)
 have HWM := Aside0.mk hwm
 clear hfz hf0 hf1 hm0 hm1 hm2 hmst hwm
 go_wp2_with fail
 refine (sternpostbook_Among.calls a0 4294967296 fz _ HF.out).mono ?_
 rintro e W2 ⟨rfl, hd⟩
 have hb := hd.below
 have HB1 := Aside0.mk (below_step HB.out hb)
 clear HB hb hd
 have HB := HB1
 clear HB1
 go_wp2_with fail
 refine (sternpostbook_Among.calls a2 30 m0 _ HM.out).mono ?_
 rintro e W3 ⟨rfl, hd⟩
 have hb := hd.below
 have HB1 := Aside0.mk (below_step HB.out hb)
 clear HB hb hd
 have HB := HB1
 clear HB1
 have hwm := HWM.out
 go_wp2_with fail
 refine (sendq_New.calls fz 200 w _ HB.out HFB.out (by decide) (by decide)).mono ?_
 rintro e W4 ⟨g, rfl, hQ, hB, _, _⟩
 clear HB hwm
 have HQ := Aside0.mk hQ
 have HB := Aside0.mk hB
 clear hQ hB
 have ht0 : (⟨#[]⟩ : ByteArray) = txtN 0 := rfl
 go_wp2_with fail
 go_loopg [9, 43] 100 (fun kq v9 v43 W => ∃ (i : Nat) (iz : Int), v9 = .string (txtN i) ∧ v43 = .int .i64 iz ∧ Aside0 (iz = (i : Int) ∧ kq + i = 100) ∧ Aside0 (QAt W w.heap.size g ⟨fz, 0, 200, (⟨#[]⟩ : ByteArray), []⟩) ∧ Aside0 (Below w.heap.size w W))
 case atStart => exact ⟨0, 0, by rw [← ht0], rfl, ⟨rfl, rfl⟩, HQ, HB⟩
 case round =>
  clear HQ HB ht0
  obtain ⟨i, iz, rfl, rfl, HK, HQ, HB⟩ := hrel
  have hk := HK.out
  by_cases hlt : iz < 100
  ·have d1 : decide (iz < 100) = true := decide_eq_true hlt
   obtain ⟨k1, rfl⟩ : ∃ k1, gk = k1 + 1 := ⟨gk - 1, by omega⟩
   have hwb : IntKind.u8.wrap iz = iz := by simp [IntKind.wrap, IntKind.bits, IntKind.signed]; omega
   have hn : wrap64 (iz + 1) = ((i + 1 : Nat) : Int) := by rw [w64p (by omega) (by omega)]; omega
   have HN := Aside0.mk hn
   have hts : strOfNums [iz] = strOfNums [(i : Int)] := by rw [hk.1]
   have HTS := Aside0.mk hts
   have hcz : (txtN i).size + (strOfNums [iz]).size ≤ 9223372036854775807 := by rw [txtN_size, strOfNums_size]; simp; omega
   have hcv := run_convert_bytes_arg (P := Try.prog) (wr.alloc (.cells #[.int .u8 iz] 5)) 44 5 Try.underlying44 Try.underlying5 wr.heap.size 0 1 1 [iz] rfl (fun j hj => by obtain rfl : j = 0 := (by omega); exact (blk_cell (blk_new wr (.cells #[.int .u8 iz] 5)) 0)) 9 Try.underlying9
   have hb := below_alloc (Below.refl wr.heap.size wr) (.cells #[.int .u8 iz] 5)
   have HQ1 := Aside0.mk (HQ.out.kept hb)
   have HB1 := Aside0.mk (below_step HB.out hb)
   clear HQ HB hb hts hk
   go_wp2
   go_roundg k1
   case measure => omega
   case rel => exact ⟨i + 1, _, by rw [HTS.out, txtN_succ], rfl, ⟨HN.out, by have := HK.out; omega⟩, HQ1, HB1⟩
  have d1 : decide (iz < 100) = false := decide_eq_false hlt
  obtain rfl : i = 100 := by omega
  clear hlt hk HK
  go_wp2_with fail
  rw [HWM.out]
  refine (sendq_Queue_Write.calls g ⟨fz, 0, 200, (⟨#[]⟩ : ByteArray), []⟩ (txtN 100) w _ HQ.out HB.out (show ((0 : Nat) : Int) ≤ 200 ∧ (200 : Int) ≤ 65536 by decide) (by rw [txtN_size]; decide)).mono ?_
  rw [write_txt]
  rintro e W5 ⟨rfl, hQ, hB, _⟩
  clear HQ HB d1
  have HQ := Aside0.mk hQ
  have HB := Aside0.mk hB
  clear hQ hB
  go_wp2_with fail
  refine (sendq_Queue_Next.calls g ⟨fz, 0, 200, txtN 100, []⟩ 100 100 w _ HQ.out HB.out HFB.out (by dsimp only; rw [txtN_size]; decide) (by decide)).mono ?_
  obtain ⟨nx, hnx⟩ : ∃ n_, QS.next ⟨fz, 0, 200, txtN 100, []⟩ 100 100 = n_ := ⟨_, rfl⟩
  have hn1 := next_txt fz
  rw [hnx] at hn1 ⊢
  obtain ⟨nq, ns⟩ := nx
  change nq = _ at hn1
  subst hn1
  clear hnx
  rintro e W6 ⟨rfl, hQ, hB, _⟩
  clear HQ HB
  have HQ := Aside0.mk hQ
  have HB := Aside0.mk hB
  clear hQ hB
  go_upto_block 2 with fail
  have hz := blk_new W6 (.cells Try.zeroCells45 45)
  have hb := below_alloc (Below.refl W6.heap.size W6) (.cells Try.zeroCells45 45)
  have hzz : Try.zeroCells45 = bcs (List.replicate 100 false) := by kernel_rfl
  replace hz := hz.trans (show some (Obj.cells Try.zeroCells45 45 (0, 0)) = some (Obj.cells (bcs (List.replicate 100 false)) 45 (0, 0)) by rw [hzz])
  have HNE := Aside0.mk (show g < W6.heap.size from HQ.out.lt)
  have HBG := Aside0.mk (show w.heap.size ≤ W6.heap.size from HB.out.size)
  have HQ1 := Aside0.mk (HQ.out.kept hb)
  have HB1 := Aside0.mk (below_step HB.out hb)
  clear HQ HB hb
  generalize hbg : W6.heap.size = bg at hz HNE HBG ⊢
  have HGT := Aside0.mk (show W6.heap.size = bg from hbg)
  clear hbg
  generalize W6.alloc (.cells Try.zeroCells45 45) = W7 at hz HQ1 HB1 ⊢
  have HZ := Aside0.mk hz
  clear hz hzz
  have HG0 := Aside0.mk (show GotOk [] (List.replicate 100 false) from ⟨by simp, fun k hk => ⟨fun h => by rw [List.getElem?_replicate] at h; simp at h, fun h => by obtain ⟨y, hy, _⟩ := h; cases hy⟩⟩)
  have HA0 := Aside0.mk (show ApOk [] from ⟨⟨List.Pairwise.nil, fun y hy => by cases hy⟩, fun y hy => by cases hy⟩)
  go_cut [12] (fun v12 W => ∃ (ap : List (Int × Int)) (gs : List Bool), Aside0 (ApOk ap) ∧ Aside0 (GotOk ap gs) ∧ Aside0 (W.heap[bg]? = some (.cells (bcs gs) 45 (0, 0))) ∧ Aside0 (QAt W w.heap.size g (QT_ fz ap)) ∧ Aside0 (Below w.heap.size w W))
  case first =>
   as_aux_lemma =>
    go_wp2_with fail
    go_loopg [12] 30 (fun kq v12 W => ∃ (i : Nat) (iz : Int) (ap : List (Int × Int)) (gs : List Bool), v12 = .int .i64 iz ∧ Aside0 (iz = (i : Int) ∧ kq + i = 30) ∧ Aside0 (ApOk ap) ∧ Aside0 (GotOk ap gs) ∧ Aside0 (W.heap[bg]? = some (.cells (bcs gs) 45 (0, 0))) ∧ Aside0 (QAt W w.heap.size g (QT_ fz ap)) ∧ Aside0 (Below w.heap.size w W))
    case atStart => exact ⟨0, 0, [], _, rfl, ⟨rfl, rfl⟩, HA0, HG0, HZ, HQ1, HB1⟩
    case round =>
    clear HZ HQ1 HB1 HG0 HA0
    obtain ⟨i, iz, ap, gs, rfl, HK, HA, HG, HZ, HQ, HB⟩ := hrel
    have hk := HK.out
    by_cases hin : iz < (l1.length : Int) ∧ iz < 30
    rotate_left
    ·have hdd : decide (iz < (l1.length : Int)) = false ∨ (decide (iz < (l1.length : Int)) = true ∧ decide (iz < 30) = false) := by
      by_cases h1 : iz < (l1.length : Int)
      ·exact .inr ⟨decide_eq_true h1, decide_eq_false (fun h2 => hin ⟨h1, h2⟩)⟩
      ·exact .inl (decide_eq_false h1)
     clear hin hk HK
     rcases hdd with d1 | ⟨d1, d2⟩
     ·go_wp2
      go_meet
      case rel => exact ⟨ap, gs, HA, HG, HZ, HQ, HB⟩
     ·go_wp2
      go_meet
      case rel => exact ⟨ap, gs, HA, HG, HZ, HQ, HB⟩
    obtain ⟨hlt, h30⟩ := hin
    have d1 : decide (iz < (l1.length : Int)) = true := decide_eq_true hlt
    have d2 : decide (iz < 30) = true := decide_eq_true h30
    obtain ⟨k1, rfl⟩ : ∃ k1, gk = k1 + 1 := ⟨gk - 1, by omega⟩
    have p0 : 0 ≤ iz := by omega
    obtain ⟨ad, ead, hx0, hx1⟩ := at_T47 HR1.out iz p0 hlt
    subst ead
    replace hx0 := pw_cell_below HB.out hx0
    replace hx1 := pw_cell_below HB.out hx1
    obtain ⟨f0, hf0⟩ : ∃ f_, (rd_T47 l1 iz).f0 = f_ := ⟨_, rfl⟩
    obtain ⟨f1, hf1⟩ : ∃ f_, (rd_T47 l1 iz).f1 = f_ := ⟨_, rfl⟩
    rw [hf0] at hx0
    rw [hf1] at hx1
    clear hf0 hf1
    obtain ⟨a, ha, ha0, ha1⟩ := among_lt (a := f0) (n := 101) (by decide) (by decide)
    obtain ⟨b, hb_, hb0, hb1⟩ := among_lt (a := f1) (n := 101) (by decide) (by decide)
    have HAA := Aside0.mk ha
    have HAB := Aside0.mk hb_
    have HAB0 := Aside0.mk (show (0 ≤ a ∧ a ≤ 100) ∧ (0 ≤ b ∧ b ≤ 100) by omega)
    clear ha hb_ ha0 ha1 hb0 hb1
    have hn : wrap64 (iz + 1) = ((i + 1 : Nat) : Int) := by rw [w64p (by omega) (by omega)]; omega
    have HN := Aside0.mk hn
    replace p0 := eq_true p0
    replace hlt := eq_true hlt
    clear hk h30 hn
    go_upto_region 19 with fail
    clear d1 d2
    have same : ∀ (ph : Nat) W', Drawn0 wr W' → True := fun _ _ _ => trivial
    refine AnyEvents.region_then 13 (E := []) (C := fun (_ : Nat) W' => Drawn0 wr W') (G := fun _ _ _ _ => True) (T := []) (R := fun _ _ _ _ => True) (vs := [?v15_0, ?v15_1, ?v15_2, ?v15_3, ?v15_4, (.int .i64 a), ?v15_6, ?v15_7, ?v15_8, ?v15_9, ?v15_10, (.int .i64 b), ?v15_12]) (by kernel_rfl) (by kernel_rfl) rfl (by kernel_rfl) ?hc15r same (fun _ _ _ _ _ _ _ _ _ => trivial) (fun _ h => nomatch h) (fun x => ?obs15r) ?fin15r
    case hc15r => exact ⟨1, rfl⟩
    case obs15r =>
     refine AnyEvents.obs_cons ?v15_0 (val_hole (by simp only [List.getD_cons_zero, List.getD_cons_succ])) (AnyEvents.ob_plain (v := ?v15_0) rfl rfl rfl same (by simp only [List.getD_cons_zero, List.getD_cons_succ]) (fun ph W' hwn hW => ?_)) ?_
     ·obtain ⟨nd, rfl⟩ := hW; have z0 := drew_cell nd hx0; have z1 := drew_cell nd hx1; first | (go_simp; done) | (go_simp; (try simp only [i64_w]); rfl) | (go_simp; simp; rfl)
     try simp only [Act.put, List.setIfInBounds_toArray, List.set_cons_zero, List.set_cons_succ]
     refine AnyEvents.obs_cons ?v15_1 (val_hole (by simp only [List.getD_cons_zero, List.getD_cons_succ])) (AnyEvents.ob_plain (v := ?v15_1) rfl rfl rfl same (by simp only [List.getD_cons_zero, List.getD_cons_succ]) (fun ph W' hwn hW => ?_)) ?_
     ·obtain ⟨nd, rfl⟩ := hW; have z0 := drew_cell nd hx0; have z1 := drew_cell nd hx1; first | (go_simp; done) | (go_simp; (try simp only [i64_w]); rfl) | (go_simp; simp; rfl)
     try simp only [Act.put, List.setIfInBounds_toArray, List.set_cons_zero, List.set_cons_succ]
     refine AnyEvents.obs_cons ?v15_2 (val_hole (by simp only [List.getD_cons_zero, List.getD_cons_succ])) (AnyEvents.ob_plain (v := ?v15_2) rfl rfl rfl same (by simp only [List.getD_cons_zero, List.getD_cons_succ]) (fun ph W' hwn hW => ?_)) ?_
     ·obtain ⟨nd, rfl⟩ := hW; have z0 := drew_cell nd hx0; have z1 := drew_cell nd hx1; first | (go_simp; done) | (go_simp; (try simp only [i64_w]); rfl) | (go_simp; simp; rfl)
     try simp only [Act.put, List.setIfInBounds_toArray, List.set_cons_zero, List.set_cons_succ]
     refine AnyEvents.obs_cons ?v15_3 (val_hole (by simp only [List.getD_cons_zero, List.getD_cons_succ])) (AnyEvents.ob_plain (v := ?v15_3) rfl rfl rfl same (by simp only [List.getD_cons_zero, List.getD_cons_succ]) (fun ph W' hwn hW => ?_)) ?_
     ·obtain ⟨nd, rfl⟩ := hW; have z0 := drew_cell nd hx0; have z1 := drew_cell nd hx1; first | (go_simp; done) | (go_simp; (try simp only [i64_w]); rfl) | (go_simp; simp; rfl)
     try simp only [Act.put, List.setIfInBounds_toArray, List.set_cons_zero, List.set_cons_succ]
     refine AnyEvents.obs_cons ?v15_4 (val_hole (by simp only [List.getD_cons_zero, List.getD_cons_succ])) (AnyEvents.ob_plain (v := ?v15_4) rfl rfl rfl same (by simp only [List.getD_cons_zero, List.getD_cons_succ]) (fun ph W' hwn hW => ?_)) ?_
     ·obtain ⟨nd, rfl⟩ := hW; have z0 := drew_cell nd hx0; have z1 := drew_cell nd hx1; first | (go_simp; done) | (go_simp; (try simp only [i64_w]); rfl) | (go_simp; simp; rfl)
     try simp only [Act.put, List.setIfInBounds_toArray, List.set_cons_zero, List.set_cons_succ]
     refine AnyEvents.obs_cons (.int .i64 a) (val_hole (by simp only [List.getD_cons_zero, List.getD_cons_succ])) (AnyEvents.ob_call (v := (.int .i64 a)) rfl rfl rfl (by simp only [List.getD_cons_zero, List.getD_cons_succ]) 8 #[.int .i64 f0, .int .i64 101] (fun ph W' hwn hW => ?_) (fun ph W' hwn hW => ?_)) ?_
     ·first | (go_simp; done) | (go_simp; rfl)
     ·obtain ⟨nd, rfl⟩ := hW; refine (sternpostbook_Among.calls f0 101 a _ HAA.out).mono ?_; rintro e W2_ ⟨rfl, hd⟩; obtain ⟨nd2, rfl⟩ := hd; exact ⟨rfl, ⟨nd + nd2, drewN_drewN _ _ _⟩, trivial⟩
     try simp only [Act.put, List.setIfInBounds_toArray, List.set_cons_zero, List.set_cons_succ]
     refine AnyEvents.obs_cons ?v15_6 (val_hole (by simp only [List.getD_cons_zero, List.getD_cons_succ])) (AnyEvents.ob_plain (v := ?v15_6) rfl rfl rfl same (by simp only [List.getD_cons_zero, List.getD_cons_succ]) (fun ph W' hwn hW => ?_)) ?_
     ·obtain ⟨nd, rfl⟩ := hW; have z0 := drew_cell nd hx0; have z1 := drew_cell nd hx1; first | (go_simp; done) | (go_simp; (try simp only [i64_w]); rfl) | (go_simp; simp; rfl)
     try simp only [Act.put, List.setIfInBounds_toArray, List.set_cons_zero, List.set_cons_succ]
     refine AnyEvents.obs_cons ?v15_7 (val_hole (by simp only [List.getD_cons_zero, List.getD_cons_succ])) (AnyEvents.ob_plain (v := ?v15_7) rfl rfl rfl same (by simp only [List.getD_cons_zero, List.getD_cons_succ]) (fun ph W' hwn hW => ?_)) ?_
     ·obtain ⟨nd, rfl⟩ := hW; have z0 := drew_cell nd hx0; have z1 := drew_cell nd hx1; first | (go_simp; done) | (go_simp; (try simp only [i64_w]); rfl) | (go_simp; simp; rfl)
     try simp only [Act.put, List.setIfInBounds_toArray, List.set_cons_zero, List.set_cons_succ]
     refine AnyEvents.obs_cons ?v15_8 (val_hole (by simp only [List.getD_cons_zero, List.getD_cons_succ])) (AnyEvents.ob_plain (v := ?v15_8) rfl rfl rfl same (by simp only [List.getD_cons_zero, List.getD_cons_succ]) (fun ph W' hwn hW => ?_)) ?_
     ·obtain ⟨nd, rfl⟩ := hW; have z0 := drew_cell nd hx0; have z1 := drew_cell nd hx1; first | (go_simp; done) | (go_simp; (try simp only [i64_w]); rfl) | (go_simp; simp; rfl)
     try simp only [Act.put, List.setIfInBounds_toArray, List.set_cons_zero, List.set_cons_succ]
     refine AnyEvents.obs_cons ?v15_9 (val_hole (by simp only [List.getD_cons_zero, List.getD_cons_succ])) (AnyEvents.ob_plain (v := ?v15_9) rfl rfl rfl same (by simp only [List.getD_cons_zero, List.getD_cons_succ]) (fun ph W' hwn hW => ?_)) ?_
     ·obtain ⟨nd, rfl⟩ := hW; have z0 := drew_cell nd hx0; have z1 := drew_cell nd hx1; first | (go_simp; done) | (go_simp; (try simp only [i64_w]); rfl) | (go_simp; simp; rfl)
     try simp only [Act.put, List.setIfInBounds_toArray, List.set_cons_zero, List.set_cons_succ]
     refine AnyEvents.obs_cons ?v15_10 (val_hole (by simp only [List.getD_cons_zero, List.getD_cons_succ])) (AnyEvents.ob_plain (v := ?v15_10) rfl rfl rfl same (by simp only [List.getD_cons_zero, List.getD_cons_succ]) (fun ph W' hwn hW => ?_)) ?_
     ·obtain ⟨nd, rfl⟩ := hW; have z0 := drew_cell nd hx0; have z1 := drew_cell nd hx1; first | (go_simp; done) | (go_simp; (try simp only [i64_w]); rfl) | (go_simp; simp; rfl)
     try simp only [Act.put, List.setIfInBounds_toArray, List.set_cons_zero, List.set_cons_succ]
     refine AnyEvents.obs_cons (.int .i64 b) (val_hole (by simp only [List.getD_cons_zero, List.getD_cons_succ])) (AnyEvents.ob_call (v := (.int .i64 b)) rfl rfl rfl (by simp only [List.getD_cons_zero, List.getD_cons_succ]) 8 #[.int .i64 f1, .int .i64 101] (fun ph W' hwn hW => ?_) (fun ph W' hwn hW => ?_)) ?_
     ·first | (go_simp; done) | (go_simp; rfl)
     ·obtain ⟨nd, rfl⟩ := hW; refine (sternpostbook_Among.calls f1 101 b _ HAB.out).mono ?_; rintro e W2_ ⟨rfl, hd⟩; obtain ⟨nd2, rfl⟩ := hd; exact ⟨rfl, ⟨nd + nd2, drewN_drewN _ _ _⟩, trivial⟩
     try simp only [Act.put, List.setIfInBounds_toArray, List.set_cons_zero, List.set_cons_succ]
     refine AnyEvents.obs_cons ?v15_12 (val_hole (by simp only [List.getD_cons_zero, List.getD_cons_succ])) (AnyEvents.ob_plain (v := ?v15_12) rfl rfl rfl same (by simp only [List.getD_cons_zero, List.getD_cons_succ]) (fun ph W' hwn hW => ?_)) ?_
     ·obtain ⟨nd, rfl⟩ := hW; have z0 := drew_cell nd hx0; have z1 := drew_cell nd hx1; first | (go_simp; done) | (go_simp; (try simp only [i64_w]); rfl) | (go_simp; simp; rfl)
     try simp only [Act.put, List.setIfInBounds_toArray, List.set_cons_zero, List.set_cons_succ]
     trivial
    intro x W' hD _
    simp only [List.take_succ_cons, List.take_zero, List.drop_succ_cons, List.drop_zero]
    rw [AnyOrder.lexAt_cons ?v15_0 (val_hole (by simp only [List.getD_cons_zero, List.getD_cons_succ]))]
    try simp only [Act.put, List.setIfInBounds_toArray, List.set_cons_zero, List.set_cons_succ]
    rw [AnyOrder.lexAt_cons ?v15_1 (val_hole (by simp only [List.getD_cons_zero, List.getD_cons_succ]))]
    try simp only [Act.put, List.setIfInBounds_toArray, List.set_cons_zero, List.set_cons_succ]
    rw [AnyOrder.lexAt_cons ?v15_2 (val_hole (by simp only [List.getD_cons_zero, List.getD_cons_succ]))]
    try simp only [Act.put, List.setIfInBounds_toArray, List.set_cons_zero, List.set_cons_succ]
    rw [AnyOrder.lexAt_cons ?v15_3 (val_hole (by simp only [List.getD_cons_zero, List.getD_cons_succ]))]
    try simp only [Act.put, List.setIfInBounds_toArray, List.set_cons_zero, List.set_cons_succ]
    rw [AnyOrder.lexAt_cons ?v15_4 (val_hole (by simp only [List.getD_cons_zero, List.getD_cons_succ]))]
    try simp only [Act.put, List.setIfInBounds_toArray, List.set_cons_zero, List.set_cons_succ]
    rw [AnyOrder.lexAt_cons (.int .i64 a) (val_hole (by simp only [List.getD_cons_zero, List.getD_cons_succ]))]
    try simp only [Act.put, List.setIfInBounds_toArray, List.set_cons_zero, List.set_cons_succ]
    rw [AnyOrder.lexAt_cons ?v15_6 (val_hole (by simp only [List.getD_cons_zero, List.getD_cons_succ]))]
    try simp only [Act.put, List.setIfInBounds_toArray, List.set_cons_zero, List.set_cons_succ]
    rw [AnyOrder.lexAt_cons ?v15_7 (val_hole (by simp only [List.getD_cons_zero, List.getD_cons_succ]))]
    try simp only [Act.put, List.setIfInBounds_toArray, List.set_cons_zero, List.set_cons_succ]
    rw [AnyOrder.lexAt_cons ?v15_8 (val_hole (by simp only [List.getD_cons_zero, List.getD_cons_succ]))]
    try simp only [Act.put, List.setIfInBounds_toArray, List.set_cons_zero, List.set_cons_succ]
    rw [AnyOrder.lexAt_cons ?v15_9 (val_hole (by simp only [List.getD_cons_zero, List.getD_cons_succ]))]
    try simp only [Act.put, List.setIfInBounds_toArray, List.set_cons_zero, List.set_cons_succ]
    rw [AnyOrder.lexAt_cons ?v15_10 (val_hole (by simp only [List.getD_cons_zero, List.getD_cons_succ]))]
    try simp only [Act.put, List.setIfInBounds_toArray, List.set_cons_zero, List.set_cons_succ]
    rw [AnyOrder.lexAt_cons (.int .i64 b) (val_hole (by simp only [List.getD_cons_zero, List.getD_cons_succ]))]
    try simp only [Act.put, List.setIfInBounds_toArray, List.set_cons_zero, List.set_cons_succ]
    rw [AnyOrder.lexAt_cons ?v15_12 (val_hole (by simp only [List.getD_cons_zero, List.getD_cons_succ]))]
    try simp only [Act.put, List.setIfInBounds_toArray, List.set_cons_zero, List.set_cons_succ]
    rw [AnyOrder.lexAt_nil]
    clear same
    obtain ⟨nd, rfl⟩ := hD
    have HQ1 := Aside0.mk (show QAt (wr.drewN nd) w.heap.size g (QT_ fz ap) from HQ.out.drawn rfl)
    have HB1 := Aside0.mk (pw_below_drewN HB.out nd)
    have HZ1 := Aside0.mk (show (wr.drewN nd).heap[bg]? = some (.cells (bcs gs) 45 (0, 0)) from HZ.out)
    clear HQ HB HZ hx0 hx1 p0 hlt
    have HQ := HQ1; have HB := HB1; have HZ := HZ1
    clear HQ1 HB1 HZ1
    generalize wr.drewN nd = Wb at HQ HB HZ ⊢
    have hok := HFB.out
    unfold sqOk at hok
    have hab := HAB0.out
    obtain ⟨ra, hra⟩ : ∃ r_, (fz + a) % 4294967296 = r_ := ⟨_, rfl⟩
    obtain ⟨rb, hrb⟩ : ∃ r_, (fz + b) % 4294967296 = r_ := ⟨_, rfl⟩
    have hta : Int.tmod (wrap64 (fz + a)) 4294967296 = ra := by rw [w64p (by omega) (by omega), Int.tmod_eq_emod_of_nonneg (by omega)]; exact hra
    have htb : Int.tmod (wrap64 (fz + b)) 4294967296 = rb := by rw [w64p (by omega) (by omega), Int.tmod_eq_emod_of_nonneg (by omega)]; exact hrb
    have hnote := note_near fz a b ap HFB.out hab.1 hab.2
    rw [hra, hrb] at hnote
    have hA2 := apok_add HA.out a b hab.1.1 hab.2.2
    have hC2 := fun k => apok_cov HA.out a b k
    obtain ⟨ap2, hap2⟩ : ∃ p_, (if a < b then addSpan (a, b) ap else ap) = p_ := ⟨_, rfl⟩
    rw [hap2] at hnote hA2
    simp only [hap2] at hC2
    have HA2 := Aside0.mk hA2; have HC2 := Aside0.mk hC2
    have HNT := Aside0.mk hnote
    clear hnote hra hrb hok hab hA2 hC2 hap2
    have hb := below_alloc (Below.refl Wb.heap.size Wb) (.cells #[.int .i64 ra, .int .i64 rb] 47)
    have HLT := Aside0.mk (ownsAt_low (ownsAt_lit Wb #[.int .i64 ra, .int .i64 rb] 47 2 1 rfl (by decide)))
    have HQ1 := Aside0.mk (HQ.out.kept hb)
    have HB1 := Aside0.mk (below_step HB.out hb)
    have HZ1 := Aside0.mk (blk_below HZ.out hb)
    clear HQ HB HZ hb
    have HQ := HQ1; have HB := HB1; have HZ := HZ1
    clear HQ1 HB1 HZ1
    go_wp2_with fail
    refine (sendq_Queue_Apart.calls g (QT_ fz ap) (some ⟨Wb.heap.size, 0, none⟩) 1 [(ra, rb)] w _ HQ.out HB.out HLT.out HFB.out (show (0 : Int) ≤ 100 ∧ (100 : Int) ≤ 65536 by decide) HA.out).mono ?_
    have hfn : [(ra, rb)].foldl QS.note (QT_ fz ap) = QT_ fz ap2 := HNT.out
    rw [hfn]
    clear hfn
    rintro e W8 ⟨rfl, hQ, hB, hK⟩
    have HZ1 := Aside0.mk ((hK.2 bg (blk_lt HZ.out) (by have := HNE.out; omega)).trans HZ.out)
    clear HQ HB HZ hK HLT hta htb
    have HQ := Aside0.mk hQ; have HB := Aside0.mk hB; have HZ := HZ1
    clear hQ hB HZ1
    go_wp2_with fail
    go_loopg [15] (101 - a).toNat (fun kq v15 W => ∃ (kz : Int) (gs' : List Bool), v15 = .int .i64 kz ∧ Aside0 (a ≤ kz ∧ (kz ≤ b ∨ kz = a) ∧ kq + kz.toNat = 101) ∧ Aside0 (gs'.length = 100 ∧ ∀ j : Nat, j < 100 → (gs'[j]? = some true ↔ ((a ≤ (j : Int) ∧ (j : Int) < kz) ∨ gs[j]? = some true))) ∧ Aside0 (W.heap[bg]? = some (.cells (bcs gs') 45 (0, 0))) ∧ Aside0 (QAt W w.heap.size g (QT_ fz ap2)) ∧ Aside0 (Below w.heap.size w W))
    case atStart => exact ⟨a, gs, rfl, ⟨Int.le_refl _, .inr rfl, by have := HAB0.out; omega⟩, ⟨HG.out.1, fun j hj => ⟨.inr, fun h => h.resolve_left (by omega)⟩⟩, HZ, HQ, HB⟩
    case round =>
     clear HZ HQ HB
     obtain ⟨kz, gs', rfl, HKZ, HG', HZ, HQ, HB⟩ := hrel
     have hkz := HKZ.out
     have hab := HAB0.out
     by_cases hlt : kz < b
     ·have d1 : decide (kz < b) = true := decide_eq_true hlt
      obtain ⟨k2, hk2⟩ : ∃ k2, gk = k2 + 1 := ⟨gk - 1, by omega⟩
      subst hk2
      obtain ⟨kn, hkn⟩ := Int.eq_ofNat_of_zero_le (show 0 ≤ kz by omega)
      subst hkn
      have hz0 := blk_cell HZ.out kn
      have hf0 := blk_frozen HZ.out kn
      obtain ⟨gv, hgv⟩ : ∃ v_, gs'[kn]? = some v_ := ⟨_, List.getElem?_eq_getElem (by have := HG'.out.1; omega)⟩
      rw [bcs_get hgv] at hz0
      have hn : wrap64 ((kn : Int) + 1) = ((kn + 1 : Nat) : Int) := by rw [w64p (by omega) (by omega)]; omega
      have HN1 := Aside0.mk hn
      have p0 : (0 : Int) ≤ (kn : Int) := by omega
      have p1 : (kn : Int) < 100 := by omega
      have HP := Aside0.mk (And.intro hlt p1)
      have tn : (kn : Int).toNat = kn := Int.toNat_natCast kn
      replace p0 := eq_true p0
      replace p1 := eq_true p1
      clear hkz hab hlt hgv
      go_wp2
      go_roundg k2
      case measure => omega
      case rel =>
       refine ⟨_, gs'.set kn true, rfl, ⟨?_, ?_, ?_⟩, ⟨by rw [List.length_set]; exact HG'.out.1, fun j hj => ?_⟩, ⟨by rw [blk_put HZ.out kn (.bool true) rfl, bcs_set]⟩, ⟨?_⟩, ⟨below_set HB.out HBG.out⟩⟩
       ·rw [HN1.out]; have := HKZ.out; omega
       ·rw [HN1.out]; have := HP.out; omega
       ·rw [HN1.out]; have := HKZ.out; omega
       ·rw [HN1.out]; exact got_step HG'.out.1 (by have := HP.out; omega) HKZ.out.1 HG'.out.2 j hj
       ·exact HQ.out.far (by have := HNE.out; omega) HZ.out (by decide) _
     ·have d1 : decide (kz < b) = false := decide_eq_false hlt
      have HG2 := Aside0.mk (got_done HG.out HG'.out.1 HG'.out.2 hlt hkz.2.1 HC2.out)
      clear hkz hab hlt HG' HKZ
      go_wp2
      go_roundg k1
      case measure => omega
      case rel => exact ⟨i + 1, _, ap2, gs', rfl, ⟨HN.out, by have := HK.out; omega⟩, HA2, HG2, HZ, HQ, HB⟩
  case rest =>
   clear HZ HQ1 HB1 HG0 HA0
   obtain ⟨ap, gs, HA, HG, HZ, HQ, HB⟩ := hcut
   have HC0 := Aside0.mk (show (gs.count false : Int) + ((0 : Nat) : Int) ≤ 100 by have := List.count_le_length (a := false) (l := gs); have := HG.out.1; omega)
   go_wp2_with fail
   go_loopg [100] 101 (fun kq v100 W => ∃ (r : Nat) (rz : Int) (ap : List (Int × Int)) (gs : List Bool), v100 = .int .i64 rz ∧ Aside0 (rz = (r : Int) ∧ kq + r = 101) ∧ Aside0 (ApOk ap) ∧ Aside0 (GotOk ap gs) ∧ Aside0 ((gs.count false : Int) + (r : Int) ≤ 100) ∧ Aside0 (W.heap[bg]? = some (.cells (bcs gs) 45 (0, 0))) ∧ Aside0 (QAt W w.heap.size g (QT_ fz ap)) ∧ Aside0 (Below w.heap.size w W))
   case atStart => exact ⟨0, 0, ap, gs, rfl, ⟨rfl, rfl⟩, HA, HG, HC0, HZ, HQ, HB⟩
   case round =>
    clear HZ HQ HB HA HG HC0
    obtain ⟨r, rz, ap, gs, rfl, HR, HA, HG, HC, HZ, HQ, HB⟩ := hrel
    have hr := HR.out
    have hc := HC.out
    by_cases hlt : rz < 101
    rotate_left
    ·exfalso; omega
    have d1 : decide (rz < 101) = true := decide_eq_true hlt
    obtain ⟨k1, rfl⟩ : ∃ k1, gk = k1 + 1 := ⟨gk - 1, by omega⟩
    have hn : wrap64 (rz + 1) = ((r + 1 : Nat) : Int) := by rw [w64p (by omega) (by omega)]; omega
    have HN := Aside0.mk hn
    clear hn hr hc hlt
    have hqb := QAp.len (q := QT_ fz ap) HA.out (show (0 : Int) ≤ 100 ∧ (100 : Int) ≤ 65536 by decide)
    have HQB := Aside0.mk hqb
    clear hqb
    go_wp2_with fail
    refine (sendq_Queue_Hole.calls g (QT_ fz ap) mst w _ HQ.out HFB.out (show (0 : Int) ≤ 100 ∧ (100 : Int) ≤ ((txtN 100).size : Int) ∧ ((txtN 100).size : Int) ≤ 65536 by rw [txtN_size]; decide) ⟨fun x hx => ⟨HQB.out.1 x hx, by have h1 := HA.out.2 x hx; have h2 := HA.out.1.2 x hx; show x.1 ≤ 100; omega⟩, HQB.out.2⟩).mono ?_
    rcases hole_cases fz mst ap HA.out HMB.out with ⟨he, hcv⟩ | ⟨f, te, h1, h2, h3, he, h4, h5, h6⟩
    ·rw [he]
     rintro e W10 ⟨rfl, hb⟩
     have HQ1 := Aside0.mk (HQ.out.kept hb)
     have HB1 := Aside0.mk (below_step HB.out hb)
     have HZ1 := Aside0.mk (blk_below HZ.out hb)
     clear HQ HB HZ hb he
     have HQ := HQ1; have HB := HB1; have HZ := HZ1
     clear HQ1 HB1 HZ1
     have HCV := Aside0.mk hcv
     clear hcv
     have hd0 : seq_Distance.f fz fz = some (0, 0) := by rw [seqdist_ fz fz HFB.out, if_pos HFB.out, Int.sub_self]; rfl
     have HD0 := Aside0.mk hd0
     clear hd0
     go_wp2_with fail
     refine (seq_Distance.calls fz fz 0 0 _ HD0.out).mono ?_
     rintro e W11 ⟨rfl, hb⟩
     have HQ1 := Aside0.mk (HQ.out.kept hb)
     have HB1 := Aside0.mk (below_step HB.out hb)
     have HZ1 := Aside0.mk (blk_below HZ.out hb)
     clear HQ HB HZ hb
     have HQ := HQ1; have HB := HB1; have HZ := HZ1
     clear HQ1 HB1 HZ1
     go_wp2_with (first | ((with_reducible refine gate_dst (N := 118) rfl ?_); refine step_run rfl (run_load_big 45 _ rfl bg rfl 45 (bcs gs) (0, 0) _ HZ.out Try.underlying45 rfl (by rw [show (bcs gs).size = 100 by unfold bcs; simp [HG.out.1]]; kernel_rfl)) ?_; simp only [Act.put, List.setIfInBounds_toArray, List.set_cons_zero, List.set_cons_succ]))
     go_loopg [119] 100 (fun kq v119 W => ∃ (j : Nat) (jz : Int), v119 = .int .i64 jz ∧ Aside0 (jz = (j : Int) ∧ kq + j = 100) ∧ Aside0 (QAt W w.heap.size g (QT_ fz ap)) ∧ Aside0 (Below w.heap.size w W))
     case atStart => exact ⟨0, 0, rfl, ⟨rfl, rfl⟩, HQ, HB⟩
     case round =>
      clear HQ HB HZ d1
      obtain ⟨j, jz, rfl, HJ, HQ, HB⟩ := hrel
      have hj := HJ.out
      by_cases hlt : jz < 100
      ·have d1 : decide (jz < 100) = true := decide_eq_true hlt
       obtain ⟨k2, hk2⟩ : ∃ k2, gk = k2 + 1 := ⟨gk - 1, by omega⟩
       subst hk2
       have hg := (HG.out.2 j (by omega)).2 (HCV.out j (by omega) (by omega))
       have hcell := bcs_get hg
       have hn2 : wrap64 (jz + 1) = ((j + 1 : Nat) : Int) := by rw [w64p (by omega) (by omega)]; omega
       have HN2 := Aside0.mk hn2
       have p0 : 0 ≤ jz := by omega
       have tn : jz.toNat = j := by omega
       have hix := idx_bcs HG.out.1 (show j < 100 by omega) hg wr
       rw [← hj.1] at hix
       clear hj hg hn2 p0 tn hlt hcell
       go_wp2
       go_roundg k2
       case measure => omega
       case rel => exact ⟨j + 1, _, rfl, ⟨HN2.out, by have := HJ.out; omega⟩, HQ, HB⟩
      ·have d1 : decide (jz < 100) = false := decide_eq_false hlt
       have hap := full_cov HA.out HCV.out
       subst hap
       clear hj hlt
       go_wp2_with fail
       refine (sendq_Queue_Apart.calls g (QT_ fz [(0, 100)]) none 0 [] w _ HQ.out HB.out (ownsAt_nil _ _ _ _) HFB.out (show (0 : Int) ≤ 100 ∧ (100 : Int) ≤ 65536 by decide) HA.out).mono ?_
       have hsm : apSum (([] : List (Int × Int)).foldl QS.note (QT_ fz [(0, 100)])).ap = 100 := rfl
       rw [hsm]
       clear hsm
       rintro e W12 ⟨rfl, hQ, hB, hK⟩
       have HB2 := Aside0.mk hB
       clear hQ hB hK d1
       go_wp2
       go_ret
       exact ⟨rfl, HB2.out⟩
    ·have hok := HFB.out
     unfold sqOk at hok
     obtain ⟨ra, hra⟩ : ∃ r_, (fz + (f : Int)) % 4294967296 = r_ := ⟨_, rfl⟩
     obtain ⟨rb, hrb⟩ : ∃ r_, (fz + (te : Int)) % 4294967296 = r_ := ⟨_, rfl⟩
     obtain ⟨sB, hsB⟩ : ∃ s_, cutS (txtN 100) f te = s_ := ⟨_, rfl⟩
     have hss := cut_txt_size f te h2
     have hxx := fun (k : Nat) (hk : k < te - f) (W : World) => idx_txt f te k h2 hk W
     rw [hsB] at hss
     simp only [hsB] at hxx
     have hsne := str_ne (s := sB) (by omega)
     rw [hra, hsB] at he
     rw [he]
     have hdd : seq_Distance.f fz ra = some ((f : Int), 0) := by rw [seqdist_ fz ra HFB.out, if_pos (show sqOk ra by rw [← hra]; unfold sqOk; omega)]; congr 2; omega
     have hnt := note_near fz f te ap HFB.out (by omega) (by omega)
     rw [hra, hrb] at hnt
     have hA2 := apok_add HA.out f te (by omega) (by omega)
     have hC2 := fun k => apok_cov HA.out f te k
     obtain ⟨ap2, hap2⟩ : ∃ p_, (if (f : Int) < (te : Int) then addSpan ((f : Int), (te : Int)) ap else ap) = p_ := ⟨_, rfl⟩
     rw [hap2] at hnt hA2
     simp only [hap2] at hC2
     have htb : Int.tmod (wrap64 (fz + (te : Int))) 4294967296 = rb := by rw [w64p (by omega) (by omega), Int.tmod_eq_emod_of_nonneg (by omega)]; exact hrb
     have HF := Aside0.mk (show f < te ∧ te ≤ 100 ∧ ((te : Int) - f ≤ mst) from ⟨h1, h2, h3⟩)
     have HSS := Aside0.mk hss
     have HXX := Aside0.mk hxx
     have HNE2 := Aside0.mk hsne
     have HDD := Aside0.mk hdd
     have HNT := Aside0.mk hnt
     have HA2 := Aside0.mk hA2
     have HC2 := Aside0.mk hC2
     have HTB := Aside0.mk htb
     have H4 := Aside0.mk h4
     have H5 := Aside0.mk h5
     have H6 := Aside0.mk h6
     clear h1 h2 h3 h4 h5 h6 hss hxx hdd hnt hA2 hC2 htb hok hra hrb hap2 hsne hsB he
     rintro e W10 ⟨rfl, hb⟩
     have HQ1 := Aside0.mk (HQ.out.kept hb)
     have HB1 := Aside0.mk (below_step HB.out hb)
     have HZ1 := Aside0.mk (blk_below HZ.out hb)
     clear HQ HB HZ hb
     have HQ := HQ1; have HB := HB1; have HZ := HZ1
     clear HQ1 HB1 HZ1
     go_wp2_with fail
     refine (seq_Distance.calls fz ra (f : Int) 0 _ HDD.out).mono ?_
     rintro e W11 ⟨rfl, hb⟩
     have HQ1 := Aside0.mk (HQ.out.kept hb)
     have HB1 := Aside0.mk (below_step HB.out hb)
     have HZ1 := Aside0.mk (blk_below HZ.out hb)
     clear HQ HB HZ hb
     have HQ := HQ1; have HB := HB1; have HZ := HZ1
     clear HQ1 HB1 HZ1
     have hsne := HNE2.out
     go_wp2_with fail
     clear hsne d1
     go_loopg [129] f (fun kq v129 W => ∃ (j : Nat) (jz : Int), v129 = .int .i64 jz ∧ Aside0 (jz = (j : Int) ∧ kq + j = f) ∧ Aside0 (W.heap[bg]? = some (.cells (bcs gs) 45 (0, 0))) ∧ Aside0 (QAt W w.heap.size g (QT_ fz ap)) ∧ Aside0 (Below w.heap.size w W))
     case atStart => exact ⟨0, 0, rfl, ⟨rfl, by omega⟩, HZ, HQ, HB⟩
     case round =>
      clear HQ HB HZ
      obtain ⟨j, jz, rfl, HJ, HZ, HQ, HB⟩ := hrel
      have hj := HJ.out
      have hF := HF.out
      by_cases hlt : jz < (f : Int)
      ·have d1 : decide (jz < (f : Int)) = true := decide_eq_true hlt
       obtain ⟨k2, hk2⟩ : ∃ k2, gk = k2 + 1 := ⟨gk - 1, by omega⟩
       subst hk2
       have hg := (HG.out.2 j (by omega)).2 (H4.out j (by omega) (by omega))
       have hz0 := blk_cell HZ.out j
       rw [bcs_get hg] at hz0
       have hn2 : wrap64 (jz + 1) = ((j + 1 : Nat) : Int) := by rw [w64p (by omega) (by omega)]; omega
       have HN2 := Aside0.mk hn2
       have p0 : 0 ≤ jz := by omega
       have p1 : jz < 100 := by omega
       have tn : jz.toNat = j := by omega
       replace p0 := eq_true p0
       replace p1 := eq_true p1
       clear hj hF hg hn2 hlt
       go_wp2
       go_roundg k2
       case measure => omega
       case rel => exact ⟨j + 1, _, rfl, ⟨HN2.out, by have := HJ.out; omega⟩, HZ, HQ, HB⟩
      ·have d1 : decide (jz < (f : Int)) = false := decide_eq_false hlt
       clear hj hF hlt HJ
       go_wp2_with fail
       clear d1
       go_loopg [139] (te - f) (fun kq v139 W => ∃ (j : Nat) (jz : Int) (gs' : List Bool), v139 = .int .i64 jz ∧ Aside0 (jz = (j : Int) ∧ kq + j = te - f) ∧ Aside0 (gs'.length = 100 ∧ ∀ i_ : Nat, i_ < 100 → (gs'[i_]? = some true ↔ (((f : Int) ≤ (i_ : Int) ∧ (i_ : Int) < ((f + j : Nat) : Int)) ∨ gs[i_]? = some true))) ∧ Aside0 (gs'.count false + j = gs.count false) ∧ Aside0 (W.heap[bg]? = some (.cells (bcs gs') 45 (0, 0))) ∧ Aside0 (QAt W w.heap.size g (QT_ fz ap)) ∧ Aside0 (Below w.heap.size w W))
       case atStart => exact ⟨0, 0, gs, rfl, ⟨rfl, by have := HF.out; omega⟩, ⟨HG.out.1, fun i_ hi => ⟨.inr, fun h => h.resolve_left (by omega)⟩⟩, ⟨rfl⟩, HZ, HQ, HB⟩
       case round =>
        clear HQ HB HZ
        obtain ⟨j, jz, gs', rfl, HJ, HG', HCT, HZ, HQ, HB⟩ := hrel
        have hj := HJ.out
        have hF := HF.out
        have hSS := HSS.out
        by_cases hlt : jz < (sB.size : Int)
        ·have d1 : decide (jz < (sB.size : Int)) = true := decide_eq_true hlt
         obtain ⟨k2, hk2⟩ : ∃ k2, gk = k2 + 1 := ⟨gk - 1, by omega⟩
         subst hk2
         have hnc : ¬ gs[f + j]? = some true := fun h => H5.out ((f + j : Nat) : Int) (by omega) (by omega) ((HG.out.2 (f + j) (by omega)).1 h)
         have hg := got_false HG'.out.1 (by omega) hnc HG'.out.2
         have hz0 := blk_cell HZ.out (f + j)
         rw [bcs_get hg] at hz0
         have hf0 := blk_frozen HZ.out (f + j)
         have HCS := Aside0.mk (count_set gs' (f + j) hg)
         have HFJ := Aside0.mk (show f + j < 100 by omega)
         obtain ⟨ez, hez⟩ : ∃ e_ : Int, e_ = ((f + j : Nat) : Int) := ⟨_, rfl⟩
         have hw1 : wrap64 ((f : Int) + jz) = ez := by rw [w64p (by omega) (by omega)]; omega
         have hwb : IntKind.u8.wrap ez = ez := by simp [IntKind.wrap, IntKind.bits, IntKind.signed]; omega
         have hix := HXX.out j (by omega) wr
         rw [← hj.1, ← hez] at hix
         have hn2 : wrap64 (jz + 1) = ((j + 1 : Nat) : Int) := by rw [w64p (by omega) (by omega)]; omega
         have HN2 := Aside0.mk hn2
         have p0 : 0 ≤ ez := by omega
         have p1 : ez < 100 := by omega
         have tn : ez.toNat = f + j := by omega
         replace p0 := eq_true p0
         replace p1 := eq_true p1
         clear hj hF hSS hg hn2 hlt hnc hez
         go_wp2
         go_roundg k2
         case measure => omega
         case rel =>
          refine ⟨j + 1, _, gs'.set (f + j) true, rfl, ⟨HN2.out, by have := HJ.out; omega⟩, ⟨by rw [List.length_set]; exact HG'.out.1, ?_⟩, ⟨by have h1 := HCS.out; have h2 := HCT.out; omega⟩, ⟨by rw [blk_put HZ.out (f + j) (.bool true) rfl, bcs_set]⟩, ⟨HQ.out.far (by have := HNE.out; omega) HZ.out (by decide) _⟩, ⟨below_set HB.out HBG.out⟩⟩
          have h := got_step HG'.out.1 HFJ.out (show (f : Int) ≤ ((f + j : Nat) : Int) by omega) HG'.out.2
          exact h
        ·have d1 : decide (jz < (sB.size : Int)) = false := decide_eq_false hlt
         obtain rfl : j = te - f := by omega
         have hfe : f + (te - f) = te := by omega
         have hg' := HG'.out.2
         rw [hfe] at hg'
         have HG2 := Aside0.mk (got_done HG.out HG'.out.1 hg' (Int.lt_irrefl (te : Int)) (.inl (Int.le_refl _)) HC2.out)
         have HC3 := Aside0.mk (show (gs'.count false : Int) + ((r + 1 : Nat) : Int) ≤ 100 by have h1 := HCT.out; have h2 := HC.out; omega)
         obtain ⟨ln, hln⟩ : ∃ l_ : Int, (sB.size : Int) = l_ := ⟨_, rfl⟩
         rw [hln] at d1
         have hw1 : wrap64 ((f : Int) + ln) = (te : Int) := by rw [w64p (by omega) (by omega)]; omega
         have HLN := Aside0.mk (show ln = (te : Int) - f by omega)
         have hgt : (te : Int) < 100 → ln < mst → gs'[te]? = some true := fun g1 g2 => (HG2.out.2 te (by omega)).2 ((HC2.out _).2 (.inr (H6.out (by omega) (by omega))))
         have HGT2 := Aside0.mk hgt
         have hcs : decide (ln < mst) = false ∨ (decide (ln < mst) = true ∧ decide ((te : Int) < 100) = false) ∨ (decide (ln < mst) = true ∧ decide ((te : Int) < 100) = true) := by
          by_cases g1 : ln < mst
          ·by_cases g2 : (te : Int) < 100
           ·exact .inr (.inr ⟨decide_eq_true g1, decide_eq_true g2⟩)
           ·exact .inr (.inl ⟨decide_eq_true g1, decide_eq_false g2⟩)
          ·exact .inl (decide_eq_false g1)
         have HCS := Aside0.mk hcs
         clear hcs hgt hg' hfe hj hF hSS hlt HG' HCT
         go_upto_region 53 with fail
         skip
         go_cut [179] (fun v179 W => v179 = .bool false ∧ Aside0 (W.heap[bg]? = some (.cells (bcs gs') 45 (0, 0))) ∧ Aside0 (QAt W w.heap.size g (QT_ fz ap)) ∧ Aside0 (Below w.heap.size w W))
         case first =>
          rcases HCS.out with d2 | ⟨d2, d3⟩ | ⟨d2, d3⟩
          ·go_wp2
           go_meet
           case rel => exact ⟨rfl, HZ, HQ, HB⟩
          ·go_wp2
           go_meet
           case rel => exact ⟨rfl, HZ, HQ, HB⟩
          ·have hz0 := blk_cell HZ.out te
           rw [bcs_get (HGT2.out (of_decide_eq_true d3) (of_decide_eq_true d2))] at hz0
           have p0 : (0 : Int) ≤ (te : Int) := by omega
           have p1 : (te : Int) < 100 := of_decide_eq_true d3
           have tn : (te : Int).toNat = te := Int.toNat_natCast te
           replace p0 := eq_true p0
           replace p1 := eq_true p1
           go_wp2
           go_meet
           case rel => exact ⟨rfl, HZ, HQ, HB⟩
         case rest =>
          clear HZ HQ HB hln
          obtain ⟨rfl, HZ, HQ, HB⟩ := hcut
          rw [hw1]
          clear hw1
          have htb := HTB.out
          have hb := below_alloc (Below.refl wc.heap.size wc) (.cells #[.int .i64 ra, .int .i64 rb] 47)
          have HLT := Aside0.mk (ownsAt_low (ownsAt_lit wc #[.int .i64 ra, .int .i64 rb] 47 2 1 rfl (by decide)))
          have HQ1 := Aside0.mk (HQ.out.kept hb)
          have HB1 := Aside0.mk (below_step HB.out hb)
          have HZ1 := Aside0.mk (blk_below HZ.out hb)
          clear HQ HB HZ hb
          have HQ := HQ1; have HB := HB1; have HZ := HZ1
          clear HQ1 HB1 HZ1
          go_wp2_with fail
          refine (sendq_Queue_Apart.calls g (QT_ fz ap) (some ⟨wc.heap.size, 0, none⟩) 1 [(ra, rb)] w _ HQ.out HB.out HLT.out HFB.out (show (0 : Int) ≤ 100 ∧ (100 : Int) ≤ 65536 by decide) HA.out).mono ?_
          have hfn : [(ra, rb)].foldl QS.note (QT_ fz ap) = QT_ fz ap2 := HNT.out
          rw [hfn]
          clear hfn
          rintro e W12 ⟨rfl, hQ, hB, hK⟩
          have HZ1 := Aside0.mk ((hK.2 bg (blk_lt HZ.out) (by have := HNE.out; omega)).trans HZ.out)
          clear HQ HB HZ hK HLT htb
          have HQ := Aside0.mk hQ; have HB := Aside0.mk hB; have HZ := HZ1
          clear hQ hB HZ1
          go_wp2
          go_roundg k1
          case measure => omega
          case rel => exact ⟨r + 1, _, ap2, gs', rfl, ⟨HN.out, by have := HR.out; omega⟩, HA2, HG2, HC3, HZ, HQ, HB⟩

/-- THE ONE PURE STATEMENT of sternpostlaw15_SendqHoles: yours. -/
def fit47 (x : S47) : Prop := ((Lit.int .i64 x.f0).wf = true) ∧ (Lit.int .i64 x.f1).wf = true
def sternpostlaw15_SendqHoles.Pure : Prop := ∀ (a0 : Int) (l1 : List (S47)) (a2 : Int), (Lit.int .i64 a0).wf = true → (l1.length * 16 ≤ 140737488351232 ∧ ∀ x_ ∈ l1, fit47 x_) → (Lit.int .i64 a2).wf = true → ∃ k, sternpostlaw15_SendqHoles.f k a0 l1 a2 = some true
theorem sternpostlaw15_SendqHoles.walk (P : sternpostlaw15_SendqHoles.Pure) (a0 : Int) (A1 : Option Addr) (c1 : Nat) (l1 : List (S47)) (a2 : Int) (w : World) (w0 : (Lit.int .i64 a0).wf = true) (hr1 : Kd.C k47 w A1 l1.length l1) (hc1 : l1.length ≤ c1) (w1 : (l1.length * 16 ≤ 140737488351232 ∧ ∀ x_ ∈ l1, fit47 x_)) (w2 : (Lit.int .i64 a2).wf = true) :
  Calls Try.prog 5 #[.int .i64 a0, .slice A1 l1.length c1, .int .i64 a2] w fun e w' => e = .returned (.bool true) ∧ Below w.heap.size w w' := by
 obtain ⟨k, h⟩ := P a0 l1 a2 w0 w1 w2
 refine (sternpostlaw15_SendqHoles.calls k a0 _ _ l1 a2 true w hr1 hc1 h rfl).mono ?_
 rintro e w' ⟨rfl, hd⟩
 exact ⟨rfl, hd⟩

end Go.Proofs.Ytobndcdohehhbaa.PSendqHoles

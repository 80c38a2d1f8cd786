-- Laid by this claim's own program over the print's words.
import Derived.Test.YtcmpkgmhcbnmbaaDoorPGateRoomx0
import Derived.Test.YtcmpkgmhcbnmbaaDoorPGateRoomx1
import Derived.Test.YtcmpkgmhcbnmbaaDoorPGateRoomx2
namespace Go.Proofs.YtcmpkgmhcbnmbaaDoor.PGateRoom
open Go.RowKit Go.Proofs.YtcmpkgmhcbnmbaaDoorW.PrintWords Go.Proofs.YtcmpkgmhcbnmbaaDoorW.PrintLast Go.Proofs.YtcmpkgmhcbnmbaaDoorW.PrintMore
attribute [local go_sem] max2_int min2_int max_two min_two max_three min_three max_four min_four max_five min_five extract_cut tmod_nat_lit   -- for this text's walks alone
set_option linter.unusedVariables false
set_option linter.unusedSimpArgs false

/-! ### sternpostbook_Among: function 7 -/
def sternpostbook_Among.f (a0 : Int) (a1 : Int) : Option (Int) := if a1 = 0 then (none) else (some (Int.tmod (wrap64 ((Int.tmod a0 a1) + a1)) a1))
set_option maxHeartbeats 8000000 in
set_option maxRecDepth 100000 in
theorem sternpostbook_Among.calls (a0 : Int) (a1 : Int) (r : Int) (w : World) (h : sternpostbook_Among.f a0 a1 = some r) :
  Calls Tryd.prog 7 #[.int .i64 a0, .int .i64 a1] w fun e w' => e = .returned (.int .i64 r) ∧ Drawn0 w w' := by
 have H : (if a1 = 0 then (none) else (some (Int.tmod (wrap64 ((Int.tmod a0 a1) + a1)) a1))) = some r := h
 clear h
 by_cases c3 : a1 = 0
 ·rw [if_pos c3] at H
  exact absurd H (by simp)
 ·rw [if_neg c3] at H
  have c3b0 : (a1 == 0) = false := beq_eq_false_iff_ne.mpr c3
  have c3b1 : (a1 != 0) = true := bne_iff_ne.mpr c3
  obtain rfl := Option.some.inj H
  go_enter Tryd.func7, Tryd.ntmps7
  go_wp2
  go_ret
  exact ⟨by first | rfl | (simp; done) | (simp [*]; done), by repeat (first | exact Drawn0.refl _ | apply Drawn0.step)⟩


/-! ### strconv_Itoa: function 8 (by hand) -/
section
open Go.Shelf Go.Sort Go.Lib
def laid_laysM171_ren : Go.Shelf.Ren := ⟨fun | 171 => 8 | 243 => 16 | 246 => 19 | 283 => 20 | 284 => 21 | 285 => 22 | 286 => 23 | 129 => 25 | 317 => 24 | 318 => 26 | 319 => 27 | 320 => 28 | 337 => 29 | 338 => 30 | n => n, fun | 3 => 3 | 9 => 9 | 2 => 2 | 4 => 4 | 171 => 52 | 0 => 0 | 53 => 53 | 37 => 56 | 5 => 5 | 173 => 57 | 212 => 61 | 51 => 62 | 20 => 20 | 213 => 63 | 46 => 65 | 232 => 68 | 233 => 69 | n => n, fun | 17 => 0 | 18 => 1 | 19 => 2 | n => n⟩
theorem laid_laysM171 : Go.Proofs.LaysM.n171 Tryd.prog laid_laysM171_ren := {
 mixed := by kernel_rfl
 f129 := Tryd.func25.trans (congrArg some (by kernel_rfl))
 f171 := Tryd.func8.trans (congrArg some (by kernel_rfl))
 f243 := Tryd.func16.trans (congrArg some (by kernel_rfl))
 f246 := Tryd.func19.trans (congrArg some (by kernel_rfl))
 f283 := Tryd.func20.trans (congrArg some (by kernel_rfl))
 f284 := Tryd.func21.trans (congrArg some (by kernel_rfl))
 f285 := Tryd.func22.trans (congrArg some (by kernel_rfl))
 f286 := Tryd.func23.trans (congrArg some (by kernel_rfl))
 f317 := Tryd.func24.trans (congrArg some (by kernel_rfl))
 f318 := Tryd.func26.trans (congrArg some (by kernel_rfl))
 f319 := Tryd.func27.trans (congrArg some (by kernel_rfl))
 f320 := Tryd.func28.trans (congrArg some (by kernel_rfl))
 f337 := Tryd.func29.trans (congrArg some (by kernel_rfl))
 f338 := Tryd.func30.trans (congrArg some (by kernel_rfl))
 t0 := Tryd.underlying0
 a0 := Tryd.isAgg0
 z0 := Tryd.sizeOf0
 v0 := Tryd.zeroValue0
 t2 := Tryd.underlying2
 a2 := Tryd.isAgg2
 z2 := Tryd.sizeOf2
 v2 := Tryd.zeroValue2
 t3 := Tryd.underlying3
 a3 := Tryd.isAgg3
 z3 := Tryd.sizeOf3
 v3 := Tryd.zeroValue3
 t4 := Tryd.underlying4
 a4 := Tryd.isAgg4
 z4 := Tryd.sizeOf4
 v4 := Tryd.zeroValue4
 t5 := Tryd.underlying5
 a5 := Tryd.isAgg5
 z5 := Tryd.sizeOf5
 v5 := Tryd.zeroValue5
 t9 := Tryd.underlying9
 a9 := Tryd.isAgg9
 z9 := Tryd.sizeOf9
 v9 := Tryd.zeroValue9
 t20 := Tryd.underlying20
 a20 := Tryd.isAgg20
 z20 := Tryd.sizeOf20
 v20 := Tryd.zeroValue20
 t37 := Tryd.underlying56
 a37 := Tryd.isAgg56
 z37 := Tryd.sizeOf56
 v37 := Tryd.zeroValue56
 t46 := Tryd.underlying65
 a46 := Tryd.isAgg65
 z46 := Tryd.sizeOf65
 v46 := Tryd.zeroValue65
 t51 := Tryd.underlying62
 a51 := Tryd.isAgg62
 z51 := Tryd.sizeOf62
 v51 := Tryd.zeroValue62
 t53 := Tryd.underlying53
 a53 := Tryd.isAgg53
 z53 := Tryd.sizeOf53
 v53 := Tryd.zeroValue53
 t171 := Tryd.underlying52
 a171 := Tryd.isAgg52
 z171 := Tryd.sizeOf52
 v171 := Tryd.zeroValue52
 t173 := Tryd.underlying57
 a173 := Tryd.isAgg57
 z173 := Tryd.sizeOf57
 v173 := Tryd.zeroValue57
 t212 := Tryd.underlying61
 a212 := Tryd.isAgg61
 z212 := Tryd.sizeOf61
 v212 := Tryd.zeroValue61
 t213 := Tryd.underlying63
 a213 := Tryd.isAgg63
 z213 := Tryd.sizeOf63
 t232 := Tryd.underlying68
 a232 := Tryd.isAgg68
 z232 := Tryd.sizeOf68
 v232 := Tryd.zeroValue68
 t233 := Tryd.underlying69
 a233 := Tryd.isAgg69
 z233 := Tryd.sizeOf69
 v233 := Tryd.zeroValue69
 g17 := by kernel_rfl
 g18 := by kernel_rfl
 g19 := by kernel_rfl
 i0 := by kernel_rfl
 i2 := by kernel_rfl
 i3 := by kernel_rfl
 i4 := by kernel_rfl
 i5 := by kernel_rfl
 i9 := by kernel_rfl
 i20 := by kernel_rfl
 i37 := by kernel_rfl
 i46 := by kernel_rfl
 i51 := by kernel_rfl
 i53 := by kernel_rfl
 i171 := by kernel_rfl
 i173 := by kernel_rfl
 i212 := by kernel_rfl
 i232 := by kernel_rfl
 i233 := by kernel_rfl
 m17 := by kernel_rfl
 m18 := by kernel_rfl
 m19 := by kernel_rfl }
theorem laid_strconv_Itoa (n : Int) (h0 : -9223372036854775808 ≤ n) (h1 : n ≤ 9223372036854775807) (w : World) (htab : Lib.TabIs Tryd.prog w "internal/strconv.uint64pow10" .u64 Lib.pow10Tab) :
  Calls Tryd.prog 8 #[.int .i64 n] w fun e w' => e = .returned (.string ⟨(Lib.itoa n).toArray⟩) ∧ ∃ k os, w' = grow (w.drewN k) os := Any.strconv_Itoa laid_laysM171 n h0 h1 w htab
end
def itoaB (n : Int) : ByteArray := ⟨(Go.Lib.itoa n).toArray⟩
abbrev Pow10 (w : World) : Prop := Go.Lib.TabIs Tryd.prog w "internal/strconv.uint64pow10" .u64 Go.Lib.pow10Tab
theorem strconv_Itoa.calls (n : Int) (w : World) (h0 : -9223372036854775808 ≤ n) (h1 : n ≤ 9223372036854775807) (htab : Pow10 w) :
  Calls Tryd.prog 8 #[.int .i64 n] w fun e w' => e = .returned (.string (itoaB n)) ∧ Below w.heap.size w w' := by
 refine (laid_strconv_Itoa n h0 h1 w htab).mono ?_
 rintro e w' ⟨rfl, k, os, rfl⟩
 refine ⟨rfl, rfl, rfl, rfl, by simp [Go.Sort.grow, World.drewN], fun j hj => ?_⟩
 show (w.heap ++ os)[j]? = w.heap[j]?
 rw [Array.getElem?_append_left hj]
theorem itoa_calls (n : Int) (w : World) (h0 : -9223372036854775808 ≤ n) (h1 : n ≤ 9223372036854775807) (htab : Pow10 w) : Calls Tryd.prog 8 #[.int .i64 n] w fun e w' => e = .returned (.string (itoaB n)) ∧ Below w.heap.size w w' := strconv_Itoa.calls n w h0 h1 htab
theorem Pow10.below {w w' : World} (h : Pow10 w) (hb : Below w.heap.size w w') : Pow10 w' := by
 unfold Pow10 Go.Lib.TabIs World.var? at *
 cases hg : Tryd.prog.globalNamed "internal/strconv.uint64pow10" with
 | none => simp [hg] at h
 | some g =>
  simp only [hg, Option.bind_some] at h ⊢
  have hlt : g < w.heap.size := by
   rcases Nat.lt_or_ge g w.heap.size with h' | h'
   ·exact h'
   ·simp [Array.getElem?_eq_none h'] at h
  rw [hb.block g hlt]; exact h



/-! ### gate_Gate_Len: function 13 (by hand) -/
set_option maxHeartbeats 4000000 in
set_option maxRecDepth 100000 in
theorem gate_Gate_Len.calls (g base top : Nat) (s : GSt) (w : World) (hG : GateAt w base top g s) :
  Calls Tryd.prog 13 #[.pointer (some ⟨g, 0, none⟩)] w fun e w' => e = .returned (.int .i64 s.long) ∧ w' = w := by
 have HI := Aside0.mk hG
 obtain ⟨Az, cz, ⟨hbg, hle⟩, hcm, ⟨hc0, hc1, hc2, hc3⟩, ⟨hc4, hc5, hc6, hc7⟩, ⟨hf0, hf1, hf2, hf3⟩, ⟨hf4, hf5, hf6, hf7⟩, csz, HQ, HE⟩ := HI.out.cell
 go_enter Tryd.func13, Tryd.ntmps13
 go_wp2
 go_ret
 exact ⟨rfl, rfl⟩



/-! ### gate_Gate_State: function 14 (by hand) -/
set_option maxHeartbeats 4000000 in
set_option maxRecDepth 100000 in
theorem gate_Gate_State.calls (g base top : Nat) (s : GSt) (w : World) (hG : GateAt w base top g s) :
  Calls Tryd.prog 14 #[.pointer (some ⟨g, 0, none⟩)] w fun e w' => e = .returned (.tuple #[.bool s.opn, .int .i64 s.conf, .int .i64 s.gone, .int .i64 s.lost]) ∧ Drawn0 w w' := by
 have HI := Aside0.mk hG
 obtain ⟨Az, cz, ⟨hbg, hle⟩, hcm, ⟨hc0, hc1, hc2, hc3⟩, ⟨hc4, hc5, hc6, hc7⟩, ⟨hf0, hf1, hf2, hf3⟩, ⟨hf4, hf5, hf6, hf7⟩, csz, HQ, HE⟩ := HI.out.cell
 go_enter Tryd.func14, Tryd.ntmps14
 go_wp2
 repeat (go_quiet (fail); try go_wp2)
 refine bodyPost_ret (results_list (rs := [.tmp 2, .tmp 3, .tmp 4, .tmp 5]) rfl (by simp) (.tmp (.tmp (.tmp (.tmp .nil))))) rfl ?_
 exact ⟨rfl, by repeat (first | exact Drawn0.refl _ | apply Drawn0.step)⟩


/-! ### sternpostlaw25_GateRoom: function 4 -/
def sternpostlaw25_GateRoom_tail.f (k : Nat) (a0 : Int) (l1 : List Int) : Option Bool := some true
theorem sternpostlaw25_GateRoom_tail.mono (a0 : Int) (l1 : List Int) (k : Nat) : LeO (sternpostlaw25_GateRoom_tail.f k a0 l1) (sternpostlaw25_GateRoom_tail.f (k + 1) a0 l1) := LeO.refl _
theorem put_free {s : GSt} {n : Int} {fr : List ByteArray} (h1 : ¬ (n < 1 ∨ n < s.last)) (h2 : ¬ (s.opn = true ∨ n ≤ s.conf)) (h3 : s.fits fr = (fr.length : Int)) : s.put n fr = (GSt.held { s with last := n } n (fr.length : Int) fr, [], 0) := by
 unfold GSt.put
 rw [if_neg h1, if_neg h2, h3, if_neg (Int.lt_irrefl _)]
 unfold GSt.drop
 rw [if_neg (Int.lt_irrefl _)]
theorem w64_ {x : Int} (h1 : -9223372036854775808 ≤ x) (h2 : x < 9223372036854775808) : wrap64 x = x := by unfold wrap64; omega
theorem fits_free {s : GSt} {fr : List ByteArray} {h : Nat} (hr : s.room = 1000) (hl : s.long = (h : Int)) (hh : h ≤ 900) (hf : fr.length ≤ 50) : s.fits fr = (fr.length : Int) := by
 unfold GSt.fits; rw [hr, hl, w64_ (by omega) (by omega), if_neg (by omega)]
theorem until_all {n : Int} : ∀ (q : List (Int × List ByteArray)) (s : GSt), (∀ x ∈ q, x.1 ≤ n) → (gUntil n q s).2 = q.flatMap (·.2)
 | [], _, _ => rfl
 | (m, fr) :: q, s, h => by
  unfold gUntil
  rw [if_pos (h (m, fr) List.mem_cons_self)]
  show fr ++ _ = _
  rw [until_all q _ (fun x hx => h x (List.mem_cons_of_mem _ hx)), List.flatMap_cons]
theorem among_lt {a n : Int} (hn : 0 < n) (hn2 : n < 4611686018427387904) : ∃ c : Int, sternpostbook_Among.f a n = some c ∧ 0 ≤ c ∧ c < n := by
 unfold sternpostbook_Among.f
 rw [if_neg (by omega)]
 have h1 := Int.tmod_lt_of_pos a hn
 have h2 : -n < Int.tmod a n := Int.lt_tmod_of_pos a hn
 rw [w64_ (by omega) (by omega), Int.tmod_eq_emod_of_nonneg (show 0 ≤ Int.tmod a n + n by omega)]
 have h3 := Int.emod_nonneg (Int.tmod a n + n) (show n ≠ 0 by omega)
 have h4 := Int.emod_lt_of_pos (Int.tmod a n + n) hn
 exact ⟨_, rfl, h3, h4⟩
def txs (a m : Nat) : List ByteArray := (List.range' a m).map (fun k : Nat => itoaB (k : Int))
theorem txs_len (a m : Nat) : (txs a m).length = m := by simp [txs]
theorem txs_snoc (a m : Nat) : txs a (m + 1) = txs a m ++ [itoaB ((a + m : Nat) : Int)] := by unfold txs; rw [List.range'_concat, List.map_append]; simp
theorem txs_take (a m k : Nat) (h : k ≤ m) : (txs a m).take k = txs a k := by
 have e : List.range' a m = List.range' a k ++ List.range' (a + k) (m - k) := by
  have := List.range'_append (s := a) (m := k) (n := m - k) (step := 1)
  rw [Nat.one_mul, Nat.add_sub_cancel' h] at this; exact this.symm
 unfold txs; rw [← List.map_take, e, List.take_left' (by simp)]
theorem txs_app (m k : Nat) : txs 0 m ++ txs m k = txs 0 (m + k) := by unfold txs; rw [← List.map_append]; congr 1; have := List.range'_append (s := 0) (m := m) (n := k) (step := 1); simpa using this
theorem txs_get (m i : Nat) (h : i < m) : (txs 0 m)[i]? = some (itoaB (i : Int)) := by unfold txs; rw [List.getElem?_map, List.getElem?_range' h]; simp
structure IR (R i M : Nat) (s : GSt) : Prop where
 room : s.room = (R : Int)
 last : s.last = (i : Int)
 conf : s.conf = 0
 gone : s.gone = 0
 lost : s.lost = ((M - R : Nat) : Int)
 long : s.long = ((min M R : Nat) : Int)
 opn : s.opn = false
 ql : s.q.length ≤ i
 fl : s.q.flatMap (·.2) = txs 0 (min M R)
 nums : ∀ x ∈ s.q, x.1 ≤ (i : Int)
 il : i ≤ 30
 ml : M ≤ 4 * i
 r1 : 1 ≤ R ∧ R ≤ 20
theorem IR.put {R i M c : Nat} {s : GSt} (h : IR R i M s) (h30 : i < 30) (hc : c ≤ 4) : ∃ s', s.put ((i : Int) + 1) (txs M c) = (s', [], if R < M + c ∧ 0 < c then 150 else 0) ∧ IR R (i + 1) (M + c) s' := by
 obtain ⟨f, hf⟩ : ∃ f : Nat, f = min c (R - min M R) := ⟨_, rfl⟩
 have hml := h.ml
 have hr1 := h.r1
 have hfit : s.fits (txs M c) = (f : Int) := by
  unfold GSt.fits; rw [h.room, h.long, txs_len, w64_ (by omega) (by omega)]; split <;> omega
 have hput : s.put ((i : Int) + 1) (txs M c) = ((GSt.held { s with last := (i : Int) + 1 } ((i : Int) + 1) (f : Int) (txs M c)).drop (f : Int) (c : Int), [], if R < M + c ∧ 0 < c then 150 else 0) := by
  unfold GSt.put
  rw [if_neg (by rw [h.last]; omega), if_neg (by rw [h.opn, h.conf]; first | (simp; done) | (simp; omega)), hfit, txs_len]
  congr 2
  by_cases hx : R < M + c ∧ 0 < c
  ·rw [if_pos hx, if_pos (by omega)]
  ·rw [if_neg hx, if_neg (by omega)]
 refine ⟨_, hput, ?_⟩
 have hheld : ∃ s1, GSt.held { s with last := (i : Int) + 1 } ((i : Int) + 1) (f : Int) (txs M c) = s1 ∧ s1.room = (R : Int) ∧ s1.last = ((i + 1 : Nat) : Int) ∧ s1.conf = 0 ∧ s1.gone = 0 ∧ s1.lost = ((M - R : Nat) : Int) ∧ s1.long = ((min (M + c) R : Nat) : Int) ∧ s1.opn = false ∧ s1.q.length ≤ i + 1 ∧ s1.q.flatMap (·.2) = txs 0 (min (M + c) R) ∧ ∀ x ∈ s1.q, x.1 ≤ ((i + 1 : Nat) : Int) := by
  refine ⟨_, rfl, ?_⟩
  unfold GSt.held
  by_cases h0 : (0 : Int) < (f : Int)
  ·rw [if_pos h0]
   refine ⟨h.room, by show (i : Int) + 1 = _; omega, h.conf, h.gone, h.lost, ?_, h.opn, ?_, ?_, ?_⟩
   ·show wrap64 (s.long + (f : Int)) = _; rw [h.long, w64_ (by omega) (by omega)]; omega
   ·show (s.q ++ [_]).length ≤ _; rw [List.length_append]; have := h.ql; simp; omega
   ·show (s.q ++ [((i : Int) + 1, (txs M c).take ((f : Int)).toNat)]).flatMap (·.2) = _
    rw [List.flatMap_append, h.fl, Int.toNat_natCast, txs_take M c f (by omega)]
    have hM : M = min M R := by omega
    have e : min (M + c) R = min M R + f := by omega
    rw [e, ← txs_app, ← hM]; simp
   ·intro x hx
    rcases List.mem_append.1 (show x ∈ s.q ++ [_] from hx) with hx | hx
    ·have := h.nums x hx; omega
    ·simp at hx; subst hx; show (i : Int) + 1 ≤ _; omega
  ·rw [if_neg h0]
   have e : min (M + c) R = min M R := by omega
   refine ⟨h.room, by show (i : Int) + 1 = _; omega, h.conf, h.gone, h.lost, ?_, h.opn, ?_, ?_, ?_⟩
   ·show s.long = _; rw [h.long, e]
   ·show s.q.length ≤ _; have := h.ql; omega
   ·show s.q.flatMap (·.2) = _; rw [h.fl, e]
   ·intro x hx; have := h.nums x hx; omega
 obtain ⟨s1, e1, k1, k2, k3, k4, k5, k6, k7, k8, k9, k10⟩ := hheld
 rw [e1]
 unfold GSt.drop
 by_cases hd : (f : Int) < (c : Int)
 ·rw [if_pos hd]
  refine ⟨k1, k2, k3, k4, ?_, k6, k7, k8, k9, k10, by omega, by omega, hr1⟩
  show wrap64 (s1.lost + wrap64 ((c : Int) - (f : Int))) = _
  rw [k5, w64_ (show -9223372036854775808 ≤ (c : Int) - (f : Int) by omega) (by omega), w64_ (by omega) (by omega)]; omega
 ·rw [if_neg hd]
  exact ⟨k1, k2, k3, k4, by rw [k5]; omega, k6, k7, k8, k9, k10, by omega, by omega, hr1⟩
theorem until_long {n : Int} : ∀ (q : List (Int × List ByteArray)) (s : GSt) (L : Nat), (∀ x ∈ q, x.1 ≤ n) → (q.flatMap (·.2)).length ≤ L → s.long = (L : Int) → L ≤ 1000 → (gUntil n q s).1.long = ((L - (q.flatMap (·.2)).length : Nat) : Int)
 | [], s, L, _, _, hl, _ => by unfold gUntil; show s.long = _; rw [hl]; simp
 | (m, fr) :: q, s, L, h, hle, hl, hL => by
  unfold gUntil
  rw [if_pos (h (m, fr) List.mem_cons_self)]
  rw [List.flatMap_cons, List.length_append] at hle ⊢
  simp only at hle ⊢
  have hw : ∀ (s : GSt) (n : Int) (fr : List ByteArray), (s.went n fr).long = s.long := fun s n fr => by unfold GSt.went; split <;> rfl
  rw [until_long q _ (L - fr.length) (fun x hx => h x (List.mem_cons_of_mem _ hx)) (by omega) (by rw [hw]; show wrap64 (s.long - (fr.length : Int)) = _; rw [hl, w64_ (by omega) (by omega)]; omega) (by omega)]
  congr 1; omega
theorem IR.open_ {R i M : Nat} {s : GSt} (h : IR R i M s) : s.open_.2 = txs 0 (min M R) ∧ s.open_.1.long = 0 := by
 have hn : ∀ x ∈ s.q, x.1 ≤ s.last := fun x hx => by rw [h.last]; exact h.nums x hx
 have hr := h.r1
 constructor
 ·unfold GSt.open_ GSt.until; rw [until_all _ _ hn]; exact h.fl
 ·have hu := until_long (n := s.last) s.q { s with opn := true, conf := 0 } (min M R) hn (by rw [h.fl, txs_len]; exact Nat.le_refl _) h.long (by omega)
  show (gUntil s.last s.q { s with opn := true, conf := 0 }).1.long = 0
  rw [hu, h.fl, txs_len]; omega

def sternpostlaw25_GateRoom.f (k : Nat) (a0 : Int) (l1 : List Int) : Option (Bool) := sternpostlaw25_GateRoom_tail.f k a0 l1
theorem sternpostlaw25_GateRoom.mono : ∀ a0 a1 k, LeO (sternpostlaw25_GateRoom.f k a0 a1) (sternpostlaw25_GateRoom.f (k + 1) a0 a1) := by
 intro a0 a1 k
 unfold sternpostlaw25_GateRoom.f
 repeat' first
   | (with_reducible exact sternpostlaw25_GateRoom_tail.mono _ _ _)
   | (with_reducible exact LeO.refl _)
   | (with_reducible exact LeO.none _)
   | (with_reducible refine LeO.ite ?_ ?_)
   | (with_reducible refine LeO.bind ?_ (fun _ => ?_))
   | exact sternpostlaw25_GateRoom_tail.mono _ _ _
   | exact LeO.none _
   | refine LeO.ite ?_ ?_
   | refine LeO.bind ?_ (fun _ => ?_)
set_option maxHeartbeats 8000000 in
set_option maxRecDepth 100000 in
theorem sternpostlaw25_GateRoom.calls (k : Nat) (a0 : Int) (A1 : Option Addr) (c1 : Nat) (l1 : List Int) (r : Bool) (w : World) (hP10 : Pow10 w) (hr1 : Kd.C (Kd.int .i64) w A1 l1.length l1) (hc1 : l1.length ≤ c1) (h : sternpostlaw25_GateRoom.f k a0 l1 = some r) (hrT_ : r = true) :
  Calls Tryd.prog 4 #[.int .i64 a0, .slice A1 l1.length c1] w fun e w' => e = .returned (.bool r) ∧ Below w.heap.size w w' := by
 have HR1 := Aside0.mk hr1
 have HC1 := Aside0.mk hc1
 clear hr1 hc1
 have HB := Aside0.mk (Below.refl w.heap.size w)
 have H : (sternpostlaw25_GateRoom_tail.f k a0 l1) = some r := h
 clear h
 go_enter Tryd.func4, Tryd.ntmps4
 go_upto_region 1 with (fail)
 have HBt := Aside0.mk (show Below w.heap.size w _ from by repeat (first | (with_reducible first | exact HB.out | apply below_alloc | apply pw_below_drewN | apply below_drew1) | exact HB.out))
 -- UPTO
 obtain rfl : r = true := hrT_
 clear H HB
 have HP := Aside0.mk hP10
 clear hP10
 obtain ⟨rm, hrm, hr0, hr20⟩ := among_lt (a := a0) (n := 20) (by decide) (by decide)
 have HRM := Aside0.mk hrm
 clear hrm
 go_wp2_with fail
 refine (sternpostbook_Among.calls _ 20 _ _ HRM.out).mono ?_
 rintro e W0 ⟨rfl, hd⟩
 have HB0 := Aside0.mk (below_step HBt.out hd.below)
 clear hd HBt HRM
 obtain ⟨R, hR⟩ : ∃ R : Nat, R = (1 + rm).toNat := ⟨_, rfl⟩
 obtain ⟨rz, hrz⟩ : ∃ z : Int, wrap64 (1 + rm) = z := ⟨_, rfl⟩
 have HRZ := Aside0.mk (show rz = (R : Int) ∧ 1 ≤ R ∧ R ≤ 20 by rw [← hrz, w64_ (by omega) (by omega)]; omega)
 clear hr0 hr20 hR
 go_wp2_with fail
 rw [hrz]
 refine (gate_New.calls rz w _ HB0.out (by have := HRZ.out; omega) (by have := HRZ.out; omega)).mono ?_
 rintro e W1 ⟨g, rfl, hG, hB, _, _⟩
 have HG := Aside0.mk hG; have HB := Aside0.mk hB; clear hG hB HB0
 go_wp2_with fail
 refine (sternpostlaw25_works.calls _).mono ?_
 rintro e W2 ⟨rfl, hb⟩
 have HG_ := Aside0.mk (HG.out.kept hb); have HB_ := Aside0.mk (below_step HB.out hb); clear HG HB hb; have HG := HG_; have HB := HB_; clear HG_ HB_
 have hsh : (GSt.new rz).shut 0 = ((⟨rz, 0, 0, 0, 0, 0, false, []⟩ : GSt), []) := rfl
 go_wp2_with fail
 refine (gate_Gate_Shut.calls g 0 (GSt.new rz) 0 w W2 HG.out HB.out (Nat.zero_le _) (by rw [hsh]; exact Nat.zero_le _)).mono ?_
 rintro e W3 ⟨v, rfl, hG, _, hB, _⟩
 rw [hsh] at hG
 clear hsh hrz
 clear HG HB; have HG := Aside0.mk hG; have HB := Aside0.mk hB; clear hG hB
 have HI0 := Aside0.mk (show IR R 0 0 (⟨rz, 0, 0, 0, 0, 0, false, []⟩ : GSt) from ⟨HRZ.out.1, rfl, rfl, rfl, by show (0 : Int) = _; omega, by show (0 : Int) = _; omega, rfl, Nat.le_refl _, by show [] = _; rw [Nat.zero_min]; rfl, (fun x hx => nomatch hx), by omega, by omega, HRZ.out.2⟩)
 go_upto_block 0 with fail
 go_cut [7] (fun v7 W => ∃ (i M : Nat) (Mz : Int) (s : GSt) (top : Nat), v7 = .int .i64 Mz ∧ Aside0 (Mz = (M : Int)) ∧ Aside0 (IR R i M s) ∧ Aside0 (GateAt W w.heap.size top g s ∧ top ≤ W.heap.size) ∧ Aside0 (Below w.heap.size w W))
 case first =>
  go_wp2_with fail
  go_loopg [7, 8] 30 (fun kq v7 v8 W => ∃ (i M : Nat) (iz Mz : Int) (s : GSt) (top : Nat), v7 = .int .i64 Mz ∧ v8 = .int .i64 iz ∧ Aside0 (iz = (i : Int) ∧ Mz = (M : Int)) ∧ Aside0 (kq + i = 30) ∧ Aside0 (IR R i M s) ∧ Aside0 (GateAt W w.heap.size top g s ∧ top ≤ W.heap.size) ∧ Aside0 (Below w.heap.size w W))
  case atStart => exact ⟨0, 0, 0, 0, _, 0, rfl, rfl, ⟨rfl, rfl⟩, ⟨rfl⟩, HI0, ⟨HG.out, Nat.zero_le _⟩, HB⟩
  case round =>
   clear HG HB HI0
   obtain ⟨i, M, iz, Mz, s, top, rfl, rfl, HZ, HK, HI, HG, HB⟩ := hrel
   have hz_ := HZ.out
   by_cases hlt : iz < (l1.length : Int)
   rotate_left
   ·have d1 : decide (iz < (l1.length : Int)) = false := decide_eq_false hlt
    clear hlt hz_
    go_wp2
    go_meet
    case rel => exact ⟨i, M, Mz, s, top, rfl, ⟨HZ.out.2⟩, HI, HG, HB⟩
   have d1 : decide (iz < (l1.length : Int)) = true := decide_eq_true hlt
   by_cases h30 : iz < 30
   rotate_left
   ·have d2 : decide (iz < 30) = false := decide_eq_false h30
    clear hlt h30 hz_
    go_wp2
    go_meet
    case rel => exact ⟨i, M, Mz, s, top, rfl, ⟨HZ.out.2⟩, HI, HG, HB⟩
   have d2 : decide (iz < 30) = true := decide_eq_true h30
   obtain ⟨k1, rfl⟩ : ∃ k1, gk = k1 + 1 := ⟨gk - 1, by have := HK.out; omega⟩
   have p0 : 0 ≤ iz := by omega
   have H30 := Aside0.mk (show i < 30 by omega)
   obtain ⟨ad, ead, hx⟩ := Kd.at_int (Kd.C_below HR1.out HB.out) iz p0 hlt
   cases ead
   replace p0 := eq_true p0
   replace hlt := eq_true hlt
   clear h30 hz_
   obtain ⟨c, hc, hc0, hc5⟩ := among_lt (a := rd l1 iz) (n := 5) (by decide) (by decide)
   have HC := Aside0.mk hc
   have HC5 := Aside0.mk (And.intro hc0 hc5)
   clear hc hc0 hc5
   go_wp2_with fail
   refine (sternpostbook_Among.calls _ 5 _ _ HC.out).mono ?_
   rintro e W5 ⟨rfl, hd⟩
   have hb := hd.below
   clear hd p0 hlt hx HC
   have HG_ := Aside0.mk (((HG.out.1.kept hb).top (Nat.le_trans HG.out.2 hb.size))); have HB_ := Aside0.mk (below_step HB.out hb); clear HG HB hb; have HG := HG_; have HB := HB_; clear HG_ HB_
   have HSZ := Aside0.mk HB.out.size
   go_upto_block 2 with fail
   go_cut [7, 9] (fun v7 v9 W => ∃ (cn : Nat) (Mz' : Int) (B : Nat), v7 = .int .i64 Mz' ∧ Aside0 ((cn : Int) = c) ∧ Aside0 (Mz' = ((M + cn : Nat) : Int)) ∧ Aside0 (ownsAt W B 9 1 v9 (txs M cn).length (txt (txs M cn))) ∧ Aside0 (GateAt W w.heap.size B g s ∧ B ≤ W.heap.size) ∧ Aside0 (Below w.heap.size w W))
   case first =>
    go_wp2_with fail
    go_loopg [7, 9, 53] c.toNat (fun kq v7 v9 v53 W => ∃ (m : Nat) (mz Mz' : Int), v7 = .int .i64 Mz' ∧ v53 = .int .i64 mz ∧ Aside0 (mz = (m : Int) ∧ Mz' = ((M + m : Nat) : Int)) ∧ Aside0 (kq + m = c.toNat) ∧ Aside0 (ownsAt W W5.heap.size 9 1 v9 (txs M m).length (txt (txs M m))) ∧ Aside0 (GateAt W w.heap.size W5.heap.size g s ∧ W5.heap.size ≤ W.heap.size) ∧ Aside0 (Below w.heap.size w W))
    case atStart => exact ⟨0, 0, Mz, rfl, rfl, ⟨rfl, by rw [HZ.out.2]; rfl⟩, ⟨by omega⟩, ⟨ownsAt_nil _ _ _ _⟩, ⟨HG.out, Nat.le_refl _⟩, HB⟩
    case round =>
     clear HG HB
     obtain ⟨m, mz, Mz', rfl, rfl, HZ2, HK2, HV, HG, HB⟩ := hrel
     have hz_ := HZ2.out
     by_cases hlt : mz < c
     rotate_left
     ·have d1 : decide (mz < c) = false := decide_eq_false hlt
      have HE := Aside0.mk (show (m : Int) = c by have := HK2.out; have := HC5.out; omega)
      clear hlt hz_
      go_wp2
      go_meet
      case rel => exact ⟨m, Mz', _, rfl, HE, ⟨HZ2.out.2⟩, HV, HG, HB⟩
     have d1 : decide (mz < c) = true := decide_eq_true hlt
     obtain ⟨k2, rfl⟩ : ∃ k2, gk = k2 + 1 := ⟨gk - 1, by have := HK2.out; omega⟩
     clear hlt hz_
     obtain ⟨A9, c9, rfl, _⟩ := ownsAt_len HV.out
     have HMZ := Aside0.mk (show 0 ≤ Mz' ∧ Mz' < 1000 by have := HZ2.out; have := HI.out.ml; have := HI.out.il; have := HK2.out; have := HC5.out; omega)
     go_wp2_with fail
     refine (itoa_calls Mz' _ (by have := HMZ.out; omega) (by have := HMZ.out; omega) (HP.out.below HB.out)).mono ?_
     rintro e W6 ⟨rfl, hb⟩
     have hb2 := below_alloc hb (Obj.cells #[.string (itoaB Mz')] 9)
     have hl := Aside0.mk (ownsAt_lit W6 #[.string (itoaB Mz')] 9 1 1 rfl (by decide))
     have HG_ := Aside0.mk (And.intro (HG.out.1.kept hb2) (Nat.le_trans HG.out.2 hb2.size)); have HB_ := Aside0.mk (below_step HB.out hb2); have HV_ := Aside0.mk (ownsAt_below HV.out hb2); clear HG HB HV hb hb2; have HG := HG_; have HB := HB_; have HV := HV_; clear HG_ HB_ HV_
     go_wp2_with (first | ((with_reducible refine gate_dst (N := 59) rfl ?_); refine wl_append 29 9 (.string (⟨#[]⟩ : ByteArray)) 1 16 rfl rfl Tryd.underlying29 (by kernel_rfl) rfl (by decide) (v := .slice A9 (txs M m).length c9) rfl rfl HV.out hl.out rfl (by rw [txs_len]; have := HK2.out; have := HC5.out; simp only [maxLen]; omega) (by rw [txs_len]; have := HK2.out; have := HC5.out; omega) HG.out.2 (fun v7_ W7 hv7 hg7 _ => ?_); have HV7 := Aside0.mk hv7; have HG7 := Aside0.mk hg7; clear hv7 hg7))
     have hm : wrap64 (mz + 1) = ((m + 1 : Nat) : Int) := by have := HZ2.out; have := HK2.out; have := HC5.out; rw [w64_ (by omega) (by omega)]; omega
     have hM : wrap64 (Mz' + 1) = ((M + (m + 1) : Nat) : Int) := by have := HZ2.out; have := HMZ.out; rw [w64_ (by omega) (by omega)]; omega
     have HMM := Aside0.mk (And.intro hm hM)
     clear hm hM
     go_roundg k2
     case measure => omega
     case rel =>
      have hrow : ∀ b, Value.ownBlock (.slice A9 (txs M m).length c9) = some b → W5.heap.size ≤ b ∧ ∃ cur, (W6.alloc (Obj.cells #[.string (itoaB Mz')] 9)).heap[b]? = some (Obj.cells cur 9 (0, 0)) := fun b hb => ownsAt_block HV.out hb
      refine ⟨m + 1, _, _, rfl, rfl, HMM, ⟨by have := HK2.out; omega⟩, ⟨?_⟩, ⟨HG.out.1.grown HG7.out hrow, Nat.le_trans HG.out.2 HG7.out.size⟩, ⟨below_of_grown HB.out HG7.out HB.out.size (fun b hb => Nat.le_trans HSZ.out (hrow b hb).1)⟩⟩
      have h := HV7.out
      rw [txs_snoc, List.length_append]
      rw [show ((M + m : Nat) : Int) = Mz' from HZ2.out.2.symm]
      simpa [txt] using h
   case rest =>
    clear HG HB
    obtain ⟨cn, Mz', B, h7_, HCN, HMZ, HV, HG, HB⟩ := hcut
    subst h7_
    obtain ⟨A9, c9, rfl, _⟩ := ownsAt_len HV.out
    have hn : wrap64 (iz + 1) = (i : Int) + 1 := by have := HZ.out; have := HI.out.il; rw [w64_ (by omega) (by omega)]; omega
    obtain ⟨s', hr, hi'⟩ := HI.out.put H30.out (c := cn) (by have := HCN.out; have := HC5.out; omega)
    have HN := Aside0.mk (And.intro hn (And.intro hr hi'))
    clear hn hr hi'
    obtain ⟨K, hK⟩ : ∃ K_ : Int, (if R < M + cn ∧ 0 < cn then 150 else 0) = K_ := ⟨_, rfl⟩
    have HKK := Aside0.mk hK
    clear hK
    go_wp2_with fail
    refine (gate_Gate_Put.calls g B B s (wrap64 (iz + 1)) _ (txs M cn) w _ HG.out.1 HB.out HG.out.2 HV.out (by rw [txs_len]; have := HCN.out; have := HC5.out; omega) (by have := HI.out.ql; have := HI.out.il; omega)).mono ?_
    rintro e W8 ⟨v8, top8, rfl, hG, hO, hT0, hT, hB, _⟩
    have hput : s.put (wrap64 (iz + 1)) (txs M cn) = (s', [], K) := by rw [HN.out.1, HN.out.2.1, HKK.out]
    rw [hput] at hG hO ⊢
    clear hput
    obtain ⟨A8, c8, rfl, _⟩ := ownsAt_len hO
    clear HG HB HV hO; have HG := Aside0.mk (And.intro hG hT); have HB := Aside0.mk hB; clear hG hT0 hT hB
    have hm : wrap64 (iz + 1) = ((i + 1 : Nat) : Int) := by rw [HN.out.1]; omega
    have HM := Aside0.mk hm
    clear hm
    have hcase : (K = 150 ∧ decide (rz < Mz') = true ∧ (0 < (txs M cn).length) = True) ∨ (K = 0 ∧ decide (rz < Mz') = false) ∨ (K = 0 ∧ decide (rz < Mz') = true ∧ (0 < (txs M cn).length) = False) := by
     have h1 := HRZ.out.1; have h2 := HMZ.out; have h3 := HKK.out; rw [txs_len]
     by_cases hx : R < M + cn
     ·by_cases hy : 0 < cn
      ·rw [if_pos ⟨hx, hy⟩] at h3; exact .inl ⟨h3.symm, decide_eq_true (by omega), eq_true (by omega)⟩
      ·rw [if_neg (fun h => hy h.2)] at h3; exact .inr (.inr ⟨h3.symm, decide_eq_true (by omega), eq_false (by omega)⟩)
     ·rw [if_neg (fun h => hx h.1)] at h3; exact .inr (.inl ⟨h3.symm, decide_eq_false (by omega)⟩)
    rcases hcase with ⟨e1, e2, e3⟩ | ⟨e1, e2⟩ | ⟨e1, e2, e3⟩
    all_goals
     rw [e1]
     clear e1
     go_wp2
     go_roundg k1
     case measure => omega
     case rel => exact ⟨i + 1, M + cn, _, Mz', s', top8, rfl, rfl, ⟨HM.out, HMZ.out⟩, ⟨by have := HK.out; omega⟩, ⟨HN.out.2.2⟩, HG, HB⟩
 case rest =>
  clear HG HB HI0
  obtain ⟨i, M, Mz, s, top, h7_, HZ, HI, HG, HB⟩ := hcut
  subst h7_
  obtain ⟨lz, hlz⟩ : ∃ z : Int, ((M - R : Nat) : Int) = z := ⟨_, rfl⟩
  obtain ⟨nz, hnz⟩ : ∃ z : Int, ((min M R : Nat) : Int) = z := ⟨_, rfl⟩
  have HL := Aside0.mk (show s.gone = 0 ∧ s.lost = lz ∧ s.long = nz from ⟨HI.out.gone, HI.out.lost.trans hlz, HI.out.long.trans hnz⟩)
  have hml : M ≤ 120 := by have := HI.out.ml; have := HI.out.il; omega
  have hsub : wrap64 (Mz - rz) = Mz - rz := by have := HZ.out; have := HRZ.out; rw [w64_ (by omega) (by omega)]
  have hmx : (if (0 : Int) < wrap64 (Mz - rz) then wrap64 (Mz - rz) else 0) = lz := by have := HZ.out; have := HRZ.out; rw [hsub]; split <;> omega
  have hmn : (if rz < Mz then rz else Mz) = nz := by have := HZ.out; have := HRZ.out; split <;> omega
  have HNZ := Aside0.mk hnz
  clear hsub hlz hnz
  go_wp2_with fail
  refine (gate_Gate_State.calls g _ top s _ HG.out.1).mono ?_
  rintro e W9 ⟨rfl, hd⟩
  rw [HL.out.1, HL.out.2.1]
  have hb := hd.below
  have HG_ := Aside0.mk (And.intro (HG.out.1.kept hb) (Nat.le_trans HG.out.2 hb.size)); have HB_ := Aside0.mk (below_step HB.out hb); clear HG HB hb hd; have HG := HG_; have HB := HB_; clear HG_ HB_
  go_wp2_with fail
  refine (gate_Gate_Len.calls g _ top s _ HG.out.1).mono ?_
  rintro e W10 ⟨rfl, hW⟩
  subst hW
  rw [HL.out.2.2]
  obtain ⟨lo, hlo⟩ : ∃ l_, txs 0 (min M R) = l_ := ⟨_, rfl⟩
  have HO := Aside0.mk (show s.open_.2 = lo from HI.out.open_.1.trans hlo)
  have HLO := Aside0.mk hlo
  have HLN := Aside0.mk (show lo.length = min M R by rw [← hlo, txs_len])
  clear hlo
  go_wp2_with fail
  refine (gate_Gate_Open.calls g top s w _ HG.out.1 HB.out HG.out.2 (by rw [HO.out, HLN.out]; omega)).mono ?_
  rintro e W11 ⟨v11, rfl, hG, hO, hB, _⟩
  rw [HO.out] at hO
  obtain ⟨A11, c11, rfl, _⟩ := ownsAt_len hO
  have HC := Aside0.mk (ownsAt_texts hO).1
  clear HG HB hO hmx hmn; have HG := Aside0.mk hG; have HB := Aside0.mk hB; clear hG hB
  go_upto_block 4 with fail
  go_cut [123] (fun v123_ W => Aside0 (Below W11.heap.size W11 W))
  case first =>
   go_wp2_with fail
   go_loopg [123] lo.length (fun kq v123_ W => ∃ (m : Nat) (mz : Int), v123_ = .int .i64 mz ∧ Aside0 (mz = (m : Int)) ∧ Aside0 (kq + m = lo.length) ∧ Aside0 (Below W11.heap.size W11 W))
   case atStart => exact ⟨0, 0, rfl, ⟨rfl⟩, ⟨by omega⟩, ⟨Below.refl _ _⟩⟩
   case round =>
    obtain ⟨m, mz, rfl, HZ2, HK, HBB⟩ := hrel
    have hz_ := HZ2.out
    by_cases hlt : mz < (lo.length : Int)
    rotate_left
    ·have d1 : decide (mz < (lo.length : Int)) = false := decide_eq_false hlt
     clear hlt hz_
     go_wp2
     go_meet
     case rel => exact HBB
    have d1 : decide (mz < (lo.length : Int)) = true := decide_eq_true hlt
    obtain ⟨k1, rfl⟩ : ∃ k1, gk = k1 + 1 := ⟨gk - 1, by have := HK.out; omega⟩
    have p0 : 0 ≤ mz := by omega
    obtain ⟨ad, ead, hx⟩ := Kd.at_string (Kd.C_below HC.out HBB.out) mz p0 hlt
    cases ead
    rw [show rdOf ByteArray.empty lo mz = itoaB mz from by unfold rdOf; rw [List.getD_eq_getElem?_getD, ← HLO.out, txs_get _ _ (by have := HLN.out; omega)]; show itoaB ((mz.toNat : Nat) : Int) = _; rw [Int.toNat_of_nonneg p0]] at hx
    have hm : wrap64 (mz + 1) = ((m + 1 : Nat) : Int) := by have := HLN.out; rw [w64_ (by omega) (by omega)]; omega
    have HM := Aside0.mk hm
    have HMB := Aside0.mk (show 0 ≤ mz ∧ mz < 1000 by have := HLN.out; omega)
    clear hm hz_
    replace p0 := eq_true p0
    replace hlt := eq_true hlt
    go_wp2_with fail
    refine (itoa_calls mz _ (by have := HMB.out; omega) (by have := HMB.out; omega) (HP.out.below (below_step HB.out HBB.out))).mono ?_
    rintro e W12 ⟨rfl, hb⟩
    have HBB_ := Aside0.mk (below_step HBB.out hb); clear HBB hb hx; have HBB := HBB_; clear HBB_
    go_wp2
    go_roundg k1
    case measure => omega
    case rel => exact ⟨m + 1, _, rfl, HM, ⟨by have := HK.out; omega⟩, HBB⟩
  case rest =>
   have HBB := hcut
   clear hcut
   go_wp2_with fail
   refine (gate_Gate_Len.calls g _ top s.open_.1 _ (HG.out.kept HBB.out)).mono ?_
   rintro e W13 ⟨rfl, hW⟩
   subst hW
   rw [HI.out.open_.2]
   go_wp2
   go_ret
   exact ⟨rfl, below_step HB.out HBB.out⟩

/-- THE ONE PURE STATEMENT of sternpostlaw25_GateRoom: yours. -/
def sternpostlaw25_GateRoom.Pure : Prop := ∀ (a0 : Int) (l1 : List Int), (Lit.int .i64 a0).wf = true → l1.length ≤ maxLen → l1.length * 8 ≤ 140737488351232 → (∀ x ∈ l1, (Lit.int .i64 x).wf = true) → ∃ k, sternpostlaw25_GateRoom.f k a0 l1 = some true
theorem sternpostlaw25_GateRoom.walk (P : sternpostlaw25_GateRoom.Pure) (a0 : Int) (a1 : Option Addr) (len1 cap1 : Nat) (z1 : List Int) (w : World) (hP10 : Pow10 w) (w0 : (Lit.int .i64 a0).wf = true) (w1 : (a1 = none ∧ len1 = 0 ∧ cap1 = 0 ∧ z1 = []) ∨ ∃ x, a1 = some x ∧ len1 ≤ cap1 ∧ cap1 ≤ maxLen ∧ z1.length = cap1 ∧ (∀ i, i < z1.length → w.cell? (x.add i) = some (.int .i64 (z1.getD i 0))) ∧ ∀ n ∈ z1, (Lit.int .i64 n).wf = true) (y1 : len1 * 8 ≤ 140737488351232) :
  Calls Tryd.prog 4 #[.int .i64 a0, .slice a1 len1 cap1] w fun e w' => e = .returned (.bool true) ∧ Below w.heap.size w w' := by
 obtain ⟨l1, rfl, hr1, hm1, hw1, hc1⟩ := ReadsInt.ofRowC w1
 obtain ⟨k, h⟩ := P a0 l1 w0 hm1 y1 hw1
 refine (sternpostlaw25_GateRoom.calls k a0 _ _ l1 true w hP10 (Kd.C_of_reads (d := (0 : Int)) (h1 := fun _ => rfl) hr1) hc1 h rfl).mono ?_
 rintro e w' ⟨rfl, hd⟩
 exact ⟨rfl, hd⟩

end Go.Proofs.YtcmpkgmhcbnmbaaDoor.PGateRoom

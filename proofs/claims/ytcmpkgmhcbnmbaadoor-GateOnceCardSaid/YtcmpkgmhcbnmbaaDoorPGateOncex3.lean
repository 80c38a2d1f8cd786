-- Laid by this claim's own program over the print's words.
import Derived.Maps.OwnOps
import Derived.Maps.Views
import Derived.Test.YtcmpkgmhcbnmbaaDoorPGateOncex0
import Derived.Test.YtcmpkgmhcbnmbaaDoorPGateOncex1
import Derived.Test.YtcmpkgmhcbnmbaaDoorPGateOncex2
namespace Go.Proofs.YtcmpkgmhcbnmbaaDoor.PGateOnce
open Go.RowKit Go.Proofs.YtcmpkgmhcbnmbaaDoorW.PrintWords Go.Proofs.YtcmpkgmhcbnmbaaDoorW.PrintLast Go.Proofs.YtcmpkgmhcbnmbaaDoorW.PrintMore
attribute [local go_sem] max2_int min2_int max_two min_two max_three min_three max_four min_four max_five min_five extract_cut tmod_nat_lit   -- for this text's walks alone
set_option linter.unusedVariables false
set_option linter.unusedSimpArgs false

/-! ### sternpostbook_Among: function 7 -/
def sternpostbook_Among.f (a0 : Int) (a1 : Int) : Option (Int) := if a1 = 0 then (none) else (some (Int.tmod (wrap64 ((Int.tmod a0 a1) + a1)) a1))
set_option maxHeartbeats 8000000 in
set_option maxRecDepth 100000 in
theorem sternpostbook_Among.calls (a0 : Int) (a1 : Int) (r : Int) (w : World) (h : sternpostbook_Among.f a0 a1 = some r) :
  Calls Tryd.prog 7 #[.int .i64 a0, .int .i64 a1] w fun e w' => e = .returned (.int .i64 r) ∧ Drawn0 w w' := by
 have H : (if a1 = 0 then (none) else (some (Int.tmod (wrap64 ((Int.tmod a0 a1) + a1)) a1))) = some r := h
 clear h
 by_cases c3 : a1 = 0
 ·rw [if_pos c3] at H
  exact absurd H (by simp)
 ·rw [if_neg c3] at H
  have c3b0 : (a1 == 0) = false := beq_eq_false_iff_ne.mpr c3
  have c3b1 : (a1 != 0) = true := bne_iff_ne.mpr c3
  obtain rfl := Option.some.inj H
  go_enter Tryd.func7, Tryd.ntmps7
  go_wp2
  go_ret
  exact ⟨by first | rfl | (simp; done) | (simp [*]; done), by repeat (first | exact Drawn0.refl _ | apply Drawn0.step)⟩


/-! ### strconv_Itoa: function 8 (by hand) -/
section
open Go.Shelf Go.Sort Go.Lib
def laid_laysM171_ren : Go.Shelf.Ren := ⟨fun | 171 => 8 | 243 => 16 | 246 => 19 | 283 => 20 | 284 => 21 | 285 => 22 | 286 => 23 | 129 => 25 | 317 => 24 | 318 => 26 | 319 => 27 | 320 => 28 | 337 => 29 | 338 => 30 | n => n, fun | 3 => 3 | 9 => 9 | 2 => 2 | 4 => 4 | 171 => 52 | 0 => 0 | 53 => 53 | 37 => 56 | 5 => 5 | 173 => 57 | 212 => 61 | 51 => 62 | 20 => 20 | 213 => 63 | 46 => 65 | 232 => 68 | 233 => 69 | n => n, fun | 17 => 0 | 18 => 1 | 19 => 2 | n => n⟩
theorem laid_laysM171 : Go.Proofs.LaysM.n171 Tryd.prog laid_laysM171_ren := {
 mixed := by kernel_rfl
 f129 := Tryd.func25.trans (congrArg some (by kernel_rfl))
 f171 := Tryd.func8.trans (congrArg some (by kernel_rfl))
 f243 := Tryd.func16.trans (congrArg some (by kernel_rfl))
 f246 := Tryd.func19.trans (congrArg some (by kernel_rfl))
 f283 := Tryd.func20.trans (congrArg some (by kernel_rfl))
 f284 := Tryd.func21.trans (congrArg some (by kernel_rfl))
 f285 := Tryd.func22.trans (congrArg some (by kernel_rfl))
 f286 := Tryd.func23.trans (congrArg some (by kernel_rfl))
 f317 := Tryd.func24.trans (congrArg some (by kernel_rfl))
 f318 := Tryd.func26.trans (congrArg some (by kernel_rfl))
 f319 := Tryd.func27.trans (congrArg some (by kernel_rfl))
 f320 := Tryd.func28.trans (congrArg some (by kernel_rfl))
 f337 := Tryd.func29.trans (congrArg some (by kernel_rfl))
 f338 := Tryd.func30.trans (congrArg some (by kernel_rfl))
 t0 := Tryd.underlying0
 a0 := Tryd.isAgg0
 z0 := Tryd.sizeOf0
 v0 := Tryd.zeroValue0
 t2 := Tryd.underlying2
 a2 := Tryd.isAgg2
 z2 := Tryd.sizeOf2
 v2 := Tryd.zeroValue2
 t3 := Tryd.underlying3
 a3 := Tryd.isAgg3
 z3 := Tryd.sizeOf3
 v3 := Tryd.zeroValue3
 t4 := Tryd.underlying4
 a4 := Tryd.isAgg4
 z4 := Tryd.sizeOf4
 v4 := Tryd.zeroValue4
 t5 := Tryd.underlying5
 a5 := Tryd.isAgg5
 z5 := Tryd.sizeOf5
 v5 := Tryd.zeroValue5
 t9 := Tryd.underlying9
 a9 := Tryd.isAgg9
 z9 := Tryd.sizeOf9
 v9 := Tryd.zeroValue9
 t20 := Tryd.underlying20
 a20 := Tryd.isAgg20
 z20 := Tryd.sizeOf20
 v20 := Tryd.zeroValue20
 t37 := Tryd.underlying56
 a37 := Tryd.isAgg56
 z37 := Tryd.sizeOf56
 v37 := Tryd.zeroValue56
 t46 := Tryd.underlying65
 a46 := Tryd.isAgg65
 z46 := Tryd.sizeOf65
 v46 := Tryd.zeroValue65
 t51 := Tryd.underlying62
 a51 := Tryd.isAgg62
 z51 := Tryd.sizeOf62
 v51 := Tryd.zeroValue62
 t53 := Tryd.underlying53
 a53 := Tryd.isAgg53
 z53 := Tryd.sizeOf53
 v53 := Tryd.zeroValue53
 t171 := Tryd.underlying52
 a171 := Tryd.isAgg52
 z171 := Tryd.sizeOf52
 v171 := Tryd.zeroValue52
 t173 := Tryd.underlying57
 a173 := Tryd.isAgg57
 z173 := Tryd.sizeOf57
 v173 := Tryd.zeroValue57
 t212 := Tryd.underlying61
 a212 := Tryd.isAgg61
 z212 := Tryd.sizeOf61
 v212 := Tryd.zeroValue61
 t213 := Tryd.underlying63
 a213 := Tryd.isAgg63
 z213 := Tryd.sizeOf63
 t232 := Tryd.underlying68
 a232 := Tryd.isAgg68
 z232 := Tryd.sizeOf68
 v232 := Tryd.zeroValue68
 t233 := Tryd.underlying69
 a233 := Tryd.isAgg69
 z233 := Tryd.sizeOf69
 v233 := Tryd.zeroValue69
 g17 := by kernel_rfl
 g18 := by kernel_rfl
 g19 := by kernel_rfl
 i0 := by kernel_rfl
 i2 := by kernel_rfl
 i3 := by kernel_rfl
 i4 := by kernel_rfl
 i5 := by kernel_rfl
 i9 := by kernel_rfl
 i20 := by kernel_rfl
 i37 := by kernel_rfl
 i46 := by kernel_rfl
 i51 := by kernel_rfl
 i53 := by kernel_rfl
 i171 := by kernel_rfl
 i173 := by kernel_rfl
 i212 := by kernel_rfl
 i232 := by kernel_rfl
 i233 := by kernel_rfl
 m17 := by kernel_rfl
 m18 := by kernel_rfl
 m19 := by kernel_rfl }
theorem laid_strconv_Itoa (n : Int) (h0 : -9223372036854775808 ≤ n) (h1 : n ≤ 9223372036854775807) (w : World) (htab : Lib.TabIs Tryd.prog w "internal/strconv.uint64pow10" .u64 Lib.pow10Tab) :
  Calls Tryd.prog 8 #[.int .i64 n] w fun e w' => e = .returned (.string ⟨(Lib.itoa n).toArray⟩) ∧ ∃ k os, w' = grow (w.drewN k) os := Any.strconv_Itoa laid_laysM171 n h0 h1 w htab
end
def itoaB (n : Int) : ByteArray := ⟨(Go.Lib.itoa n).toArray⟩
abbrev Pow10 (w : World) : Prop := Go.Lib.TabIs Tryd.prog w "internal/strconv.uint64pow10" .u64 Go.Lib.pow10Tab
theorem strconv_Itoa.calls (n : Int) (w : World) (h0 : -9223372036854775808 ≤ n) (h1 : n ≤ 9223372036854775807) (htab : Pow10 w) :
  Calls Tryd.prog 8 #[.int .i64 n] w fun e w' => e = .returned (.string (itoaB n)) ∧ Below w.heap.size w w' := by
 refine (laid_strconv_Itoa n h0 h1 w htab).mono ?_
 rintro e w' ⟨rfl, k, os, rfl⟩
 refine ⟨rfl, rfl, rfl, rfl, by simp [Go.Sort.grow, World.drewN], fun j hj => ?_⟩
 show (w.heap ++ os)[j]? = w.heap[j]?
 rw [Array.getElem?_append_left hj]
theorem itoa_calls (n : Int) (w : World) (h0 : -9223372036854775808 ≤ n) (h1 : n ≤ 9223372036854775807) (htab : Pow10 w) : Calls Tryd.prog 8 #[.int .i64 n] w fun e w' => e = .returned (.string (itoaB n)) ∧ Below w.heap.size w w' := strconv_Itoa.calls n w h0 h1 htab
theorem Pow10.below {w w' : World} (h : Pow10 w) (hb : Below w.heap.size w w') : Pow10 w' := by
 unfold Pow10 Go.Lib.TabIs World.var? at *
 cases hg : Tryd.prog.globalNamed "internal/strconv.uint64pow10" with
 | none => simp [hg] at h
 | some g =>
  simp only [hg, Option.bind_some] at h ⊢
  have hlt : g < w.heap.size := by
   rcases Nat.lt_or_ge g w.heap.size with h' | h'
   ·exact h'
   ·simp [Array.getElem?_eq_none h'] at h
  rw [hb.block g hlt]; exact h



/-! ### gate_Gate_Len: function 13 (by hand) -/
set_option maxHeartbeats 4000000 in
set_option maxRecDepth 100000 in
theorem gate_Gate_Len.calls (g base top : Nat) (s : GSt) (w : World) (hG : GateAt w base top g s) :
  Calls Tryd.prog 13 #[.pointer (some ⟨g, 0, none⟩)] w fun e w' => e = .returned (.int .i64 s.long) ∧ w' = w := by
 have HI := Aside0.mk hG
 obtain ⟨Az, cz, ⟨hbg, hle⟩, hcm, ⟨hc0, hc1, hc2, hc3⟩, ⟨hc4, hc5, hc6, hc7⟩, ⟨hf0, hf1, hf2, hf3⟩, ⟨hf4, hf5, hf6, hf7⟩, csz, HQ, HE⟩ := HI.out.cell
 go_enter Tryd.func13, Tryd.ntmps13
 go_wp2
 go_ret
 exact ⟨rfl, rfl⟩


/-! ### sternpostlaw25_GateOnce: function 3 -/
def sternpostlaw25_GateOnce_tail.f (k : Nat) (l0 : List S31) : Option Bool := some true
theorem sternpostlaw25_GateOnce_tail.mono (l0 : List S31) (k : Nat) : LeO (sternpostlaw25_GateOnce_tail.f k l0) (sternpostlaw25_GateOnce_tail.f (k + 1) l0) := LeO.refl _
theorem put_free {s : GSt} {n : Int} {fr : List ByteArray} (h1 : ¬ (n < 1 ∨ n < s.last)) (h2 : ¬ (s.opn = true ∨ n ≤ s.conf)) (h3 : s.fits fr = (fr.length : Int)) : s.put n fr = (GSt.held { s with last := n } n (fr.length : Int) fr, [], 0) := by
 unfold GSt.put
 rw [if_neg h1, if_neg h2, h3, if_neg (Int.lt_irrefl _)]
 unfold GSt.drop
 rw [if_neg (Int.lt_irrefl _)]
theorem w64_ {x : Int} (h1 : -9223372036854775808 ≤ x) (h2 : x < 9223372036854775808) : wrap64 x = x := by unfold wrap64; omega
theorem fits_free {s : GSt} {fr : List ByteArray} {h : Nat} (hr : s.room = 1000) (hl : s.long = (h : Int)) (hh : h ≤ 900) (hf : fr.length ≤ 50) : s.fits fr = (fr.length : Int) := by
 unfold GSt.fits; rw [hr, hl, w64_ (by omega) (by omega), if_neg (by omega)]
theorem among_lt {a n : Int} (hn : 0 < n) (hn2 : n < 4611686018427387904) : ∃ c : Int, sternpostbook_Among.f a n = some c ∧ 0 ≤ c ∧ c < n := by
 unfold sternpostbook_Among.f
 rw [if_neg (by omega)]
 have h1 := Int.tmod_lt_of_pos a hn
 have h2 : -n < Int.tmod a n := Int.lt_tmod_of_pos a hn
 rw [w64_ (by omega) (by omega), Int.tmod_eq_emod_of_nonneg (show 0 ≤ Int.tmod a n + n by omega)]
 have h3 := Int.emod_nonneg (Int.tmod a n + n) (show n ≠ 0 by omega)
 have h4 := Int.emod_lt_of_pos (Int.tmod a n + n) hn
 exact ⟨_, rfl, h3, h4⟩
def txs (a m : Nat) : List ByteArray := (List.range' a m).map (fun k : Nat => itoaB (k : Int))
theorem txs_len (a m : Nat) : (txs a m).length = m := by simp [txs]
theorem txs_snoc (a m : Nat) : txs a (m + 1) = txs a m ++ [itoaB ((a + m : Nat) : Int)] := by unfold txs; rw [List.range'_concat, List.map_append]; simp
theorem txs_take (a m k : Nat) (h : k ≤ m) : (txs a m).take k = txs a k := by
 have e : List.range' a m = List.range' a k ++ List.range' (a + k) (m - k) := by
  have := List.range'_append (s := a) (m := k) (n := m - k) (step := 1)
  rw [Nat.one_mul, Nat.add_sub_cancel' h] at this; exact this.symm
 unfold txs; rw [← List.map_take, e, List.take_left' (by simp)]
theorem txs_app (m k : Nat) : txs 0 m ++ txs m k = txs 0 (m + k) := by unfold txs; rw [← List.map_append]; congr 1; have := List.range'_append (s := 0) (m := m) (n := k) (step := 1); simpa using this
theorem txs_get (m i : Nat) (h : i < m) : (txs 0 m)[i]? = some (itoaB (i : Int)) := by unfold txs; rw [List.getElem?_map, List.getElem?_range' h]; simp
def Al (U : List Int) : Nat → List (Int × List ByteArray) → Prop
 | m, [] => m = U.length
 | m, (n, fs) :: q => fs = txs m fs.length ∧ (∀ k, k < fs.length → U[m + k]? = some n) ∧ Al U (m + fs.length) q
structure IO (N S m : Nat) (C : Int) (op : Bool) (U : List Int) (s : GSt) : Prop where
 room : s.room = 4096
 last : s.last = (N : Int)
 opn : s.opn = op
 conf : s.conf = if op = true then 0 else C
 long : s.long = ((U.length - m : Nat) : Int)
 ul : U.length = S
 ms : m ≤ S
 al : Al U m s.q
 srt : s.q.Pairwise (fun a b => a.1 < b.1)
 bnd : ∀ x ∈ s.q, x.1 ≤ (N : Int)
 opq : op = true → s.q = []
 shq : op = false → ∀ x ∈ s.q, C < x.1
 ql : s.q.length ≤ N
 nb : N ≤ 80 ∧ S ≤ 3 * N
 c0 : 0 ≤ C ∧ C ≤ (N : Int)
theorem until_al {U : List Int} {n : Int} : ∀ (q : List (Int × List ByteArray)) (m : Nat) (s : GSt), Al U m q → q.Pairwise (fun a b => a.1 < b.1) → m ≤ U.length → s.long = ((U.length - m : Nat) : Int) → U.length ≤ 1000 →
  ∃ L, (gUntil n q s).2 = txs m L ∧ m + L ≤ U.length ∧ Al U (m + L) (gUntil n q s).1.q ∧ (gUntil n q s).1.q.Pairwise (fun a b => a.1 < b.1) ∧ (∀ x ∈ (gUntil n q s).1.q, n < x.1 ∧ x ∈ q) ∧ (gUntil n q s).1.long = ((U.length - (m + L) : Nat) : Int) ∧
   ((gUntil n q s).1.room = s.room ∧ (gUntil n q s).1.last = s.last ∧ (gUntil n q s).1.conf = s.conf ∧ (gUntil n q s).1.opn = s.opn) ∧ (gUntil n q s).1.q.length ≤ q.length ∧ ∀ k, k < L → ∃ u, U[m + k]? = some u ∧ u ≤ n
 | [], m, s, ha, _, hm, hl, _ => ⟨0, rfl, by omega, ha, List.Pairwise.nil, (fun x hx => nomatch hx), hl, ⟨rfl, rfl, rfl, rfl⟩, Nat.le_refl _, fun k hk => absurd hk (Nat.not_lt_zero _)⟩
 | (i, fs) :: q, m, s, ha, hs, hm, hl, hu => by
  obtain ⟨h1, h2, h3⟩ := ha
  unfold gUntil
  by_cases hi : i ≤ n
  ·rw [if_pos hi]
   have hml : m + fs.length ≤ U.length := by
    rcases Nat.eq_zero_or_pos fs.length with h0 | h0
    ·omega
    ·have := h2 (fs.length - 1) (by omega)
     have := (List.getElem?_eq_some_iff.1 this).1; omega
   have hw : ∀ (s : GSt) (n : Int) (fr : List ByteArray), (s.went n fr).long = s.long ∧ (s.went n fr).room = s.room ∧ (s.went n fr).last = s.last ∧ (s.went n fr).conf = s.conf ∧ (s.went n fr).opn = s.opn := fun s n fr => by unfold GSt.went; split <;> exact ⟨rfl, rfl, rfl, rfl, rfl⟩
   obtain ⟨L, k1, k2, k3, k4, k5, k6, k7, k8, k9⟩ := until_al q (m + fs.length) (GSt.went { s with q := q, long := wrap64 (s.long - (fs.length : Int)) } i fs) h3 (List.pairwise_cons.1 hs).2 hml
    (by rw [(hw _ _ _).1]; show wrap64 (s.long - (fs.length : Int)) = _; rw [hl, w64_ (by omega) (by omega)]; omega) hu
   refine ⟨fs.length + L, ?_, by omega, by rw [← Nat.add_assoc]; exact k3, k4, fun x hx => ⟨(k5 x hx).1, List.mem_cons_of_mem _ (k5 x hx).2⟩, by rw [← Nat.add_assoc]; exact k6, ?_, by rw [List.length_cons]; exact Nat.le_succ_of_le k8, fun k hk => ?_⟩
   ·show fs ++ _ = _
    rw [k1]; conv => lhs; rw [h1]
    unfold txs; rw [← List.map_append]; congr 1
    simp
   ·obtain ⟨_, r2, r3, r4, r5⟩ := hw { s with q := q, long := wrap64 (s.long - (fs.length : Int)) } i fs
    exact ⟨k7.1.trans r2, k7.2.1.trans r3, k7.2.2.1.trans r4, k7.2.2.2.trans r5⟩
   ·by_cases hkf : k < fs.length
    ·exact ⟨i, h2 k hkf, hi⟩
    ·obtain ⟨u, hu1, hu2⟩ := k9 (k - fs.length) (by omega)
     exact ⟨u, by rw [← hu1]; congr 1; omega, hu2⟩
  ·rw [if_neg hi]
   refine ⟨0, rfl, by omega, ⟨h1, h2, h3⟩, hs, fun x hx => ⟨?_, hx⟩, hl, ⟨rfl, rfl, rfl, rfl⟩, Nat.le_refl _, fun k hk => absurd hk (Nat.not_lt_zero _)⟩
   rcases List.mem_cons.1 hx with rfl | hx
   ·show n < i; omega
   ·have := (List.pairwise_cons.1 hs).1 x hx; show n < x.1; have e : (i, fs).1 = i := rfl; omega
theorem Al_snoc {U : List Int} {n : Int} {c : Nat} : ∀ (q : List (Int × List ByteArray)) (m : Nat), Al U m q → Al (U ++ List.replicate c n) m (q ++ [(n, txs U.length c)])
 | [], m, h => by
  have h : m = U.length := h
  subst h
  refine ⟨by rw [txs_len], fun k hk => ?_, ?_⟩
  ·rw [txs_len] at hk; rw [List.getElem?_append_right (by omega), Nat.add_sub_cancel_left, List.getElem?_replicate, if_pos hk]
  ·show U.length + _ = _; rw [txs_len, List.length_append, List.length_replicate]
 | (i, fs) :: q, m, h => ⟨h.1, fun k hk => by
   have := h.2.1 k hk
   rw [List.getElem?_append_left (List.getElem?_eq_some_iff.1 this).1]; exact this, Al_snoc q (m + fs.length) h.2.2⟩
theorem IO.put {N S m c : Nat} {C : Int} {op : Bool} {U : List Int} {s : GSt} (h : IO N S m C op U s) (hN : N < 80) (hc : c ≤ 3) :
  ∃ s' L, s.put ((N : Int) + 1) (txs S c) = (s', txs m L, 0) ∧ IO (N + 1) (S + c) (m + L) C op (U ++ List.replicate c ((N : Int) + 1)) s' ∧ (op = false → ∀ k, k < L → ∃ u, (U ++ List.replicate c ((N : Int) + 1))[m + k]? = some u ∧ u ≤ C) := by
 have hnb := h.nb
 have hul := h.ul
 have hms := h.ms
 have hlen : (U ++ List.replicate c ((N : Int) + 1)).length = S + c := by rw [List.length_append, List.length_replicate, hul]
 by_cases hout : s.opn = true ∨ (N : Int) + 1 ≤ s.conf
 ·have hq : s.q = [] := by
   cases hop : op with
   | true => exact h.opq hop
   | false =>
    rw [h.opn, h.conf, hop] at hout
    have hC : (N : Int) + 1 ≤ C := by simpa using hout
    cases hq : s.q with
    | nil => rfl
    | cons x q =>
     have h1 := h.shq hop x (by rw [hq]; exact List.mem_cons_self)
     have h2 := h.bnd x (by rw [hq]; exact List.mem_cons_self)
     omega
  have hmS : m = S := by have := h.al; rw [hq] at this; exact Eq.trans this hul
  refine ⟨GSt.went { s with last := (N : Int) + 1 } ((N : Int) + 1) (txs S c), c, ?_, ?_, fun hop k hk => ⟨(N : Int) + 1, ?_, ?_⟩⟩
  ·unfold GSt.put; rw [if_neg (by rw [h.last]; omega), if_pos hout, hmS]
  ·have hw : ∀ (s : GSt) (n : Int) (fr : List ByteArray), (s.went n fr).long = s.long ∧ (s.went n fr).room = s.room ∧ (s.went n fr).last = s.last ∧ (s.went n fr).conf = s.conf ∧ (s.went n fr).opn = s.opn ∧ (s.went n fr).q = s.q := fun s n fr => by unfold GSt.went; split <;> exact ⟨rfl, rfl, rfl, rfl, rfl, rfl⟩
   obtain ⟨r1, r2, r3, r4, r5, r6⟩ := hw { s with last := (N : Int) + 1 } ((N : Int) + 1) (txs S c)
   have r6 : (GSt.went { s with last := (N : Int) + 1 } ((N : Int) + 1) (txs S c)).q = [] := r6.trans hq
   have hcc := h.c0
   refine ⟨r2.trans h.room, r3.trans (by show (N : Int) + 1 = _; omega), r5.trans h.opn, r4.trans h.conf, ?_, hlen, by omega, ?_, ?_, ?_, fun _ => r6, ?_, ?_, by omega, by omega⟩
   ·rw [r1, hlen]; show s.long = _; rw [h.long]; omega
   ·rw [r6]; show m + c = _; rw [hlen]; omega
   ·rw [r6]; exact List.Pairwise.nil
   ·rw [r6]; exact fun x hx => nomatch hx
   ·rw [r6]; exact fun _ x hx => nomatch hx
   ·rw [r6]; exact Nat.zero_le _
  ·rw [List.getElem?_append_right (by omega), List.getElem?_replicate, if_pos (by omega)]
  ·rw [h.opn, h.conf, hop] at hout; simpa using hout
 ·have hop : op = false := by cases op with | false => rfl | true => exact absurd (.inl h.opn) hout
  have hCN : C < (N : Int) + 1 := by rw [h.opn, h.conf, hop] at hout; simp at hout; omega
  have hfit : s.fits (txs S c) = ((txs S c).length : Int) := by
   unfold GSt.fits; rw [h.room, h.long, txs_len, w64_ (by omega) (by omega), if_neg (by omega)]
  refine ⟨_, 0, put_free (by rw [h.last]; omega) hout hfit, ?_, fun _ k hk => absurd hk (Nat.not_lt_zero _)⟩
  have hcc := h.c0
  have hlong := h.long
  have hql := h.ql
  unfold GSt.held
  by_cases h0 : (0 : Int) < ((txs S c).length : Int)
  ·rw [if_pos h0]
   rw [txs_len] at h0 ⊢
   have htake : (txs S c).take ((c : Int)).toNat = txs S c := by rw [Int.toNat_natCast]; exact List.take_of_length_le (by rw [txs_len]; exact Nat.le_refl _)
   refine ⟨h.room, by show (N : Int) + 1 = _; omega, h.opn, h.conf, ?_, hlen, by omega, ?_, ?_, ?_, (fun hh => absurd (hop.symm.trans hh) (by decide)), ?_, ?_, by omega, by omega⟩
   ·show wrap64 (s.long + (c : Int)) = _; rw [hlong, hlen, w64_ (by omega) (by omega)]; omega
   ·show Al _ _ (s.q ++ [((N : Int) + 1, (txs S c).take ((c : Int)).toNat)]); rw [htake, ← hul]; exact Al_snoc s.q m h.al
   ·show List.Pairwise _ (s.q ++ [_])
    rw [List.pairwise_append]
    exact ⟨h.srt, List.pairwise_singleton _ _, fun a ha b hb => by simp at hb; subst hb; have := h.bnd a ha; show a.1 < (N : Int) + 1; omega⟩
   ·intro x hx
    rcases List.mem_append.1 (show x ∈ s.q ++ [_] from hx) with hx | hx
    ·have := h.bnd x hx; omega
    ·simp at hx; subst hx; show (N : Int) + 1 ≤ _; omega
   ·intro _ x hx
    rcases List.mem_append.1 (show x ∈ s.q ++ [_] from hx) with hx | hx
    ·exact h.shq hop x hx
    ·simp at hx; subst hx; exact hCN
   ·show (s.q ++ [_]).length ≤ _; rw [List.length_append]; simp; omega
  ·rw [if_neg h0]
   rw [txs_len] at h0
   obtain rfl : c = 0 := by omega
   have e : U ++ List.replicate 0 ((N : Int) + 1) = U := by simp
   rw [e]
   refine ⟨h.room, by show (N : Int) + 1 = _; omega, h.opn, h.conf, hlong, hul, by omega, h.al, h.srt, fun x hx => ?_, h.opq, h.shq, by show s.q.length ≤ _; omega, by omega, by omega⟩
   have := h.bnd x hx; omega
theorem IO.until {N S m : Nat} {C n : Int} {op : Bool} {U : List Int} {s : GSt} (h : IO N S m C op U s) (s1 : GSt) (op1 : Bool) (C1 : Int) (hq : s1.q = s.q) (hl : s1.long = s.long) (hr : s1.room = s.room) (hla : s1.last = s.last) (ho : s1.opn = op1) (hc : s1.conf = if op1 = true then 0 else C1)
  (hn : op1 = false → n = C1) (ha : op1 = true → (N : Int) ≤ n) (hC : 0 ≤ C1 ∧ C1 ≤ (N : Int)) : ∃ s' L, s1.until n = (s', txs m L) ∧ IO N S (m + L) C1 op1 U s' ∧ ∀ k, k < L → ∃ u, U[m + k]? = some u ∧ u ≤ n := by
 have hnb := h.nb
 have hul := h.ul
 have hms := h.ms
 obtain ⟨L, k1, k2, k3, k4, k5, k6, k7, k8, k9⟩ := until_al (n := n) s.q m s1 h.al h.srt (by omega) (hl.trans h.long) (by omega)
 unfold GSt.until
 rw [hq]
 refine ⟨_, L, Prod.ext rfl k1, ⟨k7.1.trans (hr.trans h.room), k7.2.1.trans (hla.trans h.last), k7.2.2.2.trans ho, k7.2.2.1.trans hc, k6, hul, by omega, k3, k4, fun x hx => h.bnd x (k5 x hx).2, fun hh => ?_, fun hh x hx => by rw [← hn hh]; exact (k5 x hx).1, Nat.le_trans k8 h.ql, hnb, hC⟩, k9⟩
 cases hqq : (gUntil n s.q s1).1.q with
 | nil => rfl
 | cons x q =>
  have h1 := k5 x (by rw [hqq]; exact List.mem_cons_self)
  have h2 := h.bnd x h1.2
  have := ha hh
  omega
theorem IO.confirm {N S m : Nat} {C n : Int} {op : Bool} {U : List Int} {s : GSt} (h : IO N S m C op U s) (hn : 0 ≤ n ∧ n ≤ (N : Int)) :
  ∃ s' L, s.confirm n = (s', txs m L) ∧ IO N S (m + L) (if op = true then C else if C < n then n else C) op U s' ∧ (op = false → ∀ k, k < L → ∃ u, U[m + k]? = some u ∧ u ≤ (if op = true then C else if C < n then n else C)) := by
 have hcc := h.c0
 unfold GSt.confirm
 cases op with
 | true => rw [if_pos h.opn]; exact ⟨s, 0, rfl, h, fun hh => by cases hh⟩
 | false =>
  rw [if_neg (by rw [h.opn]; decide)]
  have e : s.conf = C := h.conf
  rw [e]
  obtain ⟨s', L, h1, h2, h3⟩ := h.until (n := if C < n then n else C) (s.max n) false (if C < n then n else C) rfl rfl rfl rfl h.opn (by show (if s.conf < n then n else s.conf) = _; rw [e]; rfl) (fun _ => rfl) (fun hh => by cases hh) (by split <;> omega)
  exact ⟨s', L, h1, h2, fun _ => h3⟩
theorem IO.shut {N S m : Nat} {C n : Int} {op : Bool} {U : List Int} {s : GSt} (h : IO N S m C op U s) (hn : 0 ≤ n ∧ n ≤ (N : Int)) :
  ∃ s' L, s.shut n = (s', txs m L) ∧ IO N S (m + L) (if (if op = true then 0 else C) < n then n else (if op = true then 0 else C)) false U s' ∧ ∀ k, k < L → ∃ u, U[m + k]? = some u ∧ u ≤ (if (if op = true then 0 else C) < n then n else (if op = true then 0 else C)) := by
 have hcc := h.c0
 unfold GSt.shut
 have e : (s.max n).conf = (if (if op = true then 0 else C) < n then n else (if op = true then 0 else C)) := by show (if s.conf < n then n else s.conf) = _; rw [h.conf]
 rw [e]
 exact h.until { s.max n with opn := false } false _ rfl rfl rfl rfl rfl e (fun _ => rfl) (fun hh => by cases hh) (by split <;> split <;> omega)
theorem IO.open_ {N S m : Nat} {C : Int} {op : Bool} {U : List Int} {s : GSt} (h : IO N S m C op U s) : ∃ s', s.open_ = (s', txs m (S - m)) ∧ IO N S S C true U s' := by
 obtain ⟨s', L, h1, h2, _⟩ := h.until (n := s.last) { s with opn := true, conf := 0 } true C rfl rfl rfl rfl rfl rfl (fun hh => by cases hh) (fun _ => by rw [h.last]; exact Int.le_refl _) h.c0
 have hq := h2.opq rfl
 have hal := h2.al
 rw [hq] at hal
 have hml : m + L = U.length := hal
 have hul := h.ul
 have e : L = S - m := by omega
 have e2 : m + L = S := by omega
 rw [e2] at h2
 rw [e] at h1
 exact ⟨s', h1, h2⟩
def UnderAt (w : World) (gm cnt : Nat) (U : List Int) : Prop := ∃ D : DataW Unit, w.ownsMap Tryd.prog 3 (plainElem Tryd.prog 3) gm cnt D ∧ (∃ es, D = .map es) ∧ ∀ (k : Nat) (u : Int), U[k]? = some u → D.atKey (.int .i64 (k : Int)) (.lit (.int .i64 0)) = .lit (.int .i64 u)
theorem UnderAt.heap {w w' : World} {gm cnt : Nat} {U : List Int} (h : UnderAt w gm cnt U) (hb : w'.heap[gm]? = w.heap[gm]?) : UnderAt w' gm cnt U := by
 obtain ⟨D, ⟨es, clock, h1, F⟩, h2⟩ := h
 exact ⟨D, ⟨es, clock, hb.trans h1, F⟩, h2⟩
theorem UnderAt.lt {w : World} {gm cnt : Nat} {U : List Int} (h : UnderAt w gm cnt U) : gm < w.heap.size := h.choose_spec.1.lt
theorem UnderAt.below {w w' : World} {gm cnt : Nat} {U : List Int} (h : UnderAt w gm cnt U) (hb : Below w.heap.size w w') : UnderAt w' gm cnt U := h.heap (hb.block gm h.lt)
theorem UnderAt.map {w : World} {gm cnt : Nat} {U : List Int} (h : UnderAt w gm cnt U) : ∃ es c, w.heap[gm]? = some (.map es c) := by
 obtain ⟨D, ⟨es, clock, h1, F⟩, h2⟩ := h
 exact ⟨es, clock, h1⟩
theorem UnderAt.keepT {w w' : World} {gm cnt : Nat} {U : List Int} {T : List TypeId} (h : UnderAt w gm cnt U) (hk : KeepT T w w') : UnderAt w' gm cnt U := by
 obtain ⟨es, c, hm⟩ := h.map
 exact h.heap (hk.2 gm _ hm (fun _ _ hh => by cases hh))
theorem UnderAt.grown {w w' : World} {gm cnt : Nat} {U : List Int} {row : Option Nat} (h : UnderAt w gm cnt U) (hg : w.grownBy w' row) (hr : ∀ b, row = some b → ∃ cur e, w.heap[b]? = some (Obj.cells cur e (0, 0))) : UnderAt w' gm cnt U := by
 obtain ⟨es, c, hm⟩ := h.map
 exact h.heap (hg.block gm h.lt (fun he => by obtain ⟨cur, e, hc⟩ := hr gm he.symm; rw [hm] at hc; cases hc))
theorem UnderAt.made (w : World) : UnderAt (w.alloc (.map #[] 0)) w.heap.size 0 [] := ⟨.map [], World.ownsMap_made w _ _ _, ⟨[], rfl⟩, fun k u h => by simp at h⟩
theorem key_wf_ {x : Int} (h0 : -9223372036854775808 ≤ x) (h1 : x ≤ 9223372036854775807) : (Lit.int .i64 x).wf = true := by
 have e : (Lit.int .i64 x).wf = decide (IntKind.i64.min ≤ x ∧ x ≤ 9223372036854775807) := by simp [Lit.wf]
 have e2 : IntKind.i64.min = -9223372036854775808 := by decide
 rw [e, e2]; exact decide_eq_true (by omega)
set_option maxRecDepth 100000 in
theorem zero_int_ (w : World) : (zeroValue 3).run Tryd.prog w = .ok (.int .i64 0) w := by kernel_rfl
set_option maxRecDepth 100000 in
theorem UnderAt.look {w : World} {gm cnt : Nat} {U : List Int} (h : UnderAt w gm cnt U) {k : Nat} {u x : Int} (hk : U[k]? = some u) (hx : x = (k : Int)) (hb : k < 1000000) : (Instr.lookup 28 (.map (some gm)) (.int .i64 x) false).run Tryd.prog w = .ok (.int .i64 u) w := by
 subst hx
 obtain ⟨D, hD, _, hat⟩ := h
 obtain ⟨c, hrun, hc, _⟩ := hD.lookup_int (Go.Maps.int_keyed Tryd.underlying3) Tryd.underlying28 Tryd.underlying3 (zero_int_ w) (Go.Maps.keyOf_int_mk Tryd.underlying3 (key_wf_ (x := (k : Int)) (by omega) (by omega)))
 rw [hat k u hk] at hc
 injection hc with hc
 injection hc with _ hc
 rw [hrun, hc]
set_option maxRecDepth 100000 in
theorem UnderAt.put {w : World} {gm cnt : Nat} {U : List Int} (h : UnderAt w gm cnt U) {x u : Int} (hx : x = (U.length : Int)) (hu : 0 ≤ u ∧ u ≤ 1000000) (hb : U.length < 1000000) (hn : cnt < maxLen) :
  ∃ w', (Instr.mapUpdate 28 (.map (some gm)) (.int .i64 x) (.int .i64 u)).run Tryd.prog w = .ok () w' ∧ UnderAt w' gm (cnt + 1) (U ++ [u]) ∧ w.grownBy w' (some gm) := by
 subst hx
 obtain ⟨D, hD, ⟨es, he⟩, hat⟩ := h
 obtain ⟨w', hrun, hown, hg⟩ := hD.update (Go.Maps.int_keyed Tryd.underlying3) Tryd.underlying28 hn (Go.Maps.keyOf_int_mk Tryd.underlying3 (key_wf_ (x := (U.length : Int)) (by omega) (by omega))) (plainElem_int Tryd.underlying3 (key_wf_ (x := u) (by omega) (by omega)))
 refine ⟨w', hrun, ⟨_, hown, ?_, fun k v hk => ?_⟩, hg⟩
 ·subst he; exact ⟨_, rfl⟩
 ·by_cases e : k = U.length
  ·subst e
   rw [Go.Maps.atKey_put_same ⟨es, he⟩ (by trivial)]
   rw [List.getElem?_append_right (Nat.le_refl _), Nat.sub_self] at hk
   simp at hk; rw [hk]
  ·have hlt := (List.getElem?_eq_some_iff.1 hk).1
   rw [List.length_append, List.length_singleton] at hlt
   rw [List.getElem?_append_left (by omega)] at hk
   rw [Go.Maps.atKey_put_other (fun hh => e (by injection hh with _ hh; omega)), hat k v hk]
theorem GateAt.mapped {w w' : World} {base top g gm cnt : Nat} {s : GSt} {U : List Int} (h : GateAt w base top g s) (hu : UnderAt w gm cnt U) (hg : w.grownBy w' (some gm)) : GateAt w' base top g s := by
 obtain ⟨es, c, hm⟩ := hu.map
 obtain ⟨v, cs, h1, h2, h3, h4⟩ := h
 have far : ∀ (b : Nat) (cur : Array Value) (t : TypeId), w.heap[b]? = some (Obj.cells cur t (0, 0)) → w'.heap[b]? = w.heap[b]? := fun b cur t hb => hg.block b (Array.getElem?_eq_some_iff.1 hb).1 (fun he => by injection he with he; rw [he, hm] at hb; cases hb)
 have low : ∀ {q : List (Int × List ByteArray)} {cs : List Value}, QC w base top q cs → QC w' base top q cs := fun {q} {cs} hq => by
  induction q generalizing cs with
  | nil => exact hq
  | cons x q ih =>
   obtain ⟨f, cs', e1, e2, e3, e4⟩ := hq
   exact ⟨f, cs', e1, ownsAt_kept e2 (fun b cur _ hb => far b cur _ hb), e3, ih e4⟩
 exact ⟨v, cs, (far g _ _ h1).trans h1, h2, ownsAt_kept h3 (fun b cur _ hb => far b cur _ hb), low h4⟩
theorem ownsAt_mapped {w w' : World} {base gm cnt : Nat} {e : TypeId} {size n : Nat} {v : Value} {xs : List Value} {U : List Int} (h : ownsAt w base e size v n xs) (hu : UnderAt w gm cnt U) (hg : w.grownBy w' (some gm)) : ownsAt w' base e size v n xs := by
 obtain ⟨es, c, hm⟩ := hu.map
 exact ownsAt_kept h (fun b cur _ hb => hg.block b (Array.getElem?_eq_some_iff.1 hb).1 (fun he => by injection he with he; rw [he, hm] at hb; cases hb))

def sternpostlaw25_GateOnce.f (k : Nat) (l0 : List (S31)) : Option (Bool) := sternpostlaw25_GateOnce_tail.f k l0
theorem sternpostlaw25_GateOnce.mono : ∀ a0 k, LeO (sternpostlaw25_GateOnce.f k a0) (sternpostlaw25_GateOnce.f (k + 1) a0) := by
 intro a0 k
 unfold sternpostlaw25_GateOnce.f
 repeat' first
   | (with_reducible exact sternpostlaw25_GateOnce_tail.mono _ _)
   | (with_reducible exact LeO.refl _)
   | (with_reducible exact LeO.none _)
   | (with_reducible refine LeO.ite ?_ ?_)
   | (with_reducible refine LeO.bind ?_ (fun _ => ?_))
   | exact sternpostlaw25_GateOnce_tail.mono _ _
   | exact LeO.none _
   | refine LeO.ite ?_ ?_
   | refine LeO.bind ?_ (fun _ => ?_)
set_option maxHeartbeats 8000000 in
set_option maxRecDepth 100000 in
theorem sternpostlaw25_GateOnce.calls (k : Nat) (A0 : Option Addr) (c0 : Nat) (l0 : List (S31)) (r : Bool) (w : World) (hP10 : Pow10 w) (hr0 : Kd.C k31 w A0 l0.length l0) (hc0 : l0.length ≤ c0) (h : sternpostlaw25_GateOnce.f k l0 = some r) (hrT_ : r = true) :
  Calls Tryd.prog 3 #[.slice A0 l0.length c0] w fun e w' => e = .returned (.bool r) ∧ Below w.heap.size w w' := by
 have hu31 := Tryd.underlying31
 have HR0 := Aside0.mk hr0
 have HC0 := Aside0.mk hc0
 clear hr0 hc0
 have HB := Aside0.mk (Below.refl w.heap.size w)
 have H : (sternpostlaw25_GateOnce_tail.f k l0) = some r := h
 clear h
 go_enter Tryd.func3, Tryd.ntmps3
 go_upto_region 1 with (fail)
 have HBt := Aside0.mk (show Below w.heap.size w _ from by repeat (first | (with_reducible first | exact HB.out | apply below_alloc | apply pw_below_drewN | apply below_drew1) | exact HB.out))
 -- UPTO
 obtain rfl : r = true := hrT_
 clear H HB
 have HP := Aside0.mk hP10
 clear hP10
 go_wp2_with fail
 refine (gate_New.calls 4096 w _ HBt.out (by decide) (by decide)).mono ?_
 rintro e W1 ⟨g, rfl, hG, hB, _, _⟩
 have HG := Aside0.mk hG; have HB := Aside0.mk hB; clear hG hB HBt
 go_wp2_with fail
 refine (sternpostlaw25_works.calls _).mono ?_
 rintro e W2 ⟨rfl, hb⟩
 have HG_ := Aside0.mk (HG.out.kept hb); have HB_ := Aside0.mk (below_step HB.out hb); clear HG HB hb; have HG := HG_; have HB := HB_; clear HG_ HB_
 have hmm := @run_makeMap Tryd.prog
 go_upto_region 7 with fail
 clear hmm
 have hb := below_alloc (Below.refl W2.heap.size W2) (Obj.map #[] 0)
 have hu := UnderAt.made W2
 have hgm := HB.out.size
 generalize hgq : W2.heap.size = gm at hu hgm hb ⊢
 generalize W2.alloc (Obj.map #[] 0) = W3 at hu hb ⊢
 have HG_ := Aside0.mk (HG.out.kept (by rw [hgq]; exact hb)); have HB_ := Aside0.mk (below_step HB.out (by rw [hgq]; exact hb)); clear HG HB; have HG := HG_; have HB := HB_; clear HG_ HB_
 have HU := Aside0.mk hu
 have HGM := Aside0.mk hgm
 clear hu hb hgq hgm
 have HI0 := Aside0.mk (show IO 0 0 0 0 true [] (GSt.new 4096) from ⟨rfl, rfl, rfl, rfl, rfl, rfl, Nat.le_refl _, rfl, List.Pairwise.nil, (fun x hx => nomatch hx), fun _ => rfl, (fun h => nomatch h), Nat.le_refl _, ⟨by omega, by omega⟩, ⟨Int.le_refl _, by omega⟩⟩)
 go_upto_block 0 with fail
 go_cut [5, 6, 7, 8, 9] (fun v5 v6 v7 v8 v9 W => ∃ (N S m cnt : Nat) (C : Int) (op : Bool) (U : List Int) (Nz Sz mz : Int) (s : GSt) (top : Nat), v5 = .int .i64 Nz ∧ v6 = .int .i64 Sz ∧ v7 = .int .i64 mz ∧ v8 = .int .i64 C ∧ v9 = .bool op ∧ Aside0 (Nz = (N : Int) ∧ Sz = (S : Int) ∧ mz = (m : Int) ∧ cnt ≤ S) ∧ Aside0 (IO N S m C op U s) ∧ Aside0 (GateAt W w.heap.size top g s ∧ top ≤ W.heap.size) ∧ Aside0 (UnderAt W gm cnt U) ∧ Aside0 (Below w.heap.size w W))
 case first =>
  go_wp2_with fail
  go_loopg [5, 6, 7, 8, 9, 11] 80 (fun kq v5 v6 v7 v8 v9 v11 W => ∃ (i : Nat) (iz : Int), v11 = .int .i64 iz ∧ Aside0 (iz = (i : Int) ∧ kq + i = 80) ∧ ∃ (N S m cnt : Nat) (C : Int) (op : Bool) (U : List Int) (Nz Sz mz : Int) (s : GSt) (top : Nat), v5 = .int .i64 Nz ∧ v6 = .int .i64 Sz ∧ v7 = .int .i64 mz ∧ v8 = .int .i64 C ∧ v9 = .bool op ∧ Aside0 (Nz = (N : Int) ∧ Sz = (S : Int) ∧ mz = (m : Int) ∧ cnt ≤ S) ∧ Aside0 (N ≤ i) ∧ Aside0 (IO N S m C op U s) ∧ Aside0 (GateAt W w.heap.size top g s ∧ top ≤ W.heap.size) ∧ Aside0 (UnderAt W gm cnt U) ∧ Aside0 (Below w.heap.size w W))
  case atStart => exact ⟨0, 0, rfl, ⟨rfl, rfl⟩, 0, 0, 0, 0, 0, true, [], 0, 0, 0, GSt.new 4096, 0, rfl, rfl, rfl, rfl, rfl, ⟨rfl, rfl, rfl, Nat.le_refl _⟩, ⟨Nat.le_refl _⟩, HI0, ⟨HG.out, Nat.zero_le _⟩, HU, HB⟩
  case round =>
   clear HG HB HU HI0
   obtain ⟨i, iz, rfl, HK, N, S, m, cnt, C, op, U, Nz, Sz, mz, s, top, rfl, rfl, rfl, rfl, rfl, HZ, HNi, HI, HG, HU, HB⟩ := hrel
   have hk_ := HK.out
   by_cases hlt : iz < (l0.length : Int)
   rotate_left
   ·have d1 : decide (iz < (l0.length : Int)) = false := decide_eq_false hlt
    clear hlt hk_
    go_wp2
    go_meet
    case rel => exact ⟨N, S, m, cnt, C, op, U, Nz, Sz, mz, s, top, rfl, rfl, rfl, rfl, rfl, HZ, HI, HG, HU, HB⟩
   have d1 : decide (iz < (l0.length : Int)) = true := decide_eq_true hlt
   by_cases h80 : iz < 80
   rotate_left
   ·have d2 : decide (iz < 80) = false := decide_eq_false h80
    clear hlt h80 hk_
    go_wp2
    go_meet
    case rel => exact ⟨N, S, m, cnt, C, op, U, Nz, Sz, mz, s, top, rfl, rfl, rfl, rfl, rfl, HZ, HI, HG, HU, HB⟩
   have d2 : decide (iz < 80) = true := decide_eq_true h80
   obtain ⟨k1, rfl⟩ : ∃ k1, gk = k1 + 1 := ⟨gk - 1, by omega⟩
   have p0 : 0 ≤ iz := by omega
   have H80 := Aside0.mk (show i < 80 ∧ N < 80 by have := HNi.out; omega)
   obtain ⟨ad, A2, c2, ead, hx0, hx1, hx2, hx3⟩ := at_T31 (Kd.C_below HR0.out HB.out) iz p0 hlt
   cases ead
   replace p0 := eq_true p0
   replace hlt := eq_true hlt
   clear h80 hk_
   go_upto_region 12 with fail
   have hx := blk_new wr (.cells #[.int .i64 (rd_T31 l0 iz).f0, .int .i64 (rd_T31 l0 iz).f1, .slice A2 (rd_T31 l0 iz).f2.length c2, .bool (rd_T31 l0 iz).f3] 31)
   have hb := below_alloc (Below.refl wr.heap.size wr) (Obj.cells #[.int .i64 (rd_T31 l0 iz).f0, .int .i64 (rd_T31 l0 iz).f1, .slice A2 (rd_T31 l0 iz).f2.length c2, .bool (rd_T31 l0 iz).f3] 31)
   generalize hbx : wr.heap.size = bx at hx ⊢
   generalize wr.alloc (Obj.cells #[.int .i64 (rd_T31 l0 iz).f0, .int .i64 (rd_T31 l0 iz).f1, .slice A2 (rd_T31 l0 iz).f2.length c2, .bool (rd_T31 l0 iz).f3] 31) = Wb at hx hb ⊢
   have HG_ := Aside0.mk (And.intro (HG.out.1.kept hb) (Nat.le_trans HG.out.2 hb.size)); have HB_ := Aside0.mk (below_step HB.out hb); have HU_ := Aside0.mk (HU.out.below hb); clear HG HB HU hb hx0 hx1 hx2 hx3 p0 hlt hbx; have HG := HG_; have HB := HB_; have HU := HU_; clear HG_ HB_ HU_
   obtain ⟨f0, hf0⟩ : ∃ f_, (rd_T31 l0 iz).f0 = f_ := ⟨_, rfl⟩
   obtain ⟨f1, hf1⟩ : ∃ f_, (rd_T31 l0 iz).f1 = f_ := ⟨_, rfl⟩
   rw [hf0, hf1] at hx
   clear hf0 hf1
   have hx0 := blk_cell hx 0
   have hz0 := blk_frozen hx 0
   have HX := Aside0.mk hx
   clear hx
   obtain ⟨c, hc, hc0, hc4⟩ := among_lt (a := f0) (n := 4) (by decide) (by decide)
   have HC := Aside0.mk hc
   have HC4 := Aside0.mk (And.intro hc0 hc4)
   clear hc hc0 hc4
   go_wp2_with fail
   refine (sternpostbook_Among.calls _ 4 _ _ HC.out).mono ?_
   rintro e W5 ⟨rfl, hd⟩
   have hb := hd.below
   clear hd HC hx0 hz0
   have HG_ := Aside0.mk (And.intro (HG.out.1.kept hb) (Nat.le_trans HG.out.2 hb.size)); have HB_ := Aside0.mk (below_step HB.out hb); have HU_ := Aside0.mk (HU.out.below hb); have HX_ := Aside0.mk (blk_below HX.out hb); clear HG HB HU HX hb; have HG := HG_; have HB := HB_; have HU := HU_; have HX := HX_; clear HG_ HB_ HU_ HX_
   go_upto_block 2 with fail
   go_cut [5, 6, 8, 9, 13] (fun v5 v6 v8 v9 v13 W => ∃ (N' S' L cnt' : Nat) (C' : Int) (op' : Bool) (U' : List Int) (Nz' Sz' : Int) (s' : GSt) (top' : Nat), v5 = .int .i64 Nz' ∧ v6 = .int .i64 Sz' ∧ v8 = .int .i64 C' ∧ v9 = .bool op' ∧ Aside0 (Nz' = (N' : Int) ∧ Sz' = (S' : Int) ∧ cnt' ≤ S' ∧ N' ≤ i + 1) ∧ Aside0 (IO N' S' (m + L) C' op' U' s') ∧ Aside0 (op' = false → ∀ k, k < L → ∃ u, U'[m + k]? = some u ∧ u ≤ C') ∧ Aside0 (ownsAt W 0 9 1 v13 (txs m L).length (txt (txs m L))) ∧ Aside0 (GateAt W w.heap.size top' g s' ∧ top' ≤ W.heap.size) ∧ Aside0 (UnderAt W gm cnt' U') ∧ Aside0 (Below w.heap.size w W))
   case first =>
    go_upto_region 18 with fail
    have hc4 : c = 0 ∨ c = 1 ∨ c = 2 ∨ c = 3 := by have := HC4.out; omega
    clear HC4
    have hx1 := blk_cell HX.out 1
    have hz1 := blk_frozen HX.out 1
    rcases hc4 with rfl | rfl | rfl | rfl
    case inl =>
     have hN1 : wrap64 (Nz + 1) = (N : Int) + 1 := by have := HZ.out; have := H80.out; rw [w64_ (by omega) (by omega)]; omega
     obtain ⟨N1, hN1q⟩ : ∃ z : Int, wrap64 (Nz + 1) = z := ⟨_, rfl⟩
     have HN1 := Aside0.mk (hN1q.symm.trans hN1)
     clear hN1
     obtain ⟨c, hc, hc0, hc4⟩ := among_lt (a := f1) (n := 4) (by decide) (by decide)
     have HC := Aside0.mk hc
     have HC4 := Aside0.mk (And.intro hc0 hc4)
     clear hc hc0 hc4
     go_wp2_with fail
     refine (sternpostbook_Among.calls _ 4 _ _ HC.out).mono ?_
     rintro e W6 ⟨rfl, hd⟩
     have hb := hd.below
     clear hd HC hx1 hz1
     have HG_ := Aside0.mk ((HG.out.1.kept hb).top (Nat.le_trans HG.out.2 hb.size)); have HB_ := Aside0.mk (below_step HB.out hb); have HU_ := Aside0.mk (HU.out.below hb); clear HG HB HU HX hb; have HG := HG_; have HB := HB_; have HU := HU_; clear HG_ HB_ HU_
     have HSZ := Aside0.mk HB.out.size
     go_upto_block 3 with fail
     try rw [hN1q]
     clear hN1q
     go_cut [6, 14] (fun v6 v14 W => ∃ (cn : Nat) (Sz' : Int), v6 = .int .i64 Sz' ∧ Aside0 ((cn : Int) = c) ∧ Aside0 (Sz' = ((S + cn : Nat) : Int)) ∧ Aside0 (ownsAt W W6.heap.size 9 1 v14 (txs S cn).length (txt (txs S cn))) ∧ Aside0 (GateAt W w.heap.size W6.heap.size g s ∧ W6.heap.size ≤ W.heap.size) ∧ Aside0 (UnderAt W gm (cnt + cn) (U ++ List.replicate cn ((N : Int) + 1))) ∧ Aside0 (Below w.heap.size w W))
     case first =>
      go_wp2_with fail
      go_loopg [6, 14, 72] c.toNat (fun kq v6 v14 v72 W => ∃ (j : Nat) (jz Sz' : Int), v6 = .int .i64 Sz' ∧ v72 = .int .i64 jz ∧ Aside0 (jz = (j : Int) ∧ Sz' = ((S + j : Nat) : Int)) ∧ Aside0 (kq + j = c.toNat) ∧ Aside0 (ownsAt W W6.heap.size 9 1 v14 (txs S j).length (txt (txs S j))) ∧ Aside0 (GateAt W w.heap.size W6.heap.size g s ∧ W6.heap.size ≤ W.heap.size) ∧ Aside0 (UnderAt W gm (cnt + j) (U ++ List.replicate j ((N : Int) + 1))) ∧ Aside0 (Below w.heap.size w W))
      case atStart => exact ⟨0, 0, Sz, rfl, rfl, ⟨rfl, by rw [HZ.out.2.1]; rfl⟩, ⟨by omega⟩, ⟨ownsAt_nil _ _ _ _⟩, ⟨HG.out, Nat.le_refl _⟩, ⟨by simpa using HU.out⟩, HB⟩
      case round =>
       clear HG HB HU
       obtain ⟨j, jz, Sz', rfl, rfl, HZ2, HK2, HV, HG, HU, HB⟩ := hrel
       have hz_ := HZ2.out
       by_cases hlt : jz < c
       rotate_left
       ·have d1 : decide (jz < c) = false := decide_eq_false hlt
        have HE := Aside0.mk (show (j : Int) = c by have := HK2.out; have := HC4.out; omega)
        clear hlt hz_
        go_wp2
        go_meet
        case rel => exact ⟨j, Sz', rfl, HE, ⟨HZ2.out.2⟩, HV, HG, HU, HB⟩
       have d1 : decide (jz < c) = true := decide_eq_true hlt
       obtain ⟨k2, rfl⟩ : ∃ k2, gk = k2 + 1 := ⟨gk - 1, by have := HK2.out; omega⟩
       clear hlt hz_
       obtain ⟨A9, c9, rfl, _⟩ := ownsAt_len HV.out
       have HJ := Aside0.mk (show j < 4 ∧ S ≤ 240 by have := HK2.out; have := HC4.out; have := HI.out.nb; omega)
       have HMZ := Aside0.mk (show 0 ≤ Sz' ∧ Sz' < 1000 by have := HZ2.out; have := HJ.out; omega)
       have hul : (U ++ List.replicate j ((N : Int) + 1)).length = S + j := by rw [List.length_append, List.length_replicate, HI.out.ul]
       obtain ⟨w3, hput, hu3, hg3⟩ := HU.out.put (x := Sz') (u := N1) (by rw [hul]; exact HZ2.out.2) (by have := HN1.out; have := H80.out; omega) (by rw [hul]; have := HJ.out; omega) (Nat.lt_of_le_of_lt (show cnt + j ≤ 1000 by have := HZ.out.2.2.2; have := HJ.out; omega) (by decide +kernel))
       have HU3 := Aside0.mk hu3
       have HG3 := Aside0.mk (And.intro (HG.out.1.mapped HU.out hg3) (Nat.le_trans HG.out.2 hg3.size))
       have HV3 := Aside0.mk (ownsAt_mapped HV.out HU.out hg3)
       have HB3 := Aside0.mk (below_of_grown HB.out hg3 HB.out.size (fun b hb => by cases hb; exact HGM.out))
       clear HG HU HV HB hu3 hg3 hul
       go_wp2_with fail
       refine (itoa_calls Sz' _ (by have := HMZ.out; omega) (by have := HMZ.out; omega) (HP.out.below HB3.out)).mono ?_
       rintro e W8 ⟨rfl, hb⟩
       clear hput
       have hb2 := below_alloc hb (Obj.cells #[.string (itoaB Sz')] 9)
       have hl := Aside0.mk (ownsAt_lit W8 #[.string (itoaB Sz')] 9 1 1 rfl (by decide))
       have HG := Aside0.mk (And.intro (HG3.out.1.kept hb2) (Nat.le_trans HG3.out.2 hb2.size)); have HB := Aside0.mk (below_step HB3.out hb2); have HV := Aside0.mk (ownsAt_below HV3.out hb2); have HU := Aside0.mk (HU3.out.below hb2); clear HG3 HB3 HV3 HU3 hb hb2
       go_wp2_with (first | ((with_reducible refine gate_dst (N := 81) rfl ?_); refine wl_append 29 9 (.string (⟨#[]⟩ : ByteArray)) 1 16 rfl rfl Tryd.underlying29 (by kernel_rfl) rfl (by decide) (v := .slice A9 (txs S j).length c9) rfl rfl HV.out hl.out rfl (by rw [txs_len]; have := HJ.out; simp only [maxLen]; omega) (by rw [txs_len]; have := HJ.out; omega) HG.out.2 (fun v7_ W7 hv7 hg7 _ => ?_); have HV7 := Aside0.mk hv7; have HG7 := Aside0.mk hg7; clear hv7 hg7))
       have hm : wrap64 (jz + 1) = ((j + 1 : Nat) : Int) := by have := HZ2.out; have := HJ.out; rw [w64_ (by omega) (by omega)]; omega
       have hM : wrap64 (Sz' + 1) = ((S + (j + 1) : Nat) : Int) := by have := HZ2.out; have := HMZ.out; rw [w64_ (by omega) (by omega)]; omega
       have HMM := Aside0.mk (And.intro hm hM)
       clear hm hM
       go_roundg k2
       case measure => omega
       case rel =>
        have hrow : ∀ b, Value.ownBlock (.slice A9 (txs S j).length c9) = some b → W6.heap.size ≤ b ∧ ∃ cur, (W8.alloc (Obj.cells #[.string (itoaB Sz')] 9)).heap[b]? = some (Obj.cells cur 9 (0, 0)) := fun b hb => ownsAt_block HV.out hb
        refine ⟨j + 1, _, _, rfl, rfl, HMM, ⟨by have := HK2.out; omega⟩, ⟨?_⟩, ⟨HG.out.1.grown HG7.out hrow, Nat.le_trans HG.out.2 HG7.out.size⟩, ⟨?_⟩, ⟨below_of_grown HB.out HG7.out HB.out.size (fun b hb => Nat.le_trans HSZ.out (hrow b hb).1)⟩⟩
        ·have h := HV7.out
         rw [txs_snoc, List.length_append]
         rw [show ((S + j : Nat) : Int) = Sz' from HZ2.out.2.symm]
         simpa [txt] using h
        ·have h := HU.out.grown HG7.out (fun b hb => by obtain ⟨_, cur, hc⟩ := hrow b hb; exact ⟨cur, _, hc⟩)
         rw [HN1.out, List.append_assoc] at h
         rw [List.replicate_succ', ← Nat.add_assoc]; exact h
     case rest =>
      clear HG HB HU
      obtain ⟨cn, Sz', h6_, HCN, HSZ', HV, HG, HU, HB⟩ := hcut
      subst h6_
      obtain ⟨A9, c9, rfl, _⟩ := ownsAt_len HV.out
      obtain ⟨s', L, hr, hi', hu'⟩ := HI.out.put H80.out.2 (c := cn) (by have := HCN.out; have := HC4.out; omega)
      have HR := Aside0.mk (And.intro hr (And.intro hi' hu'))
      clear hr hi' hu'
      have hput : s.put N1 (txs S cn) = (s', txs m L, 0) := by rw [HN1.out]; exact HR.out.1
      have HPT := Aside0.mk hput
      clear hput
      have HCB := Aside0.mk (show cn ≤ 3 by have := HCN.out; have := HC4.out; omega)
      go_wp2_with fail
      refine (gate_Gate_Put.calls g W6.heap.size W6.heap.size s N1 _ (txs S cn) w _ HG.out.1 HB.out HG.out.2 HV.out (by rw [txs_len]; have := HCB.out; omega) (by have := HI.out.ql; have := H80.out; omega)).mono ?_
      rintro e W8 ⟨v8, top8, rfl, hG, hO, hT0, hT, hB, hK⟩
      rw [HPT.out] at hG hO ⊢
      have HU8 := Aside0.mk (HU.out.keepT hK)
      obtain ⟨A8, c8, rfl, _⟩ := ownsAt_len hO
      have HA := Aside0.mk (And.intro hG (And.intro hT (And.intro (ownsAt_low hO) hB)))
      clear HG HB HU HV hG hO hB hK hT hT0
      go_wp2
      go_meet
      case rel => exact ⟨N + 1, S + cn, L, cnt + cn, C, op, U ++ List.replicate cn ((N : Int) + 1), N1, Sz', s', top8, rfl, rfl, rfl, rfl, ⟨by rw [HN1.out]; omega, HSZ'.out, by have := HZ.out.2.2.2; omega, by have := HNi.out; omega⟩, ⟨HR.out.2.1⟩, ⟨HR.out.2.2⟩, ⟨HA.out.2.2.1⟩, ⟨HA.out.1, HA.out.2.1⟩, HU8, ⟨HA.out.2.2.2⟩⟩
    case inr.inl =>
     have hN1 : wrap64 (Nz + 1) = (N : Int) + 1 := by have := HZ.out; have := H80.out; rw [w64_ (by omega) (by omega)]; omega
     obtain ⟨n, hn, hn0, hnN⟩ := among_lt (a := f1) (n := (N : Int) + 1) (by omega) (by have := H80.out; omega)
     have HN := Aside0.mk hn
     have HNN := Aside0.mk (show 0 ≤ n ∧ n ≤ (N : Int) by omega)
     clear hn hn0 hnN
     obtain ⟨s', L, hr, hi', hu'⟩ := HI.out.confirm HNN.out
     have HR := Aside0.mk (And.intro hr (And.intro hi' hu'))
     clear hr hi' hu'
     go_wp2_with fail
     rw [hN1]
     refine (sternpostbook_Among.calls _ _ _ _ HN.out).mono ?_
     rintro e W6 ⟨rfl, hd⟩
     have hb := hd.below
     clear hd HN hx1 hz1 hN1
     have HG_ := Aside0.mk (And.intro (HG.out.1.kept hb) (Nat.le_trans HG.out.2 hb.size)); have HB_ := Aside0.mk (below_step HB.out hb); have HU_ := Aside0.mk (HU.out.below hb); clear HG HB HU HX hb; have HG := HG_; have HB := HB_; have HU := HU_; clear HG_ HB_ HU_
     have HL := Aside0.mk (show L ≤ 1000 by have := HR.out.2.1.ms; have := HR.out.2.1.nb; omega)
     cases op with
     | true =>
      go_wp2_with fail
      refine (gate_Gate_Confirm.calls g top s n w _ HG.out.1 HB.out HG.out.2 (by rw [HR.out.1, txs_len]; have := HL.out; omega)).mono ?_
      rintro e W7 ⟨v7, rfl, hG, hO, hB, hK⟩
      rw [HR.out.1] at hG hO
      have hT := Nat.le_trans HG.out.2 hK.1
      have HU7 := Aside0.mk (HU.out.keepT hK)
      have HA := Aside0.mk (And.intro hG (And.intro hT (And.intro (ownsAt_low hO) hB)))
      clear HG HB HU hG hO hB hK hT
      go_wp2
      go_meet
      case rel =>
       have h2 := HR.out.2
       simp only [Bool.false_eq_true, if_true, if_false] at h2
       exact ⟨N, S, L, cnt, C, true, U, Nz, Sz, s', top, rfl, rfl, rfl, rfl, ⟨HZ.out.1, HZ.out.2.1, HZ.out.2.2.2, by have := HNi.out; omega⟩, ⟨h2.1⟩, ⟨fun hh => by first | exact h2.2 trivial | exact h2.2 hh | (cases hh)⟩, ⟨HA.out.2.2.1⟩, ⟨HA.out.1, HA.out.2.1⟩, HU7, ⟨HA.out.2.2.2⟩⟩
     | false =>
      obtain ⟨C1, hC1⟩ : ∃ C_, (if C < n then n else C) = C_ := ⟨_, rfl⟩
      go_wp2_with fail
      refine (gate_Gate_Confirm.calls g top s n w _ HG.out.1 HB.out HG.out.2 (by rw [HR.out.1, txs_len]; have := HL.out; omega)).mono ?_
      rintro e W7 ⟨v7, rfl, hG, hO, hB, hK⟩
      rw [HR.out.1] at hG hO
      have hT := Nat.le_trans HG.out.2 hK.1
      have HU7 := Aside0.mk (HU.out.keepT hK)
      have HA := Aside0.mk (And.intro hG (And.intro hT (And.intro (ownsAt_low hO) hB)))
      clear HG HB HU hG hO hB hK hT
      go_wp2
      go_meet
      case rel =>
       have h2 := HR.out.2
       simp only [Bool.false_eq_true, if_true, if_false] at h2
       rw [hC1] at h2
       exact ⟨N, S, L, cnt, C1, false, U, Nz, Sz, s', top, rfl, rfl, rfl, rfl, ⟨HZ.out.1, HZ.out.2.1, HZ.out.2.2.2, by have := HNi.out; omega⟩, ⟨h2.1⟩, ⟨fun hh => by first | exact h2.2 trivial | exact h2.2 hh | (cases hh)⟩, ⟨HA.out.2.2.1⟩, ⟨HA.out.1, HA.out.2.1⟩, HU7, ⟨HA.out.2.2.2⟩⟩
    case inr.inr.inl =>
     obtain ⟨s', hr, hi'⟩ := HI.out.open_
     have HR := Aside0.mk (And.intro hr hi')
     clear hr hi' hx1 hz1
     have HM := Aside0.mk (show m ≤ S ∧ S ≤ 240 from ⟨HI.out.ms, by have := HI.out.nb; omega⟩)
     go_wp2_with fail
     refine (gate_Gate_Open.calls g top s w _ HG.out.1 HB.out HG.out.2 (by rw [HR.out.1, txs_len]; have := HM.out; omega)).mono ?_
     rintro e W7 ⟨v7, rfl, hG, hO, hB, hK⟩
     rw [HR.out.1] at hG hO
     have hT := Nat.le_trans HG.out.2 hK.1
     have HU7 := Aside0.mk (HU.out.keepT hK)
     obtain ⟨A7, c7, rfl, _⟩ := ownsAt_len hO
     have HA := Aside0.mk (And.intro hG (And.intro hT (And.intro (ownsAt_low hO) hB)))
     clear HG HB HU hG hO hB hK hT
     have hs : wrap64 (mz + ((txs m (S - m)).length : Int)) = Sz := by have := HZ.out; have := HM.out; rw [txs_len, w64_ (by omega) (by omega)]; omega
     go_wp2
     go_meet
     case rel => exact ⟨N, S, S - m, cnt, C, true, U, Nz, Sz, s', top, rfl, rfl, rfl, rfl, ⟨HZ.out.1, HZ.out.2.1, HZ.out.2.2.2, by have := HNi.out; omega⟩, ⟨by rw [show m + (S - m) = S by have := HM.out; omega]; exact HR.out.2⟩, ⟨fun h => nomatch h⟩, ⟨HA.out.2.2.1⟩, ⟨HA.out.1, HA.out.2.1⟩, HU7, ⟨HA.out.2.2.2⟩⟩
    case inr.inr.inr =>
     have hN1 : wrap64 (Nz + 1) = (N : Int) + 1 := by have := HZ.out; have := H80.out; rw [w64_ (by omega) (by omega)]; omega
     obtain ⟨n, hn, hn0, hnN⟩ := among_lt (a := f1) (n := (N : Int) + 1) (by omega) (by have := H80.out; omega)
     have HN := Aside0.mk hn
     have HNN := Aside0.mk (show 0 ≤ n ∧ n ≤ (N : Int) by omega)
     clear hn hn0 hnN
     obtain ⟨s', L, hr, hi', hu'⟩ := HI.out.shut HNN.out
     have HR := Aside0.mk (And.intro hr (And.intro hi' hu'))
     clear hr hi' hu'
     go_wp2_with fail
     rw [hN1]
     refine (sternpostbook_Among.calls _ _ _ _ HN.out).mono ?_
     rintro e W6 ⟨rfl, hd⟩
     have hb := hd.below
     clear hd HN hx1 hz1 hN1
     have HG_ := Aside0.mk (And.intro (HG.out.1.kept hb) (Nat.le_trans HG.out.2 hb.size)); have HB_ := Aside0.mk (below_step HB.out hb); have HU_ := Aside0.mk (HU.out.below hb); clear HG HB HU HX hb; have HG := HG_; have HB := HB_; have HU := HU_; clear HG_ HB_ HU_
     have HL := Aside0.mk (show L ≤ 1000 by have := HR.out.2.1.ms; have := HR.out.2.1.nb; omega)
     cases op with
     | true =>
      obtain ⟨C1, hC1⟩ : ∃ C_, (if (0 : Int) < n then n else 0) = C_ := ⟨_, rfl⟩
      go_wp2_with fail
      refine (gate_Gate_Shut.calls g top s n w _ HG.out.1 HB.out HG.out.2 (by rw [HR.out.1, txs_len]; have := HL.out; omega)).mono ?_
      rintro e W7 ⟨v7, rfl, hG, hO, hB, hK⟩
      rw [HR.out.1] at hG hO
      have hT := Nat.le_trans HG.out.2 hK.1
      have HU7 := Aside0.mk (HU.out.keepT hK)
      have HA := Aside0.mk (And.intro hG (And.intro hT (And.intro (ownsAt_low hO) hB)))
      clear HG HB HU hG hO hB hK hT
      go_wp2
      go_meet
      case rel =>
       have h2 := HR.out.2
       simp only [Bool.false_eq_true, if_true, if_false] at h2
       rw [hC1] at h2
       exact ⟨N, S, L, cnt, C1, false, U, Nz, Sz, s', top, rfl, rfl, rfl, rfl, ⟨HZ.out.1, HZ.out.2.1, HZ.out.2.2.2, by have := HNi.out; omega⟩, ⟨h2.1⟩, ⟨fun _ => h2.2⟩, ⟨HA.out.2.2.1⟩, ⟨HA.out.1, HA.out.2.1⟩, HU7, ⟨HA.out.2.2.2⟩⟩
     | false =>
      obtain ⟨C1, hC1⟩ : ∃ C_, (if C < n then n else C) = C_ := ⟨_, rfl⟩
      go_wp2_with fail
      refine (gate_Gate_Shut.calls g top s n w _ HG.out.1 HB.out HG.out.2 (by rw [HR.out.1, txs_len]; have := HL.out; omega)).mono ?_
      rintro e W7 ⟨v7, rfl, hG, hO, hB, hK⟩
      rw [HR.out.1] at hG hO
      have hT := Nat.le_trans HG.out.2 hK.1
      have HU7 := Aside0.mk (HU.out.keepT hK)
      have HA := Aside0.mk (And.intro hG (And.intro hT (And.intro (ownsAt_low hO) hB)))
      clear HG HB HU hG hO hB hK hT
      go_wp2
      go_meet
      case rel =>
       have h2 := HR.out.2
       simp only [Bool.false_eq_true, if_true, if_false] at h2
       rw [hC1] at h2
       exact ⟨N, S, L, cnt, C1, false, U, Nz, Sz, s', top, rfl, rfl, rfl, rfl, ⟨HZ.out.1, HZ.out.2.1, HZ.out.2.2.2, by have := HNi.out; omega⟩, ⟨h2.1⟩, ⟨fun _ => h2.2⟩, ⟨HA.out.2.2.1⟩, ⟨HA.out.1, HA.out.2.1⟩, HU7, ⟨HA.out.2.2.2⟩⟩
   case rest =>
    obtain ⟨N', S', L, cnt', C', op', U', Nz', Sz', s', top', h5_, h6_, h8_, h9_, HZ', HI', HUU, HO, HG', HU', HB'⟩ := hcut
    subst h5_ h6_ h8_ h9_
    clear HG HB HU HX HI HC4
    obtain ⟨A13, c13, rfl, _⟩ := ownsAt_len HO.out
    have HCC := Aside0.mk (ownsAt_texts HO.out).1
    have HGW := Aside0.mk HG'.out
    clear HG' HO
    have HLB := Aside0.mk (show m + L ≤ S' ∧ S' ≤ 240 from ⟨HI'.out.ms, by have := HI'.out.nb; omega⟩)
    obtain ⟨lo, hlo⟩ : ∃ l_, txs m L = l_ := ⟨_, rfl⟩
    have HLO := Aside0.mk (show lo.length = L ∧ ∀ k, k < L → lo[k]? = some (itoaB ((m + k : Nat) : Int)) by rw [← hlo]; exact ⟨txs_len _ _, fun k hk => by unfold txs; rw [List.getElem?_map, List.getElem?_range' hk]; simp⟩)
    rw [hlo] at HCC ⊢
    clear hlo
    skip
    have hi : wrap64 (iz + 1) = ((i + 1 : Nat) : Int) := by have := HK.out; have := H80.out; rw [w64_ (by omega) (by omega)]; omega
    have HII := Aside0.mk hi
    clear hi
    go_wp2_with fail
    go_loopg [7, 122] L (fun kq v7 v122 W => ∃ (j : Nat) (jz mz' : Int), v7 = .int .i64 mz' ∧ v122 = .int .i64 jz ∧ Aside0 (jz = (j : Int) ∧ mz' = ((m + j : Nat) : Int)) ∧ Aside0 (kq + j = L) ∧ Aside0 (Kd.C Kd.string W A13 lo.length lo) ∧ Aside0 (GateAt W w.heap.size top' g s' ∧ top' ≤ W.heap.size) ∧ Aside0 (UnderAt W gm cnt' U') ∧ Aside0 (Below w.heap.size w W))
    case atStart => exact ⟨0, 0, mz, rfl, rfl, ⟨rfl, HZ.out.2.2.1⟩, ⟨by omega⟩, HCC, HGW, HU', HB'⟩
    case round =>
     clear HCC HGW HU' HB'
     obtain ⟨j, jz, mz', rfl, rfl, HZ2, HK2, HCC, HG, HU, HB⟩ := hrel
     have hz_ := HZ2.out
     have hln := HLO.out.1
     by_cases hlt : jz < (lo.length : Int)
     rotate_left
     ·have d1 : decide (jz < (lo.length : Int)) = false := decide_eq_false hlt
      have HE := Aside0.mk (show j = L by have := HK2.out; omega)
      clear hlt hz_ hln
      go_wp2
      go_roundg k1
      case measure => omega
      case rel => exact ⟨i + 1, _, rfl, ⟨HII.out, by have := HK.out; omega⟩, N', S', m + L, cnt', C', op', U', Nz', Sz', mz', s', top', rfl, rfl, rfl, rfl, rfl, ⟨HZ'.out.1, HZ'.out.2.1, by rw [← HE.out]; exact HZ2.out.2, HZ'.out.2.2.1⟩, ⟨HZ'.out.2.2.2⟩, HI', HG, HU, HB⟩
     have d1 : decide (jz < (lo.length : Int)) = true := decide_eq_true hlt
     obtain ⟨k2, rfl⟩ : ∃ k2, gk = k2 + 1 := ⟨gk - 1, by have := HK2.out; omega⟩
     have p0 : 0 ≤ jz := by omega
     obtain ⟨ad, ead, hx⟩ := Kd.at_string HCC.out jz p0 hlt
     cases ead
     rw [show rdOf ByteArray.empty lo jz = itoaB mz' from by unfold rdOf; rw [List.getD_eq_getElem?_getD, HLO.out.2 _ (by omega)]; show itoaB ((m + jz.toNat : Nat) : Int) = _; congr 1; omega] at hx
     have hm : wrap64 (jz + 1) = ((j + 1 : Nat) : Int) := by have := HLB.out; rw [w64_ (by omega) (by omega)]; omega
     have hM : wrap64 (mz' + 1) = ((m + (j + 1) : Nat) : Int) := by have := HLB.out; rw [w64_ (by omega) (by omega)]; omega
     have HMM := Aside0.mk (And.intro hm hM)
     have HMZ := Aside0.mk (show 0 ≤ mz' ∧ mz' < 1000 by have := HLB.out; omega)
     have HJL := Aside0.mk (show j < L by omega)
     clear hm hM hz_ hln
     replace p0 := eq_true p0
     replace hlt := eq_true hlt
     go_wp2_with fail
     refine (itoa_calls mz' _ (by have := HMZ.out; omega) (by have := HMZ.out; omega) (HP.out.below HB.out)).mono ?_
     rintro e W12 ⟨rfl, hb⟩
     clear p0 hlt hx
     have HG_ := Aside0.mk (And.intro (HG.out.1.kept hb) (Nat.le_trans HG.out.2 hb.size)); have HB_ := Aside0.mk (below_step HB.out hb); have HU_ := Aside0.mk (HU.out.below hb); have HC_ := Aside0.mk (Kd.C_below HCC.out hb); clear HG HB HU HCC hb; have HG := HG_; have HB := HB_; have HU := HU_; have HCC := HC_; clear HG_ HB_ HU_ HC_
     cases op' with
     | true =>
      go_wp2
      go_roundg k2
      case measure => omega
      case rel => exact ⟨j + 1, _, _, rfl, rfl, HMM, ⟨by have := HK2.out; omega⟩, HCC, HG, HU, HB⟩
     | false =>
      obtain ⟨u, hu1, hu2⟩ := HUU.out rfl j HJL.out
      have hlook := HU.out.look hu1 (x := mz') HZ2.out.2 (by have := HLB.out; have := HJL.out; omega)
      have d2 : decide (C' < u) = false := decide_eq_false (by omega)
      clear hu1 hu2
      go_wp2
      go_roundg k2
      case measure => omega
      case rel => exact ⟨j + 1, _, _, rfl, rfl, HMM, ⟨by have := HK2.out; omega⟩, HCC, HG, HU, HB⟩
 case rest =>
  clear HG HB HU HI0
  obtain ⟨N, S, m, cnt, C, op, U, Nz, Sz, mz, s, top, h5_, h6_, h7_, h8_, h9_, HZ, HI, HG, HU, HB⟩ := hcut
  subst h5_ h6_ h7_ h8_ h9_
  have hl : s.long = wrap64 (Sz - mz) := by have h1 := HI.out.long; have h2 := HI.out.ul; have h3 := HI.out.ms; have h4 := HZ.out; have h5 := HI.out.nb; rw [h1, w64_ (by omega) (by omega)]; omega
  have HLG := Aside0.mk hl
  clear hl
  go_wp2_with fail
  refine (gate_Gate_Len.calls g _ top s _ HG.out.1).mono ?_
  rintro e W13 ⟨rfl, hW⟩
  subst hW
  rw [HLG.out]
  go_wp2
  go_ret
  exact ⟨rfl, HB.out⟩

/-- THE ONE PURE STATEMENT of sternpostlaw25_GateOnce: yours. -/
def fit31 (x : S31) : Prop := ((Lit.int .i64 x.f0).wf = true) ∧ ((Lit.int .i64 x.f1).wf = true) ∧ ((x.f2.length * 16 ≤ 140737488351232 ∧ ∀ x_ ∈ x.f2, x_.size ≤ 140737488351232)) ∧ True
def sternpostlaw25_GateOnce.Pure : Prop := ∀ (l0 : List (S31)), (l0.length * 48 ≤ 140737488351232 ∧ ∀ x_ ∈ l0, fit31 x_) → ∃ k, sternpostlaw25_GateOnce.f k l0 = some true
theorem sternpostlaw25_GateOnce.walk (P : sternpostlaw25_GateOnce.Pure) (A0 : Option Addr) (c0 : Nat) (l0 : List (S31)) (w : World) (hP10 : Pow10 w) (hr0 : Kd.C k31 w A0 l0.length l0) (hc0 : l0.length ≤ c0) (w0 : (l0.length * 48 ≤ 140737488351232 ∧ ∀ x_ ∈ l0, fit31 x_)) :
  Calls Tryd.prog 3 #[.slice A0 l0.length c0] w fun e w' => e = .returned (.bool true) ∧ Below w.heap.size w w' := by
 obtain ⟨k, h⟩ := P l0 w0
 refine (sternpostlaw25_GateOnce.calls k _ _ l0 true w hP10 hr0 hc0 h rfl).mono ?_
 rintro e w' ⟨rfl, hd⟩
 exact ⟨rfl, hd⟩

end Go.Proofs.YtcmpkgmhcbnmbaaDoor.PGateOnce

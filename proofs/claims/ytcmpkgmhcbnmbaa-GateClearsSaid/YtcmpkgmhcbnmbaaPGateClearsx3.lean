-- Laid by this claim's own program over the print's words.
import Derived.Test.YtcmpkgmhcbnmbaaPGateClearsx0
import Derived.Test.YtcmpkgmhcbnmbaaPGateClearsx1
import Derived.Test.YtcmpkgmhcbnmbaaPGateClearsx2
namespace Go.Proofs.Ytcmpkgmhcbnmbaa.PGateClears
open Go.RowKit Go.Proofs.YtcmpkgmhcbnmbaaW.PrintWords Go.Proofs.YtcmpkgmhcbnmbaaW.PrintLast Go.Proofs.YtcmpkgmhcbnmbaaW.PrintMore
attribute [local go_sem] max2_int min2_int max_two min_two max_three min_three max_four min_four max_five min_five extract_cut tmod_nat_lit   -- for this text's walks alone
set_option linter.unusedVariables false
set_option linter.unusedSimpArgs false

/-! ### sternpostlaw25_GateClears: function 3 -/
def sternpostlaw25_GateClears_tail.f (k : Nat) (l0 : List Int) (l1 : List Int) : Option Bool := some true
theorem sternpostlaw25_GateClears_tail.mono (l0 : List Int) (l1 : List Int) (k : Nat) : LeO (sternpostlaw25_GateClears_tail.f k l0 l1) (sternpostlaw25_GateClears_tail.f (k + 1) l0 l1) := LeO.refl _
def newB : ByteArray := ⟨#[110, 101, 119]⟩
def news (j : Nat) : List (Int × List ByteArray) := (List.range j).map (fun k : Nat => (200 + (k : Int), [newB]))
structure I1 (i h : Nat) (s : GSt) : Prop where
 room : s.room = 1000
 last : s.last = (i : Int)
 conf : s.conf = 0
 long : s.long = (h : Int)
 opn : s.opn = false
 ql : s.q.length ≤ i
 hl : h ≤ 3 * i
 il : i ≤ 20
structure I2 (i j : Nat) (s : GSt) : Prop where
 room : s.room = 1000
 last : s.last = if j = 0 then (i : Int) else 199 + (j : Int)
 conf : s.conf = 100
 long : s.long = (j : Int)
 opn : s.opn = false
 q : s.q = news j
 il : i ≤ 20
 jl : j ≤ 20
theorem put_free {s : GSt} {n : Int} {fr : List ByteArray} (h1 : ¬ (n < 1 ∨ n < s.last)) (h2 : ¬ (s.opn = true ∨ n ≤ s.conf)) (h3 : s.fits fr = (fr.length : Int)) : s.put n fr = (GSt.held { s with last := n } n (fr.length : Int) fr, [], 0) := by
 unfold GSt.put
 rw [if_neg h1, if_neg h2, h3, if_neg (Int.lt_irrefl _)]
 unfold GSt.drop
 rw [if_neg (Int.lt_irrefl _)]
theorem w64_ {x : Int} (h1 : -9223372036854775808 ≤ x) (h2 : x < 9223372036854775808) : wrap64 x = x := by unfold wrap64; omega
theorem fits_free {s : GSt} {fr : List ByteArray} {h : Nat} (hr : s.room = 1000) (hl : s.long = (h : Int)) (hh : h ≤ 900) (hf : fr.length ≤ 50) : s.fits fr = (fr.length : Int) := by
 unfold GSt.fits; rw [hr, hl, w64_ (by omega) (by omega), if_neg (by omega)]
theorem I1.put {i h : Nat} {s : GSt} (hi : I1 i h s) (h20 : i < 20) {fr : List ByteArray} (hf : fr.length ≤ 3) : ∃ s', s.put ((i : Int) + 1) fr = (s', [], 0) ∧ I1 (i + 1) (h + fr.length) s' := by
 have hfit := fits_free hi.room hi.long (by have := hi.hl; omega) (show fr.length ≤ 50 by omega)
 refine ⟨_, put_free (by rw [hi.last]; omega) (by rw [hi.opn, hi.conf]; first | (simp; done) | (simp; omega)) hfit, ?_⟩
 have hh := hi.hl
 have hq := hi.ql
 unfold GSt.held
 by_cases h0 : (0 : Int) < (fr.length : Int)
 ·rw [if_pos h0]
  refine ⟨hi.room, by show (i : Int) + 1 = _; omega, hi.conf, ?_, hi.opn, ?_, by omega, by omega⟩
  ·show wrap64 (s.long + (fr.length : Int)) = _; rw [hi.long, w64_ (by omega) (by omega)]; omega
  ·show (s.q ++ [_]).length ≤ _; rw [List.length_append]; simp; omega
 ·rw [if_neg h0]
  refine ⟨hi.room, by show (i : Int) + 1 = _; omega, hi.conf, ?_, hi.opn, ?_, by omega, by omega⟩
  ·show s.long = _; rw [hi.long]; omega
  ·show s.q.length ≤ _; omega
theorem I2.put {i j : Nat} {s : GSt} (hi : I2 i j s) (h20 : j < 20) : ∃ s', s.put (200 + (j : Int)) [newB] = (s', [], 0) ∧ I2 i (j + 1) s' := by
 have hfit := fits_free hi.room hi.long (by omega) (show [newB].length ≤ 50 by decide)
 have hlast := hi.last
 have hil := hi.il
 refine ⟨_, put_free (by rw [hlast]; split <;> omega) (by rw [hi.opn, hi.conf]; first | (simp; done) | (simp; omega)) hfit, ?_⟩
 unfold GSt.held
 rw [if_pos (by decide)]
 refine ⟨hi.room, ?_, hi.conf, ?_, hi.opn, ?_, hil, by omega⟩
 ·show (200 : Int) + j = _; rw [if_neg (by omega)]; omega
 ·show wrap64 (s.long + _) = _; rw [hi.long, w64_ (by simp; omega) (by simp; omega)]; simp
 ·show s.q ++ [(200 + (j : Int), [newB])] = _; rw [hi.q]; unfold news; rw [List.range_succ, List.map_append]; rfl
theorem until_all {n : Int} : ∀ (q : List (Int × List ByteArray)) (s : GSt), (∀ x ∈ q, x.1 ≤ n) → (gUntil n q s).2 = q.flatMap (·.2)
 | [], _, _ => rfl
 | (m, fr) :: q, s, h => by
  unfold gUntil
  rw [if_pos (h (m, fr) List.mem_cons_self)]
  show fr ++ _ = _
  rw [until_all q _ (fun x hx => h x (List.mem_cons_of_mem _ hx)), List.flatMap_cons]
theorem I2.open_ {i j : Nat} {s : GSt} (hi : I2 i j s) : s.open_.2 = List.replicate j newB := by
 have hl := hi.last
 have h : s.open_.2 = s.q.flatMap (·.2) := by
  unfold GSt.open_ GSt.until
  refine until_all _ _ (fun x hx => ?_)
  have hx : x ∈ s.q := hx
  rw [hi.q] at hx
  unfold news at hx
  obtain ⟨k, hk, rfl⟩ := List.mem_map.1 hx
  have hk := List.mem_range.1 hk
  show 200 + (k : Int) ≤ s.last
  rw [hl, if_neg (by omega)]; omega
 rw [h, hi.q]
 unfold news
 have : ∀ j : Nat, ((List.range j).map (fun k : Nat => ((200 + (k : Int), [newB]) : Int × List ByteArray))).flatMap (·.2) = List.replicate j newB := fun j => by
  induction j with
  | zero => rfl
  | succ j ih => rw [List.range_succ, List.map_append, List.flatMap_append, ih, List.replicate_succ']; rfl
 exact this j
theorem I1.next {i h : Nat} {s : GSt} (hi : I1 i h s) : ∃ s', s.clear.confirm 100 = (s', []) ∧ I2 i 0 s' := by
 have h1 : ¬ s.clear.opn = true := by show ¬ s.opn = true; rw [hi.opn]; simp
 have h2 : s.clear.conf < 100 := by show s.conf < 100; rw [hi.conf]; decide
 refine ⟨s.clear.max 100, ?_, ⟨hi.room, ?_, ?_, rfl, hi.opn, rfl, hi.il, by omega⟩⟩
 ·unfold GSt.confirm; rw [if_neg h1]; exact until_nil rfl
 ·show s.last = _; rw [hi.last]; rfl
 ·show (if s.clear.conf < 100 then (100 : Int) else s.clear.conf) = 100; rw [if_pos h2]
theorem among_lt {a n : Int} (hn : 0 < n) (hn2 : n < 4611686018427387904) : ∃ c : Int, sternpostbook_Among.f a n = some c ∧ 0 ≤ c ∧ c < n := by
 unfold sternpostbook_Among.f
 rw [if_neg (by omega)]
 have h1 := Int.tmod_lt_of_pos a hn
 have h2 : -n < Int.tmod a n := Int.lt_tmod_of_pos a hn
 rw [w64_ (by omega) (by omega), Int.tmod_eq_emod_of_nonneg (show 0 ≤ Int.tmod a n + n by omega)]
 have h3 := Int.emod_nonneg (Int.tmod a n + n) (show n ≠ 0 by omega)
 have h4 := Int.emod_lt_of_pos (Int.tmod a n + n) hn
 exact ⟨_, rfl, h3, h4⟩

def sternpostlaw25_GateClears.f (k : Nat) (l0 : List Int) (l1 : List Int) : Option (Bool) := sternpostlaw25_GateClears_tail.f k l0 l1
theorem sternpostlaw25_GateClears.mono : ∀ a0 a1 k, LeO (sternpostlaw25_GateClears.f k a0 a1) (sternpostlaw25_GateClears.f (k + 1) a0 a1) := by
 intro a0 a1 k
 unfold sternpostlaw25_GateClears.f
 repeat' first
   | (with_reducible exact sternpostlaw25_GateClears_tail.mono _ _ _)
   | (with_reducible exact LeO.refl _)
   | (with_reducible exact LeO.none _)
   | (with_reducible refine LeO.ite ?_ ?_)
   | (with_reducible refine LeO.bind ?_ (fun _ => ?_))
   | exact sternpostlaw25_GateClears_tail.mono _ _ _
   | exact LeO.none _
   | refine LeO.ite ?_ ?_
   | refine LeO.bind ?_ (fun _ => ?_)
set_option maxHeartbeats 8000000 in
set_option maxRecDepth 100000 in
theorem sternpostlaw25_GateClears.calls (k : Nat) (A0 : Option Addr) (c0 : Nat) (l0 : List Int) (A1 : Option Addr) (c1 : Nat) (l1 : List Int) (r : Bool) (w : World) (hr0 : Kd.C (Kd.int .i64) w A0 l0.length l0) (hc0 : l0.length ≤ c0) (hr1 : Kd.C (Kd.int .i64) w A1 l1.length l1) (hc1 : l1.length ≤ c1) (h : sternpostlaw25_GateClears.f k l0 l1 = some r) (hrT_ : r = true) :
  Calls Try.prog 3 #[.slice A0 l0.length c0, .slice A1 l1.length c1] w fun e w' => e = .returned (.bool r) ∧ Below w.heap.size w w' := by
 have HR0 := Aside0.mk hr0
 have HC0 := Aside0.mk hc0
 clear hr0 hc0
 have HR1 := Aside0.mk hr1
 have HC1 := Aside0.mk hc1
 clear hr1 hc1
 have HB := Aside0.mk (Below.refl w.heap.size w)
 have H : (sternpostlaw25_GateClears_tail.f k l0 l1) = some r := h
 clear h
 go_enter Try.func3, Try.ntmps3
 go_upto_region 1 with (fail)
 have HBt := Aside0.mk (show Below w.heap.size w _ from by repeat (first | (with_reducible first | exact HB.out | apply below_alloc | apply pw_below_drewN | apply below_drew1) | exact HB.out))
 -- UPTO
 obtain rfl : r = true := hrT_
 clear H HB
 go_wp2_with fail
 refine (gate_New.calls 1000 w _ HBt.out (by decide) (by decide)).mono ?_
 rintro e W1 ⟨g, rfl, hG, hB, _, _⟩
 have HG := Aside0.mk hG; have HB := Aside0.mk hB; clear hG hB HBt
 go_wp2_with fail
 refine (sternpostlaw25_works.calls _).mono ?_
 rintro e W2 ⟨rfl, hb⟩
 have HG_ := Aside0.mk (HG.out.kept hb); have HB_ := Aside0.mk (below_step HB.out hb); clear HG HB hb; have HG := HG_; have HB := HB_; clear HG_ HB_
 go_wp2_with fail
 refine (gate_Gate_Shut.calls g 0 (GSt.new 1000) 0 w W2 HG.out HB.out (Nat.zero_le _) (by decide)).mono ?_
 rintro e W3 ⟨v, rfl, hG, _, hB, _⟩
 rw [show (GSt.new 1000).shut 0 = ((⟨1000, 0, 0, 0, 0, 0, false, []⟩ : GSt), []) from rfl] at hG
 clear HG HB; have HG := Aside0.mk hG; have HB := Aside0.mk hB; clear hG hB
 go_upto_block 0 with fail
 go_cut [7] (fun v7 W => ∃ (i h : Nat) (hz : Int) (s : GSt) (top : Nat), v7 = .int .i64 hz ∧ Aside0 (hz = (h : Int)) ∧ Aside0 (I1 i h s) ∧ Aside0 (GateAt W w.heap.size top g s ∧ top ≤ W.heap.size) ∧ Aside0 (Below w.heap.size w W))
 case first =>
  go_wp2_with fail
  go_loopg [7, 8] 20 (fun kq v7 v8 W => ∃ (i h : Nat) (iz hz : Int) (s : GSt) (top : Nat), v7 = .int .i64 hz ∧ v8 = .int .i64 iz ∧ Aside0 (iz = (i : Int) ∧ hz = (h : Int)) ∧ Aside0 (kq + i = 20) ∧ Aside0 (I1 i h s) ∧ Aside0 (GateAt W w.heap.size top g s ∧ top ≤ W.heap.size) ∧ Aside0 (Below w.heap.size w W))
  case atStart => exact ⟨0, 0, 0, 0, _, 0, rfl, rfl, ⟨rfl, rfl⟩, ⟨rfl⟩, ⟨⟨rfl, rfl, rfl, rfl, rfl, Nat.le_refl _, Nat.le_refl _, by omega⟩⟩, ⟨HG.out, Nat.zero_le _⟩, HB⟩
  case round =>
   clear HG HB
   obtain ⟨i, h, iz, hz, s, top, rfl, rfl, HZ, HK, HI, HG, HB⟩ := hrel
   have hz_ := HZ.out
   by_cases hlt : iz < (l0.length : Int)
   rotate_left
   ·have d1 : decide (iz < (l0.length : Int)) = false := decide_eq_false hlt
    clear hlt hz_
    go_wp2
    go_meet
    case rel => exact ⟨i, h, hz, s, top, rfl, ⟨HZ.out.2⟩, HI, HG, HB⟩
   have d1 : decide (iz < (l0.length : Int)) = true := decide_eq_true hlt
   by_cases h20 : iz < 20
   rotate_left
   ·have d2 : decide (iz < 20) = false := decide_eq_false h20
    clear hlt h20 hz_
    go_wp2
    go_meet
    case rel => exact ⟨i, h, hz, s, top, rfl, ⟨HZ.out.2⟩, HI, HG, HB⟩
   have d2 : decide (iz < 20) = true := decide_eq_true h20
   obtain ⟨k1, rfl⟩ : ∃ k1, gk = k1 + 1 := ⟨gk - 1, by have := HK.out; omega⟩
   have p0 : 0 ≤ iz := by omega
   have H20 := Aside0.mk (show i < 20 by omega)
   obtain ⟨ad, ead, hx⟩ := Kd.at_int (Kd.C_below HR0.out HB.out) iz p0 hlt
   cases ead
   replace p0 := eq_true p0
   replace hlt := eq_true hlt
   clear h20 hz_
   obtain ⟨c, hc, hc4⟩ := among_lt (a := rd l0 iz) (n := 4) (by decide) (by decide)
   have HC := Aside0.mk hc
   have HC4 := Aside0.mk hc4
   clear hc hc4
   go_wp2_with fail
   refine (sternpostbook_Among.calls _ 4 _ _ HC.out).mono ?_
   rintro e W5 ⟨rfl, hd⟩
   have hb := hd.below
   clear hd p0 hlt hx HC
   obtain ⟨m, hm⟩ : ∃ m_, (if c < 3 then c else 3) = m_ := ⟨_, rfl⟩
   have HM := Aside0.mk (show 0 ≤ m ∧ m ≤ 3 by have := HC4.out; rw [← hm]; split <;> omega)
   have hb2 := below_alloc hb (Obj.cells #[.string (⟨#[97]⟩ : ByteArray), .string (⟨#[98]⟩ : ByteArray), .string (⟨#[99]⟩ : ByteArray)] 9)
   have hl := ownsAt_lit W5 #[.string (⟨#[97]⟩ : ByteArray), .string (⟨#[98]⟩ : ByteArray), .string (⟨#[99]⟩ : ByteArray)] 9 1 3 rfl (by decide)
   have HG_ := Aside0.mk (And.intro (HG.out.1.kept hb2) (Nat.le_trans HG.out.2 hb2.size)); have HB_ := Aside0.mk (below_step HB.out hb2); clear HG HB hb hb2; have HG := HG_; have HB := HB_; clear HG_ HB_
   have HL := Aside0.mk (show ownsAt _ _ 9 1 (.slice (some ⟨W5.heap.size, 0, none⟩) m.toNat 3) ([(⟨#[97]⟩ : ByteArray), (⟨#[98]⟩ : ByteArray), (⟨#[99]⟩ : ByteArray)].take m.toNat).length (txt ([(⟨#[97]⟩ : ByteArray), (⟨#[98]⟩ : ByteArray), (⟨#[99]⟩ : ByteArray)].take m.toNat)) by
    have h' := ownsAt_take hl (k := m.toNat) (by have := HM.out; omega)
    have hfl : ([(⟨#[97]⟩ : ByteArray), (⟨#[98]⟩ : ByteArray), (⟨#[99]⟩ : ByteArray)].take m.toNat).length = m.toNat := by rw [List.length_take]; have := HM.out; simp; omega
    rw [hfl]; simpa [txt, List.map_take] using h')
   clear hl
   go_wp2_with (first | ((with_reducible refine gate_dst (N := 53) rfl ?_); refine step_run rfl (run_head Try.underlying28 (by kernel_rfl) rfl rfl rfl HM.out.1 (by have := HM.out; omega)) ?_))
   have hn : wrap64 (iz + 1) = (i : Int) + 1 := by have := HZ.out; have := HI.out.il; rw [w64_ (by omega) (by omega)]; omega
   obtain ⟨s', hr, hi'⟩ := HI.out.put H20.out (fr := [(⟨#[97]⟩ : ByteArray), (⟨#[98]⟩ : ByteArray), (⟨#[99]⟩ : ByteArray)].take m.toNat) (by rw [List.length_take]; simp; omega)
   have HN := Aside0.mk (And.intro hn (And.intro hr hi'))
   clear hn hr hi'
   refine (gate_Gate_Put.calls g _ top s (wrap64 (iz + 1)) _ ([(⟨#[97]⟩ : ByteArray), (⟨#[98]⟩ : ByteArray), (⟨#[99]⟩ : ByteArray)].take m.toNat) w _ HG.out.1 HB.out HG.out.2 HL.out (by rw [List.length_take]; simp; omega) (by have := HI.out.ql; have := HI.out.il; omega)).mono ?_
   rintro e W6 ⟨v6, top6, rfl, hG, _, hT0, hT, hB, _⟩
   rw [HN.out.1, HN.out.2.1] at hG
   clear HG HB HL; have HG := Aside0.mk (And.intro hG hT); have HB := Aside0.mk hB; clear hG hT0 hT hB
   have hn : wrap64 (iz + 1) = ((i + 1 : Nat) : Int) := by rw [HN.out.1]; omega
   have hh : wrap64 (hz + m) = ((h + ([(⟨#[97]⟩ : ByteArray), (⟨#[98]⟩ : ByteArray), (⟨#[99]⟩ : ByteArray)].take m.toNat).length : Nat) : Int) := by have := HZ.out; have := HI.out.hl; have := HI.out.il; have := HM.out; rw [List.length_take, w64_ (by omega) (by omega)]; simp; omega
   have HHN := Aside0.mk (And.intro hn hh)
   clear hn hh
   go_wp2
   go_roundg k1
   case measure => omega
   case rel => exact ⟨i + 1, _, _, _, s', top6, rfl, rfl, ⟨HHN.out.1, HHN.out.2⟩, ⟨by have := HK.out; omega⟩, ⟨HN.out.2.2⟩, HG, HB⟩
 case rest =>
  clear HG HB
  obtain ⟨i, h, hz, s, top, h7_, HZ, HI, HG, HB⟩ := hcut
  subst h7_
  have hs : s.long = hz := HI.out.long.trans HZ.out.symm
  have HS := Aside0.mk hs
  clear hs
  go_wp2_with fail
  refine (gate_Gate_Len.calls g _ top s _ HG.out.1).mono ?_
  rintro e W7 ⟨rfl, hW⟩
  subst hW
  rw [HS.out]
  go_wp2_with fail
  refine (gate_Gate_Clear.calls g top s w _ HG.out.1 HB.out).mono ?_
  rintro e W8 ⟨rfl, hG, hB, hK⟩
  rw [HS.out]
  have HT := Aside0.mk (Nat.le_trans HG.out.2 hK.1)
  clear HG HB; have HG := Aside0.mk hG; have HB := Aside0.mk hB; clear hG hB hK
  go_wp2_with fail
  refine (gate_Gate_Len.calls g _ top s.clear _ HG.out).mono ?_
  rintro e W9 ⟨rfl, hW⟩
  subst hW
  rw [show s.clear.long = 0 from rfl]
  obtain ⟨s2, hr, hi⟩ := HI.out.next
  have HI2 := Aside0.mk hi
  have HR := Aside0.mk hr
  clear hi hr HI
  go_wp2_with fail
  refine (gate_Gate_Confirm.calls g top s.clear 100 w _ HG.out HB.out HT.out (by rw [HR.out]; exact Nat.zero_le _)).mono ?_
  rintro e W10 ⟨v10, rfl, hG, hO, hB, hK⟩
  rw [HR.out] at hG hO
  have HT_ := Aside0.mk (Nat.le_trans HT.out hK.1)
  clear HG HB HT; have HG := Aside0.mk (And.intro hG HT_.out); have HB := Aside0.mk hB; clear hG hB hK HT_
  obtain ⟨A10, c10, rfl, _⟩ := ownsAt_len hO
  clear hO
  go_upto_block 2 with fail
  go_cut [10] (fun v10_ W => ∃ (j : Nat) (s : GSt) (top : Nat), Aside0 (j ≤ l1.length ∧ (j = l1.length ∨ j = 20)) ∧ Aside0 (I2 i j s) ∧ Aside0 (GateAt W w.heap.size top g s ∧ top ≤ W.heap.size) ∧ Aside0 (Below w.heap.size w W))
  case first =>
   go_wp2_with fail
   go_loopg [10] 20 (fun kq v10_ W => ∃ (j : Nat) (jz : Int) (s : GSt) (top : Nat), v10_ = .int .i64 jz ∧ Aside0 (jz = (j : Int)) ∧ Aside0 (kq + j = 20) ∧ Aside0 (j ≤ l1.length) ∧ Aside0 (I2 i j s) ∧ Aside0 (GateAt W w.heap.size top g s ∧ top ≤ W.heap.size) ∧ Aside0 (Below w.heap.size w W))
   case atStart => exact ⟨0, 0, s2, top, rfl, ⟨rfl⟩, ⟨rfl⟩, ⟨Nat.zero_le _⟩, HI2, HG, HB⟩
   case round =>
    clear HG HB HI2
    obtain ⟨j, jz, s, top, rfl, HZ, HK, HL, HI, HG, HB⟩ := hrel
    have hz_ := HZ.out
    by_cases hlt : jz < (l1.length : Int)
    rotate_left
    ·have d1 : decide (jz < (l1.length : Int)) = false := decide_eq_false hlt
     have HE := Aside0.mk (show j ≤ l1.length ∧ (j = l1.length ∨ j = 20) by have := HL.out; omega)
     clear hlt hz_
     go_wp2
     go_meet
     case rel => exact ⟨j, s, top, HE, HI, HG, HB⟩
    have d1 : decide (jz < (l1.length : Int)) = true := decide_eq_true hlt
    by_cases h20 : jz < 20
    rotate_left
    ·have d2 : decide (jz < 20) = false := decide_eq_false h20
     have HE := Aside0.mk (show j ≤ l1.length ∧ (j = l1.length ∨ j = 20) by have := HL.out; have := HI.out.jl; omega)
     clear hlt h20 hz_
     go_wp2
     go_meet
     case rel => exact ⟨j, s, top, HE, HI, HG, HB⟩
    have d2 : decide (jz < 20) = true := decide_eq_true h20
    obtain ⟨k1, rfl⟩ : ∃ k1, gk = k1 + 1 := ⟨gk - 1, by have := HK.out; omega⟩
    have H20 := Aside0.mk (show j < 20 ∧ j < l1.length by omega)
    clear hlt h20 hz_
    have hb2 := below_alloc (Below.refl wr.heap.size wr) (Obj.cells #[.string (⟨#[110, 101, 119]⟩ : ByteArray)] 9)
    have hl := ownsAt_lit wr #[.string (⟨#[110, 101, 119]⟩ : ByteArray)] 9 1 1 rfl (by decide)
    have HG_ := Aside0.mk (And.intro (HG.out.1.kept hb2) (Nat.le_trans HG.out.2 hb2.size)); have HB_ := Aside0.mk (below_step HB.out hb2); clear HG HB hb2; have HG := HG_; have HB := HB_; clear HG_ HB_
    have HLT := Aside0.mk hl
    clear hl
    have hn : wrap64 (200 + jz) = 200 + (j : Int) := by have := HZ.out; have := H20.out.1; rw [w64_ (by omega) (by omega)]; omega
    obtain ⟨s', hr, hi'⟩ := HI.out.put H20.out.1
    have HN := Aside0.mk (And.intro hn (And.intro hr hi'))
    clear hn hr hi'
    go_wp2_with fail
    refine (gate_Gate_Put.calls g _ top s (wrap64 (200 + jz)) _ [newB] w _ HG.out.1 HB.out HG.out.2 HLT.out (by decide) (by rw [HI.out.q]; unfold news; rw [List.length_map, List.length_range]; have := HI.out.jl; omega)).mono ?_
    rintro e W6 ⟨v6, top6, rfl, hG, hO, hT0, hT, hB, _⟩
    rw [HN.out.1, HN.out.2.1] at hG hO
    obtain ⟨A6, c6, rfl, _⟩ := ownsAt_len hO
    clear HG HB HLT hO; have HG := Aside0.mk (And.intro hG hT); have HB := Aside0.mk hB; clear hG hT0 hT hB
    have hm : wrap64 (jz + 1) = ((j + 1 : Nat) : Int) := by have := HZ.out; have := H20.out.1; rw [w64_ (by omega) (by omega)]; omega
    have HM := Aside0.mk hm
    clear hm
    rw [show (s.put (wrap64 (200 + jz)) [newB]).2.2 = 0 from by rw [HN.out.1, HN.out.2.1]]
    go_wp2
    go_roundg k1
    case measure => omega
    case rel => exact ⟨j + 1, _, s', top6, rfl, HM, ⟨by have := HK.out; omega⟩, ⟨by have := H20.out.2; omega⟩, ⟨HN.out.2.2⟩, HG, HB⟩
  case rest =>
   clear HG HB HI2
   obtain ⟨j, s, top, HJ, HI, HG, HB⟩ := hcut
   obtain ⟨lo, hlo⟩ : ∃ l_, List.replicate j newB = l_ := ⟨_, rfl⟩
   have hout : s.open_.2 = lo := HI.out.open_.trans hlo
   have HLO := Aside0.mk hlo
   have HO := Aside0.mk hout
   have hlen : lo.length = j := by rw [← hlo, List.length_replicate]
   have HLN := Aside0.mk hlen
   clear hlo hout hlen
   go_wp2_with fail
   refine (gate_Gate_Open.calls g top s w _ HG.out.1 HB.out HG.out.2 (by rw [HO.out, HLN.out]; have := HI.out.jl; omega)).mono ?_
   rintro e W11 ⟨v11, rfl, _, hO, hB, _⟩
   rw [HO.out] at hO
   obtain ⟨A11, c11, rfl, _⟩ := ownsAt_len hO
   have HC := Aside0.mk (ownsAt_texts hO).1
   clear HG HB hO; have HB := Aside0.mk hB; clear hB
   go_upto_block 4 with fail
   go_cut [109] (fun v109_ W => W = W11)
   case first =>
    go_wp2_with fail
    go_loopg [109] j (fun kq v109_ W => ∃ (m : Nat) (mz : Int), v109_ = .int .i64 mz ∧ Aside0 (mz = (m : Int)) ∧ Aside0 (kq + m = j) ∧ W = W11)
    case atStart => exact ⟨0, 0, rfl, ⟨rfl⟩, ⟨by omega⟩, rfl⟩
    case round =>
     obtain ⟨m, mz, rfl, HZ, HK, rfl⟩ := hrel
     have hz_ := HZ.out
     by_cases hlt : mz < (lo.length : Int)
     rotate_left
     ·have d1 : decide (mz < (lo.length : Int)) = false := decide_eq_false hlt
      clear hlt hz_
      go_wp2
      go_meet
      case rel => rfl
     have d1 : decide (mz < (lo.length : Int)) = true := decide_eq_true hlt
     obtain ⟨k1, rfl⟩ : ∃ k1, gk = k1 + 1 := ⟨gk - 1, by have := HK.out; have := HLN.out; omega⟩
     have p0 : 0 ≤ mz := by omega
     obtain ⟨ad, ead, hx⟩ := Kd.at_string HC.out mz p0 hlt
     cases ead
     rw [show rdOf ByteArray.empty lo mz = (⟨#[110, 101, 119]⟩ : ByteArray) from by unfold rdOf; rw [← HLO.out, List.getD_eq_getElem?_getD, List.getElem?_replicate, if_pos (by have := HLN.out; omega)]; rfl] at hx
     have hm : wrap64 (mz + 1) = ((m + 1 : Nat) : Int) := by have := HI.out.jl; have := HLN.out; rw [w64_ (by omega) (by omega)]; omega
     have HM := Aside0.mk hm
     clear hm hz_
     replace p0 := eq_true p0
     replace hlt := eq_true hlt
     go_wp2
     go_roundg k1
     case measure => omega
     case rel => exact ⟨m + 1, _, rfl, HM, ⟨by have := HK.out; omega⟩, rfl⟩
   case rest =>
    subst hcut
    have hmin : (if (l1.length : Int) < 20 then (l1.length : Int) else 20) = (lo.length : Int) := by have := HJ.out; have := HI.out.jl; have := HLN.out; split <;> omega
    go_wp2
    go_ret
    exact ⟨rfl, HB.out⟩

/-- THE ONE PURE STATEMENT of sternpostlaw25_GateClears: yours. -/
def sternpostlaw25_GateClears.Pure : Prop := ∀ (l0 : List Int) (l1 : List Int), l0.length ≤ maxLen → l0.length * 8 ≤ 140737488351232 → (∀ x ∈ l0, (Lit.int .i64 x).wf = true) → l1.length ≤ maxLen → l1.length * 8 ≤ 140737488351232 → (∀ x ∈ l1, (Lit.int .i64 x).wf = true) → ∃ k, sternpostlaw25_GateClears.f k l0 l1 = some true
theorem sternpostlaw25_GateClears.walk (P : sternpostlaw25_GateClears.Pure) (a0 : Option Addr) (len0 cap0 : Nat) (z0 : List Int) (a1 : Option Addr) (len1 cap1 : Nat) (z1 : List Int) (w : World) (w0 : (a0 = none ∧ len0 = 0 ∧ cap0 = 0 ∧ z0 = []) ∨ ∃ x, a0 = some x ∧ len0 ≤ cap0 ∧ cap0 ≤ maxLen ∧ z0.length = cap0 ∧ (∀ i, i < z0.length → w.cell? (x.add i) = some (.int .i64 (z0.getD i 0))) ∧ ∀ n ∈ z0, (Lit.int .i64 n).wf = true) (y0 : len0 * 8 ≤ 140737488351232) (w1 : (a1 = none ∧ len1 = 0 ∧ cap1 = 0 ∧ z1 = []) ∨ ∃ x, a1 = some x ∧ len1 ≤ cap1 ∧ cap1 ≤ maxLen ∧ z1.length = cap1 ∧ (∀ i, i < z1.length → w.cell? (x.add i) = some (.int .i64 (z1.getD i 0))) ∧ ∀ n ∈ z1, (Lit.int .i64 n).wf = true) (y1 : len1 * 8 ≤ 140737488351232) :
  Calls Try.prog 3 #[.slice a0 len0 cap0, .slice a1 len1 cap1] w fun e w' => e = .returned (.bool true) ∧ Below w.heap.size w w' := by
 obtain ⟨l0, rfl, hr0, hm0, hw0, hc0⟩ := ReadsInt.ofRowC w0
 obtain ⟨l1, rfl, hr1, hm1, hw1, hc1⟩ := ReadsInt.ofRowC w1
 obtain ⟨k, h⟩ := P l0 l1 hm0 y0 hw0 hm1 y1 hw1
 refine (sternpostlaw25_GateClears.calls k _ _ l0 _ _ l1 true w (Kd.C_of_reads (d := (0 : Int)) (h1 := fun _ => rfl) hr0) hc0 (Kd.C_of_reads (d := (0 : Int)) (h1 := fun _ => rfl) hr1) hc1 h rfl).mono ?_
 rintro e w' ⟨rfl, hd⟩
 exact ⟨rfl, hd⟩

end Go.Proofs.Ytcmpkgmhcbnmbaa.PGateClears

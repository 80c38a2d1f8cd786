-- Laid by this claim's own program over the print's words.
import Derived.Test.YtobndcdohehhbaaPSendqPlaysx0
import Derived.Test.YtobndcdohehhbaaPSendqPlaysx1
import Derived.Test.YtobndcdohehhbaaPSendqPlaysx3
import Derived.Test.YtobndcdohehhbaaPSendqPlaysx5
import Derived.Test.YtobndcdohehhbaaPSendqPlaysx6
namespace Go.Proofs.Ytobndcdohehhbaa.PSendqPlays
open Go.RowKit Go.Proofs.YtobndcdohehhbaaW.PrintWords Go.Proofs.YtobndcdohehhbaaW.PrintLast Go.Proofs.YtobndcdohehhbaaW.PrintMore
attribute [local go_sem] max2_int min2_int max_two min_two max_three min_three max_four min_four max_five min_five extract_cut tmod_nat_lit   -- for this text's walks alone
set_option linter.unusedVariables false
set_option linter.unusedSimpArgs false


/-! ### sternpostref15_Queue_Ack: function 35 (by hand) -/
-- over sternpostref15_Queue_Write.calls sternpostref15_Queue_Write.callsR
theorem wl_val {P : Program} {ops : Array Oper} {rest : List Oper} {o : Oper} {a : Act} {Q : Exit → Act → World → Prop} {w : World} {v : Value} (hw : Region.wanted o (yielded ops a.tmps) = true) (h : (execOp a.eval o).run P w = .ok (.value v) w) (k : wpList P ops Q rest (a.put o.dst v) w) : wpList P ops Q (o :: rest) a w := by
 unfold wpList
 rw [if_pos hw]
 refine .inl ?_
 unfold Oper.wp
 rw [h]
 exact k
theorem ownsAt_drop {w : World} {base : Nat} {e : TypeId} {A : Option Addr} {n c d : Nat} {xs : List Value} (h : ownsAt w base e 1 (.slice A n c) n xs) (hd : d ≤ n) : ownsAt w base e 1 (.slice (if c = d then A else A.map (·.add (d * 1))) (n - d) (c - d)) (n - d) (xs.drop d) := by
 rcases h with ⟨hl, ⟨hv, h0⟩ | ⟨g, o, cap, cur, hv, hb, hg, hc, hm, hs, ht⟩⟩
 ·subst h0
  obtain rfl : d = 0 := by omega
  injection hv with h1 h2 h3
  subst h1 h3
  exact ⟨by simpa using hl, .inl ⟨by simp, rfl⟩⟩
 ·injection hv with h1 h2 h3
  subst h1 h3
  refine ⟨by rw [List.length_drop, hl]; omega, .inr ?_⟩
  by_cases hcd : c = d
  ·obtain rfl : n = d := by omega
   subst hcd
   exact ⟨g, o, 0, cur, by rw [if_pos rfl]; simp, hb, hg, by omega, Nat.zero_le _, by omega, by rw [← ht]; simp⟩
  ·refine ⟨g, o + d, c - d, cur, by rw [if_neg hcd]; simp [Addr.add], hb, hg, by omega, by omega, by omega, ?_⟩
   rw [← ht, List.drop_take, List.drop_drop]
   congr 1
   omega
theorem run_sl_row {P : Program} {ρ : Operand → Value} {o : Oper} {W : World} {t e : TypeId} {x a : Operand} {A : Option Addr} {n c : Nat} {i : Int} (hu : P.underlying t = some (.slice e)) (hi : (P.info? e).map (·.size) = some 1) (ho : o.op = .slice t x (some a) none none) (hx : ρ x = .slice A n c) (ha : ρ a = .int .i64 i) (h0 : 0 ≤ i) (h1 : i ≤ (n : Int)) : (execOp ρ o).run P W = .ok (.value (.slice (if c = i.toNat then A else A.map (·.add (i.toNat * 1))) (n - i.toNat) (c - i.toNat))) W := by
 have e1 : ¬ ((n : Int) < i) := by omega
 rw [Option.map_eq_some_iff] at hi
 obtain ⟨inf, hinf, hsz⟩ := hi
 unfold execOp
 simp only [ho, hx]
 simp [Instr.sliceAt, Instr.slice, run_underlying hu, Instr.sliceBounds, run_sliceBound, sliced, ha, h0, h1, sizeOf, typeInfo, hinf, hsz]
def RQ.ack (q : RQ) (n : Int) : RQ × Int × Int := if q.off n < 0 then (q, 0, 1) else ({ q with left := n, s := cutS q.s (q.off n).toNat q.s.size, sent := q.sent - q.off n, got := q.got.drop (q.off n).toNat }, q.off n, 0)
theorem roff_ok {q : RQ} {n : Int} (h : ¬ q.off n < 0) : 0 ≤ q.off n ∧ q.off n ≤ q.sent := by
 unfold RQ.off at h ⊢
 split at h
 ·rename_i hn
  rw [if_pos hn]
  exact ⟨Int.emod_nonneg _ (by decide), hn.2⟩
 ·omega
set_option maxHeartbeats 4000000 in
set_option maxRecDepth 100000 in
theorem sternpostref15_Queue_Ack.callsR (g top : Nat) (q : RQ) (n : Int) (w0 w : World) (hI : RefAt w w0.heap.size top g q) (hB : Below w0.heap.size w0 w) (hl : sqOk q.left) (hs : 0 ≤ q.sent ∧ q.sent ≤ (q.s.size : Int) ∧ (q.s.size : Int) ≤ 65536) (hg : q.got.length = q.s.size) (hT : top ≤ w.heap.size) :
  Calls Try.prog 35 #[.pointer (some ⟨g, 0, none⟩), .int .i64 n] w fun e w' => e = .returned (.tuple #[.int .i64 (q.ack n).2.1, .int .i64 (q.ack n).2.2]) ∧ RefAt w' w0.heap.size top g ((q.ack n).1) ∧ Below w0.heap.size w0 w' ∧ KeepG g w w' := by
 have HI := Aside0.mk hI
 have HB := Aside0.mk hB
 have HL := Aside0.mk hl
 have HS := Aside0.mk hs
 have HGL := Aside0.mk hg
 have HT := Aside0.mk hT
 clear hI hB hl hs hg hT
 by_cases hneg : q.off n < 0
 ·have e : q.ack n = (q, 0, 1) := by unfold RQ.ack; rw [if_pos hneg]
  rw [e]
  have d1 : decide (q.off n < 0) = true := decide_eq_true hneg
  clear e hneg
  obtain ⟨Az, cz, ⟨hbg, hge⟩, ⟨hle, hcm⟩, ⟨hc0, hc1, hc2, hc3, hc4⟩, ⟨hf0, hf1, hf2, hf3, hf4⟩, HQ⟩ := HI.out.cell
  go_enter Try.func35, Try.ntmps35
  go_wp2_with fail
  refine (sternpostref15_Queue_off.callsR g top _ q n _ HI.out HL.out).mono ?_
  rintro e W1 ⟨rfl, nd, rfl⟩
  go_wp2
  go_ret2
  exact ⟨rfl, HI.out.drawn rfl, pw_below_drewN HB.out nd, KeepG.of_below (pw_below_drewN (Below.refl _ _) nd)⟩
 have hok := roff_ok hneg
 obtain ⟨d, hd⟩ : ∃ d_, q.off n = d_ := ⟨_, rfl⟩
 have e : q.ack n = ({ q with left := n, s := cutS q.s d.toNat q.s.size, sent := q.sent - d, got := q.got.drop d.toNat }, d, 0) := by unfold RQ.ack; rw [if_neg hneg, hd]
 rw [e]
 clear e
 go_enter Try.func35, Try.ntmps35
 obtain ⟨Az, cz, ⟨hbg, hge⟩, ⟨hle, hcm⟩, ⟨hc0, hc1, hc2, hc3, hc4⟩, ⟨hf0, hf1, hf2, hf3, hf4⟩, HQ⟩ := HI.out.cell
 go_wp2_with fail
 refine (sternpostref15_Queue_off.callsR g top _ q n _ HI.out HL.out).mono ?_
 rw [hd] at hok hneg ⊢
 clear hd
 have HD := Aside0.mk hok
 have d1 : decide (d < 0) = false := decide_eq_false (by omega)
 have hw1 : wrap64 (q.sent - d) = q.sent - d := by have := HS.out; exact w64p (by omega) (by omega)
 have HW1 := Aside0.mk hw1
 clear hok hneg hw1
 rintro e W1 ⟨rfl, nd, rfl⟩
 have HT2 := Aside0.mk (show top ≤ (w.drewN nd).heap.size from HT.out)
 clear HT
 have HIs := Aside0.mk (show RefAt (w.drewN nd) w0.heap.size top g (q) from HI.out.drawn rfl)
 have HBs := Aside0.mk (pw_below_drewN HB.out nd)
 have HKs_ := Aside0.mk (show KeepG g w (w.drewN nd) from KeepG.of_below (pw_below_drewN (Below.refl _ _) nd))
 clear hbg hge hle hcm hc0 hc1 hc2 hc3 hc4 hf0 hf1 hf2 hf3 hf4 HQ
 clear HI HB
 have HI := HIs; have HB := HBs; have HKs := HKs_
 clear HIs HBs HKs_
 generalize w.drewN nd = W1 at HI HB HKs HT2 ⊢
 obtain ⟨Az, cz, ⟨hbg, hge⟩, ⟨hle, hcm⟩, ⟨hc0, hc1, hc2, hc3, hc4⟩, ⟨hf0, hf1, hf2, hf3, hf4⟩, HQ⟩ := HI.out.cell
 have HT := HT2
 clear HT2
 go_wp2_with (first | ((with_reducible refine gate_dst (N := 18) rfl ?_); refine stop_ ?_))
 unfold Stop_
 refine wl_val rfl (run_sl_from (i := d) (s := q.s) Try.underlying9 rfl rfl rfl HD.out.1 (by have := HD.out; have := HS.out; omega)) ?_
 go_upto_region 5 with fail
 clear d1
 have HI2 := Aside0.mk (HI.out.set 3 (.string (cutS q.s d.toNat q.s.size)) (q' := { q with s := cutS q.s d.toNat q.s.size }) rfl (fun _ => rfl))
 have HB2 := Aside0.mk (show Below w0.heap.size w0 (W1.setCell ⟨g, 3, none⟩ (.string (cutS q.s d.toNat q.s.size))) from below_set HB.out HI.out.ge)
 have HK2 := Aside0.mk (HKs.out.trans (KeepG.set g 3 W1 (.string (cutS q.s d.toNat q.s.size))))
 have HT2 := Aside0.mk (show top ≤ (W1.setCell ⟨g, 3, none⟩ (.string (cutS q.s d.toNat q.s.size))).heap.size by simp [World.setCell]; exact HT.out)
 clear hbg hge hle hcm hc0 hc1 hc2 hc3 hc4 hf0 hf1 hf2 hf3 hf4 HQ
 clear HI HB HKs HT
 generalize W1.setCell ⟨g, 3, none⟩ (.string (cutS q.s d.toNat q.s.size)) = W2 at HI2 HB2 HK2 HT2 ⊢
 have HI := HI2; have HB := HB2; have HKs := HK2; have HT := HT2; clear HI2 HB2 HK2 HT2
 obtain ⟨Az, cz, ⟨hbg, hge⟩, ⟨hle, hcm⟩, ⟨hc0, hc1, hc2, hc3, hc4⟩, ⟨hf0, hf1, hf2, hf3, hf4⟩, HQ⟩ := HI.out.cell
 have hb := below_alloc (Below.refl W2.heap.size W2) (Obj.cells #[] 4)
 have HNW := Aside0.mk (blk_new W2 (.cells #[] 4))
 have hdn : d.toNat ≤ q.got.length := by have := HD.out; have := HS.out; have := HGL.out; omega
 have hsr := SrcAt.own (ownsAt_drop (d := d.toNat) (ownsAt_below HQ hb) hdn)
 obtain ⟨y, hy⟩ : ∃ y_, Value.slice (if cz = d.toNat then Az else Az.map (·.add (d.toNat * 1))) (q.got.length - d.toNat) (cz - d.toNat) = y_ := ⟨_, rfl⟩
 rw [hy] at hsr
 have HY := Aside0.mk hy
 have HSR := Aside0.mk hsr
 have HSX := Aside0.mk (show W2.heap.size ≤ (W2.alloc (Obj.cells #[] 4)).heap.size from hb.size)
 have HBX := Aside0.mk hb
 have hx4 := blk_cell (blk_below hbg hb) 4
 change _ = some (Value.slice Az q.got.length cz) at hx4
 clear hb hdn hsr hy hbg hge hle hcm hc0 hc1 hc2 hc3 hc4 hf0 hf1 hf2 hf3 hf4 HQ
 go_wp2_with (first | ((with_reducible refine gate_dst (N := 28) rfl ?_); refine stop_ ?_))
 unfold Stop_
 refine wl_val (v := y) rfl ((run_sl_row (A := Az) (n := q.got.length) (c := cz) (i := d) (e := 4) Try.underlying59 (by kernel_rfl) rfl rfl rfl HD.out.1 (by have := HD.out; have := HS.out; have := HGL.out; omega)).trans (by rw [HY.out])) ?_
 go_wp2_with (first | ((with_reducible refine gate_dst (N := 29) rfl ?_); refine stop_ ?_))
 unfold Stop_
 refine wl_append0r 59 4 (.bool false) 1 1 rfl rfl Try.underlying59 (by kernel_rfl) rfl (b := W2.heap.size) (base := W2.heap.size) rfl rfl (Nat.le_refl _) HNW.out HSR.out (by have := HGL.out; have := HS.out; simp only [maxLen]; omega) (by have := HGL.out; have := HS.out; omega) HSX.out (fun v9 W9 hv9 hb9 => ?_)
 have hb10 := below_step HBX.out hb9
 have HI9 := Aside0.mk (HI.out.kept hb10)
 have HB9 := Aside0.mk (below_step HB.out hb10)
 have HK9 := Aside0.mk (HKs.out.trans (KeepG.of_below hb10))
 have HT9 := Aside0.mk (Nat.le_trans HT.out hb10.size)
 have hv := ownsAt_base (ownsAt_row hv9) HT.out
 have HV9 := Aside0.mk hv
 clear hv9 hb9 hb10 hv hx4 HI HB HKs HT HNW HSR HSX HBX
 obtain ⟨A9, c9, e9, _⟩ := ownsAt_len HV9.out
 subst e9
 have HI := HI9; have HB := HB9; have HKs := HK9; have HT := HT9
 clear HI9 HB9 HK9 HT9
 obtain ⟨Az, cz, ⟨hbg, hge⟩, ⟨hle, hcm⟩, ⟨hc0, hc1, hc2, hc3, hc4⟩, ⟨hf0, hf1, hf2, hf3, hf4⟩, HQ⟩ := HI.out.cell
 go_upto_region 6 with fail
 have HI2 := Aside0.mk (show RefAt (W9.setCell ⟨g, 4, none⟩ (.slice A9 (q.got.length - d.toNat) c9)) w0.heap.size top g { q with s := cutS q.s d.toNat q.s.size, got := q.got.drop d.toNat } from HI.out.row _ (by show ownsAt _ _ _ _ _ (q.got.drop d.toNat).length _; rw [List.length_drop]; have h := HV9.out; rw [show (bos q.got).drop d.toNat = bos (q.got.drop d.toNat) by unfold bos; rw [List.map_drop]] at h; exact h) (fun _ => rfl))
 have HB2 := Aside0.mk (show Below w0.heap.size w0 (W9.setCell ⟨g, 4, none⟩ (.slice A9 (q.got.length - d.toNat) c9)) from below_set HB.out HI.out.ge)
 have HK2 := Aside0.mk (HKs.out.trans (KeepG.set g 4 W9 (.slice A9 (q.got.length - d.toNat) c9)))
 have HT2 := Aside0.mk (show top ≤ (W9.setCell ⟨g, 4, none⟩ (.slice A9 (q.got.length - d.toNat) c9)).heap.size by simp [World.setCell]; exact HT.out)
 clear hbg hge hle hcm hc0 hc1 hc2 hc3 hc4 hf0 hf1 hf2 hf3 hf4 HQ
 clear HI HB HKs HT HV9
 generalize W9.setCell ⟨g, 4, none⟩ (.slice A9 (q.got.length - d.toNat) c9) = W3 at HI2 HB2 HK2 HT2 ⊢
 have HI := HI2; have HB := HB2; have HKs := HK2; have HT := HT2
 clear HI2 HB2 HK2 HT2
 obtain ⟨Az, cz, ⟨hbg, hge⟩, ⟨hle, hcm⟩, ⟨hc0, hc1, hc2, hc3, hc4⟩, ⟨hf0, hf1, hf2, hf3, hf4⟩, HQ⟩ := HI.out.cell
 have hw1 := HW1.out
 go_upto_region 7 with fail
 clear hw1
 have HI2 := Aside0.mk (HI.out.set 1 (.int .i64 (q.sent - d)) (q' := { q with s := cutS q.s d.toNat q.s.size, got := q.got.drop d.toNat, sent := q.sent - d }) rfl (fun _ => rfl))
 have HB2 := Aside0.mk (show Below w0.heap.size w0 (W3.setCell ⟨g, 1, none⟩ (.int .i64 (q.sent - d))) from below_set HB.out HI.out.ge)
 have HK2 := Aside0.mk (HKs.out.trans (KeepG.set g 1 W3 (.int .i64 (q.sent - d))))
 have HT2 := Aside0.mk (show top ≤ (W3.setCell ⟨g, 1, none⟩ (.int .i64 (q.sent - d))).heap.size by simp [World.setCell]; exact HT.out)
 clear hbg hge hle hcm hc0 hc1 hc2 hc3 hc4 hf0 hf1 hf2 hf3 hf4 HQ
 clear HI HB HKs HT
 generalize W3.setCell ⟨g, 1, none⟩ (.int .i64 (q.sent - d)) = W4 at HI2 HB2 HK2 HT2 ⊢
 have HI := HI2; have HB := HB2; have HKs := HK2; have HT := HT2; clear HI2 HB2 HK2 HT2
 obtain ⟨Az, cz, ⟨hbg, hge⟩, ⟨hle, hcm⟩, ⟨hc0, hc1, hc2, hc3, hc4⟩, ⟨hf0, hf1, hf2, hf3, hf4⟩, HQ⟩ := HI.out.cell
 go_wp2
 go_ret2
 exact ⟨rfl, HI.out.set 0 _ rfl (fun _ => rfl), below_set HB.out HI.out.ge, HKs.out.trans (KeepG.set g 0 _ _)⟩



/-! ### sternpostref15_Queue_Next1: function 23 (by hand) -/
-- over sternpostref15_Queue_off.calls sternpostref15_Queue_off.callsR
def RQ.at_ (q : RQ) (n : Int) : Int := (q.left + n) % 4294967296
set_option maxHeartbeats 4000000 in
set_option maxRecDepth 100000 in
theorem sternpostref15_Queue_Next1.callsR (g top base : Nat) (q : RQ) (w : World) (hI : RefAt w base top g q) (hl : sqOk q.left) (hs : 0 ≤ q.sent ∧ q.sent ≤ 65536) :
  Calls Try.prog 23 #[.pointer (some ⟨g, 0, none⟩)] w fun e w' => e = .returned (.int .i64 (q.at_ q.sent)) ∧ Drawn0 w w' := by
 have HI := Aside0.mk hI
 clear hI
 have hw : wrap64 (q.left + q.sent) = q.left + q.sent := by unfold sqOk at hl; exact w64p (by omega) (by omega)
 have hm : sternpostref01_Mod.f (wrap64 (q.left + q.sent)) = some (q.at_ q.sent) := by rw [hw, refmod_]; rfl
 have HM := Aside0.mk hm
 clear hl hs hm hw
 obtain ⟨Az, cz, ⟨hbg, hge⟩, ⟨hle, hcm⟩, ⟨hc0, hc1, hc2, hc3, hc4⟩, ⟨hf0, hf1, hf2, hf3, hf4⟩, HQ⟩ := HI.out.cell
 go_enter Try.func23, Try.ntmps23
 go_upto_region 1 with fail
 have same : ∀ (ph : Nat) W', Drawn0 w W' → True := fun _ _ _ => trivial
 refine AnyEvents.region_then 11 (E := []) (C := fun (_ : Nat) W' => Drawn0 w W') (G := fun _ _ _ _ => True) (T := []) (R := fun _ _ _ _ => True) (vs := [?v18_0, ?v18_1, ?v18_2, ?v18_3, ?v18_4, ?v18_5, ?v18_6, ?v18_7, ?v18_8, (.int .i64 (q.at_ q.sent)), ?v18_10]) (by kernel_rfl) (by kernel_rfl) rfl (by kernel_rfl) ?hc18r same (fun _ _ _ _ _ _ _ _ _ => trivial) (fun _ h => nomatch h) (fun x => ?obs18r) ?fin18r
 case hc18r => exact ⟨1, rfl⟩
 case obs18r =>
  refine AnyEvents.obs_cons ?v18_0 (val_hole (by simp only [List.getD_cons_zero, List.getD_cons_succ])) (AnyEvents.ob_plain (v := ?v18_0) rfl rfl rfl same (by simp only [List.getD_cons_zero, List.getD_cons_succ]) (fun ph W' hwn hW => ?_)) ?_
  ·obtain ⟨nd, rfl⟩ := hW; have z0 := drew_cell nd hc0; have z1 := drew_cell nd hc1; first | (go_simp; done) | (go_simp; (try simp only [i64_w]); rfl) | (go_simp; simp; rfl)
  try simp only [Act.put, List.setIfInBounds_toArray, List.set_cons_zero, List.set_cons_succ]
  refine AnyEvents.obs_cons ?v18_1 (val_hole (by simp only [List.getD_cons_zero, List.getD_cons_succ])) (AnyEvents.ob_plain (v := ?v18_1) rfl rfl rfl same (by simp only [List.getD_cons_zero, List.getD_cons_succ]) (fun ph W' hwn hW => ?_)) ?_
  ·obtain ⟨nd, rfl⟩ := hW; have z0 := drew_cell nd hc0; have z1 := drew_cell nd hc1; first | (go_simp; done) | (go_simp; (try simp only [i64_w]); rfl) | (go_simp; simp; rfl)
  try simp only [Act.put, List.setIfInBounds_toArray, List.set_cons_zero, List.set_cons_succ]
  refine AnyEvents.obs_cons ?v18_2 (val_hole (by simp only [List.getD_cons_zero, List.getD_cons_succ])) (AnyEvents.ob_plain (v := ?v18_2) rfl rfl rfl same (by simp only [List.getD_cons_zero, List.getD_cons_succ]) (fun ph W' hwn hW => ?_)) ?_
  ·obtain ⟨nd, rfl⟩ := hW; have z0 := drew_cell nd hc0; have z1 := drew_cell nd hc1; first | (go_simp; done) | (go_simp; (try simp only [i64_w]); rfl) | (go_simp; simp; rfl)
  try simp only [Act.put, List.setIfInBounds_toArray, List.set_cons_zero, List.set_cons_succ]
  refine AnyEvents.obs_cons ?v18_3 (val_hole (by simp only [List.getD_cons_zero, List.getD_cons_succ])) (AnyEvents.ob_plain (v := ?v18_3) rfl rfl rfl same (by simp only [List.getD_cons_zero, List.getD_cons_succ]) (fun ph W' hwn hW => ?_)) ?_
  ·obtain ⟨nd, rfl⟩ := hW; have z0 := drew_cell nd hc0; have z1 := drew_cell nd hc1; first | (go_simp; done) | (go_simp; (try simp only [i64_w]); rfl) | (go_simp; simp; rfl)
  try simp only [Act.put, List.setIfInBounds_toArray, List.set_cons_zero, List.set_cons_succ]
  refine AnyEvents.obs_cons ?v18_4 (val_hole (by simp only [List.getD_cons_zero, List.getD_cons_succ])) (AnyEvents.ob_plain (v := ?v18_4) rfl rfl rfl same (by simp only [List.getD_cons_zero, List.getD_cons_succ]) (fun ph W' hwn hW => ?_)) ?_
  ·obtain ⟨nd, rfl⟩ := hW; have z0 := drew_cell nd hc0; have z1 := drew_cell nd hc1; first | (go_simp; done) | (go_simp; (try simp only [i64_w]); rfl) | (go_simp; simp; rfl)
  try simp only [Act.put, List.setIfInBounds_toArray, List.set_cons_zero, List.set_cons_succ]
  refine AnyEvents.obs_cons ?v18_5 (val_hole (by simp only [List.getD_cons_zero, List.getD_cons_succ])) (AnyEvents.ob_plain (v := ?v18_5) rfl rfl rfl same (by simp only [List.getD_cons_zero, List.getD_cons_succ]) (fun ph W' hwn hW => ?_)) ?_
  ·obtain ⟨nd, rfl⟩ := hW; have z0 := drew_cell nd hc0; have z1 := drew_cell nd hc1; first | (go_simp; done) | (go_simp; (try simp only [i64_w]); rfl) | (go_simp; simp; rfl)
  try simp only [Act.put, List.setIfInBounds_toArray, List.set_cons_zero, List.set_cons_succ]
  refine AnyEvents.obs_cons ?v18_6 (val_hole (by simp only [List.getD_cons_zero, List.getD_cons_succ])) (AnyEvents.ob_plain (v := ?v18_6) rfl rfl rfl same (by simp only [List.getD_cons_zero, List.getD_cons_succ]) (fun ph W' hwn hW => ?_)) ?_
  ·obtain ⟨nd, rfl⟩ := hW; have z0 := drew_cell nd hc0; have z1 := drew_cell nd hc1; first | (go_simp; done) | (go_simp; (try simp only [i64_w]); rfl) | (go_simp; simp; rfl)
  try simp only [Act.put, List.setIfInBounds_toArray, List.set_cons_zero, List.set_cons_succ]
  refine AnyEvents.obs_cons ?v18_7 (val_hole (by simp only [List.getD_cons_zero, List.getD_cons_succ])) (AnyEvents.ob_plain (v := ?v18_7) rfl rfl rfl same (by simp only [List.getD_cons_zero, List.getD_cons_succ]) (fun ph W' hwn hW => ?_)) ?_
  ·obtain ⟨nd, rfl⟩ := hW; have z0 := drew_cell nd hc0; have z1 := drew_cell nd hc1; first | (go_simp; done) | (go_simp; (try simp only [i64_w]); rfl) | (go_simp; simp; rfl)
  try simp only [Act.put, List.setIfInBounds_toArray, List.set_cons_zero, List.set_cons_succ]
  refine AnyEvents.obs_cons ?v18_8 (val_hole (by simp only [List.getD_cons_zero, List.getD_cons_succ])) (AnyEvents.ob_plain (v := ?v18_8) rfl rfl rfl same (by simp only [List.getD_cons_zero, List.getD_cons_succ]) (fun ph W' hwn hW => ?_)) ?_
  ·obtain ⟨nd, rfl⟩ := hW; have z0 := drew_cell nd hc0; have z1 := drew_cell nd hc1; first | (go_simp; done) | (go_simp; (try simp only [i64_w]); rfl) | (go_simp; simp; rfl)
  try simp only [Act.put, List.setIfInBounds_toArray, List.set_cons_zero, List.set_cons_succ]
  refine AnyEvents.obs_cons (.int .i64 (q.at_ q.sent)) (val_hole (by simp only [List.getD_cons_zero, List.getD_cons_succ])) (AnyEvents.ob_call (v := (.int .i64 (q.at_ q.sent))) rfl rfl rfl (by simp only [List.getD_cons_zero, List.getD_cons_succ]) 40 #[.int .i64 (wrap64 (q.left + q.sent))] (fun ph W' hwn hW => ?_) (fun ph W' hwn hW => ?_)) ?_
  ·first | (go_simp; done) | (go_simp; rfl)
  ·obtain ⟨nd, rfl⟩ := hW; refine (sternpostref01_Mod.calls (wrap64 (q.left + q.sent)) _ (w.drewN nd) HM.out).mono ?_; rintro e W2_ ⟨rfl, nd2, rfl⟩; exact ⟨rfl, ⟨nd + nd2, drewN_drewN _ _ _⟩, trivial⟩
  try simp only [Act.put, List.setIfInBounds_toArray, List.set_cons_zero, List.set_cons_succ]
  refine AnyEvents.obs_cons ?v18_10 (val_hole (by simp only [List.getD_cons_zero, List.getD_cons_succ])) (AnyEvents.ob_plain (v := ?v18_10) rfl rfl rfl same (by simp only [List.getD_cons_zero, List.getD_cons_succ]) (fun ph W' hwn hW => ?_)) ?_
  ·obtain ⟨nd, rfl⟩ := hW; have z0 := drew_cell nd hc0; have z1 := drew_cell nd hc1; first | (go_simp; done) | (go_simp; (try simp only [i64_w]); rfl) | (go_simp; simp; rfl)
  try simp only [Act.put, List.setIfInBounds_toArray, List.set_cons_zero, List.set_cons_succ]
  trivial
 case fin18r =>
  intro x W' hD _
  simp only [List.take_succ_cons, List.take_zero, List.drop_succ_cons, List.drop_zero]
  rw [AnyOrder.lexAt_cons ?v18_0 (val_hole (by simp only [List.getD_cons_zero, List.getD_cons_succ]))]
  try simp only [Act.put, List.setIfInBounds_toArray, List.set_cons_zero, List.set_cons_succ]
  rw [AnyOrder.lexAt_cons ?v18_1 (val_hole (by simp only [List.getD_cons_zero, List.getD_cons_succ]))]
  try simp only [Act.put, List.setIfInBounds_toArray, List.set_cons_zero, List.set_cons_succ]
  rw [AnyOrder.lexAt_cons ?v18_2 (val_hole (by simp only [List.getD_cons_zero, List.getD_cons_succ]))]
  try simp only [Act.put, List.setIfInBounds_toArray, List.set_cons_zero, List.set_cons_succ]
  rw [AnyOrder.lexAt_cons ?v18_3 (val_hole (by simp only [List.getD_cons_zero, List.getD_cons_succ]))]
  try simp only [Act.put, List.setIfInBounds_toArray, List.set_cons_zero, List.set_cons_succ]
  rw [AnyOrder.lexAt_cons ?v18_4 (val_hole (by simp only [List.getD_cons_zero, List.getD_cons_succ]))]
  try simp only [Act.put, List.setIfInBounds_toArray, List.set_cons_zero, List.set_cons_succ]
  rw [AnyOrder.lexAt_cons ?v18_5 (val_hole (by simp only [List.getD_cons_zero, List.getD_cons_succ]))]
  try simp only [Act.put, List.setIfInBounds_toArray, List.set_cons_zero, List.set_cons_succ]
  rw [AnyOrder.lexAt_cons ?v18_6 (val_hole (by simp only [List.getD_cons_zero, List.getD_cons_succ]))]
  try simp only [Act.put, List.setIfInBounds_toArray, List.set_cons_zero, List.set_cons_succ]
  rw [AnyOrder.lexAt_cons ?v18_7 (val_hole (by simp only [List.getD_cons_zero, List.getD_cons_succ]))]
  try simp only [Act.put, List.setIfInBounds_toArray, List.set_cons_zero, List.set_cons_succ]
  rw [AnyOrder.lexAt_cons ?v18_8 (val_hole (by simp only [List.getD_cons_zero, List.getD_cons_succ]))]
  try simp only [Act.put, List.setIfInBounds_toArray, List.set_cons_zero, List.set_cons_succ]
  rw [AnyOrder.lexAt_cons (.int .i64 (q.at_ q.sent)) (val_hole (by simp only [List.getD_cons_zero, List.getD_cons_succ]))]
  try simp only [Act.put, List.setIfInBounds_toArray, List.set_cons_zero, List.set_cons_succ]
  rw [AnyOrder.lexAt_cons ?v18_10 (val_hole (by simp only [List.getD_cons_zero, List.getD_cons_succ]))]
  try simp only [Act.put, List.setIfInBounds_toArray, List.set_cons_zero, List.set_cons_succ]
  rw [AnyOrder.lexAt_nil]
  clear same
  obtain ⟨nd2, rfl⟩ := hD
  go_wp2
  go_ret
  exact ⟨rfl, nd2, rfl⟩



/-! ### sternpostref15_Queue_Next: function 36 (by hand) -/
-- over sternpostref15_Queue_Next1.calls sternpostref15_Queue_Next1.callsR
def RQ.nextN (q : RQ) (window most : Int) : Nat := (min (min ((q.s.size : Int) - q.sent) most) (window - q.sent)).toNat
def RQ.next (q : RQ) (window most : Int) : RQ × ByteArray := if window < 1 ∨ most < 1 ∨ window ≤ q.sent then (q, (⟨#[]⟩ : ByteArray)) else ({ q with sent := q.sent + (q.nextN window most : Int) }, cutS q.s q.sent.toNat (q.sent.toNat + q.nextN window most))
set_option maxHeartbeats 4000000 in
set_option maxRecDepth 100000 in
theorem sternpostref15_Queue_Next.callsR (g top : Nat) (q : RQ) (window most : Int) (w0 w : World) (hI : RefAt w w0.heap.size top g q) (hB : Below w0.heap.size w0 w) (hl : sqOk q.left) (hs : 0 ≤ q.sent ∧ q.sent ≤ (q.s.size : Int) ∧ (q.s.size : Int) ≤ 65536) (hw : -9223372036854775808 ≤ window ∧ window < 9223372036854775808) :
  Calls Try.prog 36 #[.pointer (some ⟨g, 0, none⟩), .int .i64 window, .int .i64 most] w fun e w' => e = .returned (.tuple #[.int .i64 (q.at_ q.sent), .string (q.next window most).2]) ∧ RefAt w' w0.heap.size top g ((q.next window most).1) ∧ Below w0.heap.size w0 w' ∧ KeepG g w w' := by
 have HI := Aside0.mk hI
 have HB := Aside0.mk hB
 clear hI hB
 obtain ⟨n8, hn8⟩ : ∃ n_, (if most < (q.s.size : Int) - q.sent then most else (q.s.size : Int) - q.sent) = n_ := ⟨_, rfl⟩
 have hn8' : (if most < wrap64 ((q.s.size : Int) - q.sent) then most else wrap64 ((q.s.size : Int) - q.sent)) = n8 := by rw [w64p (by omega) (by omega)]; exact hn8
 have HN8 := Aside0.mk hn8'
 have HL := Aside0.mk hl
 have HS := Aside0.mk hs
 by_cases c1 : window < 1
 ·have e : q.next window most = (q, (⟨#[]⟩ : ByteArray)) := by unfold RQ.next; rw [if_pos (by omega)]
  rw [e]
  have d1 : decide (window < 1) = true := decide_eq_true c1
  clear e hn8 hn8' hl hs hw c1
  obtain ⟨Az, cz, ⟨hbg, hge⟩, ⟨hle, hcm⟩, ⟨hc0, hc1, hc2, hc3, hc4⟩, ⟨hf0, hf1, hf2, hf3, hf4⟩, HQ⟩ := HI.out.cell
  go_enter Try.func36, Try.ntmps36
  go_wp2_with fail
  refine (sternpostref15_Queue_Next1.callsR g top _ q _ HI.out HL.out (by have := HS.out; omega)).mono ?_
  rintro e W1 ⟨rfl, nd, rfl⟩
  have HIs := Aside0.mk (show RefAt (w.drewN nd) w0.heap.size top g (q) from HI.out.drawn rfl)
  have HBs := Aside0.mk (pw_below_drewN HB.out nd)
  have HKs_ := Aside0.mk (show KeepG g w (w.drewN nd) from KeepG.of_below (pw_below_drewN (Below.refl _ _) nd))
  clear hbg hge hle hcm hc0 hc1 hc2 hc3 hc4 hf0 hf1 hf2 hf3 hf4 HQ
  clear HI HB
  have HI := HIs; have HB := HBs; have HKs := HKs_
  clear HIs HBs HKs_
  generalize w.drewN nd = W1 at HI HB HKs ⊢
  obtain ⟨Az, cz, ⟨hbg, hge⟩, ⟨hle, hcm⟩, ⟨hc0, hc1, hc2, hc3, hc4⟩, ⟨hf0, hf1, hf2, hf3, hf4⟩, HQ⟩ := HI.out.cell
  go_upto_region 2 with fail
  have same : ∀ (ph : Nat) W', Drawn0 W1 W' → True := fun _ _ _ => trivial
  refine AnyEvents.region_then 13 (E := []) (C := fun (_ : Nat) W' => Drawn0 W1 W') (G := fun _ _ _ _ => True) (T := []) (R := fun _ _ _ _ => True) (vs := [?v20_0, ?v20_1, ?v20_2, ?v20_3, ?v20_4, ?v20_5, ?v20_6, ?v20_7, ?v20_8, ?v20_9, ?v20_10, ?v20_11, ?v20_12]) (by kernel_rfl) (by kernel_rfl) rfl (by kernel_rfl) ?hc20r same (fun _ _ _ _ _ _ _ _ _ => trivial) (fun _ h => nomatch h) (fun x => ?obs20r) ?fin20r
  case hc20r => exact ⟨1, rfl⟩
  case obs20r =>
   refine AnyEvents.obs_cons ?v20_0 (val_hole (by simp only [List.getD_cons_zero, List.getD_cons_succ])) (AnyEvents.ob_plain (v := ?v20_0) rfl rfl rfl same (by simp only [List.getD_cons_zero, List.getD_cons_succ]) (fun ph W' hwn hW => ?_)) ?_
   ·obtain ⟨nd, rfl⟩ := hW; have z0 := drew_cell nd hc1; have z1 := drew_cell nd hc3; first | (go_simp; done) | (go_simp; (try simp only [i64_w]); rfl) | (go_simp; simp; rfl)
   try simp only [Act.put, List.setIfInBounds_toArray, List.set_cons_zero, List.set_cons_succ]
   refine AnyEvents.obs_cons ?v20_1 (val_hole (by simp only [List.getD_cons_zero, List.getD_cons_succ])) (AnyEvents.ob_plain (v := ?v20_1) rfl rfl rfl same (by simp only [List.getD_cons_zero, List.getD_cons_succ]) (fun ph W' hwn hW => ?_)) ?_
   ·obtain ⟨nd, rfl⟩ := hW; have z0 := drew_cell nd hc1; have z1 := drew_cell nd hc3; first | (go_simp; done) | (go_simp; (try simp only [i64_w]); rfl) | (go_simp; simp; rfl)
   try simp only [Act.put, List.setIfInBounds_toArray, List.set_cons_zero, List.set_cons_succ]
   refine AnyEvents.obs_cons ?v20_2 (val_hole (by simp only [List.getD_cons_zero, List.getD_cons_succ])) (AnyEvents.ob_plain (v := ?v20_2) rfl rfl rfl same (by simp only [List.getD_cons_zero, List.getD_cons_succ]) (fun ph W' hwn hW => ?_)) ?_
   ·obtain ⟨nd, rfl⟩ := hW; have z0 := drew_cell nd hc1; have z1 := drew_cell nd hc3; first | (go_simp; done) | (go_simp; (try simp only [i64_w]); rfl) | (go_simp; simp; rfl)
   try simp only [Act.put, List.setIfInBounds_toArray, List.set_cons_zero, List.set_cons_succ]
   refine AnyEvents.obs_cons ?v20_3 (val_hole (by simp only [List.getD_cons_zero, List.getD_cons_succ])) (AnyEvents.ob_plain (v := ?v20_3) rfl rfl rfl same (by simp only [List.getD_cons_zero, List.getD_cons_succ]) (fun ph W' hwn hW => ?_)) ?_
   ·obtain ⟨nd, rfl⟩ := hW; have z0 := drew_cell nd hc1; have z1 := drew_cell nd hc3; first | (go_simp; done) | (go_simp; (try simp only [i64_w]); rfl) | (go_simp; simp; rfl)
   try simp only [Act.put, List.setIfInBounds_toArray, List.set_cons_zero, List.set_cons_succ]
   refine AnyEvents.obs_cons ?v20_4 (val_hole (by simp only [List.getD_cons_zero, List.getD_cons_succ])) (AnyEvents.ob_plain (v := ?v20_4) rfl rfl rfl same (by simp only [List.getD_cons_zero, List.getD_cons_succ]) (fun ph W' hwn hW => ?_)) ?_
   ·obtain ⟨nd, rfl⟩ := hW; have z0 := drew_cell nd hc1; have z1 := drew_cell nd hc3; first | (go_simp; done) | (go_simp; (try simp only [i64_w]); rfl) | (go_simp; simp; rfl)
   try simp only [Act.put, List.setIfInBounds_toArray, List.set_cons_zero, List.set_cons_succ]
   refine AnyEvents.obs_cons ?v20_5 (val_hole (by simp only [List.getD_cons_zero, List.getD_cons_succ])) (AnyEvents.ob_plain (v := ?v20_5) rfl rfl rfl same (by simp only [List.getD_cons_zero, List.getD_cons_succ]) (fun ph W' hwn hW => ?_)) ?_
   ·obtain ⟨nd, rfl⟩ := hW; have z0 := drew_cell nd hc1; have z1 := drew_cell nd hc3; first | (go_simp; done) | (go_simp; (try simp only [i64_w]); rfl) | (go_simp; simp; rfl)
   try simp only [Act.put, List.setIfInBounds_toArray, List.set_cons_zero, List.set_cons_succ]
   refine AnyEvents.obs_cons ?v20_6 (val_hole (by simp only [List.getD_cons_zero, List.getD_cons_succ])) (AnyEvents.ob_plain (v := ?v20_6) rfl rfl rfl same (by simp only [List.getD_cons_zero, List.getD_cons_succ]) (fun ph W' hwn hW => ?_)) ?_
   ·obtain ⟨nd, rfl⟩ := hW; have z0 := drew_cell nd hc1; have z1 := drew_cell nd hc3; first | (go_simp; done) | (go_simp; (try simp only [i64_w]); rfl) | (go_simp; simp; rfl)
   try simp only [Act.put, List.setIfInBounds_toArray, List.set_cons_zero, List.set_cons_succ]
   refine AnyEvents.obs_cons ?v20_7 (val_hole (by simp only [List.getD_cons_zero, List.getD_cons_succ])) (AnyEvents.ob_plain (v := ?v20_7) rfl rfl rfl same (by simp only [List.getD_cons_zero, List.getD_cons_succ]) (fun ph W' hwn hW => ?_)) ?_
   ·obtain ⟨nd, rfl⟩ := hW; have z0 := drew_cell nd hc1; have z1 := drew_cell nd hc3; first | (go_simp; done) | (go_simp; (try simp only [i64_w]); rfl) | (go_simp; simp; rfl)
   try simp only [Act.put, List.setIfInBounds_toArray, List.set_cons_zero, List.set_cons_succ]
   refine AnyEvents.obs_cons ?v20_8 (val_hole (by simp only [List.getD_cons_zero, List.getD_cons_succ])) (AnyEvents.ob_plain (v := ?v20_8) rfl rfl rfl same (by simp only [List.getD_cons_zero, List.getD_cons_succ]) (fun ph W' hwn hW => ?_)) ?_
   ·obtain ⟨nd, rfl⟩ := hW; have z0 := drew_cell nd hc1; have z1 := drew_cell nd hc3; first | (go_simp; done) | (go_simp; (try simp only [i64_w]); rfl) | (go_simp; simp; rfl)
   try simp only [Act.put, List.setIfInBounds_toArray, List.set_cons_zero, List.set_cons_succ]
   refine AnyEvents.obs_cons ?v20_9 (val_hole (by simp only [List.getD_cons_zero, List.getD_cons_succ])) (AnyEvents.ob_plain (v := ?v20_9) rfl rfl rfl same (by simp only [List.getD_cons_zero, List.getD_cons_succ]) (fun ph W' hwn hW => ?_)) ?_
   ·obtain ⟨nd, rfl⟩ := hW; have z0 := drew_cell nd hc1; have z1 := drew_cell nd hc3; first | (go_simp; done) | (go_simp; (try simp only [i64_w]); rfl) | (go_simp; simp; rfl)
   try simp only [Act.put, List.setIfInBounds_toArray, List.set_cons_zero, List.set_cons_succ]
   refine AnyEvents.obs_cons ?v20_10 (val_hole (by simp only [List.getD_cons_zero, List.getD_cons_succ])) (AnyEvents.ob_plain (v := ?v20_10) rfl rfl rfl same (by simp only [List.getD_cons_zero, List.getD_cons_succ]) (fun ph W' hwn hW => ?_)) ?_
   ·obtain ⟨nd, rfl⟩ := hW; have z0 := drew_cell nd hc1; have z1 := drew_cell nd hc3; first | (go_simp; done) | (go_simp; (try simp only [i64_w]); rfl) | (go_simp; simp; rfl)
   try simp only [Act.put, List.setIfInBounds_toArray, List.set_cons_zero, List.set_cons_succ]
   refine AnyEvents.obs_cons ?v20_11 (val_hole (by simp only [List.getD_cons_zero, List.getD_cons_succ])) (AnyEvents.ob_plain (v := ?v20_11) rfl rfl rfl same (by simp only [List.getD_cons_zero, List.getD_cons_succ]) (fun ph W' hwn hW => ?_)) ?_
   ·obtain ⟨nd, rfl⟩ := hW; have z0 := drew_cell nd hc1; have z1 := drew_cell nd hc3; first | (go_simp; done) | (go_simp; (try simp only [i64_w]); rfl) | (go_simp; simp; rfl)
   try simp only [Act.put, List.setIfInBounds_toArray, List.set_cons_zero, List.set_cons_succ]
   refine AnyEvents.obs_cons ?v20_12 (val_hole (by simp only [List.getD_cons_zero, List.getD_cons_succ])) (AnyEvents.ob_plain (v := ?v20_12) rfl rfl rfl same (by simp only [List.getD_cons_zero, List.getD_cons_succ]) (fun ph W' hwn hW => ?_)) ?_
   ·obtain ⟨nd, rfl⟩ := hW; have z0 := drew_cell nd hc1; have z1 := drew_cell nd hc3; first | (go_simp; done) | (go_simp; (try simp only [i64_w]); rfl) | (go_simp; simp; rfl)
   try simp only [Act.put, List.setIfInBounds_toArray, List.set_cons_zero, List.set_cons_succ]
   trivial
  case fin20r =>
   intro x W' hD _
   simp only [List.take_succ_cons, List.take_zero, List.drop_succ_cons, List.drop_zero]
   rw [AnyOrder.lexAt_cons ?v20_0 (val_hole (by simp only [List.getD_cons_zero, List.getD_cons_succ]))]
   try simp only [Act.put, List.setIfInBounds_toArray, List.set_cons_zero, List.set_cons_succ]
   rw [AnyOrder.lexAt_cons ?v20_1 (val_hole (by simp only [List.getD_cons_zero, List.getD_cons_succ]))]
   try simp only [Act.put, List.setIfInBounds_toArray, List.set_cons_zero, List.set_cons_succ]
   rw [AnyOrder.lexAt_cons ?v20_2 (val_hole (by simp only [List.getD_cons_zero, List.getD_cons_succ]))]
   try simp only [Act.put, List.setIfInBounds_toArray, List.set_cons_zero, List.set_cons_succ]
   rw [AnyOrder.lexAt_cons ?v20_3 (val_hole (by simp only [List.getD_cons_zero, List.getD_cons_succ]))]
   try simp only [Act.put, List.setIfInBounds_toArray, List.set_cons_zero, List.set_cons_succ]
   rw [AnyOrder.lexAt_cons ?v20_4 (val_hole (by simp only [List.getD_cons_zero, List.getD_cons_succ]))]
   try simp only [Act.put, List.setIfInBounds_toArray, List.set_cons_zero, List.set_cons_succ]
   rw [AnyOrder.lexAt_cons ?v20_5 (val_hole (by simp only [List.getD_cons_zero, List.getD_cons_succ]))]
   try simp only [Act.put, List.setIfInBounds_toArray, List.set_cons_zero, List.set_cons_succ]
   rw [AnyOrder.lexAt_cons ?v20_6 (val_hole (by simp only [List.getD_cons_zero, List.getD_cons_succ]))]
   try simp only [Act.put, List.setIfInBounds_toArray, List.set_cons_zero, List.set_cons_succ]
   rw [AnyOrder.lexAt_cons ?v20_7 (val_hole (by simp only [List.getD_cons_zero, List.getD_cons_succ]))]
   try simp only [Act.put, List.setIfInBounds_toArray, List.set_cons_zero, List.set_cons_succ]
   rw [AnyOrder.lexAt_cons ?v20_8 (val_hole (by simp only [List.getD_cons_zero, List.getD_cons_succ]))]
   try simp only [Act.put, List.setIfInBounds_toArray, List.set_cons_zero, List.set_cons_succ]
   rw [AnyOrder.lexAt_cons ?v20_9 (val_hole (by simp only [List.getD_cons_zero, List.getD_cons_succ]))]
   try simp only [Act.put, List.setIfInBounds_toArray, List.set_cons_zero, List.set_cons_succ]
   rw [AnyOrder.lexAt_cons ?v20_10 (val_hole (by simp only [List.getD_cons_zero, List.getD_cons_succ]))]
   try simp only [Act.put, List.setIfInBounds_toArray, List.set_cons_zero, List.set_cons_succ]
   rw [AnyOrder.lexAt_cons ?v20_11 (val_hole (by simp only [List.getD_cons_zero, List.getD_cons_succ]))]
   try simp only [Act.put, List.setIfInBounds_toArray, List.set_cons_zero, List.set_cons_succ]
   rw [AnyOrder.lexAt_cons ?v20_12 (val_hole (by simp only [List.getD_cons_zero, List.getD_cons_succ]))]
   try simp only [Act.put, List.setIfInBounds_toArray, List.set_cons_zero, List.set_cons_succ]
   rw [AnyOrder.lexAt_nil]
   clear same
   obtain ⟨nd, rfl⟩ := hD
   rw [HN8.out]
   have HIs := Aside0.mk (show RefAt (W1.drewN nd) w0.heap.size top g (q) from HI.out.drawn rfl)
   have HBs := Aside0.mk (pw_below_drewN HB.out nd)
   have HKs_ := Aside0.mk (HKs.out.trans (show KeepG g W1 (W1.drewN nd) from KeepG.of_below (pw_below_drewN (Below.refl _ _) nd)))
   clear hbg hge hle hcm hc0 hc1 hc2 hc3 hc4 hf0 hf1 hf2 hf3 hf4 HQ
   clear HI HB HKs
   have HI := HIs; have HB := HBs; have HKs := HKs_
   clear HIs HBs HKs_
   generalize W1.drewN nd = W2 at HI HB HKs ⊢
   obtain ⟨Az, cz, ⟨hbg, hge⟩, ⟨hle, hcm⟩, ⟨hc0, hc1, hc2, hc3, hc4⟩, ⟨hf0, hf1, hf2, hf3, hf4⟩, HQ⟩ := HI.out.cell
   go_wp2
   go_ret2
   exact ⟨rfl, HI.out, HB.out, HKs.out⟩
 by_cases c2 : most < 1
 ·have e : q.next window most = (q, (⟨#[]⟩ : ByteArray)) := by unfold RQ.next; rw [if_pos (by omega)]
  rw [e]
  have d1 : decide (window < 1) = false := decide_eq_false c1
  have d2 : decide (most < 1) = true := decide_eq_true c2
  clear e hn8 hn8' hl hs hw c1 c2
  obtain ⟨Az, cz, ⟨hbg, hge⟩, ⟨hle, hcm⟩, ⟨hc0, hc1, hc2, hc3, hc4⟩, ⟨hf0, hf1, hf2, hf3, hf4⟩, HQ⟩ := HI.out.cell
  go_enter Try.func36, Try.ntmps36
  go_wp2_with fail
  refine (sternpostref15_Queue_Next1.callsR g top _ q _ HI.out HL.out (by have := HS.out; omega)).mono ?_
  rintro e W1 ⟨rfl, nd, rfl⟩
  have HIs := Aside0.mk (show RefAt (w.drewN nd) w0.heap.size top g (q) from HI.out.drawn rfl)
  have HBs := Aside0.mk (pw_below_drewN HB.out nd)
  have HKs_ := Aside0.mk (show KeepG g w (w.drewN nd) from KeepG.of_below (pw_below_drewN (Below.refl _ _) nd))
  clear hbg hge hle hcm hc0 hc1 hc2 hc3 hc4 hf0 hf1 hf2 hf3 hf4 HQ
  clear HI HB
  have HI := HIs; have HB := HBs; have HKs := HKs_
  clear HIs HBs HKs_
  generalize w.drewN nd = W1 at HI HB HKs ⊢
  obtain ⟨Az, cz, ⟨hbg, hge⟩, ⟨hle, hcm⟩, ⟨hc0, hc1, hc2, hc3, hc4⟩, ⟨hf0, hf1, hf2, hf3, hf4⟩, HQ⟩ := HI.out.cell
  go_upto_region 2 with fail
  have same : ∀ (ph : Nat) W', Drawn0 W1 W' → True := fun _ _ _ => trivial
  refine AnyEvents.region_then 13 (E := []) (C := fun (_ : Nat) W' => Drawn0 W1 W') (G := fun _ _ _ _ => True) (T := []) (R := fun _ _ _ _ => True) (vs := [?v21_0, ?v21_1, ?v21_2, ?v21_3, ?v21_4, ?v21_5, ?v21_6, ?v21_7, ?v21_8, ?v21_9, ?v21_10, ?v21_11, ?v21_12]) (by kernel_rfl) (by kernel_rfl) rfl (by kernel_rfl) ?hc21r same (fun _ _ _ _ _ _ _ _ _ => trivial) (fun _ h => nomatch h) (fun x => ?obs21r) ?fin21r
  case hc21r => exact ⟨1, rfl⟩
  case obs21r =>
   refine AnyEvents.obs_cons ?v21_0 (val_hole (by simp only [List.getD_cons_zero, List.getD_cons_succ])) (AnyEvents.ob_plain (v := ?v21_0) rfl rfl rfl same (by simp only [List.getD_cons_zero, List.getD_cons_succ]) (fun ph W' hwn hW => ?_)) ?_
   ·obtain ⟨nd, rfl⟩ := hW; have z0 := drew_cell nd hc1; have z1 := drew_cell nd hc3; first | (go_simp; done) | (go_simp; (try simp only [i64_w]); rfl) | (go_simp; simp; rfl)
   try simp only [Act.put, List.setIfInBounds_toArray, List.set_cons_zero, List.set_cons_succ]
   refine AnyEvents.obs_cons ?v21_1 (val_hole (by simp only [List.getD_cons_zero, List.getD_cons_succ])) (AnyEvents.ob_plain (v := ?v21_1) rfl rfl rfl same (by simp only [List.getD_cons_zero, List.getD_cons_succ]) (fun ph W' hwn hW => ?_)) ?_
   ·obtain ⟨nd, rfl⟩ := hW; have z0 := drew_cell nd hc1; have z1 := drew_cell nd hc3; first | (go_simp; done) | (go_simp; (try simp only [i64_w]); rfl) | (go_simp; simp; rfl)
   try simp only [Act.put, List.setIfInBounds_toArray, List.set_cons_zero, List.set_cons_succ]
   refine AnyEvents.obs_cons ?v21_2 (val_hole (by simp only [List.getD_cons_zero, List.getD_cons_succ])) (AnyEvents.ob_plain (v := ?v21_2) rfl rfl rfl same (by simp only [List.getD_cons_zero, List.getD_cons_succ]) (fun ph W' hwn hW => ?_)) ?_
   ·obtain ⟨nd, rfl⟩ := hW; have z0 := drew_cell nd hc1; have z1 := drew_cell nd hc3; first | (go_simp; done) | (go_simp; (try simp only [i64_w]); rfl) | (go_simp; simp; rfl)
   try simp only [Act.put, List.setIfInBounds_toArray, List.set_cons_zero, List.set_cons_succ]
   refine AnyEvents.obs_cons ?v21_3 (val_hole (by simp only [List.getD_cons_zero, List.getD_cons_succ])) (AnyEvents.ob_plain (v := ?v21_3) rfl rfl rfl same (by simp only [List.getD_cons_zero, List.getD_cons_succ]) (fun ph W' hwn hW => ?_)) ?_
   ·obtain ⟨nd, rfl⟩ := hW; have z0 := drew_cell nd hc1; have z1 := drew_cell nd hc3; first | (go_simp; done) | (go_simp; (try simp only [i64_w]); rfl) | (go_simp; simp; rfl)
   try simp only [Act.put, List.setIfInBounds_toArray, List.set_cons_zero, List.set_cons_succ]
   refine AnyEvents.obs_cons ?v21_4 (val_hole (by simp only [List.getD_cons_zero, List.getD_cons_succ])) (AnyEvents.ob_plain (v := ?v21_4) rfl rfl rfl same (by simp only [List.getD_cons_zero, List.getD_cons_succ]) (fun ph W' hwn hW => ?_)) ?_
   ·obtain ⟨nd, rfl⟩ := hW; have z0 := drew_cell nd hc1; have z1 := drew_cell nd hc3; first | (go_simp; done) | (go_simp; (try simp only [i64_w]); rfl) | (go_simp; simp; rfl)
   try simp only [Act.put, List.setIfInBounds_toArray, List.set_cons_zero, List.set_cons_succ]
   refine AnyEvents.obs_cons ?v21_5 (val_hole (by simp only [List.getD_cons_zero, List.getD_cons_succ])) (AnyEvents.ob_plain (v := ?v21_5) rfl rfl rfl same (by simp only [List.getD_cons_zero, List.getD_cons_succ]) (fun ph W' hwn hW => ?_)) ?_
   ·obtain ⟨nd, rfl⟩ := hW; have z0 := drew_cell nd hc1; have z1 := drew_cell nd hc3; first | (go_simp; done) | (go_simp; (try simp only [i64_w]); rfl) | (go_simp; simp; rfl)
   try simp only [Act.put, List.setIfInBounds_toArray, List.set_cons_zero, List.set_cons_succ]
   refine AnyEvents.obs_cons ?v21_6 (val_hole (by simp only [List.getD_cons_zero, List.getD_cons_succ])) (AnyEvents.ob_plain (v := ?v21_6) rfl rfl rfl same (by simp only [List.getD_cons_zero, List.getD_cons_succ]) (fun ph W' hwn hW => ?_)) ?_
   ·obtain ⟨nd, rfl⟩ := hW; have z0 := drew_cell nd hc1; have z1 := drew_cell nd hc3; first | (go_simp; done) | (go_simp; (try simp only [i64_w]); rfl) | (go_simp; simp; rfl)
   try simp only [Act.put, List.setIfInBounds_toArray, List.set_cons_zero, List.set_cons_succ]
   refine AnyEvents.obs_cons ?v21_7 (val_hole (by simp only [List.getD_cons_zero, List.getD_cons_succ])) (AnyEvents.ob_plain (v := ?v21_7) rfl rfl rfl same (by simp only [List.getD_cons_zero, List.getD_cons_succ]) (fun ph W' hwn hW => ?_)) ?_
   ·obtain ⟨nd, rfl⟩ := hW; have z0 := drew_cell nd hc1; have z1 := drew_cell nd hc3; first | (go_simp; done) | (go_simp; (try simp only [i64_w]); rfl) | (go_simp; simp; rfl)
   try simp only [Act.put, List.setIfInBounds_toArray, List.set_cons_zero, List.set_cons_succ]
   refine AnyEvents.obs_cons ?v21_8 (val_hole (by simp only [List.getD_cons_zero, List.getD_cons_succ])) (AnyEvents.ob_plain (v := ?v21_8) rfl rfl rfl same (by simp only [List.getD_cons_zero, List.getD_cons_succ]) (fun ph W' hwn hW => ?_)) ?_
   ·obtain ⟨nd, rfl⟩ := hW; have z0 := drew_cell nd hc1; have z1 := drew_cell nd hc3; first | (go_simp; done) | (go_simp; (try simp only [i64_w]); rfl) | (go_simp; simp; rfl)
   try simp only [Act.put, List.setIfInBounds_toArray, List.set_cons_zero, List.set_cons_succ]
   refine AnyEvents.obs_cons ?v21_9 (val_hole (by simp only [List.getD_cons_zero, List.getD_cons_succ])) (AnyEvents.ob_plain (v := ?v21_9) rfl rfl rfl same (by simp only [List.getD_cons_zero, List.getD_cons_succ]) (fun ph W' hwn hW => ?_)) ?_
   ·obtain ⟨nd, rfl⟩ := hW; have z0 := drew_cell nd hc1; have z1 := drew_cell nd hc3; first | (go_simp; done) | (go_simp; (try simp only [i64_w]); rfl) | (go_simp; simp; rfl)
   try simp only [Act.put, List.setIfInBounds_toArray, List.set_cons_zero, List.set_cons_succ]
   refine AnyEvents.obs_cons ?v21_10 (val_hole (by simp only [List.getD_cons_zero, List.getD_cons_succ])) (AnyEvents.ob_plain (v := ?v21_10) rfl rfl rfl same (by simp only [List.getD_cons_zero, List.getD_cons_succ]) (fun ph W' hwn hW => ?_)) ?_
   ·obtain ⟨nd, rfl⟩ := hW; have z0 := drew_cell nd hc1; have z1 := drew_cell nd hc3; first | (go_simp; done) | (go_simp; (try simp only [i64_w]); rfl) | (go_simp; simp; rfl)
   try simp only [Act.put, List.setIfInBounds_toArray, List.set_cons_zero, List.set_cons_succ]
   refine AnyEvents.obs_cons ?v21_11 (val_hole (by simp only [List.getD_cons_zero, List.getD_cons_succ])) (AnyEvents.ob_plain (v := ?v21_11) rfl rfl rfl same (by simp only [List.getD_cons_zero, List.getD_cons_succ]) (fun ph W' hwn hW => ?_)) ?_
   ·obtain ⟨nd, rfl⟩ := hW; have z0 := drew_cell nd hc1; have z1 := drew_cell nd hc3; first | (go_simp; done) | (go_simp; (try simp only [i64_w]); rfl) | (go_simp; simp; rfl)
   try simp only [Act.put, List.setIfInBounds_toArray, List.set_cons_zero, List.set_cons_succ]
   refine AnyEvents.obs_cons ?v21_12 (val_hole (by simp only [List.getD_cons_zero, List.getD_cons_succ])) (AnyEvents.ob_plain (v := ?v21_12) rfl rfl rfl same (by simp only [List.getD_cons_zero, List.getD_cons_succ]) (fun ph W' hwn hW => ?_)) ?_
   ·obtain ⟨nd, rfl⟩ := hW; have z0 := drew_cell nd hc1; have z1 := drew_cell nd hc3; first | (go_simp; done) | (go_simp; (try simp only [i64_w]); rfl) | (go_simp; simp; rfl)
   try simp only [Act.put, List.setIfInBounds_toArray, List.set_cons_zero, List.set_cons_succ]
   trivial
  case fin21r =>
   intro x W' hD _
   simp only [List.take_succ_cons, List.take_zero, List.drop_succ_cons, List.drop_zero]
   rw [AnyOrder.lexAt_cons ?v21_0 (val_hole (by simp only [List.getD_cons_zero, List.getD_cons_succ]))]
   try simp only [Act.put, List.setIfInBounds_toArray, List.set_cons_zero, List.set_cons_succ]
   rw [AnyOrder.lexAt_cons ?v21_1 (val_hole (by simp only [List.getD_cons_zero, List.getD_cons_succ]))]
   try simp only [Act.put, List.setIfInBounds_toArray, List.set_cons_zero, List.set_cons_succ]
   rw [AnyOrder.lexAt_cons ?v21_2 (val_hole (by simp only [List.getD_cons_zero, List.getD_cons_succ]))]
   try simp only [Act.put, List.setIfInBounds_toArray, List.set_cons_zero, List.set_cons_succ]
   rw [AnyOrder.lexAt_cons ?v21_3 (val_hole (by simp only [List.getD_cons_zero, List.getD_cons_succ]))]
   try simp only [Act.put, List.setIfInBounds_toArray, List.set_cons_zero, List.set_cons_succ]
   rw [AnyOrder.lexAt_cons ?v21_4 (val_hole (by simp only [List.getD_cons_zero, List.getD_cons_succ]))]
   try simp only [Act.put, List.setIfInBounds_toArray, List.set_cons_zero, List.set_cons_succ]
   rw [AnyOrder.lexAt_cons ?v21_5 (val_hole (by simp only [List.getD_cons_zero, List.getD_cons_succ]))]
   try simp only [Act.put, List.setIfInBounds_toArray, List.set_cons_zero, List.set_cons_succ]
   rw [AnyOrder.lexAt_cons ?v21_6 (val_hole (by simp only [List.getD_cons_zero, List.getD_cons_succ]))]
   try simp only [Act.put, List.setIfInBounds_toArray, List.set_cons_zero, List.set_cons_succ]
   rw [AnyOrder.lexAt_cons ?v21_7 (val_hole (by simp only [List.getD_cons_zero, List.getD_cons_succ]))]
   try simp only [Act.put, List.setIfInBounds_toArray, List.set_cons_zero, List.set_cons_succ]
   rw [AnyOrder.lexAt_cons ?v21_8 (val_hole (by simp only [List.getD_cons_zero, List.getD_cons_succ]))]
   try simp only [Act.put, List.setIfInBounds_toArray, List.set_cons_zero, List.set_cons_succ]
   rw [AnyOrder.lexAt_cons ?v21_9 (val_hole (by simp only [List.getD_cons_zero, List.getD_cons_succ]))]
   try simp only [Act.put, List.setIfInBounds_toArray, List.set_cons_zero, List.set_cons_succ]
   rw [AnyOrder.lexAt_cons ?v21_10 (val_hole (by simp only [List.getD_cons_zero, List.getD_cons_succ]))]
   try simp only [Act.put, List.setIfInBounds_toArray, List.set_cons_zero, List.set_cons_succ]
   rw [AnyOrder.lexAt_cons ?v21_11 (val_hole (by simp only [List.getD_cons_zero, List.getD_cons_succ]))]
   try simp only [Act.put, List.setIfInBounds_toArray, List.set_cons_zero, List.set_cons_succ]
   rw [AnyOrder.lexAt_cons ?v21_12 (val_hole (by simp only [List.getD_cons_zero, List.getD_cons_succ]))]
   try simp only [Act.put, List.setIfInBounds_toArray, List.set_cons_zero, List.set_cons_succ]
   rw [AnyOrder.lexAt_nil]
   clear same
   obtain ⟨nd, rfl⟩ := hD
   rw [HN8.out]
   have HIs := Aside0.mk (show RefAt (W1.drewN nd) w0.heap.size top g (q) from HI.out.drawn rfl)
   have HBs := Aside0.mk (pw_below_drewN HB.out nd)
   have HKs_ := Aside0.mk (HKs.out.trans (show KeepG g W1 (W1.drewN nd) from KeepG.of_below (pw_below_drewN (Below.refl _ _) nd)))
   clear hbg hge hle hcm hc0 hc1 hc2 hc3 hc4 hf0 hf1 hf2 hf3 hf4 HQ
   clear HI HB HKs
   have HI := HIs; have HB := HBs; have HKs := HKs_
   clear HIs HBs HKs_
   generalize W1.drewN nd = W2 at HI HB HKs ⊢
   obtain ⟨Az, cz, ⟨hbg, hge⟩, ⟨hle, hcm⟩, ⟨hc0, hc1, hc2, hc3, hc4⟩, ⟨hf0, hf1, hf2, hf3, hf4⟩, HQ⟩ := HI.out.cell
   go_wp2
   go_ret2
   exact ⟨rfl, HI.out, HB.out, HKs.out⟩
 by_cases c3 : window ≤ q.sent
 ·have e : q.next window most = (q, (⟨#[]⟩ : ByteArray)) := by unfold RQ.next; rw [if_pos (by omega)]
  rw [e]
  have d1 : decide (window < 1) = false := decide_eq_false c1
  have d2 : decide (most < 1) = false := decide_eq_false c2
  have d3 : decide (window ≤ q.sent) = true := decide_eq_true c3
  clear e hn8 hn8' hl hs hw c1 c2 c3
  obtain ⟨Az, cz, ⟨hbg, hge⟩, ⟨hle, hcm⟩, ⟨hc0, hc1, hc2, hc3, hc4⟩, ⟨hf0, hf1, hf2, hf3, hf4⟩, HQ⟩ := HI.out.cell
  go_enter Try.func36, Try.ntmps36
  go_wp2_with fail
  refine (sternpostref15_Queue_Next1.callsR g top _ q _ HI.out HL.out (by have := HS.out; omega)).mono ?_
  rintro e W1 ⟨rfl, nd, rfl⟩
  have HIs := Aside0.mk (show RefAt (w.drewN nd) w0.heap.size top g (q) from HI.out.drawn rfl)
  have HBs := Aside0.mk (pw_below_drewN HB.out nd)
  have HKs_ := Aside0.mk (show KeepG g w (w.drewN nd) from KeepG.of_below (pw_below_drewN (Below.refl _ _) nd))
  clear hbg hge hle hcm hc0 hc1 hc2 hc3 hc4 hf0 hf1 hf2 hf3 hf4 HQ
  clear HI HB
  have HI := HIs; have HB := HBs; have HKs := HKs_
  clear HIs HBs HKs_
  generalize w.drewN nd = W1 at HI HB HKs ⊢
  obtain ⟨Az, cz, ⟨hbg, hge⟩, ⟨hle, hcm⟩, ⟨hc0, hc1, hc2, hc3, hc4⟩, ⟨hf0, hf1, hf2, hf3, hf4⟩, HQ⟩ := HI.out.cell
  go_upto_region 2 with fail
  have same : ∀ (ph : Nat) W', Drawn0 W1 W' → True := fun _ _ _ => trivial
  refine AnyEvents.region_then 13 (E := []) (C := fun (_ : Nat) W' => Drawn0 W1 W') (G := fun _ _ _ _ => True) (T := []) (R := fun _ _ _ _ => True) (vs := [?v22_0, ?v22_1, ?v22_2, ?v22_3, ?v22_4, ?v22_5, ?v22_6, ?v22_7, ?v22_8, ?v22_9, ?v22_10, ?v22_11, ?v22_12]) (by kernel_rfl) (by kernel_rfl) rfl (by kernel_rfl) ?hc22r same (fun _ _ _ _ _ _ _ _ _ => trivial) (fun _ h => nomatch h) (fun x => ?obs22r) ?fin22r
  case hc22r => exact ⟨1, rfl⟩
  case obs22r =>
   refine AnyEvents.obs_cons ?v22_0 (val_hole (by simp only [List.getD_cons_zero, List.getD_cons_succ])) (AnyEvents.ob_plain (v := ?v22_0) rfl rfl rfl same (by simp only [List.getD_cons_zero, List.getD_cons_succ]) (fun ph W' hwn hW => ?_)) ?_
   ·obtain ⟨nd, rfl⟩ := hW; have z0 := drew_cell nd hc1; have z1 := drew_cell nd hc3; first | (go_simp; done) | (go_simp; (try simp only [i64_w]); rfl) | (go_simp; simp; rfl)
   try simp only [Act.put, List.setIfInBounds_toArray, List.set_cons_zero, List.set_cons_succ]
   refine AnyEvents.obs_cons ?v22_1 (val_hole (by simp only [List.getD_cons_zero, List.getD_cons_succ])) (AnyEvents.ob_plain (v := ?v22_1) rfl rfl rfl same (by simp only [List.getD_cons_zero, List.getD_cons_succ]) (fun ph W' hwn hW => ?_)) ?_
   ·obtain ⟨nd, rfl⟩ := hW; have z0 := drew_cell nd hc1; have z1 := drew_cell nd hc3; first | (go_simp; done) | (go_simp; (try simp only [i64_w]); rfl) | (go_simp; simp; rfl)
   try simp only [Act.put, List.setIfInBounds_toArray, List.set_cons_zero, List.set_cons_succ]
   refine AnyEvents.obs_cons ?v22_2 (val_hole (by simp only [List.getD_cons_zero, List.getD_cons_succ])) (AnyEvents.ob_plain (v := ?v22_2) rfl rfl rfl same (by simp only [List.getD_cons_zero, List.getD_cons_succ]) (fun ph W' hwn hW => ?_)) ?_
   ·obtain ⟨nd, rfl⟩ := hW; have z0 := drew_cell nd hc1; have z1 := drew_cell nd hc3; first | (go_simp; done) | (go_simp; (try simp only [i64_w]); rfl) | (go_simp; simp; rfl)
   try simp only [Act.put, List.setIfInBounds_toArray, List.set_cons_zero, List.set_cons_succ]
   refine AnyEvents.obs_cons ?v22_3 (val_hole (by simp only [List.getD_cons_zero, List.getD_cons_succ])) (AnyEvents.ob_plain (v := ?v22_3) rfl rfl rfl same (by simp only [List.getD_cons_zero, List.getD_cons_succ]) (fun ph W' hwn hW => ?_)) ?_
   ·obtain ⟨nd, rfl⟩ := hW; have z0 := drew_cell nd hc1; have z1 := drew_cell nd hc3; first | (go_simp; done) | (go_simp; (try simp only [i64_w]); rfl) | (go_simp; simp; rfl)
   try simp only [Act.put, List.setIfInBounds_toArray, List.set_cons_zero, List.set_cons_succ]
   refine AnyEvents.obs_cons ?v22_4 (val_hole (by simp only [List.getD_cons_zero, List.getD_cons_succ])) (AnyEvents.ob_plain (v := ?v22_4) rfl rfl rfl same (by simp only [List.getD_cons_zero, List.getD_cons_succ]) (fun ph W' hwn hW => ?_)) ?_
   ·obtain ⟨nd, rfl⟩ := hW; have z0 := drew_cell nd hc1; have z1 := drew_cell nd hc3; first | (go_simp; done) | (go_simp; (try simp only [i64_w]); rfl) | (go_simp; simp; rfl)
   try simp only [Act.put, List.setIfInBounds_toArray, List.set_cons_zero, List.set_cons_succ]
   refine AnyEvents.obs_cons ?v22_5 (val_hole (by simp only [List.getD_cons_zero, List.getD_cons_succ])) (AnyEvents.ob_plain (v := ?v22_5) rfl rfl rfl same (by simp only [List.getD_cons_zero, List.getD_cons_succ]) (fun ph W' hwn hW => ?_)) ?_
   ·obtain ⟨nd, rfl⟩ := hW; have z0 := drew_cell nd hc1; have z1 := drew_cell nd hc3; first | (go_simp; done) | (go_simp; (try simp only [i64_w]); rfl) | (go_simp; simp; rfl)
   try simp only [Act.put, List.setIfInBounds_toArray, List.set_cons_zero, List.set_cons_succ]
   refine AnyEvents.obs_cons ?v22_6 (val_hole (by simp only [List.getD_cons_zero, List.getD_cons_succ])) (AnyEvents.ob_plain (v := ?v22_6) rfl rfl rfl same (by simp only [List.getD_cons_zero, List.getD_cons_succ]) (fun ph W' hwn hW => ?_)) ?_
   ·obtain ⟨nd, rfl⟩ := hW; have z0 := drew_cell nd hc1; have z1 := drew_cell nd hc3; first | (go_simp; done) | (go_simp; (try simp only [i64_w]); rfl) | (go_simp; simp; rfl)
   try simp only [Act.put, List.setIfInBounds_toArray, List.set_cons_zero, List.set_cons_succ]
   refine AnyEvents.obs_cons ?v22_7 (val_hole (by simp only [List.getD_cons_zero, List.getD_cons_succ])) (AnyEvents.ob_plain (v := ?v22_7) rfl rfl rfl same (by simp only [List.getD_cons_zero, List.getD_cons_succ]) (fun ph W' hwn hW => ?_)) ?_
   ·obtain ⟨nd, rfl⟩ := hW; have z0 := drew_cell nd hc1; have z1 := drew_cell nd hc3; first | (go_simp; done) | (go_simp; (try simp only [i64_w]); rfl) | (go_simp; simp; rfl)
   try simp only [Act.put, List.setIfInBounds_toArray, List.set_cons_zero, List.set_cons_succ]
   refine AnyEvents.obs_cons ?v22_8 (val_hole (by simp only [List.getD_cons_zero, List.getD_cons_succ])) (AnyEvents.ob_plain (v := ?v22_8) rfl rfl rfl same (by simp only [List.getD_cons_zero, List.getD_cons_succ]) (fun ph W' hwn hW => ?_)) ?_
   ·obtain ⟨nd, rfl⟩ := hW; have z0 := drew_cell nd hc1; have z1 := drew_cell nd hc3; first | (go_simp; done) | (go_simp; (try simp only [i64_w]); rfl) | (go_simp; simp; rfl)
   try simp only [Act.put, List.setIfInBounds_toArray, List.set_cons_zero, List.set_cons_succ]
   refine AnyEvents.obs_cons ?v22_9 (val_hole (by simp only [List.getD_cons_zero, List.getD_cons_succ])) (AnyEvents.ob_plain (v := ?v22_9) rfl rfl rfl same (by simp only [List.getD_cons_zero, List.getD_cons_succ]) (fun ph W' hwn hW => ?_)) ?_
   ·obtain ⟨nd, rfl⟩ := hW; have z0 := drew_cell nd hc1; have z1 := drew_cell nd hc3; first | (go_simp; done) | (go_simp; (try simp only [i64_w]); rfl) | (go_simp; simp; rfl)
   try simp only [Act.put, List.setIfInBounds_toArray, List.set_cons_zero, List.set_cons_succ]
   refine AnyEvents.obs_cons ?v22_10 (val_hole (by simp only [List.getD_cons_zero, List.getD_cons_succ])) (AnyEvents.ob_plain (v := ?v22_10) rfl rfl rfl same (by simp only [List.getD_cons_zero, List.getD_cons_succ]) (fun ph W' hwn hW => ?_)) ?_
   ·obtain ⟨nd, rfl⟩ := hW; have z0 := drew_cell nd hc1; have z1 := drew_cell nd hc3; first | (go_simp; done) | (go_simp; (try simp only [i64_w]); rfl) | (go_simp; simp; rfl)
   try simp only [Act.put, List.setIfInBounds_toArray, List.set_cons_zero, List.set_cons_succ]
   refine AnyEvents.obs_cons ?v22_11 (val_hole (by simp only [List.getD_cons_zero, List.getD_cons_succ])) (AnyEvents.ob_plain (v := ?v22_11) rfl rfl rfl same (by simp only [List.getD_cons_zero, List.getD_cons_succ]) (fun ph W' hwn hW => ?_)) ?_
   ·obtain ⟨nd, rfl⟩ := hW; have z0 := drew_cell nd hc1; have z1 := drew_cell nd hc3; first | (go_simp; done) | (go_simp; (try simp only [i64_w]); rfl) | (go_simp; simp; rfl)
   try simp only [Act.put, List.setIfInBounds_toArray, List.set_cons_zero, List.set_cons_succ]
   refine AnyEvents.obs_cons ?v22_12 (val_hole (by simp only [List.getD_cons_zero, List.getD_cons_succ])) (AnyEvents.ob_plain (v := ?v22_12) rfl rfl rfl same (by simp only [List.getD_cons_zero, List.getD_cons_succ]) (fun ph W' hwn hW => ?_)) ?_
   ·obtain ⟨nd, rfl⟩ := hW; have z0 := drew_cell nd hc1; have z1 := drew_cell nd hc3; first | (go_simp; done) | (go_simp; (try simp only [i64_w]); rfl) | (go_simp; simp; rfl)
   try simp only [Act.put, List.setIfInBounds_toArray, List.set_cons_zero, List.set_cons_succ]
   trivial
  case fin22r =>
   intro x W' hD _
   simp only [List.take_succ_cons, List.take_zero, List.drop_succ_cons, List.drop_zero]
   rw [AnyOrder.lexAt_cons ?v22_0 (val_hole (by simp only [List.getD_cons_zero, List.getD_cons_succ]))]
   try simp only [Act.put, List.setIfInBounds_toArray, List.set_cons_zero, List.set_cons_succ]
   rw [AnyOrder.lexAt_cons ?v22_1 (val_hole (by simp only [List.getD_cons_zero, List.getD_cons_succ]))]
   try simp only [Act.put, List.setIfInBounds_toArray, List.set_cons_zero, List.set_cons_succ]
   rw [AnyOrder.lexAt_cons ?v22_2 (val_hole (by simp only [List.getD_cons_zero, List.getD_cons_succ]))]
   try simp only [Act.put, List.setIfInBounds_toArray, List.set_cons_zero, List.set_cons_succ]
   rw [AnyOrder.lexAt_cons ?v22_3 (val_hole (by simp only [List.getD_cons_zero, List.getD_cons_succ]))]
   try simp only [Act.put, List.setIfInBounds_toArray, List.set_cons_zero, List.set_cons_succ]
   rw [AnyOrder.lexAt_cons ?v22_4 (val_hole (by simp only [List.getD_cons_zero, List.getD_cons_succ]))]
   try simp only [Act.put, List.setIfInBounds_toArray, List.set_cons_zero, List.set_cons_succ]
   rw [AnyOrder.lexAt_cons ?v22_5 (val_hole (by simp only [List.getD_cons_zero, List.getD_cons_succ]))]
   try simp only [Act.put, List.setIfInBounds_toArray, List.set_cons_zero, List.set_cons_succ]
   rw [AnyOrder.lexAt_cons ?v22_6 (val_hole (by simp only [List.getD_cons_zero, List.getD_cons_succ]))]
   try simp only [Act.put, List.setIfInBounds_toArray, List.set_cons_zero, List.set_cons_succ]
   rw [AnyOrder.lexAt_cons ?v22_7 (val_hole (by simp only [List.getD_cons_zero, List.getD_cons_succ]))]
   try simp only [Act.put, List.setIfInBounds_toArray, List.set_cons_zero, List.set_cons_succ]
   rw [AnyOrder.lexAt_cons ?v22_8 (val_hole (by simp only [List.getD_cons_zero, List.getD_cons_succ]))]
   try simp only [Act.put, List.setIfInBounds_toArray, List.set_cons_zero, List.set_cons_succ]
   rw [AnyOrder.lexAt_cons ?v22_9 (val_hole (by simp only [List.getD_cons_zero, List.getD_cons_succ]))]
   try simp only [Act.put, List.setIfInBounds_toArray, List.set_cons_zero, List.set_cons_succ]
   rw [AnyOrder.lexAt_cons ?v22_10 (val_hole (by simp only [List.getD_cons_zero, List.getD_cons_succ]))]
   try simp only [Act.put, List.setIfInBounds_toArray, List.set_cons_zero, List.set_cons_succ]
   rw [AnyOrder.lexAt_cons ?v22_11 (val_hole (by simp only [List.getD_cons_zero, List.getD_cons_succ]))]
   try simp only [Act.put, List.setIfInBounds_toArray, List.set_cons_zero, List.set_cons_succ]
   rw [AnyOrder.lexAt_cons ?v22_12 (val_hole (by simp only [List.getD_cons_zero, List.getD_cons_succ]))]
   try simp only [Act.put, List.setIfInBounds_toArray, List.set_cons_zero, List.set_cons_succ]
   rw [AnyOrder.lexAt_nil]
   clear same
   obtain ⟨nd, rfl⟩ := hD
   rw [HN8.out]
   have HIs := Aside0.mk (show RefAt (W1.drewN nd) w0.heap.size top g (q) from HI.out.drawn rfl)
   have HBs := Aside0.mk (pw_below_drewN HB.out nd)
   have HKs_ := Aside0.mk (HKs.out.trans (show KeepG g W1 (W1.drewN nd) from KeepG.of_below (pw_below_drewN (Below.refl _ _) nd)))
   clear hbg hge hle hcm hc0 hc1 hc2 hc3 hc4 hf0 hf1 hf2 hf3 hf4 HQ
   clear HI HB HKs
   have HI := HIs; have HB := HBs; have HKs := HKs_
   clear HIs HBs HKs_
   generalize W1.drewN nd = W2 at HI HB HKs ⊢
   obtain ⟨Az, cz, ⟨hbg, hge⟩, ⟨hle, hcm⟩, ⟨hc0, hc1, hc2, hc3, hc4⟩, ⟨hf0, hf1, hf2, hf3, hf4⟩, HQ⟩ := HI.out.cell
   go_wp2
   go_ret2
   exact ⟨rfl, HI.out, HB.out, HKs.out⟩
 have d1 : decide (window < 1) = false := decide_eq_false c1
 have d2 : decide (most < 1) = false := decide_eq_false c2
 have d3 : decide (window ≤ q.sent) = false := decide_eq_false c3
 have hwm : ¬ (window < 1 ∨ most < 1 ∨ window ≤ q.sent) := by omega
 obtain ⟨m, hm⟩ : ∃ m_, q.nextN window most = m_ := ⟨_, rfl⟩
 have e : q.next window most = ({ q with sent := q.sent + (m : Int) }, cutS q.s q.sent.toNat (q.sent.toNat + m)) := by unfold RQ.next; rw [if_neg hwm, hm]
 rw [e]
 have hm5 : (if wrap64 (window - q.sent) < n8 then wrap64 (window - q.sent) else n8) = (m : Int) := by
  rw [w64p (by omega) (by omega), ← hm, ← hn8]; unfold RQ.nextN
  split <;> split <;> omega
 have hmle : q.sent + (m : Int) ≤ (q.s.size : Int) := by
  have : (m : Int) ≤ n8 ∨ (m : Int) ≤ window - q.sent := by rw [w64p (by omega) (by omega)] at hm5; rw [← hm5]; split <;> omega
  rw [← hm]; unfold RQ.nextN; omega
 have HM := Aside0.mk hm5
 have HML := Aside0.mk hmle
 have hsm : wrap64 (q.sent + (m : Int)) = q.sent + (m : Int) := w64p (by omega) (by omega)
 have HSM := Aside0.mk hsm
 clear e hn8 hn8' hl c1 c2 c3 hs hw hwm hm hm5 hmle hsm
 obtain ⟨Az, cz, ⟨hbg, hge⟩, ⟨hle, hcm⟩, ⟨hc0, hc1, hc2, hc3, hc4⟩, ⟨hf0, hf1, hf2, hf3, hf4⟩, HQ⟩ := HI.out.cell
 go_enter Try.func36, Try.ntmps36
 go_wp2_with fail
 refine (sternpostref15_Queue_Next1.callsR g top _ q _ HI.out HL.out (by have := HS.out; omega)).mono ?_
 rintro e W1 ⟨rfl, nd, rfl⟩
 have HIs := Aside0.mk (show RefAt (w.drewN nd) w0.heap.size top g (q) from HI.out.drawn rfl)
 have HBs := Aside0.mk (pw_below_drewN HB.out nd)
 have HKs_ := Aside0.mk (show KeepG g w (w.drewN nd) from KeepG.of_below (pw_below_drewN (Below.refl _ _) nd))
 clear hbg hge hle hcm hc0 hc1 hc2 hc3 hc4 hf0 hf1 hf2 hf3 hf4 HQ
 clear HI HB
 have HI := HIs; have HB := HBs; have HKs := HKs_
 clear HIs HBs HKs_
 generalize w.drewN nd = W1 at HI HB HKs ⊢
 obtain ⟨Az, cz, ⟨hbg, hge⟩, ⟨hle, hcm⟩, ⟨hc0, hc1, hc2, hc3, hc4⟩, ⟨hf0, hf1, hf2, hf3, hf4⟩, HQ⟩ := HI.out.cell
 go_upto_region 2 with fail
 have same : ∀ (ph : Nat) W', Drawn0 W1 W' → True := fun _ _ _ => trivial
 refine AnyEvents.region_then 13 (E := []) (C := fun (_ : Nat) W' => Drawn0 W1 W') (G := fun _ _ _ _ => True) (T := []) (R := fun _ _ _ _ => True) (vs := [?v23_0, ?v23_1, ?v23_2, ?v23_3, ?v23_4, ?v23_5, ?v23_6, ?v23_7, ?v23_8, ?v23_9, ?v23_10, ?v23_11, ?v23_12]) (by kernel_rfl) (by kernel_rfl) rfl (by kernel_rfl) ?hc23r same (fun _ _ _ _ _ _ _ _ _ => trivial) (fun _ h => nomatch h) (fun x => ?obs23r) ?fin23r
 case hc23r => exact ⟨1, rfl⟩
 case obs23r =>
  refine AnyEvents.obs_cons ?v23_0 (val_hole (by simp only [List.getD_cons_zero, List.getD_cons_succ])) (AnyEvents.ob_plain (v := ?v23_0) rfl rfl rfl same (by simp only [List.getD_cons_zero, List.getD_cons_succ]) (fun ph W' hwn hW => ?_)) ?_
  ·obtain ⟨nd, rfl⟩ := hW; have z0 := drew_cell nd hc1; have z1 := drew_cell nd hc3; first | (go_simp; done) | (go_simp; (try simp only [i64_w]); rfl) | (go_simp; simp; rfl)
  try simp only [Act.put, List.setIfInBounds_toArray, List.set_cons_zero, List.set_cons_succ]
  refine AnyEvents.obs_cons ?v23_1 (val_hole (by simp only [List.getD_cons_zero, List.getD_cons_succ])) (AnyEvents.ob_plain (v := ?v23_1) rfl rfl rfl same (by simp only [List.getD_cons_zero, List.getD_cons_succ]) (fun ph W' hwn hW => ?_)) ?_
  ·obtain ⟨nd, rfl⟩ := hW; have z0 := drew_cell nd hc1; have z1 := drew_cell nd hc3; first | (go_simp; done) | (go_simp; (try simp only [i64_w]); rfl) | (go_simp; simp; rfl)
  try simp only [Act.put, List.setIfInBounds_toArray, List.set_cons_zero, List.set_cons_succ]
  refine AnyEvents.obs_cons ?v23_2 (val_hole (by simp only [List.getD_cons_zero, List.getD_cons_succ])) (AnyEvents.ob_plain (v := ?v23_2) rfl rfl rfl same (by simp only [List.getD_cons_zero, List.getD_cons_succ]) (fun ph W' hwn hW => ?_)) ?_
  ·obtain ⟨nd, rfl⟩ := hW; have z0 := drew_cell nd hc1; have z1 := drew_cell nd hc3; first | (go_simp; done) | (go_simp; (try simp only [i64_w]); rfl) | (go_simp; simp; rfl)
  try simp only [Act.put, List.setIfInBounds_toArray, List.set_cons_zero, List.set_cons_succ]
  refine AnyEvents.obs_cons ?v23_3 (val_hole (by simp only [List.getD_cons_zero, List.getD_cons_succ])) (AnyEvents.ob_plain (v := ?v23_3) rfl rfl rfl same (by simp only [List.getD_cons_zero, List.getD_cons_succ]) (fun ph W' hwn hW => ?_)) ?_
  ·obtain ⟨nd, rfl⟩ := hW; have z0 := drew_cell nd hc1; have z1 := drew_cell nd hc3; first | (go_simp; done) | (go_simp; (try simp only [i64_w]); rfl) | (go_simp; simp; rfl)
  try simp only [Act.put, List.setIfInBounds_toArray, List.set_cons_zero, List.set_cons_succ]
  refine AnyEvents.obs_cons ?v23_4 (val_hole (by simp only [List.getD_cons_zero, List.getD_cons_succ])) (AnyEvents.ob_plain (v := ?v23_4) rfl rfl rfl same (by simp only [List.getD_cons_zero, List.getD_cons_succ]) (fun ph W' hwn hW => ?_)) ?_
  ·obtain ⟨nd, rfl⟩ := hW; have z0 := drew_cell nd hc1; have z1 := drew_cell nd hc3; first | (go_simp; done) | (go_simp; (try simp only [i64_w]); rfl) | (go_simp; simp; rfl)
  try simp only [Act.put, List.setIfInBounds_toArray, List.set_cons_zero, List.set_cons_succ]
  refine AnyEvents.obs_cons ?v23_5 (val_hole (by simp only [List.getD_cons_zero, List.getD_cons_succ])) (AnyEvents.ob_plain (v := ?v23_5) rfl rfl rfl same (by simp only [List.getD_cons_zero, List.getD_cons_succ]) (fun ph W' hwn hW => ?_)) ?_
  ·obtain ⟨nd, rfl⟩ := hW; have z0 := drew_cell nd hc1; have z1 := drew_cell nd hc3; first | (go_simp; done) | (go_simp; (try simp only [i64_w]); rfl) | (go_simp; simp; rfl)
  try simp only [Act.put, List.setIfInBounds_toArray, List.set_cons_zero, List.set_cons_succ]
  refine AnyEvents.obs_cons ?v23_6 (val_hole (by simp only [List.getD_cons_zero, List.getD_cons_succ])) (AnyEvents.ob_plain (v := ?v23_6) rfl rfl rfl same (by simp only [List.getD_cons_zero, List.getD_cons_succ]) (fun ph W' hwn hW => ?_)) ?_
  ·obtain ⟨nd, rfl⟩ := hW; have z0 := drew_cell nd hc1; have z1 := drew_cell nd hc3; first | (go_simp; done) | (go_simp; (try simp only [i64_w]); rfl) | (go_simp; simp; rfl)
  try simp only [Act.put, List.setIfInBounds_toArray, List.set_cons_zero, List.set_cons_succ]
  refine AnyEvents.obs_cons ?v23_7 (val_hole (by simp only [List.getD_cons_zero, List.getD_cons_succ])) (AnyEvents.ob_plain (v := ?v23_7) rfl rfl rfl same (by simp only [List.getD_cons_zero, List.getD_cons_succ]) (fun ph W' hwn hW => ?_)) ?_
  ·obtain ⟨nd, rfl⟩ := hW; have z0 := drew_cell nd hc1; have z1 := drew_cell nd hc3; first | (go_simp; done) | (go_simp; (try simp only [i64_w]); rfl) | (go_simp; simp; rfl)
  try simp only [Act.put, List.setIfInBounds_toArray, List.set_cons_zero, List.set_cons_succ]
  refine AnyEvents.obs_cons ?v23_8 (val_hole (by simp only [List.getD_cons_zero, List.getD_cons_succ])) (AnyEvents.ob_plain (v := ?v23_8) rfl rfl rfl same (by simp only [List.getD_cons_zero, List.getD_cons_succ]) (fun ph W' hwn hW => ?_)) ?_
  ·obtain ⟨nd, rfl⟩ := hW; have z0 := drew_cell nd hc1; have z1 := drew_cell nd hc3; first | (go_simp; done) | (go_simp; (try simp only [i64_w]); rfl) | (go_simp; simp; rfl)
  try simp only [Act.put, List.setIfInBounds_toArray, List.set_cons_zero, List.set_cons_succ]
  refine AnyEvents.obs_cons ?v23_9 (val_hole (by simp only [List.getD_cons_zero, List.getD_cons_succ])) (AnyEvents.ob_plain (v := ?v23_9) rfl rfl rfl same (by simp only [List.getD_cons_zero, List.getD_cons_succ]) (fun ph W' hwn hW => ?_)) ?_
  ·obtain ⟨nd, rfl⟩ := hW; have z0 := drew_cell nd hc1; have z1 := drew_cell nd hc3; first | (go_simp; done) | (go_simp; (try simp only [i64_w]); rfl) | (go_simp; simp; rfl)
  try simp only [Act.put, List.setIfInBounds_toArray, List.set_cons_zero, List.set_cons_succ]
  refine AnyEvents.obs_cons ?v23_10 (val_hole (by simp only [List.getD_cons_zero, List.getD_cons_succ])) (AnyEvents.ob_plain (v := ?v23_10) rfl rfl rfl same (by simp only [List.getD_cons_zero, List.getD_cons_succ]) (fun ph W' hwn hW => ?_)) ?_
  ·obtain ⟨nd, rfl⟩ := hW; have z0 := drew_cell nd hc1; have z1 := drew_cell nd hc3; first | (go_simp; done) | (go_simp; (try simp only [i64_w]); rfl) | (go_simp; simp; rfl)
  try simp only [Act.put, List.setIfInBounds_toArray, List.set_cons_zero, List.set_cons_succ]
  refine AnyEvents.obs_cons ?v23_11 (val_hole (by simp only [List.getD_cons_zero, List.getD_cons_succ])) (AnyEvents.ob_plain (v := ?v23_11) rfl rfl rfl same (by simp only [List.getD_cons_zero, List.getD_cons_succ]) (fun ph W' hwn hW => ?_)) ?_
  ·obtain ⟨nd, rfl⟩ := hW; have z0 := drew_cell nd hc1; have z1 := drew_cell nd hc3; first | (go_simp; done) | (go_simp; (try simp only [i64_w]); rfl) | (go_simp; simp; rfl)
  try simp only [Act.put, List.setIfInBounds_toArray, List.set_cons_zero, List.set_cons_succ]
  refine AnyEvents.obs_cons ?v23_12 (val_hole (by simp only [List.getD_cons_zero, List.getD_cons_succ])) (AnyEvents.ob_plain (v := ?v23_12) rfl rfl rfl same (by simp only [List.getD_cons_zero, List.getD_cons_succ]) (fun ph W' hwn hW => ?_)) ?_
  ·obtain ⟨nd, rfl⟩ := hW; have z0 := drew_cell nd hc1; have z1 := drew_cell nd hc3; first | (go_simp; done) | (go_simp; (try simp only [i64_w]); rfl) | (go_simp; simp; rfl)
  try simp only [Act.put, List.setIfInBounds_toArray, List.set_cons_zero, List.set_cons_succ]
  trivial
 case fin23r =>
  intro x W' hD _
  simp only [List.take_succ_cons, List.take_zero, List.drop_succ_cons, List.drop_zero]
  rw [AnyOrder.lexAt_cons ?v23_0 (val_hole (by simp only [List.getD_cons_zero, List.getD_cons_succ]))]
  try simp only [Act.put, List.setIfInBounds_toArray, List.set_cons_zero, List.set_cons_succ]
  rw [AnyOrder.lexAt_cons ?v23_1 (val_hole (by simp only [List.getD_cons_zero, List.getD_cons_succ]))]
  try simp only [Act.put, List.setIfInBounds_toArray, List.set_cons_zero, List.set_cons_succ]
  rw [AnyOrder.lexAt_cons ?v23_2 (val_hole (by simp only [List.getD_cons_zero, List.getD_cons_succ]))]
  try simp only [Act.put, List.setIfInBounds_toArray, List.set_cons_zero, List.set_cons_succ]
  rw [AnyOrder.lexAt_cons ?v23_3 (val_hole (by simp only [List.getD_cons_zero, List.getD_cons_succ]))]
  try simp only [Act.put, List.setIfInBounds_toArray, List.set_cons_zero, List.set_cons_succ]
  rw [AnyOrder.lexAt_cons ?v23_4 (val_hole (by simp only [List.getD_cons_zero, List.getD_cons_succ]))]
  try simp only [Act.put, List.setIfInBounds_toArray, List.set_cons_zero, List.set_cons_succ]
  rw [AnyOrder.lexAt_cons ?v23_5 (val_hole (by simp only [List.getD_cons_zero, List.getD_cons_succ]))]
  try simp only [Act.put, List.setIfInBounds_toArray, List.set_cons_zero, List.set_cons_succ]
  rw [AnyOrder.lexAt_cons ?v23_6 (val_hole (by simp only [List.getD_cons_zero, List.getD_cons_succ]))]
  try simp only [Act.put, List.setIfInBounds_toArray, List.set_cons_zero, List.set_cons_succ]
  rw [AnyOrder.lexAt_cons ?v23_7 (val_hole (by simp only [List.getD_cons_zero, List.getD_cons_succ]))]
  try simp only [Act.put, List.setIfInBounds_toArray, List.set_cons_zero, List.set_cons_succ]
  rw [AnyOrder.lexAt_cons ?v23_8 (val_hole (by simp only [List.getD_cons_zero, List.getD_cons_succ]))]
  try simp only [Act.put, List.setIfInBounds_toArray, List.set_cons_zero, List.set_cons_succ]
  rw [AnyOrder.lexAt_cons ?v23_9 (val_hole (by simp only [List.getD_cons_zero, List.getD_cons_succ]))]
  try simp only [Act.put, List.setIfInBounds_toArray, List.set_cons_zero, List.set_cons_succ]
  rw [AnyOrder.lexAt_cons ?v23_10 (val_hole (by simp only [List.getD_cons_zero, List.getD_cons_succ]))]
  try simp only [Act.put, List.setIfInBounds_toArray, List.set_cons_zero, List.set_cons_succ]
  rw [AnyOrder.lexAt_cons ?v23_11 (val_hole (by simp only [List.getD_cons_zero, List.getD_cons_succ]))]
  try simp only [Act.put, List.setIfInBounds_toArray, List.set_cons_zero, List.set_cons_succ]
  rw [AnyOrder.lexAt_cons ?v23_12 (val_hole (by simp only [List.getD_cons_zero, List.getD_cons_succ]))]
  try simp only [Act.put, List.setIfInBounds_toArray, List.set_cons_zero, List.set_cons_succ]
  rw [AnyOrder.lexAt_nil]
  clear same
  obtain ⟨nd, rfl⟩ := hD
  rw [HN8.out]
  have HIs := Aside0.mk (show RefAt (W1.drewN nd) w0.heap.size top g (q) from HI.out.drawn rfl)
  have HBs := Aside0.mk (pw_below_drewN HB.out nd)
  have HKs_ := Aside0.mk (HKs.out.trans (show KeepG g W1 (W1.drewN nd) from KeepG.of_below (pw_below_drewN (Below.refl _ _) nd)))
  clear hbg hge hle hcm hc0 hc1 hc2 hc3 hc4 hf0 hf1 hf2 hf3 hf4 HQ
  clear HI HB HKs
  have HI := HIs; have HB := HBs; have HKs := HKs_
  clear HIs HBs HKs_
  generalize W1.drewN nd = W2 at HI HB HKs ⊢
  obtain ⟨Az, cz, ⟨hbg, hge⟩, ⟨hle, hcm⟩, ⟨hc0, hc1, hc2, hc3, hc4⟩, ⟨hf0, hf1, hf2, hf3, hf4⟩, HQ⟩ := HI.out.cell
  go_upto_region 6 with fail
  rw [HM.out]
  clear d1 d2 d3
  have same : ∀ (ph : Nat) W', Drawn0 W2 W' → True := fun _ _ _ => trivial
  refine AnyEvents.region_then 16 (E := []) (C := fun (_ : Nat) W' => Drawn0 W2 W') (G := fun _ _ _ _ => True) (T := []) (R := fun _ _ _ _ => True) (vs := [?v19_0, ?v19_1, ?v19_2, ?v19_3, ?v19_4, ?v19_5, ?v19_6, ?v19_7, ?v19_8, ?v19_9, ?v19_10, ?v19_11, ?v19_12, ?v19_13, (.string (cutS q.s q.sent.toNat (q.sent.toNat + m))), ?v19_15]) (by kernel_rfl) (by kernel_rfl) rfl (by kernel_rfl) ?hc19r same (fun _ _ _ _ _ _ _ _ _ => trivial) (fun _ h => nomatch h) (fun x => ?obs19r) ?fin19r
  case hc19r => exact ⟨1, rfl⟩
  case obs19r =>
   refine AnyEvents.obs_cons ?v19_0 (val_hole (by simp only [List.getD_cons_zero, List.getD_cons_succ])) (AnyEvents.ob_plain (v := ?v19_0) rfl rfl rfl same (by simp only [List.getD_cons_zero, List.getD_cons_succ]) (fun ph W' hwn hW => ?_)) ?_
   ·obtain ⟨nd, rfl⟩ := hW; have z0 := drew_cell nd hc1; have z1 := drew_cell nd hc3; first | (go_simp; done) | (go_simp; (try simp only [i64_w]); rfl) | (go_simp; simp; rfl)
   try simp only [Act.put, List.setIfInBounds_toArray, List.set_cons_zero, List.set_cons_succ]
   refine AnyEvents.obs_cons ?v19_1 (val_hole (by simp only [List.getD_cons_zero, List.getD_cons_succ])) (AnyEvents.ob_plain (v := ?v19_1) rfl rfl rfl same (by simp only [List.getD_cons_zero, List.getD_cons_succ]) (fun ph W' hwn hW => ?_)) ?_
   ·obtain ⟨nd, rfl⟩ := hW; have z0 := drew_cell nd hc1; have z1 := drew_cell nd hc3; first | (go_simp; done) | (go_simp; (try simp only [i64_w]); rfl) | (go_simp; simp; rfl)
   try simp only [Act.put, List.setIfInBounds_toArray, List.set_cons_zero, List.set_cons_succ]
   refine AnyEvents.obs_cons ?v19_2 (val_hole (by simp only [List.getD_cons_zero, List.getD_cons_succ])) (AnyEvents.ob_plain (v := ?v19_2) rfl rfl rfl same (by simp only [List.getD_cons_zero, List.getD_cons_succ]) (fun ph W' hwn hW => ?_)) ?_
   ·obtain ⟨nd, rfl⟩ := hW; have z0 := drew_cell nd hc1; have z1 := drew_cell nd hc3; first | (go_simp; done) | (go_simp; (try simp only [i64_w]); rfl) | (go_simp; simp; rfl)
   try simp only [Act.put, List.setIfInBounds_toArray, List.set_cons_zero, List.set_cons_succ]
   refine AnyEvents.obs_cons ?v19_3 (val_hole (by simp only [List.getD_cons_zero, List.getD_cons_succ])) (AnyEvents.ob_plain (v := ?v19_3) rfl rfl rfl same (by simp only [List.getD_cons_zero, List.getD_cons_succ]) (fun ph W' hwn hW => ?_)) ?_
   ·obtain ⟨nd, rfl⟩ := hW; have z0 := drew_cell nd hc1; have z1 := drew_cell nd hc3; first | (go_simp; done) | (go_simp; (try simp only [i64_w]); rfl) | (go_simp; simp; rfl)
   try simp only [Act.put, List.setIfInBounds_toArray, List.set_cons_zero, List.set_cons_succ]
   refine AnyEvents.obs_cons ?v19_4 (val_hole (by simp only [List.getD_cons_zero, List.getD_cons_succ])) (AnyEvents.ob_plain (v := ?v19_4) rfl rfl rfl same (by simp only [List.getD_cons_zero, List.getD_cons_succ]) (fun ph W' hwn hW => ?_)) ?_
   ·obtain ⟨nd, rfl⟩ := hW; have z0 := drew_cell nd hc1; have z1 := drew_cell nd hc3; first | (go_simp; done) | (go_simp; (try simp only [i64_w]); rfl) | (go_simp; simp; rfl)
   try simp only [Act.put, List.setIfInBounds_toArray, List.set_cons_zero, List.set_cons_succ]
   refine AnyEvents.obs_cons ?v19_5 (val_hole (by simp only [List.getD_cons_zero, List.getD_cons_succ])) (AnyEvents.ob_plain (v := ?v19_5) rfl rfl rfl same (by simp only [List.getD_cons_zero, List.getD_cons_succ]) (fun ph W' hwn hW => ?_)) ?_
   ·obtain ⟨nd, rfl⟩ := hW; have z0 := drew_cell nd hc1; have z1 := drew_cell nd hc3; first | (go_simp; done) | (go_simp; (try simp only [i64_w]); rfl) | (go_simp; simp; rfl)
   try simp only [Act.put, List.setIfInBounds_toArray, List.set_cons_zero, List.set_cons_succ]
   refine AnyEvents.obs_cons ?v19_6 (val_hole (by simp only [List.getD_cons_zero, List.getD_cons_succ])) (AnyEvents.ob_plain (v := ?v19_6) rfl rfl rfl same (by simp only [List.getD_cons_zero, List.getD_cons_succ]) (fun ph W' hwn hW => ?_)) ?_
   ·obtain ⟨nd, rfl⟩ := hW; have z0 := drew_cell nd hc1; have z1 := drew_cell nd hc3; first | (go_simp; done) | (go_simp; (try simp only [i64_w]); rfl) | (go_simp; simp; rfl)
   try simp only [Act.put, List.setIfInBounds_toArray, List.set_cons_zero, List.set_cons_succ]
   refine AnyEvents.obs_cons ?v19_7 (val_hole (by simp only [List.getD_cons_zero, List.getD_cons_succ])) (AnyEvents.ob_plain (v := ?v19_7) rfl rfl rfl same (by simp only [List.getD_cons_zero, List.getD_cons_succ]) (fun ph W' hwn hW => ?_)) ?_
   ·obtain ⟨nd, rfl⟩ := hW; have z0 := drew_cell nd hc1; have z1 := drew_cell nd hc3; first | (go_simp; done) | (go_simp; (try simp only [i64_w]); rfl) | (go_simp; simp; rfl)
   try simp only [Act.put, List.setIfInBounds_toArray, List.set_cons_zero, List.set_cons_succ]
   refine AnyEvents.obs_cons ?v19_8 (val_hole (by simp only [List.getD_cons_zero, List.getD_cons_succ])) (AnyEvents.ob_plain (v := ?v19_8) rfl rfl rfl same (by simp only [List.getD_cons_zero, List.getD_cons_succ]) (fun ph W' hwn hW => ?_)) ?_
   ·obtain ⟨nd, rfl⟩ := hW; have z0 := drew_cell nd hc1; have z1 := drew_cell nd hc3; first | (go_simp; done) | (go_simp; (try simp only [i64_w]); rfl) | (go_simp; simp; rfl)
   try simp only [Act.put, List.setIfInBounds_toArray, List.set_cons_zero, List.set_cons_succ]
   refine AnyEvents.obs_cons ?v19_9 (val_hole (by simp only [List.getD_cons_zero, List.getD_cons_succ])) (AnyEvents.ob_plain (v := ?v19_9) rfl rfl rfl same (by simp only [List.getD_cons_zero, List.getD_cons_succ]) (fun ph W' hwn hW => ?_)) ?_
   ·obtain ⟨nd, rfl⟩ := hW; have z0 := drew_cell nd hc1; have z1 := drew_cell nd hc3; first | (go_simp; done) | (go_simp; (try simp only [i64_w]); rfl) | (go_simp; simp; rfl)
   try simp only [Act.put, List.setIfInBounds_toArray, List.set_cons_zero, List.set_cons_succ]
   refine AnyEvents.obs_cons ?v19_10 (val_hole (by simp only [List.getD_cons_zero, List.getD_cons_succ])) (AnyEvents.ob_plain (v := ?v19_10) rfl rfl rfl same (by simp only [List.getD_cons_zero, List.getD_cons_succ]) (fun ph W' hwn hW => ?_)) ?_
   ·obtain ⟨nd, rfl⟩ := hW; have z0 := drew_cell nd hc1; have z1 := drew_cell nd hc3; first | (go_simp; done) | (go_simp; (try simp only [i64_w]); rfl) | (go_simp; simp; rfl)
   try simp only [Act.put, List.setIfInBounds_toArray, List.set_cons_zero, List.set_cons_succ]
   refine AnyEvents.obs_cons ?v19_11 (val_hole (by simp only [List.getD_cons_zero, List.getD_cons_succ])) (AnyEvents.ob_plain (v := ?v19_11) rfl rfl rfl same (by simp only [List.getD_cons_zero, List.getD_cons_succ]) (fun ph W' hwn hW => ?_)) ?_
   ·obtain ⟨nd, rfl⟩ := hW; have z0 := drew_cell nd hc1; have z1 := drew_cell nd hc3; first | (go_simp; done) | (go_simp; (try simp only [i64_w]); rfl) | (go_simp; simp; rfl)
   try simp only [Act.put, List.setIfInBounds_toArray, List.set_cons_zero, List.set_cons_succ]
   refine AnyEvents.obs_cons ?v19_12 (val_hole (by simp only [List.getD_cons_zero, List.getD_cons_succ])) (AnyEvents.ob_plain (v := ?v19_12) rfl rfl rfl same (by simp only [List.getD_cons_zero, List.getD_cons_succ]) (fun ph W' hwn hW => ?_)) ?_
   ·obtain ⟨nd, rfl⟩ := hW; have z0 := drew_cell nd hc1; have z1 := drew_cell nd hc3; first | (go_simp; done) | (go_simp; (try simp only [i64_w]); rfl) | (go_simp; simp; rfl)
   try simp only [Act.put, List.setIfInBounds_toArray, List.set_cons_zero, List.set_cons_succ]
   refine AnyEvents.obs_cons ?v19_13 (val_hole (by simp only [List.getD_cons_zero, List.getD_cons_succ])) (AnyEvents.ob_plain (v := ?v19_13) rfl rfl rfl same (by simp only [List.getD_cons_zero, List.getD_cons_succ]) (fun ph W' hwn hW => ?_)) ?_
   ·obtain ⟨nd, rfl⟩ := hW; have z0 := drew_cell nd hc1; have z1 := drew_cell nd hc3; first | (go_simp; done) | (go_simp; (try simp only [i64_w]); rfl) | (go_simp; simp; rfl)
   try simp only [Act.put, List.setIfInBounds_toArray, List.set_cons_zero, List.set_cons_succ]
   refine AnyEvents.obs_cons (.string (cutS q.s q.sent.toNat (q.sent.toNat + m))) (val_hole (by simp only [List.getD_cons_zero, List.getD_cons_succ])) (AnyEvents.ob_plain (v := (.string (cutS q.s q.sent.toNat (q.sent.toNat + m)))) rfl rfl rfl same (by simp only [List.getD_cons_zero, List.getD_cons_succ]) (fun ph W' hwn hW => ?_)) ?_
   ·obtain ⟨nd, rfl⟩ := hW; refine (run_sl_at (i := q.sent) (j := wrap64 (q.sent + (m : Int))) (s := q.s) Try.underlying9 rfl rfl rfl rfl HS.out.1 (by rw [HSM.out]; omega) (by rw [HSM.out]; exact HML.out)).trans ?_; rw [HSM.out, show (q.sent + (m : Int)).toNat = q.sent.toNat + m by have := HS.out.1; omega]
   try simp only [Act.put, List.setIfInBounds_toArray, List.set_cons_zero, List.set_cons_succ]
   refine AnyEvents.obs_cons ?v19_15 (val_hole (by simp only [List.getD_cons_zero, List.getD_cons_succ])) (AnyEvents.ob_plain (v := ?v19_15) rfl rfl rfl same (by simp only [List.getD_cons_zero, List.getD_cons_succ]) (fun ph W' hwn hW => ?_)) ?_
   ·obtain ⟨nd, rfl⟩ := hW; have z0 := drew_cell nd hc1; have z1 := drew_cell nd hc3; first | (go_simp; done) | (go_simp; (try simp only [i64_w]); rfl) | (go_simp; simp; rfl)
   try simp only [Act.put, List.setIfInBounds_toArray, List.set_cons_zero, List.set_cons_succ]
   trivial
  case fin19r =>
   intro x W' hD _
   simp only [List.take_succ_cons, List.take_zero, List.drop_succ_cons, List.drop_zero]
   rw [AnyOrder.lexAt_cons ?v19_0 (val_hole (by simp only [List.getD_cons_zero, List.getD_cons_succ]))]
   try simp only [Act.put, List.setIfInBounds_toArray, List.set_cons_zero, List.set_cons_succ]
   rw [AnyOrder.lexAt_cons ?v19_1 (val_hole (by simp only [List.getD_cons_zero, List.getD_cons_succ]))]
   try simp only [Act.put, List.setIfInBounds_toArray, List.set_cons_zero, List.set_cons_succ]
   rw [AnyOrder.lexAt_cons ?v19_2 (val_hole (by simp only [List.getD_cons_zero, List.getD_cons_succ]))]
   try simp only [Act.put, List.setIfInBounds_toArray, List.set_cons_zero, List.set_cons_succ]
   rw [AnyOrder.lexAt_cons ?v19_3 (val_hole (by simp only [List.getD_cons_zero, List.getD_cons_succ]))]
   try simp only [Act.put, List.setIfInBounds_toArray, List.set_cons_zero, List.set_cons_succ]
   rw [AnyOrder.lexAt_cons ?v19_4 (val_hole (by simp only [List.getD_cons_zero, List.getD_cons_succ]))]
   try simp only [Act.put, List.setIfInBounds_toArray, List.set_cons_zero, List.set_cons_succ]
   rw [AnyOrder.lexAt_cons ?v19_5 (val_hole (by simp only [List.getD_cons_zero, List.getD_cons_succ]))]
   try simp only [Act.put, List.setIfInBounds_toArray, List.set_cons_zero, List.set_cons_succ]
   rw [AnyOrder.lexAt_cons ?v19_6 (val_hole (by simp only [List.getD_cons_zero, List.getD_cons_succ]))]
   try simp only [Act.put, List.setIfInBounds_toArray, List.set_cons_zero, List.set_cons_succ]
   rw [AnyOrder.lexAt_cons ?v19_7 (val_hole (by simp only [List.getD_cons_zero, List.getD_cons_succ]))]
   try simp only [Act.put, List.setIfInBounds_toArray, List.set_cons_zero, List.set_cons_succ]
   rw [AnyOrder.lexAt_cons ?v19_8 (val_hole (by simp only [List.getD_cons_zero, List.getD_cons_succ]))]
   try simp only [Act.put, List.setIfInBounds_toArray, List.set_cons_zero, List.set_cons_succ]
   rw [AnyOrder.lexAt_cons ?v19_9 (val_hole (by simp only [List.getD_cons_zero, List.getD_cons_succ]))]
   try simp only [Act.put, List.setIfInBounds_toArray, List.set_cons_zero, List.set_cons_succ]
   rw [AnyOrder.lexAt_cons ?v19_10 (val_hole (by simp only [List.getD_cons_zero, List.getD_cons_succ]))]
   try simp only [Act.put, List.setIfInBounds_toArray, List.set_cons_zero, List.set_cons_succ]
   rw [AnyOrder.lexAt_cons ?v19_11 (val_hole (by simp only [List.getD_cons_zero, List.getD_cons_succ]))]
   try simp only [Act.put, List.setIfInBounds_toArray, List.set_cons_zero, List.set_cons_succ]
   rw [AnyOrder.lexAt_cons ?v19_12 (val_hole (by simp only [List.getD_cons_zero, List.getD_cons_succ]))]
   try simp only [Act.put, List.setIfInBounds_toArray, List.set_cons_zero, List.set_cons_succ]
   rw [AnyOrder.lexAt_cons ?v19_13 (val_hole (by simp only [List.getD_cons_zero, List.getD_cons_succ]))]
   try simp only [Act.put, List.setIfInBounds_toArray, List.set_cons_zero, List.set_cons_succ]
   rw [AnyOrder.lexAt_cons (.string (cutS q.s q.sent.toNat (q.sent.toNat + m))) (val_hole (by simp only [List.getD_cons_zero, List.getD_cons_succ]))]
   try simp only [Act.put, List.setIfInBounds_toArray, List.set_cons_zero, List.set_cons_succ]
   rw [AnyOrder.lexAt_cons ?v19_15 (val_hole (by simp only [List.getD_cons_zero, List.getD_cons_succ]))]
   try simp only [Act.put, List.setIfInBounds_toArray, List.set_cons_zero, List.set_cons_succ]
   rw [AnyOrder.lexAt_nil]
   clear same
   obtain ⟨nd, rfl⟩ := hD
   have HIs := Aside0.mk (show RefAt (W2.drewN nd) w0.heap.size top g (q) from HI.out.drawn rfl)
   have HBs := Aside0.mk (pw_below_drewN HB.out nd)
   have HKs_ := Aside0.mk (HKs.out.trans (show KeepG g W2 (W2.drewN nd) from KeepG.of_below (pw_below_drewN (Below.refl _ _) nd)))
   clear hbg hge hle hcm hc0 hc1 hc2 hc3 hc4 hf0 hf1 hf2 hf3 hf4 HQ
   clear HI HB HKs
   have HI := HIs; have HB := HBs; have HKs := HKs_
   clear HIs HBs HKs_
   generalize W2.drewN nd = W3 at HI HB HKs ⊢
   obtain ⟨Az, cz, ⟨hbg, hge⟩, ⟨hle, hcm⟩, ⟨hc0, hc1, hc2, hc3, hc4⟩, ⟨hf0, hf1, hf2, hf3, hf4⟩, HQ⟩ := HI.out.cell
   have hsm := HSM.out
   go_wp2
   go_ret2
   exact ⟨rfl, HI.out.set 1 _ rfl (fun _ => rfl), below_set HB.out HI.out.ge, HKs.out.trans (KeepG.set g 1 _ _)⟩


end Go.Proofs.Ytobndcdohehhbaa.PSendqPlays

-- Laid by this claim's own program over the print's words.
import Derived.Test.YtobndcdohehhbaaPSendqPlaysx0
import Derived.Test.YtobndcdohehhbaaPSendqPlaysx1
namespace Go.Proofs.Ytobndcdohehhbaa.PSendqPlays
open Go.RowKit Go.Proofs.YtobndcdohehhbaaW.PrintWords Go.Proofs.YtobndcdohehhbaaW.PrintLast Go.Proofs.YtobndcdohehhbaaW.PrintMore
attribute [local go_sem] max2_int min2_int max_two min_two max_three min_three max_four min_four max_five min_five extract_cut tmod_nat_lit   -- for this text's walks alone
set_option linter.unusedVariables false
set_option linter.unusedSimpArgs false


/-! ### sendq_Queue_Next: function 12 (by hand) -/
-- over sendq_Queue_at.calls sendq_Queue_at.callsR
def QS.nextN (q : QS) (window most : Int) : Nat := (min (min ((q.s.size : Int) - q.sent) most) (window - q.sent)).toNat
def QS.next (q : QS) (window most : Int) : QS × ByteArray := if window < 1 ∨ most < 1 ∨ window ≤ q.sent then (q, (⟨#[]⟩ : ByteArray)) else ({ q with sent := q.sent + (q.nextN window most : Int) }, cutS q.s q.sent.toNat (q.sent.toNat + q.nextN window most))
set_option maxHeartbeats 4000000 in
set_option maxRecDepth 100000 in
theorem sendq_Queue_Next.calls (g : Nat) (q : QS) (window most : Int) (w0 w : World) (hI : QAt w w0.heap.size g q) (hB : Below w0.heap.size w0 w) (hl : sqOk q.left) (hs : 0 ≤ q.sent ∧ q.sent ≤ (q.s.size : Int) ∧ (q.s.size : Int) ≤ 65536) (hw : -9223372036854775808 ≤ window ∧ window < 9223372036854775808) :
  Calls Try.prog 12 #[.pointer (some ⟨g, 0, none⟩), .int .i64 window, .int .i64 most] w fun e w' => e = .returned (.tuple #[.int .i64 (q.at_ q.sent), .string (q.next window most).2]) ∧ QAt w' w0.heap.size g ((q.next window most).1) ∧ Below w0.heap.size w0 w' ∧ KeepG g w w' := by
 have HI := Aside0.mk hI
 have HB := Aside0.mk hB
 clear hI hB
 obtain ⟨n8, hn8⟩ : ∃ n_, (if most < (q.s.size : Int) - q.sent then most else (q.s.size : Int) - q.sent) = n_ := ⟨_, rfl⟩
 have hn8' : (if most < wrap64 ((q.s.size : Int) - q.sent) then most else wrap64 ((q.s.size : Int) - q.sent)) = n8 := by rw [w64p (by omega) (by omega)]; exact hn8
 obtain ⟨n9, hn9⟩ : ∃ n_, (if most < window then most else window) = n_ := ⟨_, rfl⟩
 have HN8 := Aside0.mk hn8'
 have HN9 := Aside0.mk hn9
 have HL := Aside0.mk hl
 have HS := Aside0.mk hs
 by_cases c1 : n9 < 1
 ·have e : q.next window most = (q, (⟨#[]⟩ : ByteArray)) := by unfold QS.next; rw [if_pos (by rw [← hn9] at c1; split at c1 <;> omega)]
  rw [e]
  clear e hn8 hn8' hn9 hl
  have d1 : decide (n9 < 1) = true := decide_eq_true c1
  clear c1 hs hw
  obtain ⟨Az, cz, ⟨hbg, hge⟩, ⟨hle, hcm⟩, ⟨hc0, hc1, hc2, hc3, hc4⟩, ⟨hf0, hf1, hf2, hf3, hf4⟩, HQ⟩ := HI.out.cell
  go_enter Try.func12, Try.ntmps12
  go_wp2_with fail
  refine (sendq_Queue_at.calls g q q.sent w0 _ HI.out HL.out (by have := HS.out; omega)).mono ?_
  rintro e W1 ⟨rfl, nd, rfl⟩
  have HIs := Aside0.mk (show QAt (w.drewN nd) w0.heap.size g q from HI.out.drawn rfl)
  have HBs := Aside0.mk (pw_below_drewN HB.out nd)
  have HKs_ := Aside0.mk (show KeepG g w (w.drewN nd) from KeepG.of_below (pw_below_drewN (Below.refl _ _) nd))
  clear hbg hge hle hcm hc0 hc1 hc2 hc3 hc4 hf0 hf1 hf2 hf3 hf4 HQ
  clear HI HB
  have HI := HIs; have HB := HBs; have HKs := HKs_
  clear HIs HBs HKs_
  generalize w.drewN nd = W1 at HI HB HKs ⊢
  obtain ⟨Az, cz, ⟨hbg, hge⟩, ⟨hle, hcm⟩, ⟨hc0, hc1, hc2, hc3, hc4⟩, ⟨hf0, hf1, hf2, hf3, hf4⟩, HQ⟩ := HI.out.cell
  go_upto_region 2 with fail
  have same : ∀ (ph : Nat) W', Drawn0 W1 W' → True := fun _ _ _ => trivial
  refine AnyEvents.region_then 12 (E := []) (C := fun (_ : Nat) W' => Drawn0 W1 W') (G := fun _ _ _ _ => True) (T := []) (R := fun _ _ _ _ => True) (vs := [?v9_0, ?v9_1, ?v9_2, ?v9_3, ?v9_4, ?v9_5, ?v9_6, ?v9_7, ?v9_8, ?v9_9, ?v9_10, ?v9_11]) (by kernel_rfl) (by kernel_rfl) rfl (by kernel_rfl) ?hc9r same (fun _ _ _ _ _ _ _ _ _ => trivial) (fun _ h => nomatch h) (fun x => ?obs9r) ?fin9r
  case hc9r => exact ⟨1, rfl⟩
  case obs9r =>
   refine AnyEvents.obs_cons ?v9_0 (val_hole (by simp only [List.getD_cons_zero, List.getD_cons_succ])) (AnyEvents.ob_plain (v := ?v9_0) rfl rfl rfl same (by simp only [List.getD_cons_zero, List.getD_cons_succ]) (fun ph W' hwn hW => ?_)) ?_
   ·obtain ⟨nd, rfl⟩ := hW; have z0 := drew_cell nd hc1; have z1 := drew_cell nd hc3; first | (go_simp; done) | (go_simp; (try simp only [i64_w]); rfl) | (go_simp; simp; rfl)
   try simp only [Act.put, List.setIfInBounds_toArray, List.set_cons_zero, List.set_cons_succ]
   refine AnyEvents.obs_cons ?v9_1 (val_hole (by simp only [List.getD_cons_zero, List.getD_cons_succ])) (AnyEvents.ob_plain (v := ?v9_1) rfl rfl rfl same (by simp only [List.getD_cons_zero, List.getD_cons_succ]) (fun ph W' hwn hW => ?_)) ?_
   ·obtain ⟨nd, rfl⟩ := hW; have z0 := drew_cell nd hc1; have z1 := drew_cell nd hc3; first | (go_simp; done) | (go_simp; (try simp only [i64_w]); rfl) | (go_simp; simp; rfl)
   try simp only [Act.put, List.setIfInBounds_toArray, List.set_cons_zero, List.set_cons_succ]
   refine AnyEvents.obs_cons ?v9_2 (val_hole (by simp only [List.getD_cons_zero, List.getD_cons_succ])) (AnyEvents.ob_plain (v := ?v9_2) rfl rfl rfl same (by simp only [List.getD_cons_zero, List.getD_cons_succ]) (fun ph W' hwn hW => ?_)) ?_
   ·obtain ⟨nd, rfl⟩ := hW; have z0 := drew_cell nd hc1; have z1 := drew_cell nd hc3; first | (go_simp; done) | (go_simp; (try simp only [i64_w]); rfl) | (go_simp; simp; rfl)
   try simp only [Act.put, List.setIfInBounds_toArray, List.set_cons_zero, List.set_cons_succ]
   refine AnyEvents.obs_cons ?v9_3 (val_hole (by simp only [List.getD_cons_zero, List.getD_cons_succ])) (AnyEvents.ob_plain (v := ?v9_3) rfl rfl rfl same (by simp only [List.getD_cons_zero, List.getD_cons_succ]) (fun ph W' hwn hW => ?_)) ?_
   ·obtain ⟨nd, rfl⟩ := hW; have z0 := drew_cell nd hc1; have z1 := drew_cell nd hc3; first | (go_simp; done) | (go_simp; (try simp only [i64_w]); rfl) | (go_simp; simp; rfl)
   try simp only [Act.put, List.setIfInBounds_toArray, List.set_cons_zero, List.set_cons_succ]
   refine AnyEvents.obs_cons ?v9_4 (val_hole (by simp only [List.getD_cons_zero, List.getD_cons_succ])) (AnyEvents.ob_plain (v := ?v9_4) rfl rfl rfl same (by simp only [List.getD_cons_zero, List.getD_cons_succ]) (fun ph W' hwn hW => ?_)) ?_
   ·obtain ⟨nd, rfl⟩ := hW; have z0 := drew_cell nd hc1; have z1 := drew_cell nd hc3; first | (go_simp; done) | (go_simp; (try simp only [i64_w]); rfl) | (go_simp; simp; rfl)
   try simp only [Act.put, List.setIfInBounds_toArray, List.set_cons_zero, List.set_cons_succ]
   refine AnyEvents.obs_cons ?v9_5 (val_hole (by simp only [List.getD_cons_zero, List.getD_cons_succ])) (AnyEvents.ob_plain (v := ?v9_5) rfl rfl rfl same (by simp only [List.getD_cons_zero, List.getD_cons_succ]) (fun ph W' hwn hW => ?_)) ?_
   ·obtain ⟨nd, rfl⟩ := hW; have z0 := drew_cell nd hc1; have z1 := drew_cell nd hc3; first | (go_simp; done) | (go_simp; (try simp only [i64_w]); rfl) | (go_simp; simp; rfl)
   try simp only [Act.put, List.setIfInBounds_toArray, List.set_cons_zero, List.set_cons_succ]
   refine AnyEvents.obs_cons ?v9_6 (val_hole (by simp only [List.getD_cons_zero, List.getD_cons_succ])) (AnyEvents.ob_plain (v := ?v9_6) rfl rfl rfl same (by simp only [List.getD_cons_zero, List.getD_cons_succ]) (fun ph W' hwn hW => ?_)) ?_
   ·obtain ⟨nd, rfl⟩ := hW; have z0 := drew_cell nd hc1; have z1 := drew_cell nd hc3; first | (go_simp; done) | (go_simp; (try simp only [i64_w]); rfl) | (go_simp; simp; rfl)
   try simp only [Act.put, List.setIfInBounds_toArray, List.set_cons_zero, List.set_cons_succ]
   refine AnyEvents.obs_cons ?v9_7 (val_hole (by simp only [List.getD_cons_zero, List.getD_cons_succ])) (AnyEvents.ob_plain (v := ?v9_7) rfl rfl rfl same (by simp only [List.getD_cons_zero, List.getD_cons_succ]) (fun ph W' hwn hW => ?_)) ?_
   ·obtain ⟨nd, rfl⟩ := hW; have z0 := drew_cell nd hc1; have z1 := drew_cell nd hc3; first | (go_simp; done) | (go_simp; (try simp only [i64_w]); rfl) | (go_simp; simp; rfl)
   try simp only [Act.put, List.setIfInBounds_toArray, List.set_cons_zero, List.set_cons_succ]
   refine AnyEvents.obs_cons ?v9_8 (val_hole (by simp only [List.getD_cons_zero, List.getD_cons_succ])) (AnyEvents.ob_plain (v := ?v9_8) rfl rfl rfl same (by simp only [List.getD_cons_zero, List.getD_cons_succ]) (fun ph W' hwn hW => ?_)) ?_
   ·obtain ⟨nd, rfl⟩ := hW; have z0 := drew_cell nd hc1; have z1 := drew_cell nd hc3; first | (go_simp; done) | (go_simp; (try simp only [i64_w]); rfl) | (go_simp; simp; rfl)
   try simp only [Act.put, List.setIfInBounds_toArray, List.set_cons_zero, List.set_cons_succ]
   refine AnyEvents.obs_cons ?v9_9 (val_hole (by simp only [List.getD_cons_zero, List.getD_cons_succ])) (AnyEvents.ob_plain (v := ?v9_9) rfl rfl rfl same (by simp only [List.getD_cons_zero, List.getD_cons_succ]) (fun ph W' hwn hW => ?_)) ?_
   ·obtain ⟨nd, rfl⟩ := hW; have z0 := drew_cell nd hc1; have z1 := drew_cell nd hc3; first | (go_simp; done) | (go_simp; (try simp only [i64_w]); rfl) | (go_simp; simp; rfl)
   try simp only [Act.put, List.setIfInBounds_toArray, List.set_cons_zero, List.set_cons_succ]
   refine AnyEvents.obs_cons ?v9_10 (val_hole (by simp only [List.getD_cons_zero, List.getD_cons_succ])) (AnyEvents.ob_plain (v := ?v9_10) rfl rfl rfl same (by simp only [List.getD_cons_zero, List.getD_cons_succ]) (fun ph W' hwn hW => ?_)) ?_
   ·obtain ⟨nd, rfl⟩ := hW; have z0 := drew_cell nd hc1; have z1 := drew_cell nd hc3; first | (go_simp; done) | (go_simp; (try simp only [i64_w]); rfl) | (go_simp; simp; rfl)
   try simp only [Act.put, List.setIfInBounds_toArray, List.set_cons_zero, List.set_cons_succ]
   refine AnyEvents.obs_cons ?v9_11 (val_hole (by simp only [List.getD_cons_zero, List.getD_cons_succ])) (AnyEvents.ob_plain (v := ?v9_11) rfl rfl rfl same (by simp only [List.getD_cons_zero, List.getD_cons_succ]) (fun ph W' hwn hW => ?_)) ?_
   ·obtain ⟨nd, rfl⟩ := hW; have z0 := drew_cell nd hc1; have z1 := drew_cell nd hc3; first | (go_simp; done) | (go_simp; (try simp only [i64_w]); rfl) | (go_simp; simp; rfl)
   try simp only [Act.put, List.setIfInBounds_toArray, List.set_cons_zero, List.set_cons_succ]
   trivial
  case fin9r =>
   intro x W' hD _
   simp only [List.take_succ_cons, List.take_zero, List.drop_succ_cons, List.drop_zero]
   rw [AnyOrder.lexAt_cons ?v9_0 (val_hole (by simp only [List.getD_cons_zero, List.getD_cons_succ]))]
   try simp only [Act.put, List.setIfInBounds_toArray, List.set_cons_zero, List.set_cons_succ]
   rw [AnyOrder.lexAt_cons ?v9_1 (val_hole (by simp only [List.getD_cons_zero, List.getD_cons_succ]))]
   try simp only [Act.put, List.setIfInBounds_toArray, List.set_cons_zero, List.set_cons_succ]
   rw [AnyOrder.lexAt_cons ?v9_2 (val_hole (by simp only [List.getD_cons_zero, List.getD_cons_succ]))]
   try simp only [Act.put, List.setIfInBounds_toArray, List.set_cons_zero, List.set_cons_succ]
   rw [AnyOrder.lexAt_cons ?v9_3 (val_hole (by simp only [List.getD_cons_zero, List.getD_cons_succ]))]
   try simp only [Act.put, List.setIfInBounds_toArray, List.set_cons_zero, List.set_cons_succ]
   rw [AnyOrder.lexAt_cons ?v9_4 (val_hole (by simp only [List.getD_cons_zero, List.getD_cons_succ]))]
   try simp only [Act.put, List.setIfInBounds_toArray, List.set_cons_zero, List.set_cons_succ]
   rw [AnyOrder.lexAt_cons ?v9_5 (val_hole (by simp only [List.getD_cons_zero, List.getD_cons_succ]))]
   try simp only [Act.put, List.setIfInBounds_toArray, List.set_cons_zero, List.set_cons_succ]
   rw [AnyOrder.lexAt_cons ?v9_6 (val_hole (by simp only [List.getD_cons_zero, List.getD_cons_succ]))]
   try simp only [Act.put, List.setIfInBounds_toArray, List.set_cons_zero, List.set_cons_succ]
   rw [AnyOrder.lexAt_cons ?v9_7 (val_hole (by simp only [List.getD_cons_zero, List.getD_cons_succ]))]
   try simp only [Act.put, List.setIfInBounds_toArray, List.set_cons_zero, List.set_cons_succ]
   rw [AnyOrder.lexAt_cons ?v9_8 (val_hole (by simp only [List.getD_cons_zero, List.getD_cons_succ]))]
   try simp only [Act.put, List.setIfInBounds_toArray, List.set_cons_zero, List.set_cons_succ]
   rw [AnyOrder.lexAt_cons ?v9_9 (val_hole (by simp only [List.getD_cons_zero, List.getD_cons_succ]))]
   try simp only [Act.put, List.setIfInBounds_toArray, List.set_cons_zero, List.set_cons_succ]
   rw [AnyOrder.lexAt_cons ?v9_10 (val_hole (by simp only [List.getD_cons_zero, List.getD_cons_succ]))]
   try simp only [Act.put, List.setIfInBounds_toArray, List.set_cons_zero, List.set_cons_succ]
   rw [AnyOrder.lexAt_cons ?v9_11 (val_hole (by simp only [List.getD_cons_zero, List.getD_cons_succ]))]
   try simp only [Act.put, List.setIfInBounds_toArray, List.set_cons_zero, List.set_cons_succ]
   rw [AnyOrder.lexAt_nil]
   clear same
   obtain ⟨nd, rfl⟩ := hD
   rw [HN8.out]
   have hn9 := HN9.out
   have HIs := Aside0.mk (show QAt (W1.drewN nd) w0.heap.size g q from HI.out.drawn rfl)
   have HBs := Aside0.mk (pw_below_drewN HB.out nd)
   have HKs_ := Aside0.mk (HKs.out.trans (show KeepG g W1 (W1.drewN nd) from KeepG.of_below (pw_below_drewN (Below.refl _ _) nd)))
   clear hbg hge hle hcm hc0 hc1 hc2 hc3 hc4 hf0 hf1 hf2 hf3 hf4 HQ
   clear HI HB HKs
   have HI := HIs; have HB := HBs; have HKs := HKs_
   clear HIs HBs HKs_
   generalize W1.drewN nd = W2 at HI HB HKs ⊢
   obtain ⟨Az, cz, ⟨hbg, hge⟩, ⟨hle, hcm⟩, ⟨hc0, hc1, hc2, hc3, hc4⟩, ⟨hf0, hf1, hf2, hf3, hf4⟩, HQ⟩ := HI.out.cell
   go_wp2
   go_ret2
   exact ⟨rfl, HI.out, HB.out, HKs.out⟩
 have d1 : decide (n9 < 1) = false := decide_eq_false c1
 by_cases c2 : window ≤ q.sent
 ·have e : q.next window most = (q, (⟨#[]⟩ : ByteArray)) := by unfold QS.next; rw [if_pos (.inr (.inr c2))]
  rw [e]
  have d2 : decide (window ≤ q.sent) = true := decide_eq_true c2
  clear e hn8 hn8' hn9 hl c1 c2 hs hw
  obtain ⟨Az, cz, ⟨hbg, hge⟩, ⟨hle, hcm⟩, ⟨hc0, hc1, hc2, hc3, hc4⟩, ⟨hf0, hf1, hf2, hf3, hf4⟩, HQ⟩ := HI.out.cell
  go_enter Try.func12, Try.ntmps12
  go_wp2_with fail
  refine (sendq_Queue_at.calls g q q.sent w0 _ HI.out HL.out (by have := HS.out; omega)).mono ?_
  rintro e W1 ⟨rfl, nd, rfl⟩
  have HIs := Aside0.mk (show QAt (w.drewN nd) w0.heap.size g q from HI.out.drawn rfl)
  have HBs := Aside0.mk (pw_below_drewN HB.out nd)
  have HKs_ := Aside0.mk (show KeepG g w (w.drewN nd) from KeepG.of_below (pw_below_drewN (Below.refl _ _) nd))
  clear hbg hge hle hcm hc0 hc1 hc2 hc3 hc4 hf0 hf1 hf2 hf3 hf4 HQ
  clear HI HB
  have HI := HIs; have HB := HBs; have HKs := HKs_
  clear HIs HBs HKs_
  generalize w.drewN nd = W1 at HI HB HKs ⊢
  obtain ⟨Az, cz, ⟨hbg, hge⟩, ⟨hle, hcm⟩, ⟨hc0, hc1, hc2, hc3, hc4⟩, ⟨hf0, hf1, hf2, hf3, hf4⟩, HQ⟩ := HI.out.cell
  go_upto_region 2 with fail
  have same : ∀ (ph : Nat) W', Drawn0 W1 W' → True := fun _ _ _ => trivial
  refine AnyEvents.region_then 12 (E := []) (C := fun (_ : Nat) W' => Drawn0 W1 W') (G := fun _ _ _ _ => True) (T := []) (R := fun _ _ _ _ => True) (vs := [?v10_0, ?v10_1, ?v10_2, ?v10_3, ?v10_4, ?v10_5, ?v10_6, ?v10_7, ?v10_8, ?v10_9, ?v10_10, ?v10_11]) (by kernel_rfl) (by kernel_rfl) rfl (by kernel_rfl) ?hc10r same (fun _ _ _ _ _ _ _ _ _ => trivial) (fun _ h => nomatch h) (fun x => ?obs10r) ?fin10r
  case hc10r => exact ⟨1, rfl⟩
  case obs10r =>
   refine AnyEvents.obs_cons ?v10_0 (val_hole (by simp only [List.getD_cons_zero, List.getD_cons_succ])) (AnyEvents.ob_plain (v := ?v10_0) rfl rfl rfl same (by simp only [List.getD_cons_zero, List.getD_cons_succ]) (fun ph W' hwn hW => ?_)) ?_
   ·obtain ⟨nd, rfl⟩ := hW; have z0 := drew_cell nd hc1; have z1 := drew_cell nd hc3; first | (go_simp; done) | (go_simp; (try simp only [i64_w]); rfl) | (go_simp; simp; rfl)
   try simp only [Act.put, List.setIfInBounds_toArray, List.set_cons_zero, List.set_cons_succ]
   refine AnyEvents.obs_cons ?v10_1 (val_hole (by simp only [List.getD_cons_zero, List.getD_cons_succ])) (AnyEvents.ob_plain (v := ?v10_1) rfl rfl rfl same (by simp only [List.getD_cons_zero, List.getD_cons_succ]) (fun ph W' hwn hW => ?_)) ?_
   ·obtain ⟨nd, rfl⟩ := hW; have z0 := drew_cell nd hc1; have z1 := drew_cell nd hc3; first | (go_simp; done) | (go_simp; (try simp only [i64_w]); rfl) | (go_simp; simp; rfl)
   try simp only [Act.put, List.setIfInBounds_toArray, List.set_cons_zero, List.set_cons_succ]
   refine AnyEvents.obs_cons ?v10_2 (val_hole (by simp only [List.getD_cons_zero, List.getD_cons_succ])) (AnyEvents.ob_plain (v := ?v10_2) rfl rfl rfl same (by simp only [List.getD_cons_zero, List.getD_cons_succ]) (fun ph W' hwn hW => ?_)) ?_
   ·obtain ⟨nd, rfl⟩ := hW; have z0 := drew_cell nd hc1; have z1 := drew_cell nd hc3; first | (go_simp; done) | (go_simp; (try simp only [i64_w]); rfl) | (go_simp; simp; rfl)
   try simp only [Act.put, List.setIfInBounds_toArray, List.set_cons_zero, List.set_cons_succ]
   refine AnyEvents.obs_cons ?v10_3 (val_hole (by simp only [List.getD_cons_zero, List.getD_cons_succ])) (AnyEvents.ob_plain (v := ?v10_3) rfl rfl rfl same (by simp only [List.getD_cons_zero, List.getD_cons_succ]) (fun ph W' hwn hW => ?_)) ?_
   ·obtain ⟨nd, rfl⟩ := hW; have z0 := drew_cell nd hc1; have z1 := drew_cell nd hc3; first | (go_simp; done) | (go_simp; (try simp only [i64_w]); rfl) | (go_simp; simp; rfl)
   try simp only [Act.put, List.setIfInBounds_toArray, List.set_cons_zero, List.set_cons_succ]
   refine AnyEvents.obs_cons ?v10_4 (val_hole (by simp only [List.getD_cons_zero, List.getD_cons_succ])) (AnyEvents.ob_plain (v := ?v10_4) rfl rfl rfl same (by simp only [List.getD_cons_zero, List.getD_cons_succ]) (fun ph W' hwn hW => ?_)) ?_
   ·obtain ⟨nd, rfl⟩ := hW; have z0 := drew_cell nd hc1; have z1 := drew_cell nd hc3; first | (go_simp; done) | (go_simp; (try simp only [i64_w]); rfl) | (go_simp; simp; rfl)
   try simp only [Act.put, List.setIfInBounds_toArray, List.set_cons_zero, List.set_cons_succ]
   refine AnyEvents.obs_cons ?v10_5 (val_hole (by simp only [List.getD_cons_zero, List.getD_cons_succ])) (AnyEvents.ob_plain (v := ?v10_5) rfl rfl rfl same (by simp only [List.getD_cons_zero, List.getD_cons_succ]) (fun ph W' hwn hW => ?_)) ?_
   ·obtain ⟨nd, rfl⟩ := hW; have z0 := drew_cell nd hc1; have z1 := drew_cell nd hc3; first | (go_simp; done) | (go_simp; (try simp only [i64_w]); rfl) | (go_simp; simp; rfl)
   try simp only [Act.put, List.setIfInBounds_toArray, List.set_cons_zero, List.set_cons_succ]
   refine AnyEvents.obs_cons ?v10_6 (val_hole (by simp only [List.getD_cons_zero, List.getD_cons_succ])) (AnyEvents.ob_plain (v := ?v10_6) rfl rfl rfl same (by simp only [List.getD_cons_zero, List.getD_cons_succ]) (fun ph W' hwn hW => ?_)) ?_
   ·obtain ⟨nd, rfl⟩ := hW; have z0 := drew_cell nd hc1; have z1 := drew_cell nd hc3; first | (go_simp; done) | (go_simp; (try simp only [i64_w]); rfl) | (go_simp; simp; rfl)
   try simp only [Act.put, List.setIfInBounds_toArray, List.set_cons_zero, List.set_cons_succ]
   refine AnyEvents.obs_cons ?v10_7 (val_hole (by simp only [List.getD_cons_zero, List.getD_cons_succ])) (AnyEvents.ob_plain (v := ?v10_7) rfl rfl rfl same (by simp only [List.getD_cons_zero, List.getD_cons_succ]) (fun ph W' hwn hW => ?_)) ?_
   ·obtain ⟨nd, rfl⟩ := hW; have z0 := drew_cell nd hc1; have z1 := drew_cell nd hc3; first | (go_simp; done) | (go_simp; (try simp only [i64_w]); rfl) | (go_simp; simp; rfl)
   try simp only [Act.put, List.setIfInBounds_toArray, List.set_cons_zero, List.set_cons_succ]
   refine AnyEvents.obs_cons ?v10_8 (val_hole (by simp only [List.getD_cons_zero, List.getD_cons_succ])) (AnyEvents.ob_plain (v := ?v10_8) rfl rfl rfl same (by simp only [List.getD_cons_zero, List.getD_cons_succ]) (fun ph W' hwn hW => ?_)) ?_
   ·obtain ⟨nd, rfl⟩ := hW; have z0 := drew_cell nd hc1; have z1 := drew_cell nd hc3; first | (go_simp; done) | (go_simp; (try simp only [i64_w]); rfl) | (go_simp; simp; rfl)
   try simp only [Act.put, List.setIfInBounds_toArray, List.set_cons_zero, List.set_cons_succ]
   refine AnyEvents.obs_cons ?v10_9 (val_hole (by simp only [List.getD_cons_zero, List.getD_cons_succ])) (AnyEvents.ob_plain (v := ?v10_9) rfl rfl rfl same (by simp only [List.getD_cons_zero, List.getD_cons_succ]) (fun ph W' hwn hW => ?_)) ?_
   ·obtain ⟨nd, rfl⟩ := hW; have z0 := drew_cell nd hc1; have z1 := drew_cell nd hc3; first | (go_simp; done) | (go_simp; (try simp only [i64_w]); rfl) | (go_simp; simp; rfl)
   try simp only [Act.put, List.setIfInBounds_toArray, List.set_cons_zero, List.set_cons_succ]
   refine AnyEvents.obs_cons ?v10_10 (val_hole (by simp only [List.getD_cons_zero, List.getD_cons_succ])) (AnyEvents.ob_plain (v := ?v10_10) rfl rfl rfl same (by simp only [List.getD_cons_zero, List.getD_cons_succ]) (fun ph W' hwn hW => ?_)) ?_
   ·obtain ⟨nd, rfl⟩ := hW; have z0 := drew_cell nd hc1; have z1 := drew_cell nd hc3; first | (go_simp; done) | (go_simp; (try simp only [i64_w]); rfl) | (go_simp; simp; rfl)
   try simp only [Act.put, List.setIfInBounds_toArray, List.set_cons_zero, List.set_cons_succ]
   refine AnyEvents.obs_cons ?v10_11 (val_hole (by simp only [List.getD_cons_zero, List.getD_cons_succ])) (AnyEvents.ob_plain (v := ?v10_11) rfl rfl rfl same (by simp only [List.getD_cons_zero, List.getD_cons_succ]) (fun ph W' hwn hW => ?_)) ?_
   ·obtain ⟨nd, rfl⟩ := hW; have z0 := drew_cell nd hc1; have z1 := drew_cell nd hc3; first | (go_simp; done) | (go_simp; (try simp only [i64_w]); rfl) | (go_simp; simp; rfl)
   try simp only [Act.put, List.setIfInBounds_toArray, List.set_cons_zero, List.set_cons_succ]
   trivial
  case fin10r =>
   intro x W' hD _
   simp only [List.take_succ_cons, List.take_zero, List.drop_succ_cons, List.drop_zero]
   rw [AnyOrder.lexAt_cons ?v10_0 (val_hole (by simp only [List.getD_cons_zero, List.getD_cons_succ]))]
   try simp only [Act.put, List.setIfInBounds_toArray, List.set_cons_zero, List.set_cons_succ]
   rw [AnyOrder.lexAt_cons ?v10_1 (val_hole (by simp only [List.getD_cons_zero, List.getD_cons_succ]))]
   try simp only [Act.put, List.setIfInBounds_toArray, List.set_cons_zero, List.set_cons_succ]
   rw [AnyOrder.lexAt_cons ?v10_2 (val_hole (by simp only [List.getD_cons_zero, List.getD_cons_succ]))]
   try simp only [Act.put, List.setIfInBounds_toArray, List.set_cons_zero, List.set_cons_succ]
   rw [AnyOrder.lexAt_cons ?v10_3 (val_hole (by simp only [List.getD_cons_zero, List.getD_cons_succ]))]
   try simp only [Act.put, List.setIfInBounds_toArray, List.set_cons_zero, List.set_cons_succ]
   rw [AnyOrder.lexAt_cons ?v10_4 (val_hole (by simp only [List.getD_cons_zero, List.getD_cons_succ]))]
   try simp only [Act.put, List.setIfInBounds_toArray, List.set_cons_zero, List.set_cons_succ]
   rw [AnyOrder.lexAt_cons ?v10_5 (val_hole (by simp only [List.getD_cons_zero, List.getD_cons_succ]))]
   try simp only [Act.put, List.setIfInBounds_toArray, List.set_cons_zero, List.set_cons_succ]
   rw [AnyOrder.lexAt_cons ?v10_6 (val_hole (by simp only [List.getD_cons_zero, List.getD_cons_succ]))]
   try simp only [Act.put, List.setIfInBounds_toArray, List.set_cons_zero, List.set_cons_succ]
   rw [AnyOrder.lexAt_cons ?v10_7 (val_hole (by simp only [List.getD_cons_zero, List.getD_cons_succ]))]
   try simp only [Act.put, List.setIfInBounds_toArray, List.set_cons_zero, List.set_cons_succ]
   rw [AnyOrder.lexAt_cons ?v10_8 (val_hole (by simp only [List.getD_cons_zero, List.getD_cons_succ]))]
   try simp only [Act.put, List.setIfInBounds_toArray, List.set_cons_zero, List.set_cons_succ]
   rw [AnyOrder.lexAt_cons ?v10_9 (val_hole (by simp only [List.getD_cons_zero, List.getD_cons_succ]))]
   try simp only [Act.put, List.setIfInBounds_toArray, List.set_cons_zero, List.set_cons_succ]
   rw [AnyOrder.lexAt_cons ?v10_10 (val_hole (by simp only [List.getD_cons_zero, List.getD_cons_succ]))]
   try simp only [Act.put, List.setIfInBounds_toArray, List.set_cons_zero, List.set_cons_succ]
   rw [AnyOrder.lexAt_cons ?v10_11 (val_hole (by simp only [List.getD_cons_zero, List.getD_cons_succ]))]
   try simp only [Act.put, List.setIfInBounds_toArray, List.set_cons_zero, List.set_cons_succ]
   rw [AnyOrder.lexAt_nil]
   clear same
   obtain ⟨nd, rfl⟩ := hD
   rw [HN8.out]
   have hn9 := HN9.out
   have HIs := Aside0.mk (show QAt (W1.drewN nd) w0.heap.size g q from HI.out.drawn rfl)
   have HBs := Aside0.mk (pw_below_drewN HB.out nd)
   have HKs_ := Aside0.mk (HKs.out.trans (show KeepG g W1 (W1.drewN nd) from KeepG.of_below (pw_below_drewN (Below.refl _ _) nd)))
   clear hbg hge hle hcm hc0 hc1 hc2 hc3 hc4 hf0 hf1 hf2 hf3 hf4 HQ
   clear HI HB HKs
   have HI := HIs; have HB := HBs; have HKs := HKs_
   clear HIs HBs HKs_
   generalize W1.drewN nd = W2 at HI HB HKs ⊢
   obtain ⟨Az, cz, ⟨hbg, hge⟩, ⟨hle, hcm⟩, ⟨hc0, hc1, hc2, hc3, hc4⟩, ⟨hf0, hf1, hf2, hf3, hf4⟩, HQ⟩ := HI.out.cell
   go_wp2
   go_ret2
   exact ⟨rfl, HI.out, HB.out, HKs.out⟩
 have d2 : decide (window ≤ q.sent) = false := decide_eq_false c2
 have hwm : ¬ (window < 1 ∨ most < 1 ∨ window ≤ q.sent) := by rw [← hn9] at c1; split at c1 <;> omega
 obtain ⟨m, hm⟩ : ∃ m_, q.nextN window most = m_ := ⟨_, rfl⟩
 have e : q.next window most = ({ q with sent := q.sent + (m : Int) }, cutS q.s q.sent.toNat (q.sent.toNat + m)) := by unfold QS.next; rw [if_neg hwm, hm]
 rw [e]
 have hm5 : (if wrap64 (window - q.sent) < n8 then wrap64 (window - q.sent) else n8) = (m : Int) := by
  rw [w64p (by omega) (by omega), ← hm, ← hn8]; unfold QS.nextN
  split <;> split <;> omega
 have hmle : q.sent + (m : Int) ≤ (q.s.size : Int) := by
  have : (m : Int) ≤ n8 ∨ (m : Int) ≤ window - q.sent := by rw [w64p (by omega) (by omega)] at hm5; rw [← hm5]; split <;> omega
  rw [← hm]; unfold QS.nextN; omega
 have HM := Aside0.mk hm5
 have HML := Aside0.mk hmle
 have hsm : wrap64 (q.sent + (m : Int)) = q.sent + (m : Int) := w64p (by omega) (by omega)
 have HSM := Aside0.mk hsm
 have hcz : (cutS q.s q.sent.toNat (q.sent.toNat + m)).size = m := by unfold cutS; simp; omega
 have HCZ := Aside0.mk hcz
 clear e hn8 hn8' hn9 hl c1 c2 hs hw hwm hm hm5 hmle hsm hcz
 obtain ⟨Az, cz, ⟨hbg, hge⟩, ⟨hle, hcm⟩, ⟨hc0, hc1, hc2, hc3, hc4⟩, ⟨hf0, hf1, hf2, hf3, hf4⟩, HQ⟩ := HI.out.cell
 go_enter Try.func12, Try.ntmps12
 go_wp2_with fail
 refine (sendq_Queue_at.calls g q q.sent w0 _ HI.out HL.out (by have := HS.out; omega)).mono ?_
 rintro e W1 ⟨rfl, nd, rfl⟩
 have HIs := Aside0.mk (show QAt (w.drewN nd) w0.heap.size g q from HI.out.drawn rfl)
 have HBs := Aside0.mk (pw_below_drewN HB.out nd)
 have HKs_ := Aside0.mk (show KeepG g w (w.drewN nd) from KeepG.of_below (pw_below_drewN (Below.refl _ _) nd))
 clear hbg hge hle hcm hc0 hc1 hc2 hc3 hc4 hf0 hf1 hf2 hf3 hf4 HQ
 clear HI HB
 have HI := HIs; have HB := HBs; have HKs := HKs_
 clear HIs HBs HKs_
 generalize w.drewN nd = W1 at HI HB HKs ⊢
 obtain ⟨Az, cz, ⟨hbg, hge⟩, ⟨hle, hcm⟩, ⟨hc0, hc1, hc2, hc3, hc4⟩, ⟨hf0, hf1, hf2, hf3, hf4⟩, HQ⟩ := HI.out.cell
 go_upto_region 2 with fail
 have same : ∀ (ph : Nat) W', Drawn0 W1 W' → True := fun _ _ _ => trivial
 refine AnyEvents.region_then 12 (E := []) (C := fun (_ : Nat) W' => Drawn0 W1 W') (G := fun _ _ _ _ => True) (T := []) (R := fun _ _ _ _ => True) (vs := [?v11_0, ?v11_1, ?v11_2, ?v11_3, ?v11_4, ?v11_5, ?v11_6, ?v11_7, ?v11_8, ?v11_9, ?v11_10, ?v11_11]) (by kernel_rfl) (by kernel_rfl) rfl (by kernel_rfl) ?hc11r same (fun _ _ _ _ _ _ _ _ _ => trivial) (fun _ h => nomatch h) (fun x => ?obs11r) ?fin11r
 case hc11r => exact ⟨1, rfl⟩
 case obs11r =>
  refine AnyEvents.obs_cons ?v11_0 (val_hole (by simp only [List.getD_cons_zero, List.getD_cons_succ])) (AnyEvents.ob_plain (v := ?v11_0) rfl rfl rfl same (by simp only [List.getD_cons_zero, List.getD_cons_succ]) (fun ph W' hwn hW => ?_)) ?_
  ·obtain ⟨nd, rfl⟩ := hW; have z0 := drew_cell nd hc1; have z1 := drew_cell nd hc3; first | (go_simp; done) | (go_simp; (try simp only [i64_w]); rfl) | (go_simp; simp; rfl)
  try simp only [Act.put, List.setIfInBounds_toArray, List.set_cons_zero, List.set_cons_succ]
  refine AnyEvents.obs_cons ?v11_1 (val_hole (by simp only [List.getD_cons_zero, List.getD_cons_succ])) (AnyEvents.ob_plain (v := ?v11_1) rfl rfl rfl same (by simp only [List.getD_cons_zero, List.getD_cons_succ]) (fun ph W' hwn hW => ?_)) ?_
  ·obtain ⟨nd, rfl⟩ := hW; have z0 := drew_cell nd hc1; have z1 := drew_cell nd hc3; first | (go_simp; done) | (go_simp; (try simp only [i64_w]); rfl) | (go_simp; simp; rfl)
  try simp only [Act.put, List.setIfInBounds_toArray, List.set_cons_zero, List.set_cons_succ]
  refine AnyEvents.obs_cons ?v11_2 (val_hole (by simp only [List.getD_cons_zero, List.getD_cons_succ])) (AnyEvents.ob_plain (v := ?v11_2) rfl rfl rfl same (by simp only [List.getD_cons_zero, List.getD_cons_succ]) (fun ph W' hwn hW => ?_)) ?_
  ·obtain ⟨nd, rfl⟩ := hW; have z0 := drew_cell nd hc1; have z1 := drew_cell nd hc3; first | (go_simp; done) | (go_simp; (try simp only [i64_w]); rfl) | (go_simp; simp; rfl)
  try simp only [Act.put, List.setIfInBounds_toArray, List.set_cons_zero, List.set_cons_succ]
  refine AnyEvents.obs_cons ?v11_3 (val_hole (by simp only [List.getD_cons_zero, List.getD_cons_succ])) (AnyEvents.ob_plain (v := ?v11_3) rfl rfl rfl same (by simp only [List.getD_cons_zero, List.getD_cons_succ]) (fun ph W' hwn hW => ?_)) ?_
  ·obtain ⟨nd, rfl⟩ := hW; have z0 := drew_cell nd hc1; have z1 := drew_cell nd hc3; first | (go_simp; done) | (go_simp; (try simp only [i64_w]); rfl) | (go_simp; simp; rfl)
  try simp only [Act.put, List.setIfInBounds_toArray, List.set_cons_zero, List.set_cons_succ]
  refine AnyEvents.obs_cons ?v11_4 (val_hole (by simp only [List.getD_cons_zero, List.getD_cons_succ])) (AnyEvents.ob_plain (v := ?v11_4) rfl rfl rfl same (by simp only [List.getD_cons_zero, List.getD_cons_succ]) (fun ph W' hwn hW => ?_)) ?_
  ·obtain ⟨nd, rfl⟩ := hW; have z0 := drew_cell nd hc1; have z1 := drew_cell nd hc3; first | (go_simp; done) | (go_simp; (try simp only [i64_w]); rfl) | (go_simp; simp; rfl)
  try simp only [Act.put, List.setIfInBounds_toArray, List.set_cons_zero, List.set_cons_succ]
  refine AnyEvents.obs_cons ?v11_5 (val_hole (by simp only [List.getD_cons_zero, List.getD_cons_succ])) (AnyEvents.ob_plain (v := ?v11_5) rfl rfl rfl same (by simp only [List.getD_cons_zero, List.getD_cons_succ]) (fun ph W' hwn hW => ?_)) ?_
  ·obtain ⟨nd, rfl⟩ := hW; have z0 := drew_cell nd hc1; have z1 := drew_cell nd hc3; first | (go_simp; done) | (go_simp; (try simp only [i64_w]); rfl) | (go_simp; simp; rfl)
  try simp only [Act.put, List.setIfInBounds_toArray, List.set_cons_zero, List.set_cons_succ]
  refine AnyEvents.obs_cons ?v11_6 (val_hole (by simp only [List.getD_cons_zero, List.getD_cons_succ])) (AnyEvents.ob_plain (v := ?v11_6) rfl rfl rfl same (by simp only [List.getD_cons_zero, List.getD_cons_succ]) (fun ph W' hwn hW => ?_)) ?_
  ·obtain ⟨nd, rfl⟩ := hW; have z0 := drew_cell nd hc1; have z1 := drew_cell nd hc3; first | (go_simp; done) | (go_simp; (try simp only [i64_w]); rfl) | (go_simp; simp; rfl)
  try simp only [Act.put, List.setIfInBounds_toArray, List.set_cons_zero, List.set_cons_succ]
  refine AnyEvents.obs_cons ?v11_7 (val_hole (by simp only [List.getD_cons_zero, List.getD_cons_succ])) (AnyEvents.ob_plain (v := ?v11_7) rfl rfl rfl same (by simp only [List.getD_cons_zero, List.getD_cons_succ]) (fun ph W' hwn hW => ?_)) ?_
  ·obtain ⟨nd, rfl⟩ := hW; have z0 := drew_cell nd hc1; have z1 := drew_cell nd hc3; first | (go_simp; done) | (go_simp; (try simp only [i64_w]); rfl) | (go_simp; simp; rfl)
  try simp only [Act.put, List.setIfInBounds_toArray, List.set_cons_zero, List.set_cons_succ]
  refine AnyEvents.obs_cons ?v11_8 (val_hole (by simp only [List.getD_cons_zero, List.getD_cons_succ])) (AnyEvents.ob_plain (v := ?v11_8) rfl rfl rfl same (by simp only [List.getD_cons_zero, List.getD_cons_succ]) (fun ph W' hwn hW => ?_)) ?_
  ·obtain ⟨nd, rfl⟩ := hW; have z0 := drew_cell nd hc1; have z1 := drew_cell nd hc3; first | (go_simp; done) | (go_simp; (try simp only [i64_w]); rfl) | (go_simp; simp; rfl)
  try simp only [Act.put, List.setIfInBounds_toArray, List.set_cons_zero, List.set_cons_succ]
  refine AnyEvents.obs_cons ?v11_9 (val_hole (by simp only [List.getD_cons_zero, List.getD_cons_succ])) (AnyEvents.ob_plain (v := ?v11_9) rfl rfl rfl same (by simp only [List.getD_cons_zero, List.getD_cons_succ]) (fun ph W' hwn hW => ?_)) ?_
  ·obtain ⟨nd, rfl⟩ := hW; have z0 := drew_cell nd hc1; have z1 := drew_cell nd hc3; first | (go_simp; done) | (go_simp; (try simp only [i64_w]); rfl) | (go_simp; simp; rfl)
  try simp only [Act.put, List.setIfInBounds_toArray, List.set_cons_zero, List.set_cons_succ]
  refine AnyEvents.obs_cons ?v11_10 (val_hole (by simp only [List.getD_cons_zero, List.getD_cons_succ])) (AnyEvents.ob_plain (v := ?v11_10) rfl rfl rfl same (by simp only [List.getD_cons_zero, List.getD_cons_succ]) (fun ph W' hwn hW => ?_)) ?_
  ·obtain ⟨nd, rfl⟩ := hW; have z0 := drew_cell nd hc1; have z1 := drew_cell nd hc3; first | (go_simp; done) | (go_simp; (try simp only [i64_w]); rfl) | (go_simp; simp; rfl)
  try simp only [Act.put, List.setIfInBounds_toArray, List.set_cons_zero, List.set_cons_succ]
  refine AnyEvents.obs_cons ?v11_11 (val_hole (by simp only [List.getD_cons_zero, List.getD_cons_succ])) (AnyEvents.ob_plain (v := ?v11_11) rfl rfl rfl same (by simp only [List.getD_cons_zero, List.getD_cons_succ]) (fun ph W' hwn hW => ?_)) ?_
  ·obtain ⟨nd, rfl⟩ := hW; have z0 := drew_cell nd hc1; have z1 := drew_cell nd hc3; first | (go_simp; done) | (go_simp; (try simp only [i64_w]); rfl) | (go_simp; simp; rfl)
  try simp only [Act.put, List.setIfInBounds_toArray, List.set_cons_zero, List.set_cons_succ]
  trivial
 case fin11r =>
  intro x W' hD _
  simp only [List.take_succ_cons, List.take_zero, List.drop_succ_cons, List.drop_zero]
  rw [AnyOrder.lexAt_cons ?v11_0 (val_hole (by simp only [List.getD_cons_zero, List.getD_cons_succ]))]
  try simp only [Act.put, List.setIfInBounds_toArray, List.set_cons_zero, List.set_cons_succ]
  rw [AnyOrder.lexAt_cons ?v11_1 (val_hole (by simp only [List.getD_cons_zero, List.getD_cons_succ]))]
  try simp only [Act.put, List.setIfInBounds_toArray, List.set_cons_zero, List.set_cons_succ]
  rw [AnyOrder.lexAt_cons ?v11_2 (val_hole (by simp only [List.getD_cons_zero, List.getD_cons_succ]))]
  try simp only [Act.put, List.setIfInBounds_toArray, List.set_cons_zero, List.set_cons_succ]
  rw [AnyOrder.lexAt_cons ?v11_3 (val_hole (by simp only [List.getD_cons_zero, List.getD_cons_succ]))]
  try simp only [Act.put, List.setIfInBounds_toArray, List.set_cons_zero, List.set_cons_succ]
  rw [AnyOrder.lexAt_cons ?v11_4 (val_hole (by simp only [List.getD_cons_zero, List.getD_cons_succ]))]
  try simp only [Act.put, List.setIfInBounds_toArray, List.set_cons_zero, List.set_cons_succ]
  rw [AnyOrder.lexAt_cons ?v11_5 (val_hole (by simp only [List.getD_cons_zero, List.getD_cons_succ]))]
  try simp only [Act.put, List.setIfInBounds_toArray, List.set_cons_zero, List.set_cons_succ]
  rw [AnyOrder.lexAt_cons ?v11_6 (val_hole (by simp only [List.getD_cons_zero, List.getD_cons_succ]))]
  try simp only [Act.put, List.setIfInBounds_toArray, List.set_cons_zero, List.set_cons_succ]
  rw [AnyOrder.lexAt_cons ?v11_7 (val_hole (by simp only [List.getD_cons_zero, List.getD_cons_succ]))]
  try simp only [Act.put, List.setIfInBounds_toArray, List.set_cons_zero, List.set_cons_succ]
  rw [AnyOrder.lexAt_cons ?v11_8 (val_hole (by simp only [List.getD_cons_zero, List.getD_cons_succ]))]
  try simp only [Act.put, List.setIfInBounds_toArray, List.set_cons_zero, List.set_cons_succ]
  rw [AnyOrder.lexAt_cons ?v11_9 (val_hole (by simp only [List.getD_cons_zero, List.getD_cons_succ]))]
  try simp only [Act.put, List.setIfInBounds_toArray, List.set_cons_zero, List.set_cons_succ]
  rw [AnyOrder.lexAt_cons ?v11_10 (val_hole (by simp only [List.getD_cons_zero, List.getD_cons_succ]))]
  try simp only [Act.put, List.setIfInBounds_toArray, List.set_cons_zero, List.set_cons_succ]
  rw [AnyOrder.lexAt_cons ?v11_11 (val_hole (by simp only [List.getD_cons_zero, List.getD_cons_succ]))]
  try simp only [Act.put, List.setIfInBounds_toArray, List.set_cons_zero, List.set_cons_succ]
  rw [AnyOrder.lexAt_nil]
  clear same
  obtain ⟨nd, rfl⟩ := hD
  rw [HN8.out]
  have hn9 := HN9.out
  have HIs := Aside0.mk (show QAt (W1.drewN nd) w0.heap.size g q from HI.out.drawn rfl)
  have HBs := Aside0.mk (pw_below_drewN HB.out nd)
  have HKs_ := Aside0.mk (HKs.out.trans (show KeepG g W1 (W1.drewN nd) from KeepG.of_below (pw_below_drewN (Below.refl _ _) nd)))
  clear hbg hge hle hcm hc0 hc1 hc2 hc3 hc4 hf0 hf1 hf2 hf3 hf4 HQ
  clear HI HB HKs
  have HI := HIs; have HB := HBs; have HKs := HKs_
  clear HIs HBs HKs_
  generalize W1.drewN nd = W2 at HI HB HKs ⊢
  obtain ⟨Az, cz, ⟨hbg, hge⟩, ⟨hle, hcm⟩, ⟨hc0, hc1, hc2, hc3, hc4⟩, ⟨hf0, hf1, hf2, hf3, hf4⟩, HQ⟩ := HI.out.cell
  go_upto_region 5 with fail
  clear hn9 d1 d2
  have same : ∀ (ph : Nat) W', Drawn0 W2 W' → True := fun _ _ _ => trivial
  refine AnyEvents.region_then 22 (E := []) (C := fun (_ : Nat) W' => Drawn0 W2 W') (G := fun _ _ _ _ => True) (T := []) (R := fun _ _ _ _ => True) (vs := [?v8_0, ?v8_1, ?v8_2, ?v8_3, ?v8_4, ?v8_5, ?v8_6, ?v8_7, ?v8_8, ?v8_9, ?v8_10, ?v8_11, ?v8_12, ?v8_13, ?v8_14, ?v8_15, ?v8_16, ?v8_17, ?v8_18, (.int .i64 (m : Int)), ?v8_20, (.string (cutS q.s q.sent.toNat (q.sent.toNat + m)))]) (by kernel_rfl) (by kernel_rfl) rfl (by kernel_rfl) ?hc8r same (fun _ _ _ _ _ _ _ _ _ => trivial) (fun _ h => nomatch h) (fun x => ?obs8r) ?fin8r
  case hc8r => exact ⟨1, rfl⟩
  case obs8r =>
   refine AnyEvents.obs_cons ?v8_0 (val_hole (by simp only [List.getD_cons_zero, List.getD_cons_succ])) (AnyEvents.ob_plain (v := ?v8_0) rfl rfl rfl same (by simp only [List.getD_cons_zero, List.getD_cons_succ]) (fun ph W' hwn hW => ?_)) ?_
   ·obtain ⟨nd, rfl⟩ := hW; have z0 := drew_cell nd hc1; have z1 := drew_cell nd hc3; first | (go_simp; done) | (go_simp; (try simp only [i64_w]); rfl) | (go_simp; simp; rfl)
   try simp only [Act.put, List.setIfInBounds_toArray, List.set_cons_zero, List.set_cons_succ]
   refine AnyEvents.obs_cons ?v8_1 (val_hole (by simp only [List.getD_cons_zero, List.getD_cons_succ])) (AnyEvents.ob_plain (v := ?v8_1) rfl rfl rfl same (by simp only [List.getD_cons_zero, List.getD_cons_succ]) (fun ph W' hwn hW => ?_)) ?_
   ·obtain ⟨nd, rfl⟩ := hW; have z0 := drew_cell nd hc1; have z1 := drew_cell nd hc3; first | (go_simp; done) | (go_simp; (try simp only [i64_w]); rfl) | (go_simp; simp; rfl)
   try simp only [Act.put, List.setIfInBounds_toArray, List.set_cons_zero, List.set_cons_succ]
   refine AnyEvents.obs_cons ?v8_2 (val_hole (by simp only [List.getD_cons_zero, List.getD_cons_succ])) (AnyEvents.ob_plain (v := ?v8_2) rfl rfl rfl same (by simp only [List.getD_cons_zero, List.getD_cons_succ]) (fun ph W' hwn hW => ?_)) ?_
   ·obtain ⟨nd, rfl⟩ := hW; have z0 := drew_cell nd hc1; have z1 := drew_cell nd hc3; first | (go_simp; done) | (go_simp; (try simp only [i64_w]); rfl) | (go_simp; simp; rfl)
   try simp only [Act.put, List.setIfInBounds_toArray, List.set_cons_zero, List.set_cons_succ]
   refine AnyEvents.obs_cons ?v8_3 (val_hole (by simp only [List.getD_cons_zero, List.getD_cons_succ])) (AnyEvents.ob_plain (v := ?v8_3) rfl rfl rfl same (by simp only [List.getD_cons_zero, List.getD_cons_succ]) (fun ph W' hwn hW => ?_)) ?_
   ·obtain ⟨nd, rfl⟩ := hW; have z0 := drew_cell nd hc1; have z1 := drew_cell nd hc3; first | (go_simp; done) | (go_simp; (try simp only [i64_w]); rfl) | (go_simp; simp; rfl)
   try simp only [Act.put, List.setIfInBounds_toArray, List.set_cons_zero, List.set_cons_succ]
   refine AnyEvents.obs_cons ?v8_4 (val_hole (by simp only [List.getD_cons_zero, List.getD_cons_succ])) (AnyEvents.ob_plain (v := ?v8_4) rfl rfl rfl same (by simp only [List.getD_cons_zero, List.getD_cons_succ]) (fun ph W' hwn hW => ?_)) ?_
   ·obtain ⟨nd, rfl⟩ := hW; have z0 := drew_cell nd hc1; have z1 := drew_cell nd hc3; first | (go_simp; done) | (go_simp; (try simp only [i64_w]); rfl) | (go_simp; simp; rfl)
   try simp only [Act.put, List.setIfInBounds_toArray, List.set_cons_zero, List.set_cons_succ]
   refine AnyEvents.obs_cons ?v8_5 (val_hole (by simp only [List.getD_cons_zero, List.getD_cons_succ])) (AnyEvents.ob_plain (v := ?v8_5) rfl rfl rfl same (by simp only [List.getD_cons_zero, List.getD_cons_succ]) (fun ph W' hwn hW => ?_)) ?_
   ·obtain ⟨nd, rfl⟩ := hW; have z0 := drew_cell nd hc1; have z1 := drew_cell nd hc3; first | (go_simp; done) | (go_simp; (try simp only [i64_w]); rfl) | (go_simp; simp; rfl)
   try simp only [Act.put, List.setIfInBounds_toArray, List.set_cons_zero, List.set_cons_succ]
   refine AnyEvents.obs_cons ?v8_6 (val_hole (by simp only [List.getD_cons_zero, List.getD_cons_succ])) (AnyEvents.ob_plain (v := ?v8_6) rfl rfl rfl same (by simp only [List.getD_cons_zero, List.getD_cons_succ]) (fun ph W' hwn hW => ?_)) ?_
   ·obtain ⟨nd, rfl⟩ := hW; have z0 := drew_cell nd hc1; have z1 := drew_cell nd hc3; first | (go_simp; done) | (go_simp; (try simp only [i64_w]); rfl) | (go_simp; simp; rfl)
   try simp only [Act.put, List.setIfInBounds_toArray, List.set_cons_zero, List.set_cons_succ]
   refine AnyEvents.obs_cons ?v8_7 (val_hole (by simp only [List.getD_cons_zero, List.getD_cons_succ])) (AnyEvents.ob_plain (v := ?v8_7) rfl rfl rfl same (by simp only [List.getD_cons_zero, List.getD_cons_succ]) (fun ph W' hwn hW => ?_)) ?_
   ·obtain ⟨nd, rfl⟩ := hW; have z0 := drew_cell nd hc1; have z1 := drew_cell nd hc3; first | (go_simp; done) | (go_simp; (try simp only [i64_w]); rfl) | (go_simp; simp; rfl)
   try simp only [Act.put, List.setIfInBounds_toArray, List.set_cons_zero, List.set_cons_succ]
   refine AnyEvents.obs_cons ?v8_8 (val_hole (by simp only [List.getD_cons_zero, List.getD_cons_succ])) (AnyEvents.ob_plain (v := ?v8_8) rfl rfl rfl same (by simp only [List.getD_cons_zero, List.getD_cons_succ]) (fun ph W' hwn hW => ?_)) ?_
   ·obtain ⟨nd, rfl⟩ := hW; have z0 := drew_cell nd hc1; have z1 := drew_cell nd hc3; first | (go_simp; done) | (go_simp; (try simp only [i64_w]); rfl) | (go_simp; simp; rfl)
   try simp only [Act.put, List.setIfInBounds_toArray, List.set_cons_zero, List.set_cons_succ]
   refine AnyEvents.obs_cons ?v8_9 (val_hole (by simp only [List.getD_cons_zero, List.getD_cons_succ])) (AnyEvents.ob_plain (v := ?v8_9) rfl rfl rfl same (by simp only [List.getD_cons_zero, List.getD_cons_succ]) (fun ph W' hwn hW => ?_)) ?_
   ·obtain ⟨nd, rfl⟩ := hW; have z0 := drew_cell nd hc1; have z1 := drew_cell nd hc3; first | (go_simp; done) | (go_simp; (try simp only [i64_w]); rfl) | (go_simp; simp; rfl)
   try simp only [Act.put, List.setIfInBounds_toArray, List.set_cons_zero, List.set_cons_succ]
   refine AnyEvents.obs_cons ?v8_10 (val_hole (by simp only [List.getD_cons_zero, List.getD_cons_succ])) (AnyEvents.ob_plain (v := ?v8_10) rfl rfl rfl same (by simp only [List.getD_cons_zero, List.getD_cons_succ]) (fun ph W' hwn hW => ?_)) ?_
   ·obtain ⟨nd, rfl⟩ := hW; have z0 := drew_cell nd hc1; have z1 := drew_cell nd hc3; first | (go_simp; done) | (go_simp; (try simp only [i64_w]); rfl) | (go_simp; simp; rfl)
   try simp only [Act.put, List.setIfInBounds_toArray, List.set_cons_zero, List.set_cons_succ]
   refine AnyEvents.obs_cons ?v8_11 (val_hole (by simp only [List.getD_cons_zero, List.getD_cons_succ])) (AnyEvents.ob_plain (v := ?v8_11) rfl rfl rfl same (by simp only [List.getD_cons_zero, List.getD_cons_succ]) (fun ph W' hwn hW => ?_)) ?_
   ·obtain ⟨nd, rfl⟩ := hW; have z0 := drew_cell nd hc1; have z1 := drew_cell nd hc3; first | (go_simp; done) | (go_simp; (try simp only [i64_w]); rfl) | (go_simp; simp; rfl)
   try simp only [Act.put, List.setIfInBounds_toArray, List.set_cons_zero, List.set_cons_succ]
   refine AnyEvents.obs_cons ?v8_12 (val_hole (by simp only [List.getD_cons_zero, List.getD_cons_succ])) (AnyEvents.ob_plain (v := ?v8_12) rfl rfl rfl same (by simp only [List.getD_cons_zero, List.getD_cons_succ]) (fun ph W' hwn hW => ?_)) ?_
   ·obtain ⟨nd, rfl⟩ := hW; have z0 := drew_cell nd hc1; have z1 := drew_cell nd hc3; first | (go_simp; done) | (go_simp; (try simp only [i64_w]); rfl) | (go_simp; simp; rfl)
   try simp only [Act.put, List.setIfInBounds_toArray, List.set_cons_zero, List.set_cons_succ]
   refine AnyEvents.obs_cons ?v8_13 (val_hole (by simp only [List.getD_cons_zero, List.getD_cons_succ])) (AnyEvents.ob_plain (v := ?v8_13) rfl rfl rfl same (by simp only [List.getD_cons_zero, List.getD_cons_succ]) (fun ph W' hwn hW => ?_)) ?_
   ·obtain ⟨nd, rfl⟩ := hW; have z0 := drew_cell nd hc1; have z1 := drew_cell nd hc3; first | (go_simp; done) | (go_simp; (try simp only [i64_w]); rfl) | (go_simp; simp; rfl)
   try simp only [Act.put, List.setIfInBounds_toArray, List.set_cons_zero, List.set_cons_succ]
   refine AnyEvents.obs_cons ?v8_14 (val_hole (by simp only [List.getD_cons_zero, List.getD_cons_succ])) (AnyEvents.ob_plain (v := ?v8_14) rfl rfl rfl same (by simp only [List.getD_cons_zero, List.getD_cons_succ]) (fun ph W' hwn hW => ?_)) ?_
   ·obtain ⟨nd, rfl⟩ := hW; have z0 := drew_cell nd hc1; have z1 := drew_cell nd hc3; first | (go_simp; done) | (go_simp; (try simp only [i64_w]); rfl) | (go_simp; simp; rfl)
   try simp only [Act.put, List.setIfInBounds_toArray, List.set_cons_zero, List.set_cons_succ]
   refine AnyEvents.obs_cons ?v8_15 (val_hole (by simp only [List.getD_cons_zero, List.getD_cons_succ])) (AnyEvents.ob_plain (v := ?v8_15) rfl rfl rfl same (by simp only [List.getD_cons_zero, List.getD_cons_succ]) (fun ph W' hwn hW => ?_)) ?_
   ·obtain ⟨nd, rfl⟩ := hW; have z0 := drew_cell nd hc1; have z1 := drew_cell nd hc3; first | (go_simp; done) | (go_simp; (try simp only [i64_w]); rfl) | (go_simp; simp; rfl)
   try simp only [Act.put, List.setIfInBounds_toArray, List.set_cons_zero, List.set_cons_succ]
   refine AnyEvents.obs_cons ?v8_16 (val_hole (by simp only [List.getD_cons_zero, List.getD_cons_succ])) (AnyEvents.ob_plain (v := ?v8_16) rfl rfl rfl same (by simp only [List.getD_cons_zero, List.getD_cons_succ]) (fun ph W' hwn hW => ?_)) ?_
   ·obtain ⟨nd, rfl⟩ := hW; have z0 := drew_cell nd hc1; have z1 := drew_cell nd hc3; first | (go_simp; done) | (go_simp; (try simp only [i64_w]); rfl) | (go_simp; simp; rfl)
   try simp only [Act.put, List.setIfInBounds_toArray, List.set_cons_zero, List.set_cons_succ]
   refine AnyEvents.obs_cons ?v8_17 (val_hole (by simp only [List.getD_cons_zero, List.getD_cons_succ])) (AnyEvents.ob_plain (v := ?v8_17) rfl rfl rfl same (by simp only [List.getD_cons_zero, List.getD_cons_succ]) (fun ph W' hwn hW => ?_)) ?_
   ·obtain ⟨nd, rfl⟩ := hW; have z0 := drew_cell nd hc1; have z1 := drew_cell nd hc3; first | (go_simp; done) | (go_simp; (try simp only [i64_w]); rfl) | (go_simp; simp; rfl)
   try simp only [Act.put, List.setIfInBounds_toArray, List.set_cons_zero, List.set_cons_succ]
   refine AnyEvents.obs_cons ?v8_18 (val_hole (by simp only [List.getD_cons_zero, List.getD_cons_succ])) (AnyEvents.ob_plain (v := ?v8_18) rfl rfl rfl same (by simp only [List.getD_cons_zero, List.getD_cons_succ]) (fun ph W' hwn hW => ?_)) ?_
   ·obtain ⟨nd, rfl⟩ := hW; have z0 := drew_cell nd hc1; have z1 := drew_cell nd hc3; first | (go_simp; done) | (go_simp; (try simp only [i64_w]); rfl) | (go_simp; simp; rfl)
   try simp only [Act.put, List.setIfInBounds_toArray, List.set_cons_zero, List.set_cons_succ]
   refine AnyEvents.obs_cons (.int .i64 (m : Int)) (val_hole (by simp only [List.getD_cons_zero, List.getD_cons_succ])) (AnyEvents.ob_plain (v := (.int .i64 (m : Int))) rfl rfl rfl same (by simp only [List.getD_cons_zero, List.getD_cons_succ]) (fun ph W' hwn hW => ?_)) ?_
   ·obtain ⟨nd, rfl⟩ := hW; have h59 := HM.out; first | (go_simp; done) | (go_simp; rfl)
   try simp only [Act.put, List.setIfInBounds_toArray, List.set_cons_zero, List.set_cons_succ]
   refine AnyEvents.obs_cons ?v8_20 (val_hole (by simp only [List.getD_cons_zero, List.getD_cons_succ])) (AnyEvents.ob_plain (v := ?v8_20) rfl rfl rfl same (by simp only [List.getD_cons_zero, List.getD_cons_succ]) (fun ph W' hwn hW => ?_)) ?_
   ·obtain ⟨nd, rfl⟩ := hW; have z0 := drew_cell nd hc1; have z1 := drew_cell nd hc3; first | (go_simp; done) | (go_simp; (try simp only [i64_w]); rfl) | (go_simp; simp; rfl)
   try simp only [Act.put, List.setIfInBounds_toArray, List.set_cons_zero, List.set_cons_succ]
   refine AnyEvents.obs_cons (.string (cutS q.s q.sent.toNat (q.sent.toNat + m))) (val_hole (by simp only [List.getD_cons_zero, List.getD_cons_succ])) (AnyEvents.ob_plain (v := (.string (cutS q.s q.sent.toNat (q.sent.toNat + m)))) rfl rfl rfl same (by simp only [List.getD_cons_zero, List.getD_cons_succ]) (fun ph W' hwn hW => ?_)) ?_
   ·obtain ⟨nd, rfl⟩ := hW; refine (run_sl_at (i := q.sent) (j := wrap64 (q.sent + (m : Int))) (s := q.s) Try.underlying9 rfl rfl rfl rfl HS.out.1 (by rw [HSM.out]; omega) (by rw [HSM.out]; exact HML.out)).trans ?_; rw [HSM.out, show (q.sent + (m : Int)).toNat = q.sent.toNat + m by have := HS.out.1; omega]
   try simp only [Act.put, List.setIfInBounds_toArray, List.set_cons_zero, List.set_cons_succ]
   trivial
  case fin8r =>
   intro x W' hD _
   simp only [List.take_succ_cons, List.take_zero, List.drop_succ_cons, List.drop_zero]
   rw [AnyOrder.lexAt_cons ?v8_0 (val_hole (by simp only [List.getD_cons_zero, List.getD_cons_succ]))]
   try simp only [Act.put, List.setIfInBounds_toArray, List.set_cons_zero, List.set_cons_succ]
   rw [AnyOrder.lexAt_cons ?v8_1 (val_hole (by simp only [List.getD_cons_zero, List.getD_cons_succ]))]
   try simp only [Act.put, List.setIfInBounds_toArray, List.set_cons_zero, List.set_cons_succ]
   rw [AnyOrder.lexAt_cons ?v8_2 (val_hole (by simp only [List.getD_cons_zero, List.getD_cons_succ]))]
   try simp only [Act.put, List.setIfInBounds_toArray, List.set_cons_zero, List.set_cons_succ]
   rw [AnyOrder.lexAt_cons ?v8_3 (val_hole (by simp only [List.getD_cons_zero, List.getD_cons_succ]))]
   try simp only [Act.put, List.setIfInBounds_toArray, List.set_cons_zero, List.set_cons_succ]
   rw [AnyOrder.lexAt_cons ?v8_4 (val_hole (by simp only [List.getD_cons_zero, List.getD_cons_succ]))]
   try simp only [Act.put, List.setIfInBounds_toArray, List.set_cons_zero, List.set_cons_succ]
   rw [AnyOrder.lexAt_cons ?v8_5 (val_hole (by simp only [List.getD_cons_zero, List.getD_cons_succ]))]
   try simp only [Act.put, List.setIfInBounds_toArray, List.set_cons_zero, List.set_cons_succ]
   rw [AnyOrder.lexAt_cons ?v8_6 (val_hole (by simp only [List.getD_cons_zero, List.getD_cons_succ]))]
   try simp only [Act.put, List.setIfInBounds_toArray, List.set_cons_zero, List.set_cons_succ]
   rw [AnyOrder.lexAt_cons ?v8_7 (val_hole (by simp only [List.getD_cons_zero, List.getD_cons_succ]))]
   try simp only [Act.put, List.setIfInBounds_toArray, List.set_cons_zero, List.set_cons_succ]
   rw [AnyOrder.lexAt_cons ?v8_8 (val_hole (by simp only [List.getD_cons_zero, List.getD_cons_succ]))]
   try simp only [Act.put, List.setIfInBounds_toArray, List.set_cons_zero, List.set_cons_succ]
   rw [AnyOrder.lexAt_cons ?v8_9 (val_hole (by simp only [List.getD_cons_zero, List.getD_cons_succ]))]
   try simp only [Act.put, List.setIfInBounds_toArray, List.set_cons_zero, List.set_cons_succ]
   rw [AnyOrder.lexAt_cons ?v8_10 (val_hole (by simp only [List.getD_cons_zero, List.getD_cons_succ]))]
   try simp only [Act.put, List.setIfInBounds_toArray, List.set_cons_zero, List.set_cons_succ]
   rw [AnyOrder.lexAt_cons ?v8_11 (val_hole (by simp only [List.getD_cons_zero, List.getD_cons_succ]))]
   try simp only [Act.put, List.setIfInBounds_toArray, List.set_cons_zero, List.set_cons_succ]
   rw [AnyOrder.lexAt_cons ?v8_12 (val_hole (by simp only [List.getD_cons_zero, List.getD_cons_succ]))]
   try simp only [Act.put, List.setIfInBounds_toArray, List.set_cons_zero, List.set_cons_succ]
   rw [AnyOrder.lexAt_cons ?v8_13 (val_hole (by simp only [List.getD_cons_zero, List.getD_cons_succ]))]
   try simp only [Act.put, List.setIfInBounds_toArray, List.set_cons_zero, List.set_cons_succ]
   rw [AnyOrder.lexAt_cons ?v8_14 (val_hole (by simp only [List.getD_cons_zero, List.getD_cons_succ]))]
   try simp only [Act.put, List.setIfInBounds_toArray, List.set_cons_zero, List.set_cons_succ]
   rw [AnyOrder.lexAt_cons ?v8_15 (val_hole (by simp only [List.getD_cons_zero, List.getD_cons_succ]))]
   try simp only [Act.put, List.setIfInBounds_toArray, List.set_cons_zero, List.set_cons_succ]
   rw [AnyOrder.lexAt_cons ?v8_16 (val_hole (by simp only [List.getD_cons_zero, List.getD_cons_succ]))]
   try simp only [Act.put, List.setIfInBounds_toArray, List.set_cons_zero, List.set_cons_succ]
   rw [AnyOrder.lexAt_cons ?v8_17 (val_hole (by simp only [List.getD_cons_zero, List.getD_cons_succ]))]
   try simp only [Act.put, List.setIfInBounds_toArray, List.set_cons_zero, List.set_cons_succ]
   rw [AnyOrder.lexAt_cons ?v8_18 (val_hole (by simp only [List.getD_cons_zero, List.getD_cons_succ]))]
   try simp only [Act.put, List.setIfInBounds_toArray, List.set_cons_zero, List.set_cons_succ]
   rw [AnyOrder.lexAt_cons (.int .i64 (m : Int)) (val_hole (by simp only [List.getD_cons_zero, List.getD_cons_succ]))]
   try simp only [Act.put, List.setIfInBounds_toArray, List.set_cons_zero, List.set_cons_succ]
   rw [AnyOrder.lexAt_cons ?v8_20 (val_hole (by simp only [List.getD_cons_zero, List.getD_cons_succ]))]
   try simp only [Act.put, List.setIfInBounds_toArray, List.set_cons_zero, List.set_cons_succ]
   rw [AnyOrder.lexAt_cons (.string (cutS q.s q.sent.toNat (q.sent.toNat + m))) (val_hole (by simp only [List.getD_cons_zero, List.getD_cons_succ]))]
   try simp only [Act.put, List.setIfInBounds_toArray, List.set_cons_zero, List.set_cons_succ]
   rw [AnyOrder.lexAt_nil]
   clear same
   obtain ⟨nd, rfl⟩ := hD
   have HIs := Aside0.mk (show QAt (W2.drewN nd) w0.heap.size g q from HI.out.drawn rfl)
   have HBs := Aside0.mk (pw_below_drewN HB.out nd)
   have HKs_ := Aside0.mk (HKs.out.trans (show KeepG g W2 (W2.drewN nd) from KeepG.of_below (pw_below_drewN (Below.refl _ _) nd)))
   clear hbg hge hle hcm hc0 hc1 hc2 hc3 hc4 hf0 hf1 hf2 hf3 hf4 HQ
   clear HI HB HKs
   have HI := HIs; have HB := HBs; have HKs := HKs_
   clear HIs HBs HKs_
   generalize W2.drewN nd = W3 at HI HB HKs ⊢
   obtain ⟨Az, cz, ⟨hbg, hge⟩, ⟨hle, hcm⟩, ⟨hc0, hc1, hc2, hc3, hc4⟩, ⟨hf0, hf1, hf2, hf3, hf4⟩, HQ⟩ := HI.out.cell
   have hcz := HCZ.out
   have hsm := HSM.out
   go_wp2
   go_ret2
   exact ⟨rfl, HI.out.set 1 _ rfl (fun _ => rfl), below_set HB.out HI.out.ge, HKs.out.trans (KeepG.set g 1 _ _)⟩


/-! ### seq_both: function 28 -/
def seq_both.f (a0 : Int) (a1 : Int) : Option (Int) := (seq_Check.f a0).bind fun t103 => ((seq_Check.f a1).bind fun t104 => (some (mx t103 t104)))
set_option maxHeartbeats 8000000 in
set_option maxRecDepth 100000 in
theorem seq_both.calls (a0 : Int) (a1 : Int) (r : Int) (w : World) (h : seq_both.f a0 a1 = some r) :
  Calls Try.prog 28 #[.int .i64 a0, .int .i64 a1] w fun e w' => e = .returned (.int .i64 r) ∧ Below w.heap.size w w' := by
 have HB := Aside0.mk (Below.refl w.heap.size w)
 have H : ((seq_Check.f a0).bind fun t103 => ((seq_Check.f a1).bind fun t104 => (some (mx t103 t104)))) = some r := h
 clear h
 replace H := Option.bind_eq_some_iff.mp H
 obtain ⟨t103, A30, H⟩ := H
 replace H : ((seq_Check.f a1).bind fun t104 => (some (mx t103 t104))) = some r := H
 have A3 := Aside0.mk A30
 clear A30
 replace H := Option.bind_eq_some_iff.mp H
 obtain ⟨t104, A40, H⟩ := H
 replace H : (some (mx t103 t104)) = some r := H
 have A4 := Aside0.mk A40
 clear A40
 obtain ⟨ji5, hji5⟩ : ∃ j_ : Int, (mx t103 t104) = j_ := ⟨_, rfl⟩
 replace H : (some ji5) = some r := by first | (rw [hji5] at H; exact H) | (simp only [hji5] at H ⊢; exact H)
 (try rw [hji5] at A3)
 (try rw [hji5] at A4)
 have hji5_ : (if t103 < t104 then t104 else t103) = ji5 := hji5
 obtain rfl := Option.some.inj H
 go_enter Try.func28, Try.ntmps28
 go_wp2_with (first | ((with_reducible refine gate_callee (f := 24) rfl ?_); refine goesL_ (some 6) rfl rfl Try.func24 (by kernel_rfl) rfl #[.int .i64 a0] rfl (by (try simp only [List.map_toArray, List.map_cons, List.map_nil]); first | done | rfl | (simp only [List.length_drop, List.length_take]; rfl)) ?_; (with_reducible refine (seq_Check.calls a0 t103 _ A3.out).mono ?_); rintro e w' ⟨rfl, ⟨nd, rfl⟩⟩; refine ⟨_, rfl, ?_⟩) | ((with_reducible refine gate_callee (f := 24) rfl ?_); refine goesL_ (some 8) rfl rfl Try.func24 (by kernel_rfl) rfl #[.int .i64 a1] rfl (by (try simp only [List.map_toArray, List.map_cons, List.map_nil]); first | done | rfl | (simp only [List.length_drop, List.length_take]; rfl)) ?_; (with_reducible refine (seq_Check.calls a1 t104 _ A4.out).mono ?_); rintro e w' ⟨rfl, ⟨nd, rfl⟩⟩; refine ⟨_, rfl, ?_⟩))
 go_ret
 exact ⟨by first | rfl | (simp [errW_none, errW_some] <;> rfl) | (simp only [← hji5]; first | rfl | (simp [errW_none, errW_some] <;> rfl)) | (simp [*, errW_none, errW_some] <;> rfl), by repeat (first | (with_reducible first | exact HB.out | apply below_alloc | apply pw_below_drewN | apply below_drew1) | exact HB.out)⟩

/-! ### seq_Distance: function 17 -/
def seq_Distance.f (a0 : Int) (a1 : Int) : Option (Int × Int) := (seq_both.f a0 a1).bind fun t105 => (if t105 = 0 then (some (Go.bits .and .i64 (wrap64 (a1 - a0)) 4294967295, 0)) else (some (0, t105)))
set_option maxHeartbeats 8000000 in
set_option maxRecDepth 100000 in
theorem seq_Distance.calls (a0 : Int) (a1 : Int) (r1 : Int) (r2 : Int) (w : World) (h : seq_Distance.f a0 a1 = some (r1, r2)) :
  Calls Try.prog 17 #[.int .i64 a0, .int .i64 a1] w fun e w' => e = .returned (.tuple #[.int .i64 r1, .int .i64 r2]) ∧ Below w.heap.size w w' := by
 have HB := Aside0.mk (Below.refl w.heap.size w)
 have H : ((seq_both.f a0 a1).bind fun t105 => (if t105 = 0 then (some (Go.bits .and .i64 (wrap64 (a1 - a0)) 4294967295, 0)) else (some (0, t105)))) = some (r1, r2) := h
 clear h
 replace H := Option.bind_eq_some_iff.mp H
 obtain ⟨t105, A30, H⟩ := H
 replace H : (if t105 = 0 then (some (Go.bits .and .i64 (wrap64 (a1 - a0)) 4294967295, 0)) else (some (0, t105))) = some (r1, r2) := H
 have A3 := Aside0.mk A30
 clear A30
 by_cases c4 : t105 = 0
 ·rw [if_pos c4] at H
  have c4b0 : (t105 == 0) = true := beq_iff_eq.mpr c4
  have c4b1 : (t105 != 0) = false := bne_eq_false_iff_eq.mpr c4
  clear c4
  simp only [Option.some.injEq, Prod.mk.injEq] at H
  obtain ⟨rfl, rfl⟩ := H
  go_enter Try.func17, Try.ntmps17
  go_wp2_with (first | ((with_reducible refine gate_callee (f := 28) rfl ?_); refine goesL_ (some 9) rfl rfl Try.func28 (by kernel_rfl) rfl #[.int .i64 a0, .int .i64 a1] rfl (by (try simp only [List.map_toArray, List.map_cons, List.map_nil]); first | done | rfl | (simp only [List.length_drop, List.length_take]; rfl)) ?_; (with_reducible refine (seq_both.calls a0 a1 t105 _ A3.out).mono ?_); rintro e w5 ⟨rfl, hb⟩; refine ⟨_, rfl, ?_⟩; have n0_ := Aside0.mk (below_step (by repeat (first | (with_reducible first | exact HB.out | apply below_alloc | apply pw_below_drewN | apply below_drew1) | exact HB.out)) hb); clear HB; have HB := n0_; clear n0_; (try clear hb); (try clear hb2); (try clear hk); (try clear hi)))
  go_ret2
  exact ⟨by first | rfl | (simp [errW_none, errW_some] <;> rfl) | (simp [*, errW_none, errW_some] <;> rfl), by repeat (first | (with_reducible first | exact HB.out | apply below_alloc | apply pw_below_drewN | apply below_drew1) | exact HB.out)⟩
 ·rw [if_neg c4] at H
  have c4b0 : (t105 == 0) = false := beq_eq_false_iff_ne.mpr c4
  have c4b1 : (t105 != 0) = true := bne_iff_ne.mpr c4
  simp only [Option.some.injEq, Prod.mk.injEq] at H
  obtain ⟨rfl, rfl⟩ := H
  go_enter Try.func17, Try.ntmps17
  go_wp2_with (first | ((with_reducible refine gate_callee (f := 28) rfl ?_); refine goesL_ (some 9) rfl rfl Try.func28 (by kernel_rfl) rfl #[.int .i64 a0, .int .i64 a1] rfl (by (try simp only [List.map_toArray, List.map_cons, List.map_nil]); first | done | rfl | (simp only [List.length_drop, List.length_take]; rfl)) ?_; (with_reducible refine (seq_both.calls a0 a1 t105 _ A3.out).mono ?_); rintro e w6 ⟨rfl, hb⟩; refine ⟨_, rfl, ?_⟩; have n0_ := Aside0.mk (below_step (by repeat (first | (with_reducible first | exact HB.out | apply below_alloc | apply pw_below_drewN | apply below_drew1) | exact HB.out)) hb); clear HB; have HB := n0_; clear n0_; (try clear hb); (try clear hb2); (try clear hk); (try clear hi)))
  go_ret2
  exact ⟨by first | rfl | (simp [errW_none, errW_some] <;> rfl) | (simp [*, errW_none, errW_some] <;> rfl), by repeat (first | (with_reducible first | exact HB.out | apply below_alloc | apply pw_below_drewN | apply below_drew1) | exact HB.out)⟩


/-! ### sendq_Queue_off: function 27 (by hand) -/
-- over sendq_New.calls sendq_New.callsR
theorem seqdist_ (a b : Int) (ha : sqOk a) : seq_Distance.f a b = some (if sqOk b then ((b - a) % 4294967296, 0) else (0, 1)) := by
 have ha' := ha
 unfold sqOk at ha'
 unfold seq_Distance.f seq_both.f
 rw [seqcheck_ a, seqcheck_ b, if_pos ha]
 by_cases hb : sqOk b
 ·have hb' := hb
  unfold sqOk at hb'
  rw [if_pos hb, if_pos hb]
  simp only [Option.bind_some]
  rw [if_pos (by decide), w64p (by omega) (by omega), and_seq]
 ·rw [if_neg hb, if_neg hb]
  simp only [Option.bind_some]
  rw [if_neg (by decide)]
  rfl
def QS.off (q : QS) (n : Int) : Int × Bool := if sqOk n then ((n - q.left) % 4294967296, decide ((n - q.left) % 4294967296 ≤ q.sent)) else (0, false)
set_option maxHeartbeats 4000000 in
set_option maxRecDepth 100000 in
theorem sendq_Queue_off.calls (g : Nat) (q : QS) (n : Int) (w0 w : World) (hI : QAt w w0.heap.size g q) (hl : sqOk q.left) :
  Calls Try.prog 27 #[.pointer (some ⟨g, 0, none⟩), .int .i64 n] w fun e w' => e = .returned (.tuple #[.int .i64 (q.off n).1, .bool (q.off n).2]) ∧ Below w.heap.size w w' := by
 have HI := Aside0.mk hI
 clear hI
 have hd := seqdist_ q.left n hl
 clear hl
 obtain ⟨Az, cz, ⟨hbg, hge⟩, ⟨hle, hcm⟩, ⟨hc0, hc1, hc2, hc3, hc4⟩, ⟨hf0, hf1, hf2, hf3, hf4⟩, HQ⟩ := HI.out.cell
 go_enter Try.func27, Try.ntmps27
 by_cases hn : sqOk n
 ·rw [if_pos hn] at hd
  have e : q.off n = ((n - q.left) % 4294967296, decide ((n - q.left) % 4294967296 ≤ q.sent)) := by unfold QS.off; rw [if_pos hn]
  obtain ⟨d, hdd⟩ : ∃ d_, (n - q.left) % 4294967296 = d_ := ⟨_, rfl⟩
  rw [hdd] at hd e
  rw [e]
  have HA := Aside0.mk hd
  clear hd hn e hdd
  go_wp2_with fail
  refine (seq_Distance.calls q.left n d 0 _ HA.out).mono ?_
  rintro e W1 ⟨rfl, hb⟩
  clear hbg hge hle hcm hc0 hc1 hc2 hc3 hc4 hf0 hf1 hf2 hf3 hf4 HQ
  have HI1 := HI.out.kept hb
  have HB1 := Aside0.mk hb
  clear HI hb
  have HI := Aside0.mk HI1
  clear HI1
  obtain ⟨Az, cz, ⟨hbg, hge⟩, ⟨hle, hcm⟩, ⟨hc0, hc1, hc2, hc3, hc4⟩, ⟨hf0, hf1, hf2, hf3, hf4⟩, HQ⟩ := HI.out.cell
  go_upto_region 2 with fail
  have same : ∀ (ph : Nat) W', Drawn0 W1 W' → True := fun _ _ _ => trivial
  refine AnyEvents.region_then 12 (E := []) (C := fun (_ : Nat) W' => Drawn0 W1 W') (G := fun _ _ _ _ => True) (T := []) (R := fun _ _ _ _ => True) (vs := [?v1_0, ?v1_1, ?v1_2, ?v1_3, ?v1_4, ?v1_5, ?v1_6, ?v1_7, ?v1_8, ?v1_9, ?v1_10, ?v1_11]) (by kernel_rfl) (by kernel_rfl) rfl (by kernel_rfl) ?hc1r same (fun _ _ _ _ _ _ _ _ _ => trivial) (fun _ h => nomatch h) (fun x => ?obs1r) ?fin1r
  case hc1r => exact ⟨1, rfl⟩
  case obs1r =>
   refine AnyEvents.obs_cons ?v1_0 (val_hole (by simp only [List.getD_cons_zero, List.getD_cons_succ])) (AnyEvents.ob_plain (v := ?v1_0) rfl rfl rfl same (by simp only [List.getD_cons_zero, List.getD_cons_succ]) (fun ph W' hwn hW => ?_)) ?_
   ·obtain ⟨nd, rfl⟩ := hW; have z0 := drew_cell nd hc1; first | (go_simp; done) | (go_simp; (try simp only [i64_w]); rfl) | (go_simp; simp; rfl)
   try simp only [Act.put, List.setIfInBounds_toArray, List.set_cons_zero, List.set_cons_succ]
   refine AnyEvents.obs_cons ?v1_1 (val_hole (by simp only [List.getD_cons_zero, List.getD_cons_succ])) (AnyEvents.ob_plain (v := ?v1_1) rfl rfl rfl same (by simp only [List.getD_cons_zero, List.getD_cons_succ]) (fun ph W' hwn hW => ?_)) ?_
   ·obtain ⟨nd, rfl⟩ := hW; have z0 := drew_cell nd hc1; first | (go_simp; done) | (go_simp; (try simp only [i64_w]); rfl) | (go_simp; simp; rfl)
   try simp only [Act.put, List.setIfInBounds_toArray, List.set_cons_zero, List.set_cons_succ]
   refine AnyEvents.obs_cons ?v1_2 (val_hole (by simp only [List.getD_cons_zero, List.getD_cons_succ])) (AnyEvents.ob_plain (v := ?v1_2) rfl rfl rfl same (by simp only [List.getD_cons_zero, List.getD_cons_succ]) (fun ph W' hwn hW => ?_)) ?_
   ·obtain ⟨nd, rfl⟩ := hW; have z0 := drew_cell nd hc1; first | (go_simp; done) | (go_simp; (try simp only [i64_w]); rfl) | (go_simp; simp; rfl)
   try simp only [Act.put, List.setIfInBounds_toArray, List.set_cons_zero, List.set_cons_succ]
   refine AnyEvents.obs_cons ?v1_3 (val_hole (by simp only [List.getD_cons_zero, List.getD_cons_succ])) (AnyEvents.ob_plain (v := ?v1_3) rfl rfl rfl same (by simp only [List.getD_cons_zero, List.getD_cons_succ]) (fun ph W' hwn hW => ?_)) ?_
   ·obtain ⟨nd, rfl⟩ := hW; have z0 := drew_cell nd hc1; first | (go_simp; done) | (go_simp; (try simp only [i64_w]); rfl) | (go_simp; simp; rfl)
   try simp only [Act.put, List.setIfInBounds_toArray, List.set_cons_zero, List.set_cons_succ]
   refine AnyEvents.obs_cons ?v1_4 (val_hole (by simp only [List.getD_cons_zero, List.getD_cons_succ])) (AnyEvents.ob_plain (v := ?v1_4) rfl rfl rfl same (by simp only [List.getD_cons_zero, List.getD_cons_succ]) (fun ph W' hwn hW => ?_)) ?_
   ·obtain ⟨nd, rfl⟩ := hW; have z0 := drew_cell nd hc1; first | (go_simp; done) | (go_simp; (try simp only [i64_w]); rfl) | (go_simp; simp; rfl)
   try simp only [Act.put, List.setIfInBounds_toArray, List.set_cons_zero, List.set_cons_succ]
   refine AnyEvents.obs_cons ?v1_5 (val_hole (by simp only [List.getD_cons_zero, List.getD_cons_succ])) (AnyEvents.ob_plain (v := ?v1_5) rfl rfl rfl same (by simp only [List.getD_cons_zero, List.getD_cons_succ]) (fun ph W' hwn hW => ?_)) ?_
   ·obtain ⟨nd, rfl⟩ := hW; have z0 := drew_cell nd hc1; first | (go_simp; done) | (go_simp; (try simp only [i64_w]); rfl) | (go_simp; simp; rfl)
   try simp only [Act.put, List.setIfInBounds_toArray, List.set_cons_zero, List.set_cons_succ]
   refine AnyEvents.obs_cons ?v1_6 (val_hole (by simp only [List.getD_cons_zero, List.getD_cons_succ])) (AnyEvents.ob_plain (v := ?v1_6) rfl rfl rfl same (by simp only [List.getD_cons_zero, List.getD_cons_succ]) (fun ph W' hwn hW => ?_)) ?_
   ·obtain ⟨nd, rfl⟩ := hW; have z0 := drew_cell nd hc1; first | (go_simp; done) | (go_simp; (try simp only [i64_w]); rfl) | (go_simp; simp; rfl)
   try simp only [Act.put, List.setIfInBounds_toArray, List.set_cons_zero, List.set_cons_succ]
   refine AnyEvents.obs_cons ?v1_7 (val_hole (by simp only [List.getD_cons_zero, List.getD_cons_succ])) (AnyEvents.ob_plain (v := ?v1_7) rfl rfl rfl same (by simp only [List.getD_cons_zero, List.getD_cons_succ]) (fun ph W' hwn hW => ?_)) ?_
   ·obtain ⟨nd, rfl⟩ := hW; have z0 := drew_cell nd hc1; first | (go_simp; done) | (go_simp; (try simp only [i64_w]); rfl) | (go_simp; simp; rfl)
   try simp only [Act.put, List.setIfInBounds_toArray, List.set_cons_zero, List.set_cons_succ]
   refine AnyEvents.obs_cons ?v1_8 (val_hole (by simp only [List.getD_cons_zero, List.getD_cons_succ])) (AnyEvents.ob_plain (v := ?v1_8) rfl rfl rfl same (by simp only [List.getD_cons_zero, List.getD_cons_succ]) (fun ph W' hwn hW => ?_)) ?_
   ·obtain ⟨nd, rfl⟩ := hW; have z0 := drew_cell nd hc1; first | (go_simp; done) | (go_simp; (try simp only [i64_w]); rfl) | (go_simp; simp; rfl)
   try simp only [Act.put, List.setIfInBounds_toArray, List.set_cons_zero, List.set_cons_succ]
   refine AnyEvents.obs_cons ?v1_9 (val_hole (by simp only [List.getD_cons_zero, List.getD_cons_succ])) (AnyEvents.ob_plain (v := ?v1_9) rfl rfl rfl same (by simp only [List.getD_cons_zero, List.getD_cons_succ]) (fun ph W' hwn hW => ?_)) ?_
   ·obtain ⟨nd, rfl⟩ := hW; have z0 := drew_cell nd hc1; first | (go_simp; done) | (go_simp; (try simp only [i64_w]); rfl) | (go_simp; simp; rfl)
   try simp only [Act.put, List.setIfInBounds_toArray, List.set_cons_zero, List.set_cons_succ]
   refine AnyEvents.obs_cons ?v1_10 (val_hole (by simp only [List.getD_cons_zero, List.getD_cons_succ])) (AnyEvents.ob_plain (v := ?v1_10) rfl rfl rfl same (by simp only [List.getD_cons_zero, List.getD_cons_succ]) (fun ph W' hwn hW => ?_)) ?_
   ·obtain ⟨nd, rfl⟩ := hW; have z0 := drew_cell nd hc1; first | (go_simp; done) | (go_simp; (try simp only [i64_w]); rfl) | (go_simp; simp; rfl)
   try simp only [Act.put, List.setIfInBounds_toArray, List.set_cons_zero, List.set_cons_succ]
   refine AnyEvents.obs_cons ?v1_11 (val_hole (by simp only [List.getD_cons_zero, List.getD_cons_succ])) (AnyEvents.ob_plain (v := ?v1_11) rfl rfl rfl same (by simp only [List.getD_cons_zero, List.getD_cons_succ]) (fun ph W' hwn hW => ?_)) ?_
   ·obtain ⟨nd, rfl⟩ := hW; have z0 := drew_cell nd hc1; first | (go_simp; done) | (go_simp; (try simp only [i64_w]); rfl) | (go_simp; simp; rfl)
   try simp only [Act.put, List.setIfInBounds_toArray, List.set_cons_zero, List.set_cons_succ]
   trivial
  case fin1r =>
   intro x W' hD _
   simp only [List.take_succ_cons, List.take_zero, List.drop_succ_cons, List.drop_zero]
   rw [AnyOrder.lexAt_cons ?v1_0 (val_hole (by simp only [List.getD_cons_zero, List.getD_cons_succ]))]
   try simp only [Act.put, List.setIfInBounds_toArray, List.set_cons_zero, List.set_cons_succ]
   rw [AnyOrder.lexAt_cons ?v1_1 (val_hole (by simp only [List.getD_cons_zero, List.getD_cons_succ]))]
   try simp only [Act.put, List.setIfInBounds_toArray, List.set_cons_zero, List.set_cons_succ]
   rw [AnyOrder.lexAt_cons ?v1_2 (val_hole (by simp only [List.getD_cons_zero, List.getD_cons_succ]))]
   try simp only [Act.put, List.setIfInBounds_toArray, List.set_cons_zero, List.set_cons_succ]
   rw [AnyOrder.lexAt_cons ?v1_3 (val_hole (by simp only [List.getD_cons_zero, List.getD_cons_succ]))]
   try simp only [Act.put, List.setIfInBounds_toArray, List.set_cons_zero, List.set_cons_succ]
   rw [AnyOrder.lexAt_cons ?v1_4 (val_hole (by simp only [List.getD_cons_zero, List.getD_cons_succ]))]
   try simp only [Act.put, List.setIfInBounds_toArray, List.set_cons_zero, List.set_cons_succ]
   rw [AnyOrder.lexAt_cons ?v1_5 (val_hole (by simp only [List.getD_cons_zero, List.getD_cons_succ]))]
   try simp only [Act.put, List.setIfInBounds_toArray, List.set_cons_zero, List.set_cons_succ]
   rw [AnyOrder.lexAt_cons ?v1_6 (val_hole (by simp only [List.getD_cons_zero, List.getD_cons_succ]))]
   try simp only [Act.put, List.setIfInBounds_toArray, List.set_cons_zero, List.set_cons_succ]
   rw [AnyOrder.lexAt_cons ?v1_7 (val_hole (by simp only [List.getD_cons_zero, List.getD_cons_succ]))]
   try simp only [Act.put, List.setIfInBounds_toArray, List.set_cons_zero, List.set_cons_succ]
   rw [AnyOrder.lexAt_cons ?v1_8 (val_hole (by simp only [List.getD_cons_zero, List.getD_cons_succ]))]
   try simp only [Act.put, List.setIfInBounds_toArray, List.set_cons_zero, List.set_cons_succ]
   rw [AnyOrder.lexAt_cons ?v1_9 (val_hole (by simp only [List.getD_cons_zero, List.getD_cons_succ]))]
   try simp only [Act.put, List.setIfInBounds_toArray, List.set_cons_zero, List.set_cons_succ]
   rw [AnyOrder.lexAt_cons ?v1_10 (val_hole (by simp only [List.getD_cons_zero, List.getD_cons_succ]))]
   try simp only [Act.put, List.setIfInBounds_toArray, List.set_cons_zero, List.set_cons_succ]
   rw [AnyOrder.lexAt_cons ?v1_11 (val_hole (by simp only [List.getD_cons_zero, List.getD_cons_succ]))]
   try simp only [Act.put, List.setIfInBounds_toArray, List.set_cons_zero, List.set_cons_succ]
   rw [AnyOrder.lexAt_nil]
   clear same
   obtain ⟨nd2, rfl⟩ := hD
   go_wp2
   go_ret2
   exact ⟨rfl, pw_below_drewN HB1.out nd2⟩
 ·rw [if_neg hn] at hd
  have e : q.off n = (0, false) := by unfold QS.off; rw [if_neg hn]
  rw [e]
  have HA := Aside0.mk hd
  clear hd hn e
  go_wp2_with fail
  refine (seq_Distance.calls q.left n 0 1 _ HA.out).mono ?_
  rintro e W1 ⟨rfl, hb⟩
  clear hbg hge hle hcm hc0 hc1 hc2 hc3 hc4 hf0 hf1 hf2 hf3 hf4 HQ
  have HI1 := HI.out.kept hb
  have HB1 := Aside0.mk hb
  clear HI hb
  have HI := Aside0.mk HI1
  clear HI1
  obtain ⟨Az, cz, ⟨hbg, hge⟩, ⟨hle, hcm⟩, ⟨hc0, hc1, hc2, hc3, hc4⟩, ⟨hf0, hf1, hf2, hf3, hf4⟩, HQ⟩ := HI.out.cell
  go_upto_region 2 with fail
  have same : ∀ (ph : Nat) W', Drawn0 W1 W' → True := fun _ _ _ => trivial
  refine AnyEvents.region_then 12 (E := []) (C := fun (_ : Nat) W' => Drawn0 W1 W') (G := fun _ _ _ _ => True) (T := []) (R := fun _ _ _ _ => True) (vs := [?v2_0, ?v2_1, ?v2_2, ?v2_3, undef, undef, undef, undef, undef, undef, ?v2_10, ?v2_11]) (by kernel_rfl) (by kernel_rfl) rfl (by kernel_rfl) ?hc2r same (fun _ _ _ _ _ _ _ _ _ => trivial) (fun _ h => nomatch h) (fun x => ?obs2r) ?fin2r
  case hc2r => exact ⟨1, rfl⟩
  case obs2r =>
   refine AnyEvents.obs_cons ?v2_0 (val_hole (by simp only [List.getD_cons_zero, List.getD_cons_succ])) (AnyEvents.ob_plain (v := ?v2_0) rfl rfl rfl same (by simp only [List.getD_cons_zero, List.getD_cons_succ]) (fun ph W' hwn hW => ?_)) ?_
   ·obtain ⟨nd, rfl⟩ := hW; first | (go_simp; done) | (go_simp; (try simp only [i64_w]); rfl) | (go_simp; simp; rfl)
   try simp only [Act.put, List.setIfInBounds_toArray, List.set_cons_zero, List.set_cons_succ]
   refine AnyEvents.obs_cons ?v2_1 (val_hole (by simp only [List.getD_cons_zero, List.getD_cons_succ])) (AnyEvents.ob_plain (v := ?v2_1) rfl rfl rfl same (by simp only [List.getD_cons_zero, List.getD_cons_succ]) (fun ph W' hwn hW => ?_)) ?_
   ·obtain ⟨nd, rfl⟩ := hW; first | (go_simp; done) | (go_simp; (try simp only [i64_w]); rfl) | (go_simp; simp; rfl)
   try simp only [Act.put, List.setIfInBounds_toArray, List.set_cons_zero, List.set_cons_succ]
   refine AnyEvents.obs_cons ?v2_2 (val_hole (by simp only [List.getD_cons_zero, List.getD_cons_succ])) (AnyEvents.ob_plain (v := ?v2_2) rfl rfl rfl same (by simp only [List.getD_cons_zero, List.getD_cons_succ]) (fun ph W' hwn hW => ?_)) ?_
   ·obtain ⟨nd, rfl⟩ := hW; first | (go_simp; done) | (go_simp; (try simp only [i64_w]); rfl) | (go_simp; simp; rfl)
   try simp only [Act.put, List.setIfInBounds_toArray, List.set_cons_zero, List.set_cons_succ]
   refine AnyEvents.obs_cons ?v2_3 (val_hole (by simp only [List.getD_cons_zero, List.getD_cons_succ])) (AnyEvents.ob_plain (v := ?v2_3) rfl rfl rfl same (by simp only [List.getD_cons_zero, List.getD_cons_succ]) (fun ph W' hwn hW => ?_)) ?_
   ·obtain ⟨nd, rfl⟩ := hW; first | (go_simp; done) | (go_simp; (try simp only [i64_w]); rfl) | (go_simp; simp; rfl)
   try simp only [Act.put, List.setIfInBounds_toArray, List.set_cons_zero, List.set_cons_succ]
   refine AnyEvents.obs_cons undef rfl (AnyEvents.ob_off rfl rfl rfl rfl) ?_
   try simp only [Act.put, List.setIfInBounds_toArray, List.set_cons_zero, List.set_cons_succ]
   refine AnyEvents.obs_cons undef rfl (AnyEvents.ob_off rfl rfl rfl rfl) ?_
   try simp only [Act.put, List.setIfInBounds_toArray, List.set_cons_zero, List.set_cons_succ]
   refine AnyEvents.obs_cons undef rfl (AnyEvents.ob_off rfl rfl rfl rfl) ?_
   try simp only [Act.put, List.setIfInBounds_toArray, List.set_cons_zero, List.set_cons_succ]
   refine AnyEvents.obs_cons undef rfl (AnyEvents.ob_off rfl rfl rfl rfl) ?_
   try simp only [Act.put, List.setIfInBounds_toArray, List.set_cons_zero, List.set_cons_succ]
   refine AnyEvents.obs_cons undef rfl (AnyEvents.ob_off rfl rfl rfl rfl) ?_
   try simp only [Act.put, List.setIfInBounds_toArray, List.set_cons_zero, List.set_cons_succ]
   refine AnyEvents.obs_cons undef rfl (AnyEvents.ob_off rfl rfl rfl rfl) ?_
   try simp only [Act.put, List.setIfInBounds_toArray, List.set_cons_zero, List.set_cons_succ]
   refine AnyEvents.obs_cons ?v2_10 (val_hole (by simp only [List.getD_cons_zero, List.getD_cons_succ])) (AnyEvents.ob_plain (v := ?v2_10) rfl rfl rfl same (by simp only [List.getD_cons_zero, List.getD_cons_succ]) (fun ph W' hwn hW => ?_)) ?_
   ·obtain ⟨nd, rfl⟩ := hW; first | (go_simp; done) | (go_simp; (try simp only [i64_w]); rfl) | (go_simp; simp; rfl)
   try simp only [Act.put, List.setIfInBounds_toArray, List.set_cons_zero, List.set_cons_succ]
   refine AnyEvents.obs_cons ?v2_11 (val_hole (by simp only [List.getD_cons_zero, List.getD_cons_succ])) (AnyEvents.ob_plain (v := ?v2_11) rfl rfl rfl same (by simp only [List.getD_cons_zero, List.getD_cons_succ]) (fun ph W' hwn hW => ?_)) ?_
   ·obtain ⟨nd, rfl⟩ := hW; first | (go_simp; done) | (go_simp; (try simp only [i64_w]); rfl) | (go_simp; simp; rfl)
   try simp only [Act.put, List.setIfInBounds_toArray, List.set_cons_zero, List.set_cons_succ]
   trivial
  case fin2r =>
   intro x W' hD _
   simp only [List.take_succ_cons, List.take_zero, List.drop_succ_cons, List.drop_zero]
   rw [AnyOrder.lexAt_cons ?v2_0 (val_hole (by simp only [List.getD_cons_zero, List.getD_cons_succ]))]
   try simp only [Act.put, List.setIfInBounds_toArray, List.set_cons_zero, List.set_cons_succ]
   rw [AnyOrder.lexAt_cons ?v2_1 (val_hole (by simp only [List.getD_cons_zero, List.getD_cons_succ]))]
   try simp only [Act.put, List.setIfInBounds_toArray, List.set_cons_zero, List.set_cons_succ]
   rw [AnyOrder.lexAt_cons ?v2_2 (val_hole (by simp only [List.getD_cons_zero, List.getD_cons_succ]))]
   try simp only [Act.put, List.setIfInBounds_toArray, List.set_cons_zero, List.set_cons_succ]
   rw [AnyOrder.lexAt_cons ?v2_3 (val_hole (by simp only [List.getD_cons_zero, List.getD_cons_succ]))]
   try simp only [Act.put, List.setIfInBounds_toArray, List.set_cons_zero, List.set_cons_succ]
   rw [AnyOrder.lexAt_cons undef rfl]
   try simp only [Act.put, List.setIfInBounds_toArray, List.set_cons_zero, List.set_cons_succ]
   rw [AnyOrder.lexAt_cons undef rfl]
   try simp only [Act.put, List.setIfInBounds_toArray, List.set_cons_zero, List.set_cons_succ]
   rw [AnyOrder.lexAt_cons undef rfl]
   try simp only [Act.put, List.setIfInBounds_toArray, List.set_cons_zero, List.set_cons_succ]
   rw [AnyOrder.lexAt_cons undef rfl]
   try simp only [Act.put, List.setIfInBounds_toArray, List.set_cons_zero, List.set_cons_succ]
   rw [AnyOrder.lexAt_cons undef rfl]
   try simp only [Act.put, List.setIfInBounds_toArray, List.set_cons_zero, List.set_cons_succ]
   rw [AnyOrder.lexAt_cons undef rfl]
   try simp only [Act.put, List.setIfInBounds_toArray, List.set_cons_zero, List.set_cons_succ]
   rw [AnyOrder.lexAt_cons ?v2_10 (val_hole (by simp only [List.getD_cons_zero, List.getD_cons_succ]))]
   try simp only [Act.put, List.setIfInBounds_toArray, List.set_cons_zero, List.set_cons_succ]
   rw [AnyOrder.lexAt_cons ?v2_11 (val_hole (by simp only [List.getD_cons_zero, List.getD_cons_succ]))]
   try simp only [Act.put, List.setIfInBounds_toArray, List.set_cons_zero, List.set_cons_succ]
   rw [AnyOrder.lexAt_nil]
   clear same
   obtain ⟨nd2, rfl⟩ := hD
   go_wp2
   go_ret2
   exact ⟨rfl, pw_below_drewN HB1.out nd2⟩


end Go.Proofs.Ytobndcdohehhbaa.PSendqPlays

-- Laid by this claim's own program over the print's words.
import Derived.Test.YtobndcdohehhbaaPSendqPlaysx0
import Derived.Test.YtobndcdohehhbaaPSendqPlaysx1
import Derived.Test.YtobndcdohehhbaaPSendqPlaysx3
import Derived.Test.YtobndcdohehhbaaPSendqPlaysx6
namespace Go.Proofs.Ytobndcdohehhbaa.PSendqPlays
open Go.RowKit Go.Proofs.YtobndcdohehhbaaW.PrintWords Go.Proofs.YtobndcdohehhbaaW.PrintLast Go.Proofs.YtobndcdohehhbaaW.PrintMore
attribute [local go_sem] max2_int min2_int max_two min_two max_three min_three max_four min_four max_five min_five extract_cut tmod_nat_lit   -- for this text's walks alone
set_option linter.unusedVariables false
set_option linter.unusedSimpArgs false


/-! ### sternpostref15_Queue_Probe: function 39 (by hand) -/
-- over sternpostref15_Queue_off.calls sternpostref15_Queue_off.callsR sendq_Queue_Probe.calls sendq_Queue_Probe.callsR
def RQ.probe (q : RQ) : RQ × ByteArray := if 0 < q.sent then (q, cutS q.s 0 1) else if q.s.toList.isEmpty = true then (q, (⟨#[]⟩ : ByteArray)) else ({ q with sent := 1 }, cutS q.s 0 1)
set_option maxHeartbeats 4000000 in
set_option maxRecDepth 100000 in
theorem sternpostref15_Queue_Probe.callsR (g top : Nat) (q : RQ) (w0 w : World) (hI : RefAt w w0.heap.size top g q) (hB : Below w0.heap.size w0 w) (hs : 0 ≤ q.sent ∧ q.sent ≤ (q.s.size : Int)) :
  Calls Try.prog 39 #[.pointer (some ⟨g, 0, none⟩)] w fun e w' => e = .returned (.tuple #[.int .i64 q.left, .string q.probe.2]) ∧ RefAt w' w0.heap.size top g (q.probe.1) ∧ Below w0.heap.size w0 w' ∧ KeepG g w w' := by
 have HI := Aside0.mk hI
 have HB := Aside0.mk hB
 clear hI hB
 by_cases hp : 0 < q.sent
 ·have e : q.probe = (q, cutS q.s 0 1) := by unfold RQ.probe; rw [if_pos hp]
  rw [e]
  have HP := Aside0.mk (show 1 ≤ q.s.size by omega)
  have d1 : decide (0 < q.sent) = true := decide_eq_true hp
  clear e hs hp
  obtain ⟨Az, cz, ⟨hbg, hge⟩, ⟨hle, hcm⟩, ⟨hc0, hc1, hc2, hc3, hc4⟩, ⟨hf0, hf1, hf2, hf3, hf4⟩, HQ⟩ := HI.out.cell
  go_enter Try.func39, Try.ntmps39
  go_upto_region 2 with fail
  clear d1
  have same : ∀ (ph : Nat) W', Drawn0 w W' → True := fun _ _ _ => trivial
  refine AnyEvents.region_then 11 (E := []) (C := fun (_ : Nat) W' => Drawn0 w W') (G := fun _ _ _ _ => True) (T := []) (R := fun _ _ _ _ => True) (vs := [?v24_0, ?v24_1, ?v24_2, ?v24_3, ?v24_4, ?v24_5, ?v24_6, ?v24_7, (.string (cutS q.s 0 1)), ?v24_9, ?v24_10]) (by kernel_rfl) (by kernel_rfl) rfl (by kernel_rfl) ?hc24r same (fun _ _ _ _ _ _ _ _ _ => trivial) (fun _ h => nomatch h) (fun x => ?obs24r) ?fin24r
  case hc24r => exact ⟨1, rfl⟩
  case obs24r =>
   refine AnyEvents.obs_cons ?v24_0 (val_hole (by simp only [List.getD_cons_zero, List.getD_cons_succ])) (AnyEvents.ob_plain (v := ?v24_0) rfl rfl rfl same (by simp only [List.getD_cons_zero, List.getD_cons_succ]) (fun ph W' hwn hW => ?_)) ?_
   ·obtain ⟨nd, rfl⟩ := hW; have z0 := drew_cell nd hc0; have z1 := drew_cell nd hc3; first | (go_simp; done) | (go_simp; (try simp only [i64_w]); rfl) | (go_simp; simp; rfl)
   try simp only [Act.put, List.setIfInBounds_toArray, List.set_cons_zero, List.set_cons_succ]
   refine AnyEvents.obs_cons ?v24_1 (val_hole (by simp only [List.getD_cons_zero, List.getD_cons_succ])) (AnyEvents.ob_plain (v := ?v24_1) rfl rfl rfl same (by simp only [List.getD_cons_zero, List.getD_cons_succ]) (fun ph W' hwn hW => ?_)) ?_
   ·obtain ⟨nd, rfl⟩ := hW; have z0 := drew_cell nd hc0; have z1 := drew_cell nd hc3; first | (go_simp; done) | (go_simp; (try simp only [i64_w]); rfl) | (go_simp; simp; rfl)
   try simp only [Act.put, List.setIfInBounds_toArray, List.set_cons_zero, List.set_cons_succ]
   refine AnyEvents.obs_cons ?v24_2 (val_hole (by simp only [List.getD_cons_zero, List.getD_cons_succ])) (AnyEvents.ob_plain (v := ?v24_2) rfl rfl rfl same (by simp only [List.getD_cons_zero, List.getD_cons_succ]) (fun ph W' hwn hW => ?_)) ?_
   ·obtain ⟨nd, rfl⟩ := hW; have z0 := drew_cell nd hc0; have z1 := drew_cell nd hc3; first | (go_simp; done) | (go_simp; (try simp only [i64_w]); rfl) | (go_simp; simp; rfl)
   try simp only [Act.put, List.setIfInBounds_toArray, List.set_cons_zero, List.set_cons_succ]
   refine AnyEvents.obs_cons ?v24_3 (val_hole (by simp only [List.getD_cons_zero, List.getD_cons_succ])) (AnyEvents.ob_plain (v := ?v24_3) rfl rfl rfl same (by simp only [List.getD_cons_zero, List.getD_cons_succ]) (fun ph W' hwn hW => ?_)) ?_
   ·obtain ⟨nd, rfl⟩ := hW; have z0 := drew_cell nd hc0; have z1 := drew_cell nd hc3; first | (go_simp; done) | (go_simp; (try simp only [i64_w]); rfl) | (go_simp; simp; rfl)
   try simp only [Act.put, List.setIfInBounds_toArray, List.set_cons_zero, List.set_cons_succ]
   refine AnyEvents.obs_cons ?v24_4 (val_hole (by simp only [List.getD_cons_zero, List.getD_cons_succ])) (AnyEvents.ob_plain (v := ?v24_4) rfl rfl rfl same (by simp only [List.getD_cons_zero, List.getD_cons_succ]) (fun ph W' hwn hW => ?_)) ?_
   ·obtain ⟨nd, rfl⟩ := hW; have z0 := drew_cell nd hc0; have z1 := drew_cell nd hc3; first | (go_simp; done) | (go_simp; (try simp only [i64_w]); rfl) | (go_simp; simp; rfl)
   try simp only [Act.put, List.setIfInBounds_toArray, List.set_cons_zero, List.set_cons_succ]
   refine AnyEvents.obs_cons ?v24_5 (val_hole (by simp only [List.getD_cons_zero, List.getD_cons_succ])) (AnyEvents.ob_plain (v := ?v24_5) rfl rfl rfl same (by simp only [List.getD_cons_zero, List.getD_cons_succ]) (fun ph W' hwn hW => ?_)) ?_
   ·obtain ⟨nd, rfl⟩ := hW; have z0 := drew_cell nd hc0; have z1 := drew_cell nd hc3; first | (go_simp; done) | (go_simp; (try simp only [i64_w]); rfl) | (go_simp; simp; rfl)
   try simp only [Act.put, List.setIfInBounds_toArray, List.set_cons_zero, List.set_cons_succ]
   refine AnyEvents.obs_cons ?v24_6 (val_hole (by simp only [List.getD_cons_zero, List.getD_cons_succ])) (AnyEvents.ob_plain (v := ?v24_6) rfl rfl rfl same (by simp only [List.getD_cons_zero, List.getD_cons_succ]) (fun ph W' hwn hW => ?_)) ?_
   ·obtain ⟨nd, rfl⟩ := hW; have z0 := drew_cell nd hc0; have z1 := drew_cell nd hc3; first | (go_simp; done) | (go_simp; (try simp only [i64_w]); rfl) | (go_simp; simp; rfl)
   try simp only [Act.put, List.setIfInBounds_toArray, List.set_cons_zero, List.set_cons_succ]
   refine AnyEvents.obs_cons ?v24_7 (val_hole (by simp only [List.getD_cons_zero, List.getD_cons_succ])) (AnyEvents.ob_plain (v := ?v24_7) rfl rfl rfl same (by simp only [List.getD_cons_zero, List.getD_cons_succ]) (fun ph W' hwn hW => ?_)) ?_
   ·obtain ⟨nd, rfl⟩ := hW; have z0 := drew_cell nd hc0; have z1 := drew_cell nd hc3; first | (go_simp; done) | (go_simp; (try simp only [i64_w]); rfl) | (go_simp; simp; rfl)
   try simp only [Act.put, List.setIfInBounds_toArray, List.set_cons_zero, List.set_cons_succ]
   refine AnyEvents.obs_cons (.string (cutS q.s 0 1)) (val_hole (by simp only [List.getD_cons_zero, List.getD_cons_succ])) (AnyEvents.ob_plain (v := (.string (cutS q.s 0 1))) rfl rfl rfl same (by simp only [List.getD_cons_zero, List.getD_cons_succ]) (fun ph W' hwn hW => ?_)) ?_
   ·obtain ⟨nd, rfl⟩ := hW; refine (run_sl_to (j := 1) (s := q.s) Try.underlying9 rfl rfl rfl (by decide) (by have := HP.out; omega)).trans ?_; rfl
   try simp only [Act.put, List.setIfInBounds_toArray, List.set_cons_zero, List.set_cons_succ]
   refine AnyEvents.obs_cons ?v24_9 (val_hole (by simp only [List.getD_cons_zero, List.getD_cons_succ])) (AnyEvents.ob_plain (v := ?v24_9) rfl rfl rfl same (by simp only [List.getD_cons_zero, List.getD_cons_succ]) (fun ph W' hwn hW => ?_)) ?_
   ·obtain ⟨nd, rfl⟩ := hW; have z0 := drew_cell nd hc0; have z1 := drew_cell nd hc3; first | (go_simp; done) | (go_simp; (try simp only [i64_w]); rfl) | (go_simp; simp; rfl)
   try simp only [Act.put, List.setIfInBounds_toArray, List.set_cons_zero, List.set_cons_succ]
   refine AnyEvents.obs_cons ?v24_10 (val_hole (by simp only [List.getD_cons_zero, List.getD_cons_succ])) (AnyEvents.ob_plain (v := ?v24_10) rfl rfl rfl same (by simp only [List.getD_cons_zero, List.getD_cons_succ]) (fun ph W' hwn hW => ?_)) ?_
   ·obtain ⟨nd, rfl⟩ := hW; have z0 := drew_cell nd hc0; have z1 := drew_cell nd hc3; first | (go_simp; done) | (go_simp; (try simp only [i64_w]); rfl) | (go_simp; simp; rfl)
   try simp only [Act.put, List.setIfInBounds_toArray, List.set_cons_zero, List.set_cons_succ]
   trivial
  case fin24r =>
   intro x W' hD _
   simp only [List.take_succ_cons, List.take_zero, List.drop_succ_cons, List.drop_zero]
   rw [AnyOrder.lexAt_cons ?v24_0 (val_hole (by simp only [List.getD_cons_zero, List.getD_cons_succ]))]
   try simp only [Act.put, List.setIfInBounds_toArray, List.set_cons_zero, List.set_cons_succ]
   rw [AnyOrder.lexAt_cons ?v24_1 (val_hole (by simp only [List.getD_cons_zero, List.getD_cons_succ]))]
   try simp only [Act.put, List.setIfInBounds_toArray, List.set_cons_zero, List.set_cons_succ]
   rw [AnyOrder.lexAt_cons ?v24_2 (val_hole (by simp only [List.getD_cons_zero, List.getD_cons_succ]))]
   try simp only [Act.put, List.setIfInBounds_toArray, List.set_cons_zero, List.set_cons_succ]
   rw [AnyOrder.lexAt_cons ?v24_3 (val_hole (by simp only [List.getD_cons_zero, List.getD_cons_succ]))]
   try simp only [Act.put, List.setIfInBounds_toArray, List.set_cons_zero, List.set_cons_succ]
   rw [AnyOrder.lexAt_cons ?v24_4 (val_hole (by simp only [List.getD_cons_zero, List.getD_cons_succ]))]
   try simp only [Act.put, List.setIfInBounds_toArray, List.set_cons_zero, List.set_cons_succ]
   rw [AnyOrder.lexAt_cons ?v24_5 (val_hole (by simp only [List.getD_cons_zero, List.getD_cons_succ]))]
   try simp only [Act.put, List.setIfInBounds_toArray, List.set_cons_zero, List.set_cons_succ]
   rw [AnyOrder.lexAt_cons ?v24_6 (val_hole (by simp only [List.getD_cons_zero, List.getD_cons_succ]))]
   try simp only [Act.put, List.setIfInBounds_toArray, List.set_cons_zero, List.set_cons_succ]
   rw [AnyOrder.lexAt_cons ?v24_7 (val_hole (by simp only [List.getD_cons_zero, List.getD_cons_succ]))]
   try simp only [Act.put, List.setIfInBounds_toArray, List.set_cons_zero, List.set_cons_succ]
   rw [AnyOrder.lexAt_cons (.string (cutS q.s 0 1)) (val_hole (by simp only [List.getD_cons_zero, List.getD_cons_succ]))]
   try simp only [Act.put, List.setIfInBounds_toArray, List.set_cons_zero, List.set_cons_succ]
   rw [AnyOrder.lexAt_cons ?v24_9 (val_hole (by simp only [List.getD_cons_zero, List.getD_cons_succ]))]
   try simp only [Act.put, List.setIfInBounds_toArray, List.set_cons_zero, List.set_cons_succ]
   rw [AnyOrder.lexAt_cons ?v24_10 (val_hole (by simp only [List.getD_cons_zero, List.getD_cons_succ]))]
   try simp only [Act.put, List.setIfInBounds_toArray, List.set_cons_zero, List.set_cons_succ]
   rw [AnyOrder.lexAt_nil]
   clear same
   obtain ⟨nd, rfl⟩ := hD
   go_wp2
   go_ret2
   exact ⟨rfl, HI.out.drawn rfl, pw_below_drewN HB.out nd, KeepG.of_below (pw_below_drewN (Below.refl _ _) nd)⟩
 have d1 : decide (0 < q.sent) = false := decide_eq_false hp
 cases hb : q.s.toList.isEmpty
 rotate_left
 ·have e : q.probe = (q, (⟨#[]⟩ : ByteArray)) := by unfold RQ.probe; rw [if_neg hp, if_pos hb]
  rw [e]
  clear e hs hp
  obtain ⟨Az, cz, ⟨hbg, hge⟩, ⟨hle, hcm⟩, ⟨hc0, hc1, hc2, hc3, hc4⟩, ⟨hf0, hf1, hf2, hf3, hf4⟩, HQ⟩ := HI.out.cell
  go_enter Try.func39, Try.ntmps39
  go_wp2
  go_ret2
  exact ⟨rfl, HI.out, HB.out, KeepG.refl _ _⟩
 have e : q.probe = ({ q with sent := 1 }, cutS q.s 0 1) := by unfold RQ.probe; rw [if_neg hp, if_neg (by rw [hb]; simp)]
 rw [e]
 have HP := Aside0.mk (str_pos hb)
 clear e hs hp
 obtain ⟨Az, cz, ⟨hbg, hge⟩, ⟨hle, hcm⟩, ⟨hc0, hc1, hc2, hc3, hc4⟩, ⟨hf0, hf1, hf2, hf3, hf4⟩, HQ⟩ := HI.out.cell
 go_enter Try.func39, Try.ntmps39
 go_upto_region 6 with fail
 clear hb d1
 have HI1 := Aside0.mk (show RefAt (w.setCell ⟨g, 1, none⟩ (.int .i64 1)) w0.heap.size top g { q with sent := 1 } from HI.out.set 1 _ rfl (fun _ => rfl))
 have HB1 := Aside0.mk (show Below w0.heap.size w0 (w.setCell ⟨g, 1, none⟩ (.int .i64 1)) from below_set HB.out HI.out.ge)
 have HKs := Aside0.mk (KeepG.set g 1 w (.int .i64 1))
 clear hbg hge hle hcm hc0 hc1 hc2 hc3 hc4 hf0 hf1 hf2 hf3 hf4 HQ
 clear HI HB
 have HI := HI1; have HB := HB1
 clear HI1 HB1
 generalize w.setCell ⟨g, 1, none⟩ (.int .i64 1) = W1 at HI HB HKs ⊢
 obtain ⟨Az, cz, ⟨hbg, hge⟩, ⟨hle, hcm⟩, ⟨hc0, hc1, hc2, hc3, hc4⟩, ⟨hf0, hf1, hf2, hf3, hf4⟩, HQ⟩ := HI.out.cell
 have same : ∀ (ph : Nat) W', Drawn0 W1 W' → True := fun _ _ _ => trivial
 refine AnyEvents.region_then 11 (E := []) (C := fun (_ : Nat) W' => Drawn0 W1 W') (G := fun _ _ _ _ => True) (T := []) (R := fun _ _ _ _ => True) (vs := [?v25_0, ?v25_1, ?v25_2, ?v25_3, ?v25_4, ?v25_5, ?v25_6, ?v25_7, (.string (cutS q.s 0 1)), ?v25_9, ?v25_10]) (by kernel_rfl) (by kernel_rfl) rfl (by kernel_rfl) ?hc25r same (fun _ _ _ _ _ _ _ _ _ => trivial) (fun _ h => nomatch h) (fun x => ?obs25r) ?fin25r
 case hc25r => exact ⟨1, rfl⟩
 case obs25r =>
  refine AnyEvents.obs_cons ?v25_0 (val_hole (by simp only [List.getD_cons_zero, List.getD_cons_succ])) (AnyEvents.ob_plain (v := ?v25_0) rfl rfl rfl same (by simp only [List.getD_cons_zero, List.getD_cons_succ]) (fun ph W' hwn hW => ?_)) ?_
  ·obtain ⟨nd, rfl⟩ := hW; have z0 := drew_cell nd hc0; have z1 := drew_cell nd hc3; first | (go_simp; done) | (go_simp; (try simp only [i64_w]); rfl) | (go_simp; simp; rfl)
  try simp only [Act.put, List.setIfInBounds_toArray, List.set_cons_zero, List.set_cons_succ]
  refine AnyEvents.obs_cons ?v25_1 (val_hole (by simp only [List.getD_cons_zero, List.getD_cons_succ])) (AnyEvents.ob_plain (v := ?v25_1) rfl rfl rfl same (by simp only [List.getD_cons_zero, List.getD_cons_succ]) (fun ph W' hwn hW => ?_)) ?_
  ·obtain ⟨nd, rfl⟩ := hW; have z0 := drew_cell nd hc0; have z1 := drew_cell nd hc3; first | (go_simp; done) | (go_simp; (try simp only [i64_w]); rfl) | (go_simp; simp; rfl)
  try simp only [Act.put, List.setIfInBounds_toArray, List.set_cons_zero, List.set_cons_succ]
  refine AnyEvents.obs_cons ?v25_2 (val_hole (by simp only [List.getD_cons_zero, List.getD_cons_succ])) (AnyEvents.ob_plain (v := ?v25_2) rfl rfl rfl same (by simp only [List.getD_cons_zero, List.getD_cons_succ]) (fun ph W' hwn hW => ?_)) ?_
  ·obtain ⟨nd, rfl⟩ := hW; have z0 := drew_cell nd hc0; have z1 := drew_cell nd hc3; first | (go_simp; done) | (go_simp; (try simp only [i64_w]); rfl) | (go_simp; simp; rfl)
  try simp only [Act.put, List.setIfInBounds_toArray, List.set_cons_zero, List.set_cons_succ]
  refine AnyEvents.obs_cons ?v25_3 (val_hole (by simp only [List.getD_cons_zero, List.getD_cons_succ])) (AnyEvents.ob_plain (v := ?v25_3) rfl rfl rfl same (by simp only [List.getD_cons_zero, List.getD_cons_succ]) (fun ph W' hwn hW => ?_)) ?_
  ·obtain ⟨nd, rfl⟩ := hW; have z0 := drew_cell nd hc0; have z1 := drew_cell nd hc3; first | (go_simp; done) | (go_simp; (try simp only [i64_w]); rfl) | (go_simp; simp; rfl)
  try simp only [Act.put, List.setIfInBounds_toArray, List.set_cons_zero, List.set_cons_succ]
  refine AnyEvents.obs_cons ?v25_4 (val_hole (by simp only [List.getD_cons_zero, List.getD_cons_succ])) (AnyEvents.ob_plain (v := ?v25_4) rfl rfl rfl same (by simp only [List.getD_cons_zero, List.getD_cons_succ]) (fun ph W' hwn hW => ?_)) ?_
  ·obtain ⟨nd, rfl⟩ := hW; have z0 := drew_cell nd hc0; have z1 := drew_cell nd hc3; first | (go_simp; done) | (go_simp; (try simp only [i64_w]); rfl) | (go_simp; simp; rfl)
  try simp only [Act.put, List.setIfInBounds_toArray, List.set_cons_zero, List.set_cons_succ]
  refine AnyEvents.obs_cons ?v25_5 (val_hole (by simp only [List.getD_cons_zero, List.getD_cons_succ])) (AnyEvents.ob_plain (v := ?v25_5) rfl rfl rfl same (by simp only [List.getD_cons_zero, List.getD_cons_succ]) (fun ph W' hwn hW => ?_)) ?_
  ·obtain ⟨nd, rfl⟩ := hW; have z0 := drew_cell nd hc0; have z1 := drew_cell nd hc3; first | (go_simp; done) | (go_simp; (try simp only [i64_w]); rfl) | (go_simp; simp; rfl)
  try simp only [Act.put, List.setIfInBounds_toArray, List.set_cons_zero, List.set_cons_succ]
  refine AnyEvents.obs_cons ?v25_6 (val_hole (by simp only [List.getD_cons_zero, List.getD_cons_succ])) (AnyEvents.ob_plain (v := ?v25_6) rfl rfl rfl same (by simp only [List.getD_cons_zero, List.getD_cons_succ]) (fun ph W' hwn hW => ?_)) ?_
  ·obtain ⟨nd, rfl⟩ := hW; have z0 := drew_cell nd hc0; have z1 := drew_cell nd hc3; first | (go_simp; done) | (go_simp; (try simp only [i64_w]); rfl) | (go_simp; simp; rfl)
  try simp only [Act.put, List.setIfInBounds_toArray, List.set_cons_zero, List.set_cons_succ]
  refine AnyEvents.obs_cons ?v25_7 (val_hole (by simp only [List.getD_cons_zero, List.getD_cons_succ])) (AnyEvents.ob_plain (v := ?v25_7) rfl rfl rfl same (by simp only [List.getD_cons_zero, List.getD_cons_succ]) (fun ph W' hwn hW => ?_)) ?_
  ·obtain ⟨nd, rfl⟩ := hW; have z0 := drew_cell nd hc0; have z1 := drew_cell nd hc3; first | (go_simp; done) | (go_simp; (try simp only [i64_w]); rfl) | (go_simp; simp; rfl)
  try simp only [Act.put, List.setIfInBounds_toArray, List.set_cons_zero, List.set_cons_succ]
  refine AnyEvents.obs_cons (.string (cutS q.s 0 1)) (val_hole (by simp only [List.getD_cons_zero, List.getD_cons_succ])) (AnyEvents.ob_plain (v := (.string (cutS q.s 0 1))) rfl rfl rfl same (by simp only [List.getD_cons_zero, List.getD_cons_succ]) (fun ph W' hwn hW => ?_)) ?_
  ·obtain ⟨nd, rfl⟩ := hW; refine (run_sl_to (j := 1) (s := q.s) Try.underlying9 rfl rfl rfl (by decide) (by have := HP.out; omega)).trans ?_; rfl
  try simp only [Act.put, List.setIfInBounds_toArray, List.set_cons_zero, List.set_cons_succ]
  refine AnyEvents.obs_cons ?v25_9 (val_hole (by simp only [List.getD_cons_zero, List.getD_cons_succ])) (AnyEvents.ob_plain (v := ?v25_9) rfl rfl rfl same (by simp only [List.getD_cons_zero, List.getD_cons_succ]) (fun ph W' hwn hW => ?_)) ?_
  ·obtain ⟨nd, rfl⟩ := hW; have z0 := drew_cell nd hc0; have z1 := drew_cell nd hc3; first | (go_simp; done) | (go_simp; (try simp only [i64_w]); rfl) | (go_simp; simp; rfl)
  try simp only [Act.put, List.setIfInBounds_toArray, List.set_cons_zero, List.set_cons_succ]
  refine AnyEvents.obs_cons ?v25_10 (val_hole (by simp only [List.getD_cons_zero, List.getD_cons_succ])) (AnyEvents.ob_plain (v := ?v25_10) rfl rfl rfl same (by simp only [List.getD_cons_zero, List.getD_cons_succ]) (fun ph W' hwn hW => ?_)) ?_
  ·obtain ⟨nd, rfl⟩ := hW; have z0 := drew_cell nd hc0; have z1 := drew_cell nd hc3; first | (go_simp; done) | (go_simp; (try simp only [i64_w]); rfl) | (go_simp; simp; rfl)
  try simp only [Act.put, List.setIfInBounds_toArray, List.set_cons_zero, List.set_cons_succ]
  trivial
 case fin25r =>
  intro x W' hD _
  simp only [List.take_succ_cons, List.take_zero, List.drop_succ_cons, List.drop_zero]
  rw [AnyOrder.lexAt_cons ?v25_0 (val_hole (by simp only [List.getD_cons_zero, List.getD_cons_succ]))]
  try simp only [Act.put, List.setIfInBounds_toArray, List.set_cons_zero, List.set_cons_succ]
  rw [AnyOrder.lexAt_cons ?v25_1 (val_hole (by simp only [List.getD_cons_zero, List.getD_cons_succ]))]
  try simp only [Act.put, List.setIfInBounds_toArray, List.set_cons_zero, List.set_cons_succ]
  rw [AnyOrder.lexAt_cons ?v25_2 (val_hole (by simp only [List.getD_cons_zero, List.getD_cons_succ]))]
  try simp only [Act.put, List.setIfInBounds_toArray, List.set_cons_zero, List.set_cons_succ]
  rw [AnyOrder.lexAt_cons ?v25_3 (val_hole (by simp only [List.getD_cons_zero, List.getD_cons_succ]))]
  try simp only [Act.put, List.setIfInBounds_toArray, List.set_cons_zero, List.set_cons_succ]
  rw [AnyOrder.lexAt_cons ?v25_4 (val_hole (by simp only [List.getD_cons_zero, List.getD_cons_succ]))]
  try simp only [Act.put, List.setIfInBounds_toArray, List.set_cons_zero, List.set_cons_succ]
  rw [AnyOrder.lexAt_cons ?v25_5 (val_hole (by simp only [List.getD_cons_zero, List.getD_cons_succ]))]
  try simp only [Act.put, List.setIfInBounds_toArray, List.set_cons_zero, List.set_cons_succ]
  rw [AnyOrder.lexAt_cons ?v25_6 (val_hole (by simp only [List.getD_cons_zero, List.getD_cons_succ]))]
  try simp only [Act.put, List.setIfInBounds_toArray, List.set_cons_zero, List.set_cons_succ]
  rw [AnyOrder.lexAt_cons ?v25_7 (val_hole (by simp only [List.getD_cons_zero, List.getD_cons_succ]))]
  try simp only [Act.put, List.setIfInBounds_toArray, List.set_cons_zero, List.set_cons_succ]
  rw [AnyOrder.lexAt_cons (.string (cutS q.s 0 1)) (val_hole (by simp only [List.getD_cons_zero, List.getD_cons_succ]))]
  try simp only [Act.put, List.setIfInBounds_toArray, List.set_cons_zero, List.set_cons_succ]
  rw [AnyOrder.lexAt_cons ?v25_9 (val_hole (by simp only [List.getD_cons_zero, List.getD_cons_succ]))]
  try simp only [Act.put, List.setIfInBounds_toArray, List.set_cons_zero, List.set_cons_succ]
  rw [AnyOrder.lexAt_cons ?v25_10 (val_hole (by simp only [List.getD_cons_zero, List.getD_cons_succ]))]
  try simp only [Act.put, List.setIfInBounds_toArray, List.set_cons_zero, List.set_cons_succ]
  rw [AnyOrder.lexAt_nil]
  clear same
  obtain ⟨nd, rfl⟩ := hD
  go_wp2
  go_ret2
  exact ⟨rfl, HI.out.drawn rfl, pw_below_drewN HB.out nd, HKs.out.trans (KeepG.of_below (pw_below_drewN (Below.refl _ _) nd))⟩


end Go.Proofs.Ytobndcdohehhbaa.PSendqPlays

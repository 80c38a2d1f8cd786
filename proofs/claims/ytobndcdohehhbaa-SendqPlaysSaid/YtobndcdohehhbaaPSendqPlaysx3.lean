-- Laid by this claim's own program over the print's words.
import Derived.Test.YtobndcdohehhbaaPSendqPlaysx0
import Derived.Test.YtobndcdohehhbaaPSendqPlaysx1
import Derived.Test.YtobndcdohehhbaaPSendqPlaysx2
namespace Go.Proofs.Ytobndcdohehhbaa.PSendqPlays
open Go.RowKit Go.Proofs.YtobndcdohehhbaaW.PrintWords Go.Proofs.YtobndcdohehhbaaW.PrintLast Go.Proofs.YtobndcdohehhbaaW.PrintMore
attribute [local go_sem] max2_int min2_int max_two min_two max_three min_three max_four min_four max_five min_five extract_cut tmod_nat_lit   -- for this text's walks alone
set_option linter.unusedVariables false
set_option linter.unusedSimpArgs false


/-! ### sendq_Queue_Ack: function 14 (by hand) -/
-- over sendq_Queue_off.calls sendq_Queue_off.callsR
def ackAp (d : Int) : List (Int × Int) → List (Int × Int)
 | [] => []
 | x :: l => if d < x.2 then (if 0 < x.1 - d then x.1 - d else 0, x.2 - d) :: ackAp d l else ackAp d l
theorem ackAp_snoc (d : Int) (x : Int × Int) : ∀ l, ackAp d (l ++ [x]) = ackAp d l ++ (if d < x.2 then [(if 0 < x.1 - d then x.1 - d else 0, x.2 - d)] else [])
 | [] => by simp [ackAp]
 | y :: l => by simp only [List.cons_append, ackAp, ackAp_snoc d x l]; split <;> rfl
theorem ackAp_le (d : Int) : ∀ l, (ackAp d l).length ≤ l.length
 | [] => Nat.le_refl _
 | y :: l => by have := ackAp_le d l; unfold ackAp; split <;> simp <;> omega
def QS.ack (q : QS) (n : Int) : QS × Int × Int := if (q.off n).2 = true then ({ q with left := n, s := cutS q.s (q.off n).1.toNat q.s.size, sent := q.sent - (q.off n).1, ap := ackAp (q.off n).1 q.ap }, (q.off n).1, 0) else (q, 0, 1)
theorem off_ok {q : QS} {n : Int} (h : (q.off n).2 = true) : 0 ≤ (q.off n).1 ∧ (q.off n).1 ≤ q.sent := by
 unfold QS.off at h ⊢
 split at h
 ·rename_i hn
  rw [if_pos hn]
  exact ⟨Int.emod_nonneg _ (by decide), of_decide_eq_true h⟩
 ·cases h
set_option maxHeartbeats 4000000 in
set_option maxRecDepth 100000 in
theorem sendq_Queue_Ack.calls (g : Nat) (q : QS) (n : Int) (w0 w : World) (hI : QAt w w0.heap.size g q) (hB : Below w0.heap.size w0 w) (hl : sqOk q.left) (hs : 0 ≤ q.sent ∧ q.sent ≤ (q.s.size : Int) ∧ (q.s.size : Int) ≤ 65536) (hap : (∀ x ∈ q.ap, 0 ≤ x.1 ∧ x.1 ≤ 65536 ∧ 0 ≤ x.2 ∧ x.2 ≤ 65536) ∧ q.ap.length ≤ 1000000) :
  Calls Try.prog 14 #[.pointer (some ⟨g, 0, none⟩), .int .i64 n] w fun e w' => e = .returned (.tuple #[.int .i64 (q.ack n).2.1, .int .i64 (q.ack n).2.2]) ∧ QAt w' w0.heap.size g ((q.ack n).1) ∧ Below w0.heap.size w0 w' ∧ KeepG g w w' := by
 have HI := Aside0.mk hI
 have HB := Aside0.mk hB
 have HL := Aside0.mk hl
 have HS := Aside0.mk hs
 have HAP := Aside0.mk hap
 clear hI hB hl hs hap
 obtain ⟨d, hd1⟩ : ∃ d_, (q.off n).1 = d_ := ⟨_, rfl⟩
 obtain ⟨ok, hd2⟩ : ∃ d_, (q.off n).2 = d_ := ⟨_, rfl⟩
 cases ok
 ·have e : q.ack n = (q, 0, 1) := by unfold QS.ack; rw [if_neg (by rw [hd2]; simp)]
  rw [e]
  clear e
  obtain ⟨Az, cz, ⟨hbg, hge⟩, ⟨hle, hcm⟩, ⟨hc0, hc1, hc2, hc3, hc4⟩, ⟨hf0, hf1, hf2, hf3, hf4⟩, HQ⟩ := HI.out.cell
  go_enter Try.func14, Try.ntmps14
  go_wp2_with fail
  refine (sendq_Queue_off.calls g q n w0 _ HI.out HL.out).mono ?_
  rw [hd1, hd2]
  rintro e W1 ⟨rfl, hb⟩
  have HB1 := Aside0.mk hb
  clear hb
  go_wp2
  go_ret2
  exact ⟨rfl, HI.out.kept HB1.out, below_step HB.out HB1.out, KeepG.of_below HB1.out⟩
 have hdb := off_ok hd2
 rw [hd1] at hdb
 have e : q.ack n = ({ q with left := n, s := cutS q.s d.toNat q.s.size, sent := q.sent - d, ap := ackAp d q.ap }, d, 0) := by unfold QS.ack; rw [if_pos hd2, hd1]
 rw [e]
 have HD := Aside0.mk hdb
 have hw1 : wrap64 (q.sent - d) = q.sent - d := by have := HS.out; exact w64p (by omega) (by omega)
 have HW1 := Aside0.mk hw1
 clear e hdb hw1
 obtain ⟨Az, cz, ⟨hbg, hge⟩, ⟨hle, hcm⟩, ⟨hc0, hc1, hc2, hc3, hc4⟩, ⟨hf0, hf1, hf2, hf3, hf4⟩, HQ⟩ := HI.out.cell
 go_enter Try.func14, Try.ntmps14
 go_wp2_with fail
 refine (sendq_Queue_off.calls g q n w0 _ HI.out HL.out).mono ?_
 rw [hd1, hd2]
 clear hd1 hd2
 rintro e W1 ⟨rfl, hb⟩
 clear hbg hge hle hcm hc0 hc1 hc2 hc3 hc4 hf0 hf1 hf2 hf3 hf4 HQ
 have HI1 := Aside0.mk (HI.out.kept hb)
 have HBa := Aside0.mk (below_step HB.out hb)
 have HKs := Aside0.mk (show KeepG g w W1 from KeepG.of_below hb)
 clear HI HB hb
 have HI := HI1; have HB := HBa
 clear HI1 HBa
 go_upto_region 4 with fail
 refine AnyEvents.region_then (P := Try.prog) 22 (E := [18, 21]) (C := fun ph W' => QAt W' w0.heap.size g { q with left := if ph = 0 then q.left else n, s := if ph ≤ 1 then q.s else cutS q.s d.toNat q.s.size } ∧ Below w0.heap.size w0 W' ∧ KeepG g w W') (G := fun _ _ _ _ => True) (T := []) (R := fun _ _ _ _ => True) (vs := [?v12_0, ?v12_1, ?v12_2, ?v12_3, ?v12_4, ?v12_5, ?v12_6, ?v12_7, ?v12_8, (.string (cutS q.s d.toNat q.s.size)), ?v12_10, ?v12_11, ?v12_12, ?v12_13, ?v12_14, ?v12_15, ?v12_16, ?v12_17, undef, ?v12_19, ?v12_20, undef]) (by kernel_rfl) (by kernel_rfl) rfl (by kernel_rfl) ?hc12r (fun _ _ _ => trivial) (fun _ _ _ _ _ _ _ _ _ => trivial) ?hc12re (fun x => ?obs12r) ?fin12r
 case hc12re => decide
 case hc12r => exact ⟨HI.out.drawn rfl, pw_below_drewN HB.out 1, HKs.out.trans (KeepG.of_below (pw_below_drewN (Below.refl _ _) 1))⟩
 case obs12r =>
  refine AnyEvents.obs_cons ?v12_0 (val_hole (by simp only [List.getD_cons_zero, List.getD_cons_succ])) (AnyEvents.ob_plain (v := ?v12_0) rfl rfl rfl (fun _ _ _ => trivial) (by simp only [List.getD_cons_zero, List.getD_cons_succ]) (fun ph W' hwn hW => ?_)) ?_
  ·obtain ⟨A_, c_, _, _, ⟨z0, z1, z2, z3, z4⟩, _, _⟩ := hW.1.cell; first | (go_simp; done) | (go_simp; (try simp only [i64_w]); rfl) | (go_simp; simp; rfl)
  try simp only [Act.put, List.setIfInBounds_toArray, List.set_cons_zero, List.set_cons_succ]
  refine AnyEvents.obs_cons ?v12_1 (val_hole (by simp only [List.getD_cons_zero, List.getD_cons_succ])) (AnyEvents.ob_plain (v := ?v12_1) rfl rfl rfl (fun _ _ _ => trivial) (by simp only [List.getD_cons_zero, List.getD_cons_succ]) (fun ph W' hwn hW => ?_)) ?_
  ·obtain ⟨A_, c_, _, _, ⟨z0, z1, z2, z3, z4⟩, _, _⟩ := hW.1.cell; first | (go_simp; done) | (go_simp; (try simp only [i64_w]); rfl) | (go_simp; simp; rfl)
  try simp only [Act.put, List.setIfInBounds_toArray, List.set_cons_zero, List.set_cons_succ]
  refine AnyEvents.obs_cons ?v12_2 (val_hole (by simp only [List.getD_cons_zero, List.getD_cons_succ])) (AnyEvents.ob_plain (v := ?v12_2) rfl rfl rfl (fun _ _ _ => trivial) (by simp only [List.getD_cons_zero, List.getD_cons_succ]) (fun ph W' hwn hW => ?_)) ?_
  ·obtain ⟨A_, c_, _, _, ⟨z0, z1, z2, z3, z4⟩, _, _⟩ := hW.1.cell; first | (go_simp; done) | (go_simp; (try simp only [i64_w]); rfl) | (go_simp; simp; rfl)
  try simp only [Act.put, List.setIfInBounds_toArray, List.set_cons_zero, List.set_cons_succ]
  refine AnyEvents.obs_cons ?v12_3 (val_hole (by simp only [List.getD_cons_zero, List.getD_cons_succ])) (AnyEvents.ob_plain (v := ?v12_3) rfl rfl rfl (fun _ _ _ => trivial) (by simp only [List.getD_cons_zero, List.getD_cons_succ]) (fun ph W' hwn hW => ?_)) ?_
  ·obtain ⟨A_, c_, _, _, ⟨z0, z1, z2, z3, z4⟩, _, _⟩ := hW.1.cell; first | (go_simp; done) | (go_simp; (try simp only [i64_w]); rfl) | (go_simp; simp; rfl)
  try simp only [Act.put, List.setIfInBounds_toArray, List.set_cons_zero, List.set_cons_succ]
  refine AnyEvents.obs_cons ?v12_4 (val_hole (by simp only [List.getD_cons_zero, List.getD_cons_succ])) (AnyEvents.ob_plain (v := ?v12_4) rfl rfl rfl (fun _ _ _ => trivial) (by simp only [List.getD_cons_zero, List.getD_cons_succ]) (fun ph W' hwn hW => ?_)) ?_
  ·obtain ⟨A_, c_, _, _, ⟨z0, z1, z2, z3, z4⟩, _, _⟩ := hW.1.cell; first | (go_simp; done) | (go_simp; (try simp only [i64_w]); rfl) | (go_simp; simp; rfl)
  try simp only [Act.put, List.setIfInBounds_toArray, List.set_cons_zero, List.set_cons_succ]
  refine AnyEvents.obs_cons ?v12_5 (val_hole (by simp only [List.getD_cons_zero, List.getD_cons_succ])) (AnyEvents.ob_plain (v := ?v12_5) rfl rfl rfl (fun _ _ _ => trivial) (by simp only [List.getD_cons_zero, List.getD_cons_succ]) (fun ph W' hwn hW => ?_)) ?_
  ·obtain ⟨A_, c_, _, _, ⟨z0, z1, z2, z3, z4⟩, _, _⟩ := hW.1.cell; first | (go_simp; done) | (go_simp; (try simp only [i64_w]); rfl) | (go_simp; simp; rfl)
  try simp only [Act.put, List.setIfInBounds_toArray, List.set_cons_zero, List.set_cons_succ]
  refine AnyEvents.obs_cons ?v12_6 (val_hole (by simp only [List.getD_cons_zero, List.getD_cons_succ])) (AnyEvents.ob_plain (v := ?v12_6) rfl rfl rfl (fun _ _ _ => trivial) (by simp only [List.getD_cons_zero, List.getD_cons_succ]) (fun ph W' hwn hW => ?_)) ?_
  ·obtain ⟨A_, c_, _, _, ⟨z0, z1, z2, z3, z4⟩, _, _⟩ := hW.1.cell; first | (go_simp; done) | (go_simp; (try simp only [i64_w]); rfl) | (go_simp; simp; rfl)
  try simp only [Act.put, List.setIfInBounds_toArray, List.set_cons_zero, List.set_cons_succ]
  refine AnyEvents.obs_cons ?v12_7 (val_hole (by simp only [List.getD_cons_zero, List.getD_cons_succ])) (AnyEvents.ob_plain (v := ?v12_7) rfl rfl rfl (fun _ _ _ => trivial) (by simp only [List.getD_cons_zero, List.getD_cons_succ]) (fun ph W' hwn hW => ?_)) ?_
  ·obtain ⟨A_, c_, _, _, ⟨z0, z1, z2, z3, z4⟩, _, _⟩ := hW.1.cell; have hp := hwn.hi 1 21 rfl (by kernel_rfl); dsimp only at z3; rw [if_pos hp] at z3; first | (go_simp; done) | (go_simp; (try simp only [i64_w]); rfl) | (go_simp; simp; rfl)
  try simp only [Act.put, List.setIfInBounds_toArray, List.set_cons_zero, List.set_cons_succ]
  refine AnyEvents.obs_cons ?v12_8 (val_hole (by simp only [List.getD_cons_zero, List.getD_cons_succ])) (AnyEvents.ob_plain (v := ?v12_8) rfl rfl rfl (fun _ _ _ => trivial) (by simp only [List.getD_cons_zero, List.getD_cons_succ]) (fun ph W' hwn hW => ?_)) ?_
  ·obtain ⟨A_, c_, _, _, ⟨z0, z1, z2, z3, z4⟩, _, _⟩ := hW.1.cell; first | (go_simp; done) | (go_simp; (try simp only [i64_w]); rfl) | (go_simp; simp; rfl)
  try simp only [Act.put, List.setIfInBounds_toArray, List.set_cons_zero, List.set_cons_succ]
  refine AnyEvents.obs_cons (.string (cutS q.s d.toNat q.s.size)) (val_hole (by simp only [List.getD_cons_zero, List.getD_cons_succ])) (AnyEvents.ob_plain (v := (.string (cutS q.s d.toNat q.s.size))) rfl rfl rfl (fun _ _ _ => trivial) (by simp only [List.getD_cons_zero, List.getD_cons_succ]) (fun ph W' hwn hW => ?_)) ?_
  ·exact run_sl_from (i := d) (s := q.s) Try.underlying9 rfl rfl rfl HD.out.1 (by have h1 := HD.out; have h2 := HS.out; omega)
  try simp only [Act.put, List.setIfInBounds_toArray, List.set_cons_zero, List.set_cons_succ]
  refine AnyEvents.obs_cons ?v12_10 (val_hole (by simp only [List.getD_cons_zero, List.getD_cons_succ])) (AnyEvents.ob_plain (v := ?v12_10) rfl rfl rfl (fun _ _ _ => trivial) (by simp only [List.getD_cons_zero, List.getD_cons_succ]) (fun ph W' hwn hW => ?_)) ?_
  ·obtain ⟨A_, c_, _, _, ⟨z0, z1, z2, z3, z4⟩, _, _⟩ := hW.1.cell; first | (go_simp; done) | (go_simp; (try simp only [i64_w]); rfl) | (go_simp; simp; rfl)
  try simp only [Act.put, List.setIfInBounds_toArray, List.set_cons_zero, List.set_cons_succ]
  refine AnyEvents.obs_cons ?v12_11 (val_hole (by simp only [List.getD_cons_zero, List.getD_cons_succ])) (AnyEvents.ob_plain (v := ?v12_11) rfl rfl rfl (fun _ _ _ => trivial) (by simp only [List.getD_cons_zero, List.getD_cons_succ]) (fun ph W' hwn hW => ?_)) ?_
  ·obtain ⟨A_, c_, _, _, ⟨z0, z1, z2, z3, z4⟩, _, _⟩ := hW.1.cell; first | (go_simp; done) | (go_simp; (try simp only [i64_w]); rfl) | (go_simp; simp; rfl)
  try simp only [Act.put, List.setIfInBounds_toArray, List.set_cons_zero, List.set_cons_succ]
  refine AnyEvents.obs_cons ?v12_12 (val_hole (by simp only [List.getD_cons_zero, List.getD_cons_succ])) (AnyEvents.ob_plain (v := ?v12_12) rfl rfl rfl (fun _ _ _ => trivial) (by simp only [List.getD_cons_zero, List.getD_cons_succ]) (fun ph W' hwn hW => ?_)) ?_
  ·obtain ⟨A_, c_, _, _, ⟨z0, z1, z2, z3, z4⟩, _, _⟩ := hW.1.cell; first | (go_simp; done) | (go_simp; (try simp only [i64_w]); rfl) | (go_simp; simp; rfl)
  try simp only [Act.put, List.setIfInBounds_toArray, List.set_cons_zero, List.set_cons_succ]
  refine AnyEvents.obs_cons ?v12_13 (val_hole (by simp only [List.getD_cons_zero, List.getD_cons_succ])) (AnyEvents.ob_plain (v := ?v12_13) rfl rfl rfl (fun _ _ _ => trivial) (by simp only [List.getD_cons_zero, List.getD_cons_succ]) (fun ph W' hwn hW => ?_)) ?_
  ·obtain ⟨A_, c_, _, _, ⟨z0, z1, z2, z3, z4⟩, _, _⟩ := hW.1.cell; dsimp only at z1; first | (go_simp; done) | (go_simp; (try simp only [i64_w]); rfl) | (go_simp; simp; rfl)
  try simp only [Act.put, List.setIfInBounds_toArray, List.set_cons_zero, List.set_cons_succ]
  refine AnyEvents.obs_cons ?v12_14 (val_hole (by simp only [List.getD_cons_zero, List.getD_cons_succ])) (AnyEvents.ob_plain (v := ?v12_14) rfl rfl rfl (fun _ _ _ => trivial) (by simp only [List.getD_cons_zero, List.getD_cons_succ]) (fun ph W' hwn hW => ?_)) ?_
  ·obtain ⟨A_, c_, _, _, ⟨z0, z1, z2, z3, z4⟩, _, _⟩ := hW.1.cell; first | (go_simp; done) | (go_simp; (try simp only [i64_w]); rfl) | (go_simp; simp; rfl)
  try simp only [Act.put, List.setIfInBounds_toArray, List.set_cons_zero, List.set_cons_succ]
  refine AnyEvents.obs_cons ?v12_15 (val_hole (by simp only [List.getD_cons_zero, List.getD_cons_succ])) (AnyEvents.ob_plain (v := ?v12_15) rfl rfl rfl (fun _ _ _ => trivial) (by simp only [List.getD_cons_zero, List.getD_cons_succ]) (fun ph W' hwn hW => ?_)) ?_
  ·obtain ⟨A_, c_, _, _, ⟨z0, z1, z2, z3, z4⟩, _, _⟩ := hW.1.cell; first | (go_simp; done) | (go_simp; (try simp only [i64_w]); rfl) | (go_simp; simp; rfl)
  try simp only [Act.put, List.setIfInBounds_toArray, List.set_cons_zero, List.set_cons_succ]
  refine AnyEvents.obs_cons ?v12_16 (val_hole (by simp only [List.getD_cons_zero, List.getD_cons_succ])) (AnyEvents.ob_plain (v := ?v12_16) rfl rfl rfl (fun _ _ _ => trivial) (by simp only [List.getD_cons_zero, List.getD_cons_succ]) (fun ph W' hwn hW => ?_)) ?_
  ·obtain ⟨A_, c_, _, _, ⟨z0, z1, z2, z3, z4⟩, _, _⟩ := hW.1.cell; first | (go_simp; done) | (go_simp; (try simp only [i64_w]); rfl) | (go_simp; simp; rfl)
  try simp only [Act.put, List.setIfInBounds_toArray, List.set_cons_zero, List.set_cons_succ]
  refine AnyEvents.obs_cons ?v12_17 (val_hole (by simp only [List.getD_cons_zero, List.getD_cons_succ])) (AnyEvents.ob_plain (v := ?v12_17) rfl rfl rfl (fun _ _ _ => trivial) (by simp only [List.getD_cons_zero, List.getD_cons_succ]) (fun ph W' hwn hW => ?_)) ?_
  ·obtain ⟨A_, c_, _, _, ⟨z0, z1, z2, z3, z4⟩, _, _⟩ := hW.1.cell; first | (go_simp; done) | (go_simp; (try simp only [i64_w]); rfl) | (go_simp; simp; rfl)
  try simp only [Act.put, List.setIfInBounds_toArray, List.set_cons_zero, List.set_cons_succ]
  refine AnyEvents.obs_cons undef rfl (AnyEvents.ob_evstore (q := 0) rfl rfl rfl rfl (fun W' hW => ?_)) ?_
  ·obtain ⟨A_, c_, ⟨hb_, hge_⟩, _⟩ := hW.1.cell; exact ⟨W'.setCell ⟨g, 0, none⟩ (.int .i64 n), run_store1 rfl rfl rfl hb_ (show (0 : Nat) < 5 by decide) rfl rfl (by kernel_rfl), ⟨hW.1.set 0 _ rfl (fun _ => rfl), below_set hW.2.1 hW.1.ge, hW.2.2.trans (KeepG.set g 0 W' _)⟩, trivial⟩
  try simp only [Act.put, List.setIfInBounds_toArray, List.set_cons_zero, List.set_cons_succ]
  refine AnyEvents.obs_cons ?v12_19 (val_hole (by simp only [List.getD_cons_zero, List.getD_cons_succ])) (AnyEvents.ob_plain (v := ?v12_19) rfl rfl rfl (fun _ _ _ => trivial) (by simp only [List.getD_cons_zero, List.getD_cons_succ]) (fun ph W' hwn hW => ?_)) ?_
  ·obtain ⟨A_, c_, _, _, ⟨z0, z1, z2, z3, z4⟩, _, _⟩ := hW.1.cell; first | (go_simp; done) | (go_simp; (try simp only [i64_w]); rfl) | (go_simp; simp; rfl)
  try simp only [Act.put, List.setIfInBounds_toArray, List.set_cons_zero, List.set_cons_succ]
  refine AnyEvents.obs_cons ?v12_20 (val_hole (by simp only [List.getD_cons_zero, List.getD_cons_succ])) (AnyEvents.ob_plain (v := ?v12_20) rfl rfl rfl (fun _ _ _ => trivial) (by simp only [List.getD_cons_zero, List.getD_cons_succ]) (fun ph W' hwn hW => ?_)) ?_
  ·obtain ⟨A_, c_, _, _, ⟨z0, z1, z2, z3, z4⟩, _, _⟩ := hW.1.cell; first | (go_simp; done) | (go_simp; (try simp only [i64_w]); rfl) | (go_simp; simp; rfl)
  try simp only [Act.put, List.setIfInBounds_toArray, List.set_cons_zero, List.set_cons_succ]
  refine AnyEvents.obs_cons undef rfl (AnyEvents.ob_evstore (q := 1) rfl rfl rfl rfl (fun W' hW => ?_)) ?_
  ·obtain ⟨A_, c_, ⟨hb_, hge_⟩, _⟩ := hW.1.cell; exact ⟨W'.setCell ⟨g, 3, none⟩ (.string (cutS q.s d.toNat q.s.size)), run_store1 rfl rfl rfl hb_ (show (3 : Nat) < 5 by decide) rfl rfl (by kernel_rfl), ⟨hW.1.set 3 _ rfl (fun _ => rfl), below_set hW.2.1 hW.1.ge, hW.2.2.trans (KeepG.set g 3 W' _)⟩, trivial⟩
  try simp only [Act.put, List.setIfInBounds_toArray, List.set_cons_zero, List.set_cons_succ]
  trivial
 intro x W' hD _
 simp only [List.take_succ_cons, List.take_zero, List.drop_succ_cons, List.drop_zero]
 rw [AnyOrder.lexAt_cons ?v12_0 (val_hole (by simp only [List.getD_cons_zero, List.getD_cons_succ]))]
 try simp only [Act.put, List.setIfInBounds_toArray, List.set_cons_zero, List.set_cons_succ]
 rw [AnyOrder.lexAt_cons ?v12_1 (val_hole (by simp only [List.getD_cons_zero, List.getD_cons_succ]))]
 try simp only [Act.put, List.setIfInBounds_toArray, List.set_cons_zero, List.set_cons_succ]
 rw [AnyOrder.lexAt_cons ?v12_2 (val_hole (by simp only [List.getD_cons_zero, List.getD_cons_succ]))]
 try simp only [Act.put, List.setIfInBounds_toArray, List.set_cons_zero, List.set_cons_succ]
 rw [AnyOrder.lexAt_cons ?v12_3 (val_hole (by simp only [List.getD_cons_zero, List.getD_cons_succ]))]
 try simp only [Act.put, List.setIfInBounds_toArray, List.set_cons_zero, List.set_cons_succ]
 rw [AnyOrder.lexAt_cons ?v12_4 (val_hole (by simp only [List.getD_cons_zero, List.getD_cons_succ]))]
 try simp only [Act.put, List.setIfInBounds_toArray, List.set_cons_zero, List.set_cons_succ]
 rw [AnyOrder.lexAt_cons ?v12_5 (val_hole (by simp only [List.getD_cons_zero, List.getD_cons_succ]))]
 try simp only [Act.put, List.setIfInBounds_toArray, List.set_cons_zero, List.set_cons_succ]
 rw [AnyOrder.lexAt_cons ?v12_6 (val_hole (by simp only [List.getD_cons_zero, List.getD_cons_succ]))]
 try simp only [Act.put, List.setIfInBounds_toArray, List.set_cons_zero, List.set_cons_succ]
 rw [AnyOrder.lexAt_cons ?v12_7 (val_hole (by simp only [List.getD_cons_zero, List.getD_cons_succ]))]
 try simp only [Act.put, List.setIfInBounds_toArray, List.set_cons_zero, List.set_cons_succ]
 rw [AnyOrder.lexAt_cons ?v12_8 (val_hole (by simp only [List.getD_cons_zero, List.getD_cons_succ]))]
 try simp only [Act.put, List.setIfInBounds_toArray, List.set_cons_zero, List.set_cons_succ]
 rw [AnyOrder.lexAt_cons (.string (cutS q.s d.toNat q.s.size)) (val_hole (by simp only [List.getD_cons_zero, List.getD_cons_succ]))]
 try simp only [Act.put, List.setIfInBounds_toArray, List.set_cons_zero, List.set_cons_succ]
 rw [AnyOrder.lexAt_cons ?v12_10 (val_hole (by simp only [List.getD_cons_zero, List.getD_cons_succ]))]
 try simp only [Act.put, List.setIfInBounds_toArray, List.set_cons_zero, List.set_cons_succ]
 rw [AnyOrder.lexAt_cons ?v12_11 (val_hole (by simp only [List.getD_cons_zero, List.getD_cons_succ]))]
 try simp only [Act.put, List.setIfInBounds_toArray, List.set_cons_zero, List.set_cons_succ]
 rw [AnyOrder.lexAt_cons ?v12_12 (val_hole (by simp only [List.getD_cons_zero, List.getD_cons_succ]))]
 try simp only [Act.put, List.setIfInBounds_toArray, List.set_cons_zero, List.set_cons_succ]
 rw [AnyOrder.lexAt_cons ?v12_13 (val_hole (by simp only [List.getD_cons_zero, List.getD_cons_succ]))]
 try simp only [Act.put, List.setIfInBounds_toArray, List.set_cons_zero, List.set_cons_succ]
 rw [AnyOrder.lexAt_cons ?v12_14 (val_hole (by simp only [List.getD_cons_zero, List.getD_cons_succ]))]
 try simp only [Act.put, List.setIfInBounds_toArray, List.set_cons_zero, List.set_cons_succ]
 rw [AnyOrder.lexAt_cons ?v12_15 (val_hole (by simp only [List.getD_cons_zero, List.getD_cons_succ]))]
 try simp only [Act.put, List.setIfInBounds_toArray, List.set_cons_zero, List.set_cons_succ]
 rw [AnyOrder.lexAt_cons ?v12_16 (val_hole (by simp only [List.getD_cons_zero, List.getD_cons_succ]))]
 try simp only [Act.put, List.setIfInBounds_toArray, List.set_cons_zero, List.set_cons_succ]
 rw [AnyOrder.lexAt_cons ?v12_17 (val_hole (by simp only [List.getD_cons_zero, List.getD_cons_succ]))]
 try simp only [Act.put, List.setIfInBounds_toArray, List.set_cons_zero, List.set_cons_succ]
 rw [AnyOrder.lexAt_cons undef rfl]
 try simp only [Act.put, List.setIfInBounds_toArray, List.set_cons_zero, List.set_cons_succ]
 rw [AnyOrder.lexAt_cons ?v12_19 (val_hole (by simp only [List.getD_cons_zero, List.getD_cons_succ]))]
 try simp only [Act.put, List.setIfInBounds_toArray, List.set_cons_zero, List.set_cons_succ]
 rw [AnyOrder.lexAt_cons ?v12_20 (val_hole (by simp only [List.getD_cons_zero, List.getD_cons_succ]))]
 try simp only [Act.put, List.setIfInBounds_toArray, List.set_cons_zero, List.set_cons_succ]
 rw [AnyOrder.lexAt_cons undef rfl]
 try simp only [Act.put, List.setIfInBounds_toArray, List.set_cons_zero, List.set_cons_succ]
 rw [AnyOrder.lexAt_nil]
 have HI := Aside0.mk (show QAt W' w0.heap.size g { q with left := n, s := cutS q.s d.toNat q.s.size } from hD.1)
 have HB := Aside0.mk hD.2.1
 have HKs := Aside0.mk hD.2.2
 clear hD
 obtain ⟨Az, cz, ⟨hbg, hge⟩, ⟨hle, hcm⟩, ⟨hc0, hc1, hc2, hc3, hc4⟩, ⟨hf0, hf1, hf2, hf3, hf4⟩, HQ⟩ := HI.out.cell
 have hw1 := HW1.out
 go_upto_region 5 with fail
 clear hbg hge hle hcm hc0 hc1 hc2 hc3 hc4 hf0 hf1 hf2 hf3 hf4 HQ
 clear hw1
 have HI1 := Aside0.mk (show QAt (W'.setCell ⟨g, 1, none⟩ (.int .i64 (q.sent - d))) w0.heap.size g { q with left := n, s := cutS q.s d.toNat q.s.size, sent := q.sent - d } from HI.out.set 1 _ rfl (fun _ => rfl))
 have HB1 := Aside0.mk (show Below w0.heap.size w0 (W'.setCell ⟨g, 1, none⟩ (.int .i64 (q.sent - d))) from below_set HB.out HI.out.ge)
 have HK1 := Aside0.mk (HKs.out.trans (KeepG.set g 1 W' (.int .i64 (q.sent - d))))
 clear HI HB HKs
 have HI := HI1; have HB := HB1; have HKs := HK1
 clear HI1 HB1 HK1
 generalize W'.setCell ⟨g, 1, none⟩ (.int .i64 (q.sent - d)) = W5 at HI HB HKs ⊢
 obtain ⟨Az, cz, ⟨hbg, hge⟩, ⟨hle, hcm⟩, ⟨hc0, hc1, hc2, hc3, hc4⟩, ⟨hf0, hf1, hf2, hf3, hf4⟩, HQ⟩ := HI.out.cell
 change ownsAt W5 w0.heap.size 73 2 (.slice Az q.ap.length cz) q.ap.length (spc q.ap) at HQ
 change _ = some (Value.slice Az q.ap.length cz) at hc4
 have HQA := Aside0.mk HQ
 have HSB := Aside0.mk (show ∀ b_, Value.ownBlock (.slice Az q.ap.length cz) = some b_ → b_ < W5.heap.size from fun b_ hb => blk_lt (ownsAt_block HQ hb).2.choose_spec)
 have HGC := Aside0.mk hbg
 have HGE := Aside0.mk hge
 have H5 := Aside0.mk (show w0.heap.size ≤ W5.heap.size ∧ w.heap.size ≤ W5.heap.size from ⟨HB.out.size, HKs.out.1⟩)
 go_wp2_with fail
 go_loopg [8, 46] q.ap.length (fun kq v8 v46 W => ∃ (i : Nat) (iz : Int), v46 = .int .i64 iz ∧ Aside0 (iz = (i : Int) ∧ kq + i = q.ap.length) ∧ Aside0 (ownsAt W W5.heap.size 73 2 v8 (ackAp d (q.ap.take i)).length (spc (ackAp d (q.ap.take i)))) ∧ Aside0 (ownsAt W w0.heap.size 73 2 (.slice Az q.ap.length cz) q.ap.length (spc q.ap)) ∧ Aside0 (W.heap[g]? = some (.cells (cellsQ { q with left := n, s := cutS q.s d.toNat q.s.size, sent := q.sent - d } (.slice Az q.ap.length cz)) 67 (0, 0))) ∧ Aside0 (Below w0.heap.size w0 W) ∧ Aside0 (KeepG g w W) ∧ Aside0 (W5.heap.size ≤ W.heap.size))
 case atStart => exact ⟨0, 0, rfl, ⟨rfl, by simp⟩, ⟨ownsAt_nil _ _ _ _⟩, HQA, HGC, HB, HKs, ⟨Nat.le_refl _⟩⟩
 case round =>
  clear hbg hge hle hcm hc0 hc1 hc2 hc3 hc4 hf0 hf1 hf2 hf3 hf4 HQ
  clear HI HB HKs HQA HGC
  obtain ⟨i, iz, rfl, HK, HV, HQA, HGC, HB, HKs, HZ⟩ := hrel
  obtain ⟨A8, c8, rfl, _⟩ := ownsAt_len HV.out
  have hk := HK.out
  by_cases hlt : iz < (q.ap.length : Int)
  ·have d1 : decide (iz < (q.ap.length : Int)) = true := decide_eq_true hlt
   obtain ⟨k1, rfl⟩ : ∃ k1, gk = k1 + 1 := ⟨gk - 1, by omega⟩
   have hil : i < q.ap.length := by omega
   obtain ⟨⟨a, b⟩, hx⟩ : ∃ x, q.ap[i]? = some x := ⟨_, List.getElem?_eq_getElem hil⟩
   have hab := HAP.out.1 _ (List.mem_of_getElem? hx)
   have HTK := Aside0.mk (show q.ap.take (i + 1) = q.ap.take i ++ [(a, b)] by rw [List.take_add_one, hx]; rfl)
   obtain ⟨gq, oq, rfl, hcells⟩ := ownsAt_cells HQA.out (by omega)
   obtain ⟨hq0, hq1⟩ : wr.cell? ⟨gq, oq + i * 2, none⟩ = some (.int .i64 a) ∧ wr.cell? ⟨gq, oq + i * 2 + 1, none⟩ = some (.int .i64 b) := ⟨hcells _ _ (spc_get q.ap i _ hx).1, hcells _ _ (spc_get q.ap i _ hx).2⟩
   have hn : wrap64 (iz + 1) = ((i + 1 : Nat) : Int) := by have := HAP.out.2; rw [w64p (by omega) (by omega)]; omega
   have HN := Aside0.mk hn
   have HLN := Aside0.mk (show (ackAp d (q.ap.take i)).length ≤ 1000000 by have := ackAp_le d (q.ap.take i); rw [List.length_take] at this; have := HAP.out.2; omega)
   have HAB := Aside0.mk hab
   have p0 : 0 ≤ iz := by omega
   have tn : iz.toNat = i := by omega
   replace p0 := eq_true p0
   replace hlt := eq_true hlt
   obtain ⟨ta, hta⟩ : ∃ t_, a - d = t_ := ⟨_, rfl⟩
   have hwa : wrap64 (a - d) = ta := by have h1 := HAB.out; have h2 := HD.out; have h3 := HS.out; exact (w64p (by omega) (by omega)).trans hta
   have hwb : wrap64 (b - d) = b - d := by have h1 := HAB.out; have h2 := HD.out; have h3 := HS.out; exact w64p (by omega) (by omega)
   obtain ⟨ma, hma⟩ : ∃ m_, (if 0 < ta then ta else 0) = m_ := ⟨_, rfl⟩
   have HMA := Aside0.mk hma
   have HTA := Aside0.mk hta
   have HWA := Aside0.mk (And.intro hwa hwb)
   clear hcells hx hab hn hk hil hma hwa hwb hta
   go_upto_region 9 with fail
   have hbx := blk_new wr (.cells #[.int .i64 a, .int .i64 b] 73)
   have hb := below_alloc (Below.refl wr.heap.size wr) (.cells #[.int .i64 a, .int .i64 b] 73)
   clear hq0 hq1 p0 hlt tn d1
   have n1_ := Aside0.mk (ownsAt_below HV.out hb); have n2_ := Aside0.mk (ownsAt_below HQA.out hb); have n3_ := Aside0.mk (blk_below HGC.out hb); have n4_ := Aside0.mk (below_step HB.out hb); have n5_ := Aside0.mk (HKs.out.trans (KeepG.of_below hb)); have n6_ := Aside0.mk (Nat.le_trans HZ.out hb.size)
   clear HV HQA HGC HB HKs HZ hb
   have HV := n1_; have HQA := n2_; have HGC := n3_; have HB := n4_; have HKs := n5_; have HZ := n6_
   clear n1_ n2_ n3_ n4_ n5_ n6_
   generalize wr.heap.size = bx at hbx ⊢
   generalize wr.alloc (.cells #[.int .i64 a, .int .i64 b] 73) = Wb at hbx HV HQA HGC HB HKs HZ ⊢
   have hx0 := blk_cell hbx 0
   have hx1 := blk_cell hbx 1
   change _ = some (Value.int .i64 a) at hx0
   change _ = some (Value.int .i64 b) at hx1
   clear hbx
   by_cases hdb : d < b
   ·have d2 : decide (d < b) = true := decide_eq_true hdb
    have HDB := Aside0.mk hdb
    have hwa := HWA.out.1
    have hwb := HWA.out.2
    have hma := HMA.out
    have hb := below_alloc (Below.refl Wb.heap.size Wb) (.cells #[.int .i64 ma, .int .i64 (b - d)] 73)
    have HLT := Aside0.mk (ownsAt_lit Wb #[.int .i64 ma, .int .i64 (b - d)] 73 2 1 rfl (by decide))
    have n1_ := Aside0.mk (ownsAt_below HV.out hb); have n2_ := Aside0.mk (ownsAt_below HQA.out hb); have n3_ := Aside0.mk (blk_below HGC.out hb); have n4_ := Aside0.mk (below_step HB.out hb); have n5_ := Aside0.mk (HKs.out.trans (KeepG.of_below hb)); have n6_ := Aside0.mk (Nat.le_trans HZ.out hb.size)
    clear HV HQA HGC HB HKs HZ hb
    have HV := n1_; have HQA := n2_; have HGC := n3_; have HB := n4_; have HKs := n5_; have HZ := n6_
    clear n1_ n2_ n3_ n4_ n5_ n6_
    clear hdb
    go_wp2_with (first | ((with_reducible refine gate_dst (N := 66) rfl ?_); refine wl_append 65 73 (.agg #[.int .i64 0, .int .i64 0]) 2 16 rfl rfl Try.underlying65 (by kernel_rfl) rfl (by decide) (v := .slice A8 (ackAp d (q.ap.take i)).length c8) rfl rfl HV.out HLT.out rfl (by have := HLN.out; simp only [maxLen]; omega) (by have := HLN.out; omega) HZ.out (fun v9 W9 hv9 hg9 hr9 => ?_); have HV9 := Aside0.mk hv9; have HG9 := Aside0.mk hg9; clear hv9 hg9 hr9))
    have hrow : ∀ b_, Value.ownBlock (.slice A8 (ackAp d (q.ap.take i)).length c8) = some b_ → W5.heap.size ≤ b_ ∧ ∃ cur, (Wb.alloc (.cells #[.int .i64 ma, .int .i64 (b - d)] 73)).heap[b_]? = some (Obj.cells cur 73 (0, 0)) := fun b_ hb => ownsAt_block HV.out hb
    have hk9 : KeepT [73] (Wb.alloc (.cells #[.int .i64 ma, .int .i64 (b - d)] 73)) W9 := KeepT.of_grown HG9.out (fun b_ hb => by obtain ⟨_, cur, hc⟩ := hrow b_ hb; exact ⟨cur, _, hc, by decide⟩)
    go_roundg k1
    case measure => omega
    case rel =>
     refine ⟨i + 1, _, rfl, ⟨HN.out, by have := HK.out; omega⟩, ⟨?_⟩, ⟨?_⟩, ⟨(hk9.cells HGC.out (by decide)).trans HGC.out⟩, ⟨below_of_grown HB.out HG9.out HB.out.size (fun b_ hb => Nat.le_trans H5.out.1 (hrow b_ hb).1)⟩, ⟨keepG_grown HKs.out HG9.out (fun b_ hb => Nat.le_trans H5.out.2 (hrow b_ hb).1)⟩, ⟨Nat.le_trans HZ.out HG9.out.size⟩⟩
     ·have h := HV9.out
      rw [HTK.out, ackAp_snoc, if_pos HDB.out, spc_app, List.length_append, HTA.out, HMA.out]
      exact h
     ·exact ownsAt_kept HQA.out (fun b_ cur hb _ => HG9.out.block b_ (Nat.lt_of_lt_of_le (HSB.out b_ hb) HZ.out) (fun e => by have h1 := (hrow b_ e.symm).1; have h2 := HSB.out b_ hb; omega))
   ·have d2 : decide (d < b) = false := decide_eq_false hdb
    have HDB := Aside0.mk hdb
    clear hdb
    go_wp2
    go_roundg k1
    case measure => omega
    case rel => exact ⟨i + 1, _, rfl, ⟨HN.out, by have := HK.out; omega⟩, ⟨by rw [HTK.out, ackAp_snoc, if_neg (show ¬ d < b by have := HDB.out; omega), List.append_nil]; exact HV.out⟩, HQA, HGC, HB, HKs, HZ⟩
  ·have d1 : decide (iz < (q.ap.length : Int)) = false := decide_eq_false hlt
   have hi : i = q.ap.length := by omega
   have hvv := HV.out
   rw [hi, List.take_length] at hvv
   rw [hi, List.take_length] at HV ⊢
   have hgc := HGC.out
   have hf4 := blk_frozen hgc 4
   have hc4 := blk_cell hgc 4
   change _ = some (Value.slice Az q.ap.length cz) at hc4
   have hQ : QAt wr w0.heap.size g { q with left := n, s := cutS q.s d.toNat q.s.size, sent := q.sent - d } := ⟨_, hgc, HGE.out, HQA.out⟩
   have HQQ := Aside0.mk hQ
   have HVV := Aside0.mk hvv
   clear hgc hQ hvv hk hi hlt
   go_wp2
   go_ret2
   exact ⟨rfl, HQQ.out.row _ (ownsAt_base HVV.out H5.out.1) (fun _ => rfl), below_set HB.out HGE.out, HKs.out.trans (KeepG.set g 4 _ _)⟩



/-! ### sternpostlaw15_works: function 7 (by hand) -/
-- over sendq_Queue_Write.calls sendq_Queue_Write.callsR sendq_Queue_Next.calls sendq_Queue_Next.callsR sendq_Queue_Ack.calls sendq_Queue_Ack.callsR
theorem sternpostlaw15_works.w1 : QS.write ⟨10, 0, 8, (⟨#[]⟩ : ByteArray), []⟩ (⟨#[97, 98, 99, 100, 101, 102, 103, 104, 105, 106]⟩ : ByteArray) = (⟨10, 0, 8, (⟨#[97, 98, 99, 100, 101, 102, 103, 104]⟩ : ByteArray), []⟩, 8, 0) := by rfl
theorem sternpostlaw15_works.n1 : QS.next ⟨10, 0, 8, (⟨#[97, 98, 99, 100, 101, 102, 103, 104]⟩ : ByteArray), []⟩ 5 3 = (⟨10, 3, 8, (⟨#[97, 98, 99, 100, 101, 102, 103, 104]⟩ : ByteArray), []⟩, (⟨#[97, 98, 99]⟩ : ByteArray)) := by rfl
theorem sternpostlaw15_works.n2 : QS.next ⟨10, 3, 8, (⟨#[97, 98, 99, 100, 101, 102, 103, 104]⟩ : ByteArray), []⟩ 5 3 = (⟨10, 5, 8, (⟨#[97, 98, 99, 100, 101, 102, 103, 104]⟩ : ByteArray), []⟩, (⟨#[100, 101]⟩ : ByteArray)) := by rfl
theorem sternpostlaw15_works.a1 : (QS.ack ⟨10, 5, 8, (⟨#[97, 98, 99, 100, 101, 102, 103, 104]⟩ : ByteArray), []⟩ 12).2 = (2, 0) := by rfl
set_option maxHeartbeats 4000000 in
set_option maxRecDepth 100000 in
theorem sternpostlaw15_works.calls (w : World) : Calls Try.prog 7 #[] w fun e w' => e = .returned (.bool true) ∧ Below w.heap.size w w' := by
 have HB := Aside0.mk (Below.refl w.heap.size w)
 go_enter Try.func7, Try.ntmps7
 go_wp2_with fail
 refine (sendq_New.calls 10 8 w _ HB.out (by decide) (by decide) (by decide)).mono ?_
 rintro e W1 ⟨g, rfl, hQ, hB, _, _⟩
 have HQ := Aside0.mk hQ
 clear HB
 have HB := Aside0.mk hB
 clear hQ hB
 go_wp2_with fail
 refine (sendq_Queue_Write.calls g ⟨10, 0, 8, (⟨#[]⟩ : ByteArray), []⟩ (⟨#[97, 98, 99, 100, 101, 102, 103, 104, 105, 106]⟩ : ByteArray) w _ HQ.out HB.out (by decide) (by decide)).mono ?_
 rw [sternpostlaw15_works.w1]
 rintro e W2 ⟨rfl, hQ, hB, _⟩
 clear HB HQ
 have HQ := Aside0.mk hQ
 have HB := Aside0.mk hB
 clear hQ hB
 go_wp2_with fail
 refine (sendq_Queue_Next.calls g ⟨10, 0, 8, (⟨#[97, 98, 99, 100, 101, 102, 103, 104]⟩ : ByteArray), []⟩ 5 3 w _ HQ.out HB.out (by decide) (by decide) (by decide)).mono ?_
 rw [sternpostlaw15_works.n1]
 rintro e W3 ⟨rfl, hQ, hB, _⟩
 clear HB HQ
 have HQ := Aside0.mk hQ
 have HB := Aside0.mk hB
 clear hQ hB
 go_wp2_with fail
 refine (sendq_Queue_Next.calls g ⟨10, 3, 8, (⟨#[97, 98, 99, 100, 101, 102, 103, 104]⟩ : ByteArray), []⟩ 5 3 w _ HQ.out HB.out (by decide) (by decide) (by decide)).mono ?_
 rw [sternpostlaw15_works.n2]
 rintro e W4 ⟨rfl, hQ, hB, _⟩
 clear HB HQ
 have HQ := Aside0.mk hQ
 have HB := Aside0.mk hB
 clear hQ hB
 go_wp2_with fail
 refine (sendq_Queue_Ack.calls g ⟨10, 5, 8, (⟨#[97, 98, 99, 100, 101, 102, 103, 104]⟩ : ByteArray), []⟩ 12 w _ HQ.out HB.out (by decide) (by decide) (by decide)).mono ?_
 have e2 : (QS.ack ⟨10, 5, 8, (⟨#[97, 98, 99, 100, 101, 102, 103, 104]⟩ : ByteArray), []⟩ 12).2.1 = 2 ∧ (QS.ack ⟨10, 5, 8, (⟨#[97, 98, 99, 100, 101, 102, 103, 104]⟩ : ByteArray), []⟩ 12).2.2 = 0 := by rw [sternpostlaw15_works.a1]; exact ⟨rfl, rfl⟩
 rw [e2.1, e2.2]
 rintro e W5 ⟨rfl, hQ, hB, _⟩
 clear HB HQ e2
 have HB := Aside0.mk hB
 clear hQ hB
 go_wp2
 go_ret
 exact ⟨by first | rfl | decide | (simp; done), HB.out⟩



/-! ### sendq_Queue_Probe: function 13 (by hand) -/
-- over sendq_Queue_Write.calls sendq_Queue_Write.callsR
def QS.probe (q : QS) : QS × ByteArray := if q.s.toList.isEmpty = true then (q, (⟨#[]⟩ : ByteArray)) else ({ q with sent := if q.sent < 1 then 1 else q.sent }, cutS q.s 0 1)
theorem str_pos {s : ByteArray} (h : s.toList.isEmpty = false) : 1 ≤ s.size := by
 rw [Lib.toList_data] at h
 rcases Nat.eq_zero_or_pos s.size with h0 | h0
 ·have : s.data.toList = [] := List.eq_nil_of_length_eq_zero (by rw [Array.length_toList]; exact h0)
  rw [this] at h; cases h
 ·exact h0
set_option maxHeartbeats 4000000 in
set_option maxRecDepth 100000 in
theorem sendq_Queue_Probe.calls (g : Nat) (q : QS) (w0 w : World) (hI : QAt w w0.heap.size g q) (hB : Below w0.heap.size w0 w) :
  Calls Try.prog 13 #[.pointer (some ⟨g, 0, none⟩)] w fun e w' => e = .returned (.tuple #[.int .i64 q.left, .string q.probe.2]) ∧ QAt w' w0.heap.size g (q.probe.1) ∧ Below w0.heap.size w0 w' ∧ KeepG g w w' := by
 have HI := Aside0.mk hI
 have HB := Aside0.mk hB
 clear hI hB
 cases hb : q.s.toList.isEmpty
 rotate_left
 ·have e : q.probe = (q, (⟨#[]⟩ : ByteArray)) := by unfold QS.probe; rw [if_pos hb]
  rw [e]
  clear e
  obtain ⟨Az, cz, ⟨hbg, hge⟩, ⟨hle, hcm⟩, ⟨hc0, hc1, hc2, hc3, hc4⟩, ⟨hf0, hf1, hf2, hf3, hf4⟩, HQ⟩ := HI.out.cell
  go_enter Try.func13, Try.ntmps13
  go_wp2
  go_ret2
  exact ⟨rfl, HI.out, HB.out, KeepG.refl _ _⟩
 obtain ⟨m, hm⟩ : ∃ m_, (if q.sent < 1 then 1 else q.sent) = m_ := ⟨_, rfl⟩
 have e : q.probe = ({ q with sent := m }, cutS q.s 0 1) := by unfold QS.probe; rw [if_neg (by rw [hb]; simp), hm]
 rw [e]
 have HM := Aside0.mk hm
 have HP := Aside0.mk (str_pos hb)
 clear e hm
 obtain ⟨Az, cz, ⟨hbg, hge⟩, ⟨hle, hcm⟩, ⟨hc0, hc1, hc2, hc3, hc4⟩, ⟨hf0, hf1, hf2, hf3, hf4⟩, HQ⟩ := HI.out.cell
 go_enter Try.func13, Try.ntmps13
 have hm := HM.out
 go_upto_region 4 with fail
 clear hb hm
 have HI1 := Aside0.mk (show QAt (w.setCell ⟨g, 1, none⟩ (.int .i64 m)) w0.heap.size g { q with sent := m } from HI.out.set 1 _ rfl (fun _ => rfl))
 have HB1 := Aside0.mk (show Below w0.heap.size w0 (w.setCell ⟨g, 1, none⟩ (.int .i64 m)) from below_set HB.out HI.out.ge)
 have HKs := Aside0.mk (KeepG.set g 1 w (.int .i64 m))
 clear hbg hge hle hcm hc0 hc1 hc2 hc3 hc4 hf0 hf1 hf2 hf3 hf4 HQ
 clear HI HB
 have HI := HI1; have HB := HB1
 clear HI1 HB1
 generalize w.setCell ⟨g, 1, none⟩ (.int .i64 m) = W1 at HI HB HKs ⊢
 obtain ⟨Az, cz, ⟨hbg, hge⟩, ⟨hle, hcm⟩, ⟨hc0, hc1, hc2, hc3, hc4⟩, ⟨hf0, hf1, hf2, hf3, hf4⟩, HQ⟩ := HI.out.cell
 have same : ∀ (ph : Nat) W', Drawn0 W1 W' → True := fun _ _ _ => trivial
 refine AnyEvents.region_then 10 (E := []) (C := fun (_ : Nat) W' => Drawn0 W1 W') (G := fun _ _ _ _ => True) (T := []) (R := fun _ _ _ _ => True) (vs := [?v15_0, ?v15_1, ?v15_2, ?v15_3, ?v15_4, ?v15_5, ?v15_6, ?v15_7, (.string (cutS q.s 0 1)), ?v15_9]) (by kernel_rfl) (by kernel_rfl) rfl (by kernel_rfl) ?hc15r same (fun _ _ _ _ _ _ _ _ _ => trivial) (fun _ h => nomatch h) (fun x => ?obs15r) ?fin15r
 case hc15r => exact ⟨1, rfl⟩
 case obs15r =>
  refine AnyEvents.obs_cons ?v15_0 (val_hole (by simp only [List.getD_cons_zero, List.getD_cons_succ])) (AnyEvents.ob_plain (v := ?v15_0) rfl rfl rfl same (by simp only [List.getD_cons_zero, List.getD_cons_succ]) (fun ph W' hwn hW => ?_)) ?_
  ·obtain ⟨nd, rfl⟩ := hW; have z0 := drew_cell nd hc0; have z1 := drew_cell nd hc3; first | (go_simp; done) | (go_simp; (try simp only [i64_w]); rfl) | (go_simp; simp; rfl)
  try simp only [Act.put, List.setIfInBounds_toArray, List.set_cons_zero, List.set_cons_succ]
  refine AnyEvents.obs_cons ?v15_1 (val_hole (by simp only [List.getD_cons_zero, List.getD_cons_succ])) (AnyEvents.ob_plain (v := ?v15_1) rfl rfl rfl same (by simp only [List.getD_cons_zero, List.getD_cons_succ]) (fun ph W' hwn hW => ?_)) ?_
  ·obtain ⟨nd, rfl⟩ := hW; have z0 := drew_cell nd hc0; have z1 := drew_cell nd hc3; first | (go_simp; done) | (go_simp; (try simp only [i64_w]); rfl) | (go_simp; simp; rfl)
  try simp only [Act.put, List.setIfInBounds_toArray, List.set_cons_zero, List.set_cons_succ]
  refine AnyEvents.obs_cons ?v15_2 (val_hole (by simp only [List.getD_cons_zero, List.getD_cons_succ])) (AnyEvents.ob_plain (v := ?v15_2) rfl rfl rfl same (by simp only [List.getD_cons_zero, List.getD_cons_succ]) (fun ph W' hwn hW => ?_)) ?_
  ·obtain ⟨nd, rfl⟩ := hW; have z0 := drew_cell nd hc0; have z1 := drew_cell nd hc3; first | (go_simp; done) | (go_simp; (try simp only [i64_w]); rfl) | (go_simp; simp; rfl)
  try simp only [Act.put, List.setIfInBounds_toArray, List.set_cons_zero, List.set_cons_succ]
  refine AnyEvents.obs_cons ?v15_3 (val_hole (by simp only [List.getD_cons_zero, List.getD_cons_succ])) (AnyEvents.ob_plain (v := ?v15_3) rfl rfl rfl same (by simp only [List.getD_cons_zero, List.getD_cons_succ]) (fun ph W' hwn hW => ?_)) ?_
  ·obtain ⟨nd, rfl⟩ := hW; have z0 := drew_cell nd hc0; have z1 := drew_cell nd hc3; first | (go_simp; done) | (go_simp; (try simp only [i64_w]); rfl) | (go_simp; simp; rfl)
  try simp only [Act.put, List.setIfInBounds_toArray, List.set_cons_zero, List.set_cons_succ]
  refine AnyEvents.obs_cons ?v15_4 (val_hole (by simp only [List.getD_cons_zero, List.getD_cons_succ])) (AnyEvents.ob_plain (v := ?v15_4) rfl rfl rfl same (by simp only [List.getD_cons_zero, List.getD_cons_succ]) (fun ph W' hwn hW => ?_)) ?_
  ·obtain ⟨nd, rfl⟩ := hW; have z0 := drew_cell nd hc0; have z1 := drew_cell nd hc3; first | (go_simp; done) | (go_simp; (try simp only [i64_w]); rfl) | (go_simp; simp; rfl)
  try simp only [Act.put, List.setIfInBounds_toArray, List.set_cons_zero, List.set_cons_succ]
  refine AnyEvents.obs_cons ?v15_5 (val_hole (by simp only [List.getD_cons_zero, List.getD_cons_succ])) (AnyEvents.ob_plain (v := ?v15_5) rfl rfl rfl same (by simp only [List.getD_cons_zero, List.getD_cons_succ]) (fun ph W' hwn hW => ?_)) ?_
  ·obtain ⟨nd, rfl⟩ := hW; have z0 := drew_cell nd hc0; have z1 := drew_cell nd hc3; first | (go_simp; done) | (go_simp; (try simp only [i64_w]); rfl) | (go_simp; simp; rfl)
  try simp only [Act.put, List.setIfInBounds_toArray, List.set_cons_zero, List.set_cons_succ]
  refine AnyEvents.obs_cons ?v15_6 (val_hole (by simp only [List.getD_cons_zero, List.getD_cons_succ])) (AnyEvents.ob_plain (v := ?v15_6) rfl rfl rfl same (by simp only [List.getD_cons_zero, List.getD_cons_succ]) (fun ph W' hwn hW => ?_)) ?_
  ·obtain ⟨nd, rfl⟩ := hW; have z0 := drew_cell nd hc0; have z1 := drew_cell nd hc3; first | (go_simp; done) | (go_simp; (try simp only [i64_w]); rfl) | (go_simp; simp; rfl)
  try simp only [Act.put, List.setIfInBounds_toArray, List.set_cons_zero, List.set_cons_succ]
  refine AnyEvents.obs_cons ?v15_7 (val_hole (by simp only [List.getD_cons_zero, List.getD_cons_succ])) (AnyEvents.ob_plain (v := ?v15_7) rfl rfl rfl same (by simp only [List.getD_cons_zero, List.getD_cons_succ]) (fun ph W' hwn hW => ?_)) ?_
  ·obtain ⟨nd, rfl⟩ := hW; have z0 := drew_cell nd hc0; have z1 := drew_cell nd hc3; first | (go_simp; done) | (go_simp; (try simp only [i64_w]); rfl) | (go_simp; simp; rfl)
  try simp only [Act.put, List.setIfInBounds_toArray, List.set_cons_zero, List.set_cons_succ]
  refine AnyEvents.obs_cons (.string (cutS q.s 0 1)) (val_hole (by simp only [List.getD_cons_zero, List.getD_cons_succ])) (AnyEvents.ob_plain (v := (.string (cutS q.s 0 1))) rfl rfl rfl same (by simp only [List.getD_cons_zero, List.getD_cons_succ]) (fun ph W' hwn hW => ?_)) ?_
  ·obtain ⟨nd, rfl⟩ := hW; refine (run_sl_to (j := 1) (s := q.s) Try.underlying9 rfl rfl rfl (by decide) (by have := HP.out; omega)).trans ?_; rfl
  try simp only [Act.put, List.setIfInBounds_toArray, List.set_cons_zero, List.set_cons_succ]
  refine AnyEvents.obs_cons ?v15_9 (val_hole (by simp only [List.getD_cons_zero, List.getD_cons_succ])) (AnyEvents.ob_plain (v := ?v15_9) rfl rfl rfl same (by simp only [List.getD_cons_zero, List.getD_cons_succ]) (fun ph W' hwn hW => ?_)) ?_
  ·obtain ⟨nd, rfl⟩ := hW; have z0 := drew_cell nd hc0; have z1 := drew_cell nd hc3; first | (go_simp; done) | (go_simp; (try simp only [i64_w]); rfl) | (go_simp; simp; rfl)
  try simp only [Act.put, List.setIfInBounds_toArray, List.set_cons_zero, List.set_cons_succ]
  trivial
 case fin15r =>
  intro x W' hD _
  simp only [List.take_succ_cons, List.take_zero, List.drop_succ_cons, List.drop_zero]
  rw [AnyOrder.lexAt_cons ?v15_0 (val_hole (by simp only [List.getD_cons_zero, List.getD_cons_succ]))]
  try simp only [Act.put, List.setIfInBounds_toArray, List.set_cons_zero, List.set_cons_succ]
  rw [AnyOrder.lexAt_cons ?v15_1 (val_hole (by simp only [List.getD_cons_zero, List.getD_cons_succ]))]
  try simp only [Act.put, List.setIfInBounds_toArray, List.set_cons_zero, List.set_cons_succ]
  rw [AnyOrder.lexAt_cons ?v15_2 (val_hole (by simp only [List.getD_cons_zero, List.getD_cons_succ]))]
  try simp only [Act.put, List.setIfInBounds_toArray, List.set_cons_zero, List.set_cons_succ]
  rw [AnyOrder.lexAt_cons ?v15_3 (val_hole (by simp only [List.getD_cons_zero, List.getD_cons_succ]))]
  try simp only [Act.put, List.setIfInBounds_toArray, List.set_cons_zero, List.set_cons_succ]
  rw [AnyOrder.lexAt_cons ?v15_4 (val_hole (by simp only [List.getD_cons_zero, List.getD_cons_succ]))]
  try simp only [Act.put, List.setIfInBounds_toArray, List.set_cons_zero, List.set_cons_succ]
  rw [AnyOrder.lexAt_cons ?v15_5 (val_hole (by simp only [List.getD_cons_zero, List.getD_cons_succ]))]
  try simp only [Act.put, List.setIfInBounds_toArray, List.set_cons_zero, List.set_cons_succ]
  rw [AnyOrder.lexAt_cons ?v15_6 (val_hole (by simp only [List.getD_cons_zero, List.getD_cons_succ]))]
  try simp only [Act.put, List.setIfInBounds_toArray, List.set_cons_zero, List.set_cons_succ]
  rw [AnyOrder.lexAt_cons ?v15_7 (val_hole (by simp only [List.getD_cons_zero, List.getD_cons_succ]))]
  try simp only [Act.put, List.setIfInBounds_toArray, List.set_cons_zero, List.set_cons_succ]
  rw [AnyOrder.lexAt_cons (.string (cutS q.s 0 1)) (val_hole (by simp only [List.getD_cons_zero, List.getD_cons_succ]))]
  try simp only [Act.put, List.setIfInBounds_toArray, List.set_cons_zero, List.set_cons_succ]
  rw [AnyOrder.lexAt_cons ?v15_9 (val_hole (by simp only [List.getD_cons_zero, List.getD_cons_succ]))]
  try simp only [Act.put, List.setIfInBounds_toArray, List.set_cons_zero, List.set_cons_succ]
  rw [AnyOrder.lexAt_nil]
  clear same
  obtain ⟨nd, rfl⟩ := hD
  go_wp2
  go_ret2
  exact ⟨rfl, HI.out.drawn rfl, pw_below_drewN HB.out nd, HKs.out.trans (KeepG.of_below (pw_below_drewN (Below.refl _ _) nd))⟩



/-! ### sendq_Queue_State: function 16 (by hand) -/
-- over sendq_Queue_at.calls sendq_Queue_at.callsR
set_option maxHeartbeats 4000000 in
set_option maxRecDepth 100000 in
theorem sendq_Queue_State.calls (g : Nat) (q : QS) (w0 w : World) (hI : QAt w w0.heap.size g q) (hl : sqOk q.left) (hs : 0 ≤ q.sent ∧ q.sent ≤ 65536) :
  Calls Try.prog 16 #[.pointer (some ⟨g, 0, none⟩)] w fun e w' => e = .returned (.tuple #[.int .i64 q.left, .int .i64 (q.at_ q.sent), .int .i64 (q.s.size : Int)]) ∧ ∃ nd, w' = w.drewN nd := by
 have HI := Aside0.mk hI
 have HL := Aside0.mk hl
 have HS := Aside0.mk hs
 clear hI hl hs
 obtain ⟨Az, cz, ⟨hbg, hge⟩, ⟨hle, hcm⟩, ⟨hc0, hc1, hc2, hc3, hc4⟩, ⟨hf0, hf1, hf2, hf3, hf4⟩, HQ⟩ := HI.out.cell
 go_enter Try.func16, Try.ntmps16
 go_upto_region 1 with fail
 have same : ∀ (ph : Nat) W', Drawn0 w W' → True := fun _ _ _ => trivial
 refine AnyEvents.region_then 17 (E := []) (C := fun (_ : Nat) W' => Drawn0 w W') (G := fun _ _ _ _ => True) (T := []) (R := fun _ _ _ _ => True) (vs := [?v16_0, ?v16_1, ?v16_2, ?v16_3, ?v16_4, ?v16_5, ?v16_6, ?v16_7, ?v16_8, (.int .i64 (q.at_ q.sent)), ?v16_10, ?v16_11, ?v16_12, ?v16_13, ?v16_14, ?v16_15, ?v16_16]) (by kernel_rfl) (by kernel_rfl) rfl (by kernel_rfl) ?hc16r same (fun _ _ _ _ _ _ _ _ _ => trivial) (fun _ h => nomatch h) (fun x => ?obs16r) ?fin16r
 case hc16r => exact ⟨1, rfl⟩
 case obs16r =>
  refine AnyEvents.obs_cons ?v16_0 (val_hole (by simp only [List.getD_cons_zero, List.getD_cons_succ])) (AnyEvents.ob_plain (v := ?v16_0) rfl rfl rfl same (by simp only [List.getD_cons_zero, List.getD_cons_succ]) (fun ph W' hwn hW => ?_)) ?_
  ·obtain ⟨nd, rfl⟩ := hW; have z0 := drew_cell nd hc0; have z1 := drew_cell nd hc1; have z2 := drew_cell nd hc3; first | (go_simp; done) | (go_simp; (try simp only [i64_w]); rfl) | (go_simp; simp; rfl)
  try simp only [Act.put, List.setIfInBounds_toArray, List.set_cons_zero, List.set_cons_succ]
  refine AnyEvents.obs_cons ?v16_1 (val_hole (by simp only [List.getD_cons_zero, List.getD_cons_succ])) (AnyEvents.ob_plain (v := ?v16_1) rfl rfl rfl same (by simp only [List.getD_cons_zero, List.getD_cons_succ]) (fun ph W' hwn hW => ?_)) ?_
  ·obtain ⟨nd, rfl⟩ := hW; have z0 := drew_cell nd hc0; have z1 := drew_cell nd hc1; have z2 := drew_cell nd hc3; first | (go_simp; done) | (go_simp; (try simp only [i64_w]); rfl) | (go_simp; simp; rfl)
  try simp only [Act.put, List.setIfInBounds_toArray, List.set_cons_zero, List.set_cons_succ]
  refine AnyEvents.obs_cons ?v16_2 (val_hole (by simp only [List.getD_cons_zero, List.getD_cons_succ])) (AnyEvents.ob_plain (v := ?v16_2) rfl rfl rfl same (by simp only [List.getD_cons_zero, List.getD_cons_succ]) (fun ph W' hwn hW => ?_)) ?_
  ·obtain ⟨nd, rfl⟩ := hW; have z0 := drew_cell nd hc0; have z1 := drew_cell nd hc1; have z2 := drew_cell nd hc3; first | (go_simp; done) | (go_simp; (try simp only [i64_w]); rfl) | (go_simp; simp; rfl)
  try simp only [Act.put, List.setIfInBounds_toArray, List.set_cons_zero, List.set_cons_succ]
  refine AnyEvents.obs_cons ?v16_3 (val_hole (by simp only [List.getD_cons_zero, List.getD_cons_succ])) (AnyEvents.ob_plain (v := ?v16_3) rfl rfl rfl same (by simp only [List.getD_cons_zero, List.getD_cons_succ]) (fun ph W' hwn hW => ?_)) ?_
  ·obtain ⟨nd, rfl⟩ := hW; have z0 := drew_cell nd hc0; have z1 := drew_cell nd hc1; have z2 := drew_cell nd hc3; first | (go_simp; done) | (go_simp; (try simp only [i64_w]); rfl) | (go_simp; simp; rfl)
  try simp only [Act.put, List.setIfInBounds_toArray, List.set_cons_zero, List.set_cons_succ]
  refine AnyEvents.obs_cons ?v16_4 (val_hole (by simp only [List.getD_cons_zero, List.getD_cons_succ])) (AnyEvents.ob_plain (v := ?v16_4) rfl rfl rfl same (by simp only [List.getD_cons_zero, List.getD_cons_succ]) (fun ph W' hwn hW => ?_)) ?_
  ·obtain ⟨nd, rfl⟩ := hW; have z0 := drew_cell nd hc0; have z1 := drew_cell nd hc1; have z2 := drew_cell nd hc3; first | (go_simp; done) | (go_simp; (try simp only [i64_w]); rfl) | (go_simp; simp; rfl)
  try simp only [Act.put, List.setIfInBounds_toArray, List.set_cons_zero, List.set_cons_succ]
  refine AnyEvents.obs_cons ?v16_5 (val_hole (by simp only [List.getD_cons_zero, List.getD_cons_succ])) (AnyEvents.ob_plain (v := ?v16_5) rfl rfl rfl same (by simp only [List.getD_cons_zero, List.getD_cons_succ]) (fun ph W' hwn hW => ?_)) ?_
  ·obtain ⟨nd, rfl⟩ := hW; have z0 := drew_cell nd hc0; have z1 := drew_cell nd hc1; have z2 := drew_cell nd hc3; first | (go_simp; done) | (go_simp; (try simp only [i64_w]); rfl) | (go_simp; simp; rfl)
  try simp only [Act.put, List.setIfInBounds_toArray, List.set_cons_zero, List.set_cons_succ]
  refine AnyEvents.obs_cons ?v16_6 (val_hole (by simp only [List.getD_cons_zero, List.getD_cons_succ])) (AnyEvents.ob_plain (v := ?v16_6) rfl rfl rfl same (by simp only [List.getD_cons_zero, List.getD_cons_succ]) (fun ph W' hwn hW => ?_)) ?_
  ·obtain ⟨nd, rfl⟩ := hW; have z0 := drew_cell nd hc0; have z1 := drew_cell nd hc1; have z2 := drew_cell nd hc3; first | (go_simp; done) | (go_simp; (try simp only [i64_w]); rfl) | (go_simp; simp; rfl)
  try simp only [Act.put, List.setIfInBounds_toArray, List.set_cons_zero, List.set_cons_succ]
  refine AnyEvents.obs_cons ?v16_7 (val_hole (by simp only [List.getD_cons_zero, List.getD_cons_succ])) (AnyEvents.ob_plain (v := ?v16_7) rfl rfl rfl same (by simp only [List.getD_cons_zero, List.getD_cons_succ]) (fun ph W' hwn hW => ?_)) ?_
  ·obtain ⟨nd, rfl⟩ := hW; have z0 := drew_cell nd hc0; have z1 := drew_cell nd hc1; have z2 := drew_cell nd hc3; first | (go_simp; done) | (go_simp; (try simp only [i64_w]); rfl) | (go_simp; simp; rfl)
  try simp only [Act.put, List.setIfInBounds_toArray, List.set_cons_zero, List.set_cons_succ]
  refine AnyEvents.obs_cons ?v16_8 (val_hole (by simp only [List.getD_cons_zero, List.getD_cons_succ])) (AnyEvents.ob_plain (v := ?v16_8) rfl rfl rfl same (by simp only [List.getD_cons_zero, List.getD_cons_succ]) (fun ph W' hwn hW => ?_)) ?_
  ·obtain ⟨nd, rfl⟩ := hW; have z0 := drew_cell nd hc0; have z1 := drew_cell nd hc1; have z2 := drew_cell nd hc3; first | (go_simp; done) | (go_simp; (try simp only [i64_w]); rfl) | (go_simp; simp; rfl)
  try simp only [Act.put, List.setIfInBounds_toArray, List.set_cons_zero, List.set_cons_succ]
  refine AnyEvents.obs_cons (.int .i64 (q.at_ q.sent)) (val_hole (by simp only [List.getD_cons_zero, List.getD_cons_succ])) (AnyEvents.ob_call (v := (.int .i64 (q.at_ q.sent))) rfl rfl rfl (by simp only [List.getD_cons_zero, List.getD_cons_succ]) 26 #[.pointer (some ⟨g, 0, none⟩), .int .i64 q.sent] (fun ph W' hwn hW => ?_) (fun ph W' hwn hW => ?_)) ?_
  ·first | (go_simp; done) | (go_simp; rfl)
  ·obtain ⟨nd, rfl⟩ := hW; refine (sendq_Queue_at.calls g q q.sent w0 (w.drewN nd) (HI.out.drawn rfl) HL.out (by have := HS.out; omega)).mono ?_; rintro e W2_ ⟨rfl, nd2, rfl⟩; exact ⟨rfl, ⟨nd + nd2, drewN_drewN _ _ _⟩, trivial⟩
  try simp only [Act.put, List.setIfInBounds_toArray, List.set_cons_zero, List.set_cons_succ]
  refine AnyEvents.obs_cons ?v16_10 (val_hole (by simp only [List.getD_cons_zero, List.getD_cons_succ])) (AnyEvents.ob_plain (v := ?v16_10) rfl rfl rfl same (by simp only [List.getD_cons_zero, List.getD_cons_succ]) (fun ph W' hwn hW => ?_)) ?_
  ·obtain ⟨nd, rfl⟩ := hW; have z0 := drew_cell nd hc0; have z1 := drew_cell nd hc1; have z2 := drew_cell nd hc3; first | (go_simp; done) | (go_simp; (try simp only [i64_w]); rfl) | (go_simp; simp; rfl)
  try simp only [Act.put, List.setIfInBounds_toArray, List.set_cons_zero, List.set_cons_succ]
  refine AnyEvents.obs_cons ?v16_11 (val_hole (by simp only [List.getD_cons_zero, List.getD_cons_succ])) (AnyEvents.ob_plain (v := ?v16_11) rfl rfl rfl same (by simp only [List.getD_cons_zero, List.getD_cons_succ]) (fun ph W' hwn hW => ?_)) ?_
  ·obtain ⟨nd, rfl⟩ := hW; have z0 := drew_cell nd hc0; have z1 := drew_cell nd hc1; have z2 := drew_cell nd hc3; first | (go_simp; done) | (go_simp; (try simp only [i64_w]); rfl) | (go_simp; simp; rfl)
  try simp only [Act.put, List.setIfInBounds_toArray, List.set_cons_zero, List.set_cons_succ]
  refine AnyEvents.obs_cons ?v16_12 (val_hole (by simp only [List.getD_cons_zero, List.getD_cons_succ])) (AnyEvents.ob_plain (v := ?v16_12) rfl rfl rfl same (by simp only [List.getD_cons_zero, List.getD_cons_succ]) (fun ph W' hwn hW => ?_)) ?_
  ·obtain ⟨nd, rfl⟩ := hW; have z0 := drew_cell nd hc0; have z1 := drew_cell nd hc1; have z2 := drew_cell nd hc3; first | (go_simp; done) | (go_simp; (try simp only [i64_w]); rfl) | (go_simp; simp; rfl)
  try simp only [Act.put, List.setIfInBounds_toArray, List.set_cons_zero, List.set_cons_succ]
  refine AnyEvents.obs_cons ?v16_13 (val_hole (by simp only [List.getD_cons_zero, List.getD_cons_succ])) (AnyEvents.ob_plain (v := ?v16_13) rfl rfl rfl same (by simp only [List.getD_cons_zero, List.getD_cons_succ]) (fun ph W' hwn hW => ?_)) ?_
  ·obtain ⟨nd, rfl⟩ := hW; have z0 := drew_cell nd hc0; have z1 := drew_cell nd hc1; have z2 := drew_cell nd hc3; first | (go_simp; done) | (go_simp; (try simp only [i64_w]); rfl) | (go_simp; simp; rfl)
  try simp only [Act.put, List.setIfInBounds_toArray, List.set_cons_zero, List.set_cons_succ]
  refine AnyEvents.obs_cons ?v16_14 (val_hole (by simp only [List.getD_cons_zero, List.getD_cons_succ])) (AnyEvents.ob_plain (v := ?v16_14) rfl rfl rfl same (by simp only [List.getD_cons_zero, List.getD_cons_succ]) (fun ph W' hwn hW => ?_)) ?_
  ·obtain ⟨nd, rfl⟩ := hW; have z0 := drew_cell nd hc0; have z1 := drew_cell nd hc1; have z2 := drew_cell nd hc3; first | (go_simp; done) | (go_simp; (try simp only [i64_w]); rfl) | (go_simp; simp; rfl)
  try simp only [Act.put, List.setIfInBounds_toArray, List.set_cons_zero, List.set_cons_succ]
  refine AnyEvents.obs_cons ?v16_15 (val_hole (by simp only [List.getD_cons_zero, List.getD_cons_succ])) (AnyEvents.ob_plain (v := ?v16_15) rfl rfl rfl same (by simp only [List.getD_cons_zero, List.getD_cons_succ]) (fun ph W' hwn hW => ?_)) ?_
  ·obtain ⟨nd, rfl⟩ := hW; have z0 := drew_cell nd hc0; have z1 := drew_cell nd hc1; have z2 := drew_cell nd hc3; first | (go_simp; done) | (go_simp; (try simp only [i64_w]); rfl) | (go_simp; simp; rfl)
  try simp only [Act.put, List.setIfInBounds_toArray, List.set_cons_zero, List.set_cons_succ]
  refine AnyEvents.obs_cons ?v16_16 (val_hole (by simp only [List.getD_cons_zero, List.getD_cons_succ])) (AnyEvents.ob_plain (v := ?v16_16) rfl rfl rfl same (by simp only [List.getD_cons_zero, List.getD_cons_succ]) (fun ph W' hwn hW => ?_)) ?_
  ·obtain ⟨nd, rfl⟩ := hW; have z0 := drew_cell nd hc0; have z1 := drew_cell nd hc1; have z2 := drew_cell nd hc3; first | (go_simp; done) | (go_simp; (try simp only [i64_w]); rfl) | (go_simp; simp; rfl)
  try simp only [Act.put, List.setIfInBounds_toArray, List.set_cons_zero, List.set_cons_succ]
  trivial
 case fin16r =>
  intro x W' hD _
  simp only [List.take_succ_cons, List.take_zero, List.drop_succ_cons, List.drop_zero]
  rw [AnyOrder.lexAt_cons ?v16_0 (val_hole (by simp only [List.getD_cons_zero, List.getD_cons_succ]))]
  try simp only [Act.put, List.setIfInBounds_toArray, List.set_cons_zero, List.set_cons_succ]
  rw [AnyOrder.lexAt_cons ?v16_1 (val_hole (by simp only [List.getD_cons_zero, List.getD_cons_succ]))]
  try simp only [Act.put, List.setIfInBounds_toArray, List.set_cons_zero, List.set_cons_succ]
  rw [AnyOrder.lexAt_cons ?v16_2 (val_hole (by simp only [List.getD_cons_zero, List.getD_cons_succ]))]
  try simp only [Act.put, List.setIfInBounds_toArray, List.set_cons_zero, List.set_cons_succ]
  rw [AnyOrder.lexAt_cons ?v16_3 (val_hole (by simp only [List.getD_cons_zero, List.getD_cons_succ]))]
  try simp only [Act.put, List.setIfInBounds_toArray, List.set_cons_zero, List.set_cons_succ]
  rw [AnyOrder.lexAt_cons ?v16_4 (val_hole (by simp only [List.getD_cons_zero, List.getD_cons_succ]))]
  try simp only [Act.put, List.setIfInBounds_toArray, List.set_cons_zero, List.set_cons_succ]
  rw [AnyOrder.lexAt_cons ?v16_5 (val_hole (by simp only [List.getD_cons_zero, List.getD_cons_succ]))]
  try simp only [Act.put, List.setIfInBounds_toArray, List.set_cons_zero, List.set_cons_succ]
  rw [AnyOrder.lexAt_cons ?v16_6 (val_hole (by simp only [List.getD_cons_zero, List.getD_cons_succ]))]
  try simp only [Act.put, List.setIfInBounds_toArray, List.set_cons_zero, List.set_cons_succ]
  rw [AnyOrder.lexAt_cons ?v16_7 (val_hole (by simp only [List.getD_cons_zero, List.getD_cons_succ]))]
  try simp only [Act.put, List.setIfInBounds_toArray, List.set_cons_zero, List.set_cons_succ]
  rw [AnyOrder.lexAt_cons ?v16_8 (val_hole (by simp only [List.getD_cons_zero, List.getD_cons_succ]))]
  try simp only [Act.put, List.setIfInBounds_toArray, List.set_cons_zero, List.set_cons_succ]
  rw [AnyOrder.lexAt_cons (.int .i64 (q.at_ q.sent)) (val_hole (by simp only [List.getD_cons_zero, List.getD_cons_succ]))]
  try simp only [Act.put, List.setIfInBounds_toArray, List.set_cons_zero, List.set_cons_succ]
  rw [AnyOrder.lexAt_cons ?v16_10 (val_hole (by simp only [List.getD_cons_zero, List.getD_cons_succ]))]
  try simp only [Act.put, List.setIfInBounds_toArray, List.set_cons_zero, List.set_cons_succ]
  rw [AnyOrder.lexAt_cons ?v16_11 (val_hole (by simp only [List.getD_cons_zero, List.getD_cons_succ]))]
  try simp only [Act.put, List.setIfInBounds_toArray, List.set_cons_zero, List.set_cons_succ]
  rw [AnyOrder.lexAt_cons ?v16_12 (val_hole (by simp only [List.getD_cons_zero, List.getD_cons_succ]))]
  try simp only [Act.put, List.setIfInBounds_toArray, List.set_cons_zero, List.set_cons_succ]
  rw [AnyOrder.lexAt_cons ?v16_13 (val_hole (by simp only [List.getD_cons_zero, List.getD_cons_succ]))]
  try simp only [Act.put, List.setIfInBounds_toArray, List.set_cons_zero, List.set_cons_succ]
  rw [AnyOrder.lexAt_cons ?v16_14 (val_hole (by simp only [List.getD_cons_zero, List.getD_cons_succ]))]
  try simp only [Act.put, List.setIfInBounds_toArray, List.set_cons_zero, List.set_cons_succ]
  rw [AnyOrder.lexAt_cons ?v16_15 (val_hole (by simp only [List.getD_cons_zero, List.getD_cons_succ]))]
  try simp only [Act.put, List.setIfInBounds_toArray, List.set_cons_zero, List.set_cons_succ]
  rw [AnyOrder.lexAt_cons ?v16_16 (val_hole (by simp only [List.getD_cons_zero, List.getD_cons_succ]))]
  try simp only [Act.put, List.setIfInBounds_toArray, List.set_cons_zero, List.set_cons_succ]
  rw [AnyOrder.lexAt_nil]
  clear same
  obtain ⟨nd, rfl⟩ := hD
  go_wp2
  go_ret3
  exact ⟨rfl, nd, rfl⟩


/-! ### sternpostref01_Check: function 31 -/
def sternpostref01_Check.f (a0 : Int) : Option (Int) := if a0 < 0 then (some 1) else (if a0 > 4294967295 then (some 1) else (some 0))
set_option maxHeartbeats 8000000 in
set_option maxRecDepth 100000 in
theorem sternpostref01_Check.calls (a0 : Int) (r : Int) (w : World) (h : sternpostref01_Check.f a0 = some r) :
  Calls Try.prog 31 #[.int .i64 a0] w fun e w' => e = .returned (.int .i64 r) ∧ Drawn0 w w' := by
 have H : (if a0 < 0 then (some 1) else (if a0 > 4294967295 then (some 1) else (some 0))) = some r := h
 clear h
 by_cases c2 : a0 < 0
 ·rw [if_pos c2] at H
  have c2b0 : decide (a0 < 0) = true := decide_eq_true c2
  clear c2
  obtain rfl := Option.some.inj H
  go_enter Try.func31, Try.ntmps31
  go_wp2
  go_ret
  exact ⟨by first | rfl | (simp; done) | (simp [*]; done), by repeat (first | exact Drawn0.refl _ | apply Drawn0.step)⟩
 ·rw [if_neg c2] at H
  have c2b0 : decide (a0 < 0) = false := decide_eq_false c2
  clear c2
  by_cases c3 : a0 > 4294967295
  ·rw [if_pos c3] at H
   have c3b0 : decide (4294967295 < a0) = true := decide_eq_true c3
   clear c3
   obtain rfl := Option.some.inj H
   go_enter Try.func31, Try.ntmps31
   go_wp2
   go_ret
   exact ⟨by first | rfl | (simp; done) | (simp [*]; done), by repeat (first | exact Drawn0.refl _ | apply Drawn0.step)⟩
  ·rw [if_neg c3] at H
   have c3b0 : decide (4294967295 < a0) = false := decide_eq_false c3
   clear c3
   obtain rfl := Option.some.inj H
   go_enter Try.func31, Try.ntmps31
   go_wp2
   go_ret
   exact ⟨by first | rfl | (simp; done) | (simp [*]; done), by repeat (first | exact Drawn0.refl _ | apply Drawn0.step)⟩

/-- A state of type 61 at block g of W; what its slices lead to came in by w0. -/
def IsS61 (w0 W : World) (g : Nat) (f0 : Int) (f1 : Int) (f2 : Int) (f3 : ByteArray) (f4 : List Bool) : Prop := ∃ A4 c4, W.heap[g]? = some (.cells #[.int .i64 f0, .int .i64 f1, .int .i64 f2, .string f3, .slice A4 f4.length c4] 61 (0, 0)) ∧ w0.heap.size ≤ g ∧ Kd.C Kd.bool w0 A4 f4.length f4
theorem IsS61.grown {w0 W : World} {g : Nat} {f0 : Int} {f1 : Int} {f2 : Int} {f3 : ByteArray} {f4 : List Bool} {W1 : World} {row : Option Nat} (h : IsS61 w0 W g f0 f1 f2 f3 f4) (hw : W.grownBy W1 row) (hne : some g ≠ row) : IsS61 w0 W1 g f0 f1 f2 f3 f4 := by
 obtain ⟨A4, c4, hb, hg, hr4⟩ := h
 exact ⟨A4, c4, blk_grown hb hw hne, hg, hr4⟩
theorem IsS61.own_neN {w0 W : World} {g : Nat} {f0 : Int} {f1 : Int} {f2 : Int} {f3 : ByteArray} {f4 : List Bool} {α : Type} {d : Kd α} {e : Nat} {base : Nat} {ok : Nat → Prop} {v : Value} {xs : List α} (h : IsS61 w0 W g f0 f1 f2 f3 f4) (ho : Kd.N d e W base ok v xs) (ht : e ≠ 61) : some g ≠ v.ownBlock := by
 obtain ⟨A4, c4, hb, hg, hr4⟩ := h
 exact Kd.N_ne ho hb ht
theorem IsS61.fresh {w0 W : World} {g : Nat} {f0 : Int} {f1 : Int} {f2 : Int} {f3 : ByteArray} {f4 : List Bool} (h : IsS61 w0 W g f0 f1 f2 f3 f4) : ∀ k, W.heap.size ≤ k → k ≠ g := by
 obtain ⟨A4, c4, hb, hg, hr4⟩ := h
 exact Kd.freshB hb
theorem IsS61.kept {w0 W : World} {g : Nat} {f0 : Int} {f1 : Int} {f2 : Int} {f3 : ByteArray} {f4 : List Bool} {W1 : World} {S : Nat → Prop} (h : IsS61 w0 W g f0 f1 f2 f3 f4) (hk : Kept W W1 S) (hne : ¬ S g) : IsS61 w0 W1 g f0 f1 f2 f3 f4 := by
 obtain ⟨A4, c4, hb, hg, hr4⟩ := h
 exact ⟨A4, c4, blk_kept hb hk hne, hg, hr4⟩
theorem IsS61.below {w0 W : World} {g : Nat} {f0 : Int} {f1 : Int} {f2 : Int} {f3 : ByteArray} {f4 : List Bool} {W1 : World} (h : IsS61 w0 W g f0 f1 f2 f3 f4) (hw : Below W.heap.size W W1) : IsS61 w0 W1 g f0 f1 f2 f3 f4 := h.grown (grown_of_below hw none) (by simp)
theorem IsS61.alloc {w0 W : World} {g : Nat} {f0 : Int} {f1 : Int} {f2 : Int} {f3 : ByteArray} {f4 : List Bool} (h : IsS61 w0 W g f0 f1 f2 f3 f4) (o : Obj) : IsS61 w0 (W.alloc o) g f0 f1 f2 f3 f4 := h.below (below_alloc (Below.refl _ _) o)
theorem IsS61.drewN {w0 W : World} {g : Nat} {f0 : Int} {f1 : Int} {f2 : Int} {f3 : ByteArray} {f4 : List Bool} (h : IsS61 w0 W g f0 f1 f2 f3 f4) (m : Nat) : IsS61 w0 (W.drewN m) g f0 f1 f2 f3 f4 := h
theorem IsS61.drew {w0 W : World} {g : Nat} {f0 : Int} {f1 : Int} {f2 : Int} {f3 : ByteArray} {f4 : List Bool} (h : IsS61 w0 W g f0 f1 f2 f3 f4) : IsS61 w0 W.drew g f0 f1 f2 f3 f4 := h
theorem IsS61.at_ {w0 W : World} {g : Nat} {f0 : Int} {f1 : Int} {f2 : Int} {f3 : ByteArray} {f4 : List Bool} {w' : World} {m : Nat} (hq : W.drewN m = w') (h : IsS61 w0 W g f0 f1 f2 f3 f4) : IsS61 w0 w' g f0 f1 f2 f3 f4 := by subst hq; exact IsS61.drewN h m
theorem IsS61.apart {w0 W : World} {g : Nat} {f0 : Int} {f1 : Int} {f2 : Int} {f3 : ByteArray} {f4 : List Bool} {α : Type} {d : Kd α} {e : Nat} {base : Nat} {ok : Nat → Prop} {v : Value} {xs : List α} (h : IsS61 w0 W g f0 f1 f2 f3 f4) (ho : d.R e W base ok v xs) (ht : ∀ q, q ∈ e :: d.E → q ≠ 61) : d.R e W base (fun k => ok k ∧ k ≠ g) v xs := by
 obtain ⟨A4, c4, hb, hg, hr4⟩ := h
 exact Kd.R_types ho hb ht
theorem IsS61.own_ne {w0 W : World} {g : Nat} {f0 : Int} {f1 : Int} {f2 : Int} {f3 : ByteArray} {f4 : List Bool} {α : Type} {d : Kd α} {e : Nat} {base : Nat} {ok : Nat → Prop} {v : Value} {xs : List α} (h : IsS61 w0 W g f0 f1 f2 f3 f4) (ho : d.R e W base ok v xs) (ht : e ≠ 61) : some g ≠ v.ownBlock := by
 obtain ⟨A4, c4, hb, hg, hr4⟩ := h
 exact Kd.R_ne ho hb ht
theorem IsS61.apartQ {w0 W : World} {g : Nat} {f0 : Int} {f1 : Int} {f2 : Int} {f3 : ByteArray} {f4 : List Bool} {α : Type} {d : Kd α} {e : Nat} {base : Nat} {ok : Nat → Prop} {v : Value} {xs : List α} (h : IsS61 w0 W g f0 f1 f2 f3 f4) (ho : d.Q e W base ok v xs) (ht : ∀ q, q ∈ e :: d.E → q ≠ 61) : d.Q e W base (fun k => ok k ∧ k ≠ g) v xs := by
 obtain ⟨A4, c4, hb, hg, hr4⟩ := h
 exact Kd.Q_types ho hb ht
theorem IsS61.own_neQ {w0 W : World} {g : Nat} {f0 : Int} {f1 : Int} {f2 : Int} {f3 : ByteArray} {f4 : List Bool} {α : Type} {d : Kd α} {e : Nat} {base : Nat} {ok : Nat → Prop} {v : Value} {xs : List α} (h : IsS61 w0 W g f0 f1 f2 f3 f4) (ho : d.Q e W base ok v xs) (ht : e ≠ 61) : some g ≠ v.ownBlock := by
 obtain ⟨A4, c4, hb, hg, hr4⟩ := h
 exact Kd.Q_ne ho hb ht
theorem IsS61.apartS {w0 W : World} {g : Nat} {f0 : Int} {f1 : Int} {f2 : Int} {f3 : ByteArray} {f4 : List Bool} {α : Type} {d : Kd α} {e : Nat} {base : Nat} {ok : Nat → Prop} {v : Value} {xs : List α} (h : IsS61 w0 W g f0 f1 f2 f3 f4) (ho : d.S e W base ok v xs) (ht : ∀ q, q ∈ e :: d.E → q ≠ 61) : d.S e W base (fun k => ok k ∧ k ≠ g) v xs := by
 obtain ⟨A4, c4, hb, hg, hr4⟩ := h
 exact Kd.S_types ho hb ht
theorem IsS61.own_neS {w0 W : World} {g : Nat} {f0 : Int} {f1 : Int} {f2 : Int} {f3 : ByteArray} {f4 : List Bool} {α : Type} {d : Kd α} {e : Nat} {base : Nat} {ok : Nat → Prop} {v : Value} {xs : List α} (h : IsS61 w0 W g f0 f1 f2 f3 f4) (ho : d.S e W base ok v xs) (ht : e ≠ 61) : some g ≠ v.ownBlock := by
 obtain ⟨A4, c4, hb, hg, hr4⟩ := h
 exact Kd.S_ne ho hb ht
theorem IsS61.lt {w0 W : World} {g : Nat} {f0 : Int} {f1 : Int} {f2 : Int} {f3 : ByteArray} {f4 : List Bool} (h : IsS61 w0 W g f0 f1 f2 f3 f4) : g < W.heap.size := by
 obtain ⟨A4, c4, hb, hg, hr4⟩ := h
 exact blk_lt hb
theorem IsS61.ge {w0 W : World} {g : Nat} {f0 : Int} {f1 : Int} {f2 : Int} {f3 : ByteArray} {f4 : List Bool} (h : IsS61 w0 W g f0 f1 f2 f3 f4) : w0.heap.size ≤ g := by
 obtain ⟨A4, c4, hb, hg, hr4⟩ := h
 exact hg
theorem IsS61.ne_blk {w0 W : World} {g : Nat} {f0 : Int} {f1 : Int} {f2 : Int} {f3 : ByteArray} {f4 : List Bool} {a : Nat} {cs : Array Value} {t : TypeId} {fr : Nat × Nat} (h : IsS61 w0 W g f0 f1 f2 f3 f4) (hb2 : W.heap[a]? = some (.cells cs t fr)) (ht : t ≠ 61) : g ≠ a := by
 obtain ⟨A4, c4, hb, hg, hr4⟩ := h
 rintro rfl
 rw [hb] at hb2
 injection hb2 with hb2
 injection hb2 with _ ht2
 exact ht ht2.symm
theorem IsS61.far {w0 W : World} {g : Nat} {f0 : Int} {f1 : Int} {f2 : Int} {f3 : ByteArray} {f4 : List Bool} {p : Addr} (h : IsS61 w0 W g f0 f1 f2 f3 f4) (hne : g ≠ p.block) (u : Value) : IsS61 w0 (W.setCell p u) g f0 f1 f2 f3 f4 := by
 obtain ⟨A4, c4, hb, hg, hr4⟩ := h
 exact ⟨A4, c4, blk_far hb hne u, hg, hr4⟩
theorem cellS61_0 {W : World} {g : Nat} {A4 : Option Addr} {c4 : Nat} {f0 : Int} {f1 : Int} {f2 : Int} {f3 : ByteArray} {f4 : List Bool} (h : W.heap[g]? = some (.cells #[.int .i64 f0, .int .i64 f1, .int .i64 f2, .string f3, .slice A4 f4.length c4] 61 (0, 0))) : W.cell? ⟨g, 0, none⟩ = some (.int .i64 f0) := (blk_cell h 0).trans rfl
theorem IsS61.set_0 {w0 W : World} {g : Nat} {f0 : Int} {f1 : Int} {f2 : Int} {f3 : ByteArray} {f4 : List Bool} (h : IsS61 w0 W g f0 f1 f2 f3 f4) (x : Int) : IsS61 w0 (W.setCell ⟨g, 0, none⟩ (.int .i64 x)) g x f1 f2 f3 f4 := by
 obtain ⟨A4, c4, hb, hg, hr4⟩ := h
 exact ⟨A4, c4, by simpa using blk_set hb 0 (.int .i64 x), hg, hr4⟩
theorem cellS61_1 {W : World} {g : Nat} {A4 : Option Addr} {c4 : Nat} {f0 : Int} {f1 : Int} {f2 : Int} {f3 : ByteArray} {f4 : List Bool} (h : W.heap[g]? = some (.cells #[.int .i64 f0, .int .i64 f1, .int .i64 f2, .string f3, .slice A4 f4.length c4] 61 (0, 0))) : W.cell? ⟨g, 1, none⟩ = some (.int .i64 f1) := (blk_cell h 1).trans rfl
theorem IsS61.set_1 {w0 W : World} {g : Nat} {f0 : Int} {f1 : Int} {f2 : Int} {f3 : ByteArray} {f4 : List Bool} (h : IsS61 w0 W g f0 f1 f2 f3 f4) (x : Int) : IsS61 w0 (W.setCell ⟨g, 1, none⟩ (.int .i64 x)) g f0 x f2 f3 f4 := by
 obtain ⟨A4, c4, hb, hg, hr4⟩ := h
 exact ⟨A4, c4, by simpa using blk_set hb 1 (.int .i64 x), hg, hr4⟩
theorem cellS61_2 {W : World} {g : Nat} {A4 : Option Addr} {c4 : Nat} {f0 : Int} {f1 : Int} {f2 : Int} {f3 : ByteArray} {f4 : List Bool} (h : W.heap[g]? = some (.cells #[.int .i64 f0, .int .i64 f1, .int .i64 f2, .string f3, .slice A4 f4.length c4] 61 (0, 0))) : W.cell? ⟨g, 2, none⟩ = some (.int .i64 f2) := (blk_cell h 2).trans rfl
theorem IsS61.set_2 {w0 W : World} {g : Nat} {f0 : Int} {f1 : Int} {f2 : Int} {f3 : ByteArray} {f4 : List Bool} (h : IsS61 w0 W g f0 f1 f2 f3 f4) (x : Int) : IsS61 w0 (W.setCell ⟨g, 2, none⟩ (.int .i64 x)) g f0 f1 x f3 f4 := by
 obtain ⟨A4, c4, hb, hg, hr4⟩ := h
 exact ⟨A4, c4, by simpa using blk_set hb 2 (.int .i64 x), hg, hr4⟩
theorem cellS61_3 {W : World} {g : Nat} {A4 : Option Addr} {c4 : Nat} {f0 : Int} {f1 : Int} {f2 : Int} {f3 : ByteArray} {f4 : List Bool} (h : W.heap[g]? = some (.cells #[.int .i64 f0, .int .i64 f1, .int .i64 f2, .string f3, .slice A4 f4.length c4] 61 (0, 0))) : W.cell? ⟨g, 3, none⟩ = some (.string f3) := (blk_cell h 3).trans rfl
theorem IsS61.set_3 {w0 W : World} {g : Nat} {f0 : Int} {f1 : Int} {f2 : Int} {f3 : ByteArray} {f4 : List Bool} (h : IsS61 w0 W g f0 f1 f2 f3 f4) (x : ByteArray) : IsS61 w0 (W.setCell ⟨g, 3, none⟩ (.string x)) g f0 f1 f2 x f4 := by
 obtain ⟨A4, c4, hb, hg, hr4⟩ := h
 exact ⟨A4, c4, by simpa using blk_set hb 3 (.string x), hg, hr4⟩
theorem cellS61_4 {W : World} {g : Nat} {A4 : Option Addr} {c4 : Nat} {f0 : Int} {f1 : Int} {f2 : Int} {f3 : ByteArray} {f4 : List Bool} (h : W.heap[g]? = some (.cells #[.int .i64 f0, .int .i64 f1, .int .i64 f2, .string f3, .slice A4 f4.length c4] 61 (0, 0))) : W.cell? ⟨g, 4, none⟩ = some (.slice A4 f4.length c4) := (blk_cell h 4).trans rfl
theorem IsS61.new (w0 W : World) (A4 : Option Addr) (c4 : Nat) (f0 : Int) (f1 : Int) (f2 : Int) (f3 : ByteArray) (f4 : List Bool) (hB : Below w0.heap.size w0 W) (hr4 : Kd.C Kd.bool w0 A4 f4.length f4) : IsS61 w0 (W.alloc (.cells #[.int .i64 f0, .int .i64 f1, .int .i64 f2, .string f3, .slice A4 f4.length c4] 61)) W.heap.size f0 f1 f2 f3 f4 := ⟨A4, c4, by simpa using heap_alloc_new W _, hB.size, hr4⟩

/-! ### sternpostref15_New: function 19 (by hand) -/
-- over sendq_New.calls sendq_New.callsR
structure RQ where
 left : Int
 sent : Int
 room : Int
 s : ByteArray
 got : List Bool
def cellsR (q : RQ) (v : Value) : Array Value := #[.int .i64 q.left, .int .i64 q.sent, .int .i64 q.room, .string q.s, v]
def bos (l : List Bool) : List Value := l.map Value.bool
theorem bos_one (l : List Bool) : (bos l).all (·.oneCell') = true := by unfold bos; rw [List.all_map, List.all_eq_true]; intro _ _; rfl
theorem bos_get {l : List Bool} {i : Nat} {b : Bool} (h : l[i]? = some b) : (bos l)[i]? = some (.bool b) := by unfold bos; simp [h]
/-- the blocks below a place stay, but one -/
def KeepL (top g : Nat) (w w' : World) : Prop := w.heap.size ≤ w'.heap.size ∧ ∀ k, k < top → k ≠ g → w'.heap[k]? = w.heap[k]?
theorem KeepL.refl (top g : Nat) (w : World) : KeepL top g w w := ⟨Nat.le_refl _, fun _ _ _ => rfl⟩
theorem KeepL.trans {top g : Nat} {a b c : World} (h : KeepL top g a b) (k : KeepL top g b c) : KeepL top g a c := ⟨Nat.le_trans h.1 k.1, fun i hi hg => (k.2 i hi hg).trans (h.2 i hi hg)⟩
theorem KeepL.of_below {top g : Nat} {a b : World} (h : Below a.heap.size a b) (ht : top ≤ a.heap.size) : KeepL top g a b := ⟨h.size, fun k hk _ => h.block k (Nat.lt_of_lt_of_le hk ht)⟩
theorem KeepL.set (top g k : Nat) (w : World) (v : Value) : KeepL top g w (w.setCell ⟨g, k, none⟩ v) := ⟨by simp [World.setCell], fun i _ hg => heap_setCell_other _ _ _ _ hg⟩
def RefAt (w : World) (base top g : Nat) (q : RQ) : Prop := ∃ v, w.heap[g]? = some (.cells (cellsR q v) 61 (0, 0)) ∧ base ≤ g ∧ ownsAt w top 4 1 v q.got.length (bos q.got)
theorem RefAt.ge {w : World} {base top g : Nat} {q : RQ} (h : RefAt w base top g q) : base ≤ g := h.choose_spec.2.1
theorem RefAt.lt {w : World} {base top g : Nat} {q : RQ} (h : RefAt w base top g q) : g < w.heap.size := blk_lt h.choose_spec.1
theorem RefAt.kept {w w' : World} {base top g : Nat} {q : RQ} (h : RefAt w base top g q) (hb : Below w.heap.size w w') : RefAt w' base top g q := by
 obtain ⟨v, h1, h2, h3⟩ := h
 exact ⟨v, blk_below h1 hb, h2, ownsAt_below h3 hb⟩
theorem RefAt.drawn {w w' : World} {base top g : Nat} {q : RQ} (h : RefAt w base top g q) (he : w'.heap = w.heap) : RefAt w' base top g q := by
 obtain ⟨v, h1, h2, h3⟩ := h
 exact ⟨v, by rw [he]; exact h1, h2, ownsAt_kept h3 (fun g cur _ hg => by rw [he])⟩
theorem RefAt.keepG {w w' : World} {base base' top g g' : Nat} {q : RQ} {p : QS} (h : RefAt w base top g q) (hp : QAt w base' g' p) (hk : KeepG g' w w') : RefAt w' base top g q := by
 obtain ⟨v, h1, h2, h3⟩ := h
 obtain ⟨v', h4, _⟩ := hp
 have hne : ∀ (b : Nat) (cs : Array Value) (e : TypeId), w.heap[b]? = some (.cells cs e (0, 0)) → e ≠ 67 → b ≠ g' := fun b cs e hb he e1 => by rw [e1, h4] at hb; simp at hb; exact he hb.2.symm
 exact ⟨v, (hk.2 g (blk_lt h1) (hne g _ _ h1 (by decide))).trans h1, h2, ownsAt_kept h3 (fun b cur _ hb => hk.2 b (blk_lt hb) (hne b _ _ hb (by decide)))⟩
theorem QAt.keepT {T : List TypeId} {w w' : World} {base g : Nat} {q : QS} (h : QAt w base g q) (hk : KeepT T w w') (h1 : 67 ∉ T) (h2 : 73 ∉ T) : QAt w' base g q := by
 obtain ⟨v, h3, h4, h5⟩ := h
 exact ⟨v, (hk.cells h3 h1).trans h3, h4, ownsAt_keepT h5 hk h2⟩
/-- another one, whose row lies lower, stays -/
theorem RefAt.low {w w' : World} {base top g base' top' g' : Nat} {q : RQ} (h : RefAt w base top g q) (hr : ∀ v, w.heap[g]? = some (.cells (cellsR q v) 61 (0, 0)) → ∀ b, v.ownBlock = some b → b < top') (hg : g < top') (hn : g ≠ g') (hq : ∃ q', RefAt w base' top' g' q') (hk : KeepL top' g' w w') : RefAt w' base top g q := by
 obtain ⟨v, h1, h2, h3⟩ := h
 obtain ⟨q', v', h4, _⟩ := hq
 refine ⟨v, (hk.2 g hg hn).trans h1, h2, ownsAt_kept h3 (fun b cur hb hc => hk.2 b (hr v h1 b hb) (fun e => ?_))⟩
 rw [e, h4] at hc
 simp at hc
theorem RefAt.set {w : World} {base top g : Nat} {q q' : RQ} (h : RefAt w base top g q) (k : Nat) (u : Value) (hq : q'.got = q.got) (hc : ∀ v, (cellsR q v).setIfInBounds k u = cellsR q' v) : RefAt (w.setCell ⟨g, k, none⟩ u) base top g q' := by
 obtain ⟨v, h1, h2, h3⟩ := h
 have hk := KeepT.set (T := [61]) h1 (by decide) k u
 refine ⟨v, by rw [blk_put h1 k u rfl, hc], h2, ?_⟩
 rw [hq]; exact ownsAt_keepT h3 hk (by decide)
theorem RefAt.row {w : World} {base top g : Nat} {q q' : RQ} (h : RefAt w base top g q) (u : Value) (hu : ownsAt w top 4 1 u q'.got.length (bos q'.got)) (hc : ∀ v, (cellsR q v).setIfInBounds 4 u = cellsR q' u) : RefAt (w.setCell ⟨g, 4, none⟩ u) base top g q' := by
 obtain ⟨v, h1, h2, h3⟩ := h
 have hk := KeepT.set (T := [61]) h1 (by decide) 4 u
 exact ⟨u, by rw [blk_put h1 4 u rfl, hc], h2, ownsAt_keepT hu hk (by decide)⟩
theorem RefAt.keep_set {w : World} {base top g : Nat} {q : RQ} (h : RefAt w base top g q) (k : Nat) (u : Value) : KeepT [61, 4] w (w.setCell ⟨g, k, none⟩ u) := by
 obtain ⟨v, h1, _⟩ := h
 exact KeepT.set h1 (by decide) k u
theorem RefAt.cell {w : World} {base top g : Nat} {q : RQ} (h : RefAt w base top g q) : ∃ A c, (w.heap[g]? = some (.cells (cellsR q (.slice A q.got.length c)) 61 (0, 0)) ∧ base ≤ g) ∧ (q.got.length ≤ c ∧ c ≤ maxLen) ∧ (w.cell? ⟨g, 0, none⟩ = some (.int .i64 q.left) ∧ w.cell? ⟨g, 1, none⟩ = some (.int .i64 q.sent) ∧ w.cell? ⟨g, 2, none⟩ = some (.int .i64 q.room) ∧ w.cell? ⟨g, 3, none⟩ = some (.string q.s) ∧ w.cell? ⟨g, 4, none⟩ = some (.slice A q.got.length c)) ∧ (w.frozen? ⟨g, 0, none⟩ = false ∧ w.frozen? ⟨g, 1, none⟩ = false ∧ w.frozen? ⟨g, 2, none⟩ = false ∧ w.frozen? ⟨g, 3, none⟩ = false ∧ w.frozen? ⟨g, 4, none⟩ = false) ∧ ownsAt w top 4 1 (.slice A q.got.length c) q.got.length (bos q.got) := by
 obtain ⟨v, h1, h2, h3⟩ := h
 obtain ⟨A, c, rfl, h5, h6, _⟩ := ownsAt_len h3
 exact ⟨A, c, ⟨h1, h2⟩, ⟨h5, h6⟩, ⟨blk_cell h1 0, blk_cell h1 1, blk_cell h1 2, blk_cell h1 3, blk_cell h1 4⟩, ⟨blk_frozen h1 0, blk_frozen h1 1, blk_frozen h1 2, blk_frozen h1 3, blk_frozen h1 4⟩, h3⟩
theorem refcheck_ (n : Int) : sternpostref01_Check.f n = some (if sqOk n then 0 else 1) := by
 unfold sternpostref01_Check.f
 by_cases h : sqOk n
 ·have h' := h; unfold sqOk at h'
  rw [if_pos h, if_neg (by omega), if_neg (by omega)]
 ·have h' := h; unfold sqOk at h'
  rw [if_neg h]
  by_cases h1 : n < 0
  ·rw [if_pos h1]
  ·rw [if_neg h1, if_pos (by omega)]
set_option maxHeartbeats 4000000 in
set_option maxRecDepth 100000 in
theorem sternpostref15_New.calls (first room : Int) (w0 w : World) (hB : Below w0.heap.size w0 w) (hf : sqOk first) (h1 : 1 ≤ room) (h2 : room ≤ 65536) :
  Calls Try.prog 19 #[.int .i64 first, .int .i64 room] w fun e w' => ∃ g, e = .returned (.tuple #[.pointer (some ⟨g, 0, none⟩), .int .i64 0]) ∧ RefAt w' w0.heap.size w0.heap.size g ⟨first, 0, room, (⟨#[]⟩ : ByteArray), []⟩ ∧ Below w0.heap.size w0 w' ∧ Below w.heap.size w w' ∧ w.heap.size ≤ g := by
 have HB := Aside0.mk hB
 have d1 : decide (room < 1) = false := decide_eq_false (by omega)
 have d2 : decide (65536 < room) = false := decide_eq_false (by omega)
 have HS0 := Aside0.mk hB.size
 clear hB
 go_enter Try.func19, Try.ntmps19
 go_wp2_with fail
 refine (sternpostref01_Check.calls first 0 _ ((refcheck_ first).trans (by rw [if_pos hf]))).mono ?_
 rintro e W1 ⟨rfl, hd⟩
 have hb := hd.below
 clear hd
 have HB1 := Aside0.mk (below_step HB.out hb)
 have HB2 := Aside0.mk hb
 clear HB hf hb
 go_wp2_with (first | ((with_reducible refine gate_dst (N := 20) rfl ?_); refine box_event ?hg (N := 20) ?hd (cs := cellsR ⟨first, 0, room, (⟨#[]⟩ : ByteArray), []⟩ (.slice none 0 0)) (t := 61) ?hr ?_; (case hd => rfl); (case hg => rfl); (case hr => first | (go_simp; done) | (go_simp; rfl)); intro g hg w2 hbox hb; have BX := Aside0.mk hbox; have HB3 := Aside0.mk (below_step HB1.out hb); have HB4 := Aside0.mk (below_step HB2.out hb); have GG := Aside0.mk (show w.heap.size ≤ g by rw [hg]; exact HB2.out.size); clear hbox hb hg))
 go_ret2
 exact ⟨g, rfl, ⟨_, BX.out, Nat.le_trans HS0.out GG.out, ownsAt_nil _ _ _ _⟩, HB3.out, HB4.out, GG.out⟩



/-! ### sendq_span_32: function 32 (by hand) -/
-- over sendq_New.calls sendq_New.callsR
section
open Go.Shelf Go.Sort Go.Lib
def laid_laysSlE041_f32_ren : Go.Shelf.Ren := ⟨fun | 41 => 32 | n => n, fun | 22 => 65 | 23 => 73 | 4 => 4 | n => n, fun | n => n⟩
theorem laid_laysSlE041_f32 : Go.Proofs.SlLaysE0.n41 Try.prog laid_laysSlE041_f32_ren := {
 mixed := by kernel_rfl
 f41 := ⟨Try.f32.name, by decide, Try.func32.trans (congrArg some (by kernel_rfl))⟩
 t4 := Try.underlying4
 a4 := Try.isAgg4
 z4 := Try.sizeOf4
 v4 := Try.zeroValue4
 t22 := Try.underlying65
 a22 := Try.isAgg65
 z22 := Try.sizeOf65
 v22 := Try.zeroValue65 }
theorem laid_slices_Clone (i0 : TypeInfo) (z : Value) (size bytes : Nat) (hi : Try.prog.info? 73 = some i0) (hz0 : i0.zero = some z) (hz1 : i0.size = size) (hz2 : i0.bytes = bytes) (hzs : z.cells.size = size) (hsz : 0 < size) (z23 : ∀ w, (Go.sizeOf 73).run Try.prog w = .ok size w) (b off n c : Nat) (news : List Value) (w : World) (hl : news.length = n * size) (hn : n ≤ maxLen) (hbig : n * bytes ≤ 140737488355328) (hc : ∀ j u, news[j]? = some u → w.cell? ⟨b, off + j, none⟩ = some u) (h1 : ∀ u ∈ news, u.oneCell' = true) :
  Calls Try.prog 32 #[.slice (some ⟨b, off, none⟩) n c] w fun e w' => ∃ v', e = .returned v' ∧ w'.ownsRow w.heap.size 73 size v' n news ∧ v' ≠ .slice none 0 0 ∧ Below w.heap.size w w' := AnyE.slices_Clone laid_laysSlE041_f32 i0 z size bytes hi hz0 hz1 hz2 hzs hsz z23 b off n c news w hl hn hbig hc h1
theorem laid_slices_Clone_nil (n c : Nat) (w : World) :
  Calls Try.prog 32 #[.slice none n c] w fun e w' => e = .returned (.slice none 0 0) ∧ w' = w := AnyE.slices_Clone_nil laid_laysSlE041_f32 n c w
theorem cloneSpan_calls (A : Option Addr) (c : Nat) (l : List (Int × Int)) (base : Nat) (W : World) (hv : ownsAt W base 73 2 (.slice A l.length c) l.length (spc l)) (hl : l.length ≤ 1000000) :
  Calls Try.prog 32 #[.slice A l.length c] W fun e w' => ∃ v, e = .returned v ∧ ownsAt w' W.heap.size 73 2 v l.length (spc l) ∧ Below W.heap.size W w' := by
 cases A with
 | none =>
  have hl0 : l.length = 0 := by rcases hv.2 with ⟨h, h0⟩ | ⟨g', o', c', cur, h, _⟩; exact h0; simp at h
  refine (laid_slices_Clone_nil l.length c W).mono ?_
  rintro e w' ⟨rfl, rfl⟩
  have : l = [] := List.eq_nil_of_length_eq_zero hl0
  subst this
  exact ⟨_, rfl, ownsAt_nil _ _ _ _, Below.refl _ _⟩
 | some a =>
  obtain ⟨g, o, rfl, hc⟩ : ∃ g o, a = ⟨g, o, none⟩ ∧ ∀ j u, (spc l)[j]? = some u → W.cell? ⟨g, o + j, none⟩ = some u := by
   rcases hv.2 with ⟨h, _⟩ | ⟨g', o', c', cur, h, _⟩
   ·simp at h
   ·simp only [Value.slice.injEq, Option.some.injEq] at h
    by_cases h0 : 0 < l.length
    ·obtain ⟨g2, o2, e2, hc⟩ := ownsAt_cells hv h0
     exact ⟨g2, o2, Option.some.inj e2, hc⟩
    ·have : l = [] := List.eq_nil_of_length_eq_zero (by omega)
     subst this
     exact ⟨g', o', h.1, fun j u hu => by simp [spc] at hu⟩
  have hz : (Try.prog.info? 73).map (fun i => (i.size, i.bytes, i.zero)) = some (2, 16, some (.agg #[.int .i64 0, .int .i64 0])) := by kernel_rfl
  rw [Option.map_eq_some_iff] at hz
  obtain ⟨i0, hi, he⟩ := hz
  simp only [Prod.mk.injEq] at he
  have h1 : ∀ u ∈ spc l, u.oneCell' = true := fun u hu => by
   unfold spc at hu
   obtain ⟨x, _, hx⟩ := List.mem_flatMap.1 hu
   simp at hx
   rcases hx with rfl | rfl <;> rfl
  refine (laid_slices_Clone i0 _ 2 16 hi he.2.2 he.1 he.2.1 rfl (by decide) Try.sizeOf73 g o l.length c (spc l) W hv.1 (by simp only [maxLen]; omega) (by omega) hc h1).mono ?_
  rintro e w' ⟨v, rfl, ho, _, hb⟩
  exact ⟨v, rfl, ownsAt_row ho, hb⟩
end


end Go.Proofs.Ytobndcdohehhbaa.PSendqPlays

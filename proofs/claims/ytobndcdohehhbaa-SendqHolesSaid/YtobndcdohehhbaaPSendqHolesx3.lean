-- Laid by this claim's own program over the print's words.
import Derived.Test.YtobndcdohehhbaaPSendqHolesx0
import Derived.Test.YtobndcdohehhbaaPSendqHolesx1
import Derived.Test.YtobndcdohehhbaaPSendqHolesx2
namespace Go.Proofs.Ytobndcdohehhbaa.PSendqHoles
open Go.RowKit Go.Proofs.YtobndcdohehhbaaW.PrintWords Go.Proofs.YtobndcdohehhbaaW.PrintLast Go.Proofs.YtobndcdohehhbaaW.PrintMore
attribute [local go_sem] max2_int min2_int max_two min_two max_three min_three max_four min_four max_five min_five extract_cut tmod_nat_lit   -- for this text's walks alone
set_option linter.unusedVariables false
set_option linter.unusedSimpArgs false


/-! ### sendq_Queue_Ack: function 14 (by hand) -/
def ackAp (d : Int) : List (Int × Int) → List (Int × Int)
 | [] => []
 | x :: l => if d < x.2 then (if 0 < x.1 - d then x.1 - d else 0, x.2 - d) :: ackAp d l else ackAp d l
theorem ackAp_snoc (d : Int) (x : Int × Int) : ∀ l, ackAp d (l ++ [x]) = ackAp d l ++ (if d < x.2 then [(if 0 < x.1 - d then x.1 - d else 0, x.2 - d)] else [])
 | [] => by simp [ackAp]
 | y :: l => by simp only [List.cons_append, ackAp, ackAp_snoc d x l]; split <;> rfl
theorem ackAp_le (d : Int) : ∀ l, (ackAp d l).length ≤ l.length
 | [] => Nat.le_refl _
 | y :: l => by have := ackAp_le d l; unfold ackAp; split <;> simp <;> omega
def QS.ack (q : QS) (n : Int) : QS × Int × Int := if (q.off n).2 = true then ({ q with left := n, s := cutS q.s (q.off n).1.toNat q.s.size, sent := q.sent - (q.off n).1, ap := ackAp (q.off n).1 q.ap }, (q.off n).1, 0) else (q, 0, 1)
theorem off_ok {q : QS} {n : Int} (h : (q.off n).2 = true) : 0 ≤ (q.off n).1 ∧ (q.off n).1 ≤ q.sent := by
 unfold QS.off at h ⊢
 split at h
 ·rename_i hn
  rw [if_pos hn]
  exact ⟨Int.emod_nonneg _ (by decide), of_decide_eq_true h⟩
 ·cases h
set_option maxHeartbeats 4000000 in
set_option maxRecDepth 100000 in
theorem sendq_Queue_Ack.calls (g : Nat) (q : QS) (n : Int) (w0 w : World) (hI : QAt w w0.heap.size g q) (hB : Below w0.heap.size w0 w) (hl : sqOk q.left) (hs : 0 ≤ q.sent ∧ q.sent ≤ (q.s.size : Int) ∧ (q.s.size : Int) ≤ 65536) (hap : (∀ x ∈ q.ap, 0 ≤ x.1 ∧ x.1 ≤ 65536 ∧ 0 ≤ x.2 ∧ x.2 ≤ 65536) ∧ q.ap.length ≤ 1000000) :
  Calls Try.prog 14 #[.pointer (some ⟨g, 0, none⟩), .int .i64 n] w fun e w' => e = .returned (.tuple #[.int .i64 (q.ack n).2.1, .int .i64 (q.ack n).2.2]) ∧ QAt w' w0.heap.size g ((q.ack n).1) ∧ Below w0.heap.size w0 w' ∧ KeepG g w w' := by
 have HI := Aside0.mk hI
 have HB := Aside0.mk hB
 have HL := Aside0.mk hl
 have HS := Aside0.mk hs
 have HAP := Aside0.mk hap
 clear hI hB hl hs hap
 obtain ⟨d, hd1⟩ : ∃ d_, (q.off n).1 = d_ := ⟨_, rfl⟩
 obtain ⟨ok, hd2⟩ : ∃ d_, (q.off n).2 = d_ := ⟨_, rfl⟩
 cases ok
 ·have e : q.ack n = (q, 0, 1) := by unfold QS.ack; rw [if_neg (by rw [hd2]; simp)]
  rw [e]
  clear e
  obtain ⟨Az, cz, ⟨hbg, hge⟩, ⟨hle, hcm⟩, ⟨hc0, hc1, hc2, hc3, hc4⟩, ⟨hf0, hf1, hf2, hf3, hf4⟩, HQ⟩ := HI.out.cell
  go_enter Try.func14, Try.ntmps14
  go_wp2_with fail
  refine (sendq_Queue_off.calls g q n w0 _ HI.out HL.out).mono ?_
  rw [hd1, hd2]
  rintro e W1 ⟨rfl, hb⟩
  have HB1 := Aside0.mk hb
  clear hb
  go_wp2
  go_ret2
  exact ⟨rfl, HI.out.kept HB1.out, below_step HB.out HB1.out, KeepG.of_below HB1.out⟩
 have hdb := off_ok hd2
 rw [hd1] at hdb
 have e : q.ack n = ({ q with left := n, s := cutS q.s d.toNat q.s.size, sent := q.sent - d, ap := ackAp d q.ap }, d, 0) := by unfold QS.ack; rw [if_pos hd2, hd1]
 rw [e]
 have HD := Aside0.mk hdb
 have hw1 : wrap64 (q.sent - d) = q.sent - d := by have := HS.out; exact w64p (by omega) (by omega)
 have HW1 := Aside0.mk hw1
 clear e hdb hw1
 obtain ⟨Az, cz, ⟨hbg, hge⟩, ⟨hle, hcm⟩, ⟨hc0, hc1, hc2, hc3, hc4⟩, ⟨hf0, hf1, hf2, hf3, hf4⟩, HQ⟩ := HI.out.cell
 go_enter Try.func14, Try.ntmps14
 go_wp2_with fail
 refine (sendq_Queue_off.calls g q n w0 _ HI.out HL.out).mono ?_
 rw [hd1, hd2]
 clear hd1 hd2
 rintro e W1 ⟨rfl, hb⟩
 clear hbg hge hle hcm hc0 hc1 hc2 hc3 hc4 hf0 hf1 hf2 hf3 hf4 HQ
 have HI1 := Aside0.mk (HI.out.kept hb)
 have HBa := Aside0.mk (below_step HB.out hb)
 have HKs := Aside0.mk (show KeepG g w W1 from KeepG.of_below hb)
 clear HI HB hb
 have HI := HI1; have HB := HBa
 clear HI1 HBa
 go_upto_region 4 with fail
 refine AnyEvents.region_then (P := Try.prog) 22 (E := [18, 21]) (C := fun ph W' => QAt W' w0.heap.size g { q with left := if ph = 0 then q.left else n, s := if ph ≤ 1 then q.s else cutS q.s d.toNat q.s.size } ∧ Below w0.heap.size w0 W' ∧ KeepG g w W') (G := fun _ _ _ _ => True) (T := []) (R := fun _ _ _ _ => True) (vs := [?v12_0, ?v12_1, ?v12_2, ?v12_3, ?v12_4, ?v12_5, ?v12_6, ?v12_7, ?v12_8, (.string (cutS q.s d.toNat q.s.size)), ?v12_10, ?v12_11, ?v12_12, ?v12_13, ?v12_14, ?v12_15, ?v12_16, ?v12_17, undef, ?v12_19, ?v12_20, undef]) (by kernel_rfl) (by kernel_rfl) rfl (by kernel_rfl) ?hc12r (fun _ _ _ => trivial) (fun _ _ _ _ _ _ _ _ _ => trivial) ?hc12re (fun x => ?obs12r) ?fin12r
 case hc12re => decide
 case hc12r => exact ⟨HI.out.drawn rfl, pw_below_drewN HB.out 1, HKs.out.trans (KeepG.of_below (pw_below_drewN (Below.refl _ _) 1))⟩
 case obs12r =>
  refine AnyEvents.obs_cons ?v12_0 (val_hole (by simp only [List.getD_cons_zero, List.getD_cons_succ])) (AnyEvents.ob_plain (v := ?v12_0) rfl rfl rfl (fun _ _ _ => trivial) (by simp only [List.getD_cons_zero, List.getD_cons_succ]) (fun ph W' hwn hW => ?_)) ?_
  ·obtain ⟨A_, c_, _, _, ⟨z0, z1, z2, z3, z4⟩, _, _⟩ := hW.1.cell; first | (go_simp; done) | (go_simp; (try simp only [i64_w]); rfl) | (go_simp; simp; rfl)
  try simp only [Act.put, List.setIfInBounds_toArray, List.set_cons_zero, List.set_cons_succ]
  refine AnyEvents.obs_cons ?v12_1 (val_hole (by simp only [List.getD_cons_zero, List.getD_cons_succ])) (AnyEvents.ob_plain (v := ?v12_1) rfl rfl rfl (fun _ _ _ => trivial) (by simp only [List.getD_cons_zero, List.getD_cons_succ]) (fun ph W' hwn hW => ?_)) ?_
  ·obtain ⟨A_, c_, _, _, ⟨z0, z1, z2, z3, z4⟩, _, _⟩ := hW.1.cell; first | (go_simp; done) | (go_simp; (try simp only [i64_w]); rfl) | (go_simp; simp; rfl)
  try simp only [Act.put, List.setIfInBounds_toArray, List.set_cons_zero, List.set_cons_succ]
  refine AnyEvents.obs_cons ?v12_2 (val_hole (by simp only [List.getD_cons_zero, List.getD_cons_succ])) (AnyEvents.ob_plain (v := ?v12_2) rfl rfl rfl (fun _ _ _ => trivial) (by simp only [List.getD_cons_zero, List.getD_cons_succ]) (fun ph W' hwn hW => ?_)) ?_
  ·obtain ⟨A_, c_, _, _, ⟨z0, z1, z2, z3, z4⟩, _, _⟩ := hW.1.cell; first | (go_simp; done) | (go_simp; (try simp only [i64_w]); rfl) | (go_simp; simp; rfl)
  try simp only [Act.put, List.setIfInBounds_toArray, List.set_cons_zero, List.set_cons_succ]
  refine AnyEvents.obs_cons ?v12_3 (val_hole (by simp only [List.getD_cons_zero, List.getD_cons_succ])) (AnyEvents.ob_plain (v := ?v12_3) rfl rfl rfl (fun _ _ _ => trivial) (by simp only [List.getD_cons_zero, List.getD_cons_succ]) (fun ph W' hwn hW => ?_)) ?_
  ·obtain ⟨A_, c_, _, _, ⟨z0, z1, z2, z3, z4⟩, _, _⟩ := hW.1.cell; first | (go_simp; done) | (go_simp; (try simp only [i64_w]); rfl) | (go_simp; simp; rfl)
  try simp only [Act.put, List.setIfInBounds_toArray, List.set_cons_zero, List.set_cons_succ]
  refine AnyEvents.obs_cons ?v12_4 (val_hole (by simp only [List.getD_cons_zero, List.getD_cons_succ])) (AnyEvents.ob_plain (v := ?v12_4) rfl rfl rfl (fun _ _ _ => trivial) (by simp only [List.getD_cons_zero, List.getD_cons_succ]) (fun ph W' hwn hW => ?_)) ?_
  ·obtain ⟨A_, c_, _, _, ⟨z0, z1, z2, z3, z4⟩, _, _⟩ := hW.1.cell; first | (go_simp; done) | (go_simp; (try simp only [i64_w]); rfl) | (go_simp; simp; rfl)
  try simp only [Act.put, List.setIfInBounds_toArray, List.set_cons_zero, List.set_cons_succ]
  refine AnyEvents.obs_cons ?v12_5 (val_hole (by simp only [List.getD_cons_zero, List.getD_cons_succ])) (AnyEvents.ob_plain (v := ?v12_5) rfl rfl rfl (fun _ _ _ => trivial) (by simp only [List.getD_cons_zero, List.getD_cons_succ]) (fun ph W' hwn hW => ?_)) ?_
  ·obtain ⟨A_, c_, _, _, ⟨z0, z1, z2, z3, z4⟩, _, _⟩ := hW.1.cell; first | (go_simp; done) | (go_simp; (try simp only [i64_w]); rfl) | (go_simp; simp; rfl)
  try simp only [Act.put, List.setIfInBounds_toArray, List.set_cons_zero, List.set_cons_succ]
  refine AnyEvents.obs_cons ?v12_6 (val_hole (by simp only [List.getD_cons_zero, List.getD_cons_succ])) (AnyEvents.ob_plain (v := ?v12_6) rfl rfl rfl (fun _ _ _ => trivial) (by simp only [List.getD_cons_zero, List.getD_cons_succ]) (fun ph W' hwn hW => ?_)) ?_
  ·obtain ⟨A_, c_, _, _, ⟨z0, z1, z2, z3, z4⟩, _, _⟩ := hW.1.cell; first | (go_simp; done) | (go_simp; (try simp only [i64_w]); rfl) | (go_simp; simp; rfl)
  try simp only [Act.put, List.setIfInBounds_toArray, List.set_cons_zero, List.set_cons_succ]
  refine AnyEvents.obs_cons ?v12_7 (val_hole (by simp only [List.getD_cons_zero, List.getD_cons_succ])) (AnyEvents.ob_plain (v := ?v12_7) rfl rfl rfl (fun _ _ _ => trivial) (by simp only [List.getD_cons_zero, List.getD_cons_succ]) (fun ph W' hwn hW => ?_)) ?_
  ·obtain ⟨A_, c_, _, _, ⟨z0, z1, z2, z3, z4⟩, _, _⟩ := hW.1.cell; have hp := hwn.hi 1 21 rfl (by kernel_rfl); dsimp only at z3; rw [if_pos hp] at z3; first | (go_simp; done) | (go_simp; (try simp only [i64_w]); rfl) | (go_simp; simp; rfl)
  try simp only [Act.put, List.setIfInBounds_toArray, List.set_cons_zero, List.set_cons_succ]
  refine AnyEvents.obs_cons ?v12_8 (val_hole (by simp only [List.getD_cons_zero, List.getD_cons_succ])) (AnyEvents.ob_plain (v := ?v12_8) rfl rfl rfl (fun _ _ _ => trivial) (by simp only [List.getD_cons_zero, List.getD_cons_succ]) (fun ph W' hwn hW => ?_)) ?_
  ·obtain ⟨A_, c_, _, _, ⟨z0, z1, z2, z3, z4⟩, _, _⟩ := hW.1.cell; first | (go_simp; done) | (go_simp; (try simp only [i64_w]); rfl) | (go_simp; simp; rfl)
  try simp only [Act.put, List.setIfInBounds_toArray, List.set_cons_zero, List.set_cons_succ]
  refine AnyEvents.obs_cons (.string (cutS q.s d.toNat q.s.size)) (val_hole (by simp only [List.getD_cons_zero, List.getD_cons_succ])) (AnyEvents.ob_plain (v := (.string (cutS q.s d.toNat q.s.size))) rfl rfl rfl (fun _ _ _ => trivial) (by simp only [List.getD_cons_zero, List.getD_cons_succ]) (fun ph W' hwn hW => ?_)) ?_
  ·exact run_sl_from (i := d) (s := q.s) Try.underlying9 rfl rfl rfl HD.out.1 (by have h1 := HD.out; have h2 := HS.out; omega)
  try simp only [Act.put, List.setIfInBounds_toArray, List.set_cons_zero, List.set_cons_succ]
  refine AnyEvents.obs_cons ?v12_10 (val_hole (by simp only [List.getD_cons_zero, List.getD_cons_succ])) (AnyEvents.ob_plain (v := ?v12_10) rfl rfl rfl (fun _ _ _ => trivial) (by simp only [List.getD_cons_zero, List.getD_cons_succ]) (fun ph W' hwn hW => ?_)) ?_
  ·obtain ⟨A_, c_, _, _, ⟨z0, z1, z2, z3, z4⟩, _, _⟩ := hW.1.cell; first | (go_simp; done) | (go_simp; (try simp only [i64_w]); rfl) | (go_simp; simp; rfl)
  try simp only [Act.put, List.setIfInBounds_toArray, List.set_cons_zero, List.set_cons_succ]
  refine AnyEvents.obs_cons ?v12_11 (val_hole (by simp only [List.getD_cons_zero, List.getD_cons_succ])) (AnyEvents.ob_plain (v := ?v12_11) rfl rfl rfl (fun _ _ _ => trivial) (by simp only [List.getD_cons_zero, List.getD_cons_succ]) (fun ph W' hwn hW => ?_)) ?_
  ·obtain ⟨A_, c_, _, _, ⟨z0, z1, z2, z3, z4⟩, _, _⟩ := hW.1.cell; first | (go_simp; done) | (go_simp; (try simp only [i64_w]); rfl) | (go_simp; simp; rfl)
  try simp only [Act.put, List.setIfInBounds_toArray, List.set_cons_zero, List.set_cons_succ]
  refine AnyEvents.obs_cons ?v12_12 (val_hole (by simp only [List.getD_cons_zero, List.getD_cons_succ])) (AnyEvents.ob_plain (v := ?v12_12) rfl rfl rfl (fun _ _ _ => trivial) (by simp only [List.getD_cons_zero, List.getD_cons_succ]) (fun ph W' hwn hW => ?_)) ?_
  ·obtain ⟨A_, c_, _, _, ⟨z0, z1, z2, z3, z4⟩, _, _⟩ := hW.1.cell; first | (go_simp; done) | (go_simp; (try simp only [i64_w]); rfl) | (go_simp; simp; rfl)
  try simp only [Act.put, List.setIfInBounds_toArray, List.set_cons_zero, List.set_cons_succ]
  refine AnyEvents.obs_cons ?v12_13 (val_hole (by simp only [List.getD_cons_zero, List.getD_cons_succ])) (AnyEvents.ob_plain (v := ?v12_13) rfl rfl rfl (fun _ _ _ => trivial) (by simp only [List.getD_cons_zero, List.getD_cons_succ]) (fun ph W' hwn hW => ?_)) ?_
  ·obtain ⟨A_, c_, _, _, ⟨z0, z1, z2, z3, z4⟩, _, _⟩ := hW.1.cell; dsimp only at z1; first | (go_simp; done) | (go_simp; (try simp only [i64_w]); rfl) | (go_simp; simp; rfl)
  try simp only [Act.put, List.setIfInBounds_toArray, List.set_cons_zero, List.set_cons_succ]
  refine AnyEvents.obs_cons ?v12_14 (val_hole (by simp only [List.getD_cons_zero, List.getD_cons_succ])) (AnyEvents.ob_plain (v := ?v12_14) rfl rfl rfl (fun _ _ _ => trivial) (by simp only [List.getD_cons_zero, List.getD_cons_succ]) (fun ph W' hwn hW => ?_)) ?_
  ·obtain ⟨A_, c_, _, _, ⟨z0, z1, z2, z3, z4⟩, _, _⟩ := hW.1.cell; first | (go_simp; done) | (go_simp; (try simp only [i64_w]); rfl) | (go_simp; simp; rfl)
  try simp only [Act.put, List.setIfInBounds_toArray, List.set_cons_zero, List.set_cons_succ]
  refine AnyEvents.obs_cons ?v12_15 (val_hole (by simp only [List.getD_cons_zero, List.getD_cons_succ])) (AnyEvents.ob_plain (v := ?v12_15) rfl rfl rfl (fun _ _ _ => trivial) (by simp only [List.getD_cons_zero, List.getD_cons_succ]) (fun ph W' hwn hW => ?_)) ?_
  ·obtain ⟨A_, c_, _, _, ⟨z0, z1, z2, z3, z4⟩, _, _⟩ := hW.1.cell; first | (go_simp; done) | (go_simp; (try simp only [i64_w]); rfl) | (go_simp; simp; rfl)
  try simp only [Act.put, List.setIfInBounds_toArray, List.set_cons_zero, List.set_cons_succ]
  refine AnyEvents.obs_cons ?v12_16 (val_hole (by simp only [List.getD_cons_zero, List.getD_cons_succ])) (AnyEvents.ob_plain (v := ?v12_16) rfl rfl rfl (fun _ _ _ => trivial) (by simp only [List.getD_cons_zero, List.getD_cons_succ]) (fun ph W' hwn hW => ?_)) ?_
  ·obtain ⟨A_, c_, _, _, ⟨z0, z1, z2, z3, z4⟩, _, _⟩ := hW.1.cell; first | (go_simp; done) | (go_simp; (try simp only [i64_w]); rfl) | (go_simp; simp; rfl)
  try simp only [Act.put, List.setIfInBounds_toArray, List.set_cons_zero, List.set_cons_succ]
  refine AnyEvents.obs_cons ?v12_17 (val_hole (by simp only [List.getD_cons_zero, List.getD_cons_succ])) (AnyEvents.ob_plain (v := ?v12_17) rfl rfl rfl (fun _ _ _ => trivial) (by simp only [List.getD_cons_zero, List.getD_cons_succ]) (fun ph W' hwn hW => ?_)) ?_
  ·obtain ⟨A_, c_, _, _, ⟨z0, z1, z2, z3, z4⟩, _, _⟩ := hW.1.cell; first | (go_simp; done) | (go_simp; (try simp only [i64_w]); rfl) | (go_simp; simp; rfl)
  try simp only [Act.put, List.setIfInBounds_toArray, List.set_cons_zero, List.set_cons_succ]
  refine AnyEvents.obs_cons undef rfl (AnyEvents.ob_evstore (q := 0) rfl rfl rfl rfl (fun W' hW => ?_)) ?_
  ·obtain ⟨A_, c_, ⟨hb_, hge_⟩, _⟩ := hW.1.cell; exact ⟨W'.setCell ⟨g, 0, none⟩ (.int .i64 n), run_store1 rfl rfl rfl hb_ (show (0 : Nat) < 5 by decide) rfl rfl (by kernel_rfl), ⟨hW.1.set 0 _ rfl (fun _ => rfl), below_set hW.2.1 hW.1.ge, hW.2.2.trans (KeepG.set g 0 W' _)⟩, trivial⟩
  try simp only [Act.put, List.setIfInBounds_toArray, List.set_cons_zero, List.set_cons_succ]
  refine AnyEvents.obs_cons ?v12_19 (val_hole (by simp only [List.getD_cons_zero, List.getD_cons_succ])) (AnyEvents.ob_plain (v := ?v12_19) rfl rfl rfl (fun _ _ _ => trivial) (by simp only [List.getD_cons_zero, List.getD_cons_succ]) (fun ph W' hwn hW => ?_)) ?_
  ·obtain ⟨A_, c_, _, _, ⟨z0, z1, z2, z3, z4⟩, _, _⟩ := hW.1.cell; first | (go_simp; done) | (go_simp; (try simp only [i64_w]); rfl) | (go_simp; simp; rfl)
  try simp only [Act.put, List.setIfInBounds_toArray, List.set_cons_zero, List.set_cons_succ]
  refine AnyEvents.obs_cons ?v12_20 (val_hole (by simp only [List.getD_cons_zero, List.getD_cons_succ])) (AnyEvents.ob_plain (v := ?v12_20) rfl rfl rfl (fun _ _ _ => trivial) (by simp only [List.getD_cons_zero, List.getD_cons_succ]) (fun ph W' hwn hW => ?_)) ?_
  ·obtain ⟨A_, c_, _, _, ⟨z0, z1, z2, z3, z4⟩, _, _⟩ := hW.1.cell; first | (go_simp; done) | (go_simp; (try simp only [i64_w]); rfl) | (go_simp; simp; rfl)
  try simp only [Act.put, List.setIfInBounds_toArray, List.set_cons_zero, List.set_cons_succ]
  refine AnyEvents.obs_cons undef rfl (AnyEvents.ob_evstore (q := 1) rfl rfl rfl rfl (fun W' hW => ?_)) ?_
  ·obtain ⟨A_, c_, ⟨hb_, hge_⟩, _⟩ := hW.1.cell; exact ⟨W'.setCell ⟨g, 3, none⟩ (.string (cutS q.s d.toNat q.s.size)), run_store1 rfl rfl rfl hb_ (show (3 : Nat) < 5 by decide) rfl rfl (by kernel_rfl), ⟨hW.1.set 3 _ rfl (fun _ => rfl), below_set hW.2.1 hW.1.ge, hW.2.2.trans (KeepG.set g 3 W' _)⟩, trivial⟩
  try simp only [Act.put, List.setIfInBounds_toArray, List.set_cons_zero, List.set_cons_succ]
  trivial
 intro x W' hD _
 simp only [List.take_succ_cons, List.take_zero, List.drop_succ_cons, List.drop_zero]
 rw [AnyOrder.lexAt_cons ?v12_0 (val_hole (by simp only [List.getD_cons_zero, List.getD_cons_succ]))]
 try simp only [Act.put, List.setIfInBounds_toArray, List.set_cons_zero, List.set_cons_succ]
 rw [AnyOrder.lexAt_cons ?v12_1 (val_hole (by simp only [List.getD_cons_zero, List.getD_cons_succ]))]
 try simp only [Act.put, List.setIfInBounds_toArray, List.set_cons_zero, List.set_cons_succ]
 rw [AnyOrder.lexAt_cons ?v12_2 (val_hole (by simp only [List.getD_cons_zero, List.getD_cons_succ]))]
 try simp only [Act.put, List.setIfInBounds_toArray, List.set_cons_zero, List.set_cons_succ]
 rw [AnyOrder.lexAt_cons ?v12_3 (val_hole (by simp only [List.getD_cons_zero, List.getD_cons_succ]))]
 try simp only [Act.put, List.setIfInBounds_toArray, List.set_cons_zero, List.set_cons_succ]
 rw [AnyOrder.lexAt_cons ?v12_4 (val_hole (by simp only [List.getD_cons_zero, List.getD_cons_succ]))]
 try simp only [Act.put, List.setIfInBounds_toArray, List.set_cons_zero, List.set_cons_succ]
 rw [AnyOrder.lexAt_cons ?v12_5 (val_hole (by simp only [List.getD_cons_zero, List.getD_cons_succ]))]
 try simp only [Act.put, List.setIfInBounds_toArray, List.set_cons_zero, List.set_cons_succ]
 rw [AnyOrder.lexAt_cons ?v12_6 (val_hole (by simp only [List.getD_cons_zero, List.getD_cons_succ]))]
 try simp only [Act.put, List.setIfInBounds_toArray, List.set_cons_zero, List.set_cons_succ]
 rw [AnyOrder.lexAt_cons ?v12_7 (val_hole (by simp only [List.getD_cons_zero, List.getD_cons_succ]))]
 try simp only [Act.put, List.setIfInBounds_toArray, List.set_cons_zero, List.set_cons_succ]
 rw [AnyOrder.lexAt_cons ?v12_8 (val_hole (by simp only [List.getD_cons_zero, List.getD_cons_succ]))]
 try simp only [Act.put, List.setIfInBounds_toArray, List.set_cons_zero, List.set_cons_succ]
 rw [AnyOrder.lexAt_cons (.string (cutS q.s d.toNat q.s.size)) (val_hole (by simp only [List.getD_cons_zero, List.getD_cons_succ]))]
 try simp only [Act.put, List.setIfInBounds_toArray, List.set_cons_zero, List.set_cons_succ]
 rw [AnyOrder.lexAt_cons ?v12_10 (val_hole (by simp only [List.getD_cons_zero, List.getD_cons_succ]))]
 try simp only [Act.put, List.setIfInBounds_toArray, List.set_cons_zero, List.set_cons_succ]
 rw [AnyOrder.lexAt_cons ?v12_11 (val_hole (by simp only [List.getD_cons_zero, List.getD_cons_succ]))]
 try simp only [Act.put, List.setIfInBounds_toArray, List.set_cons_zero, List.set_cons_succ]
 rw [AnyOrder.lexAt_cons ?v12_12 (val_hole (by simp only [List.getD_cons_zero, List.getD_cons_succ]))]
 try simp only [Act.put, List.setIfInBounds_toArray, List.set_cons_zero, List.set_cons_succ]
 rw [AnyOrder.lexAt_cons ?v12_13 (val_hole (by simp only [List.getD_cons_zero, List.getD_cons_succ]))]
 try simp only [Act.put, List.setIfInBounds_toArray, List.set_cons_zero, List.set_cons_succ]
 rw [AnyOrder.lexAt_cons ?v12_14 (val_hole (by simp only [List.getD_cons_zero, List.getD_cons_succ]))]
 try simp only [Act.put, List.setIfInBounds_toArray, List.set_cons_zero, List.set_cons_succ]
 rw [AnyOrder.lexAt_cons ?v12_15 (val_hole (by simp only [List.getD_cons_zero, List.getD_cons_succ]))]
 try simp only [Act.put, List.setIfInBounds_toArray, List.set_cons_zero, List.set_cons_succ]
 rw [AnyOrder.lexAt_cons ?v12_16 (val_hole (by simp only [List.getD_cons_zero, List.getD_cons_succ]))]
 try simp only [Act.put, List.setIfInBounds_toArray, List.set_cons_zero, List.set_cons_succ]
 rw [AnyOrder.lexAt_cons ?v12_17 (val_hole (by simp only [List.getD_cons_zero, List.getD_cons_succ]))]
 try simp only [Act.put, List.setIfInBounds_toArray, List.set_cons_zero, List.set_cons_succ]
 rw [AnyOrder.lexAt_cons undef rfl]
 try simp only [Act.put, List.setIfInBounds_toArray, List.set_cons_zero, List.set_cons_succ]
 rw [AnyOrder.lexAt_cons ?v12_19 (val_hole (by simp only [List.getD_cons_zero, List.getD_cons_succ]))]
 try simp only [Act.put, List.setIfInBounds_toArray, List.set_cons_zero, List.set_cons_succ]
 rw [AnyOrder.lexAt_cons ?v12_20 (val_hole (by simp only [List.getD_cons_zero, List.getD_cons_succ]))]
 try simp only [Act.put, List.setIfInBounds_toArray, List.set_cons_zero, List.set_cons_succ]
 rw [AnyOrder.lexAt_cons undef rfl]
 try simp only [Act.put, List.setIfInBounds_toArray, List.set_cons_zero, List.set_cons_succ]
 rw [AnyOrder.lexAt_nil]
 have HI := Aside0.mk (show QAt W' w0.heap.size g { q with left := n, s := cutS q.s d.toNat q.s.size } from hD.1)
 have HB := Aside0.mk hD.2.1
 have HKs := Aside0.mk hD.2.2
 clear hD
 obtain ⟨Az, cz, ⟨hbg, hge⟩, ⟨hle, hcm⟩, ⟨hc0, hc1, hc2, hc3, hc4⟩, ⟨hf0, hf1, hf2, hf3, hf4⟩, HQ⟩ := HI.out.cell
 have hw1 := HW1.out
 go_upto_region 5 with fail
 clear hbg hge hle hcm hc0 hc1 hc2 hc3 hc4 hf0 hf1 hf2 hf3 hf4 HQ
 clear hw1
 have HI1 := Aside0.mk (show QAt (W'.setCell ⟨g, 1, none⟩ (.int .i64 (q.sent - d))) w0.heap.size g { q with left := n, s := cutS q.s d.toNat q.s.size, sent := q.sent - d } from HI.out.set 1 _ rfl (fun _ => rfl))
 have HB1 := Aside0.mk (show Below w0.heap.size w0 (W'.setCell ⟨g, 1, none⟩ (.int .i64 (q.sent - d))) from below_set HB.out HI.out.ge)
 have HK1 := Aside0.mk (HKs.out.trans (KeepG.set g 1 W' (.int .i64 (q.sent - d))))
 clear HI HB HKs
 have HI := HI1; have HB := HB1; have HKs := HK1
 clear HI1 HB1 HK1
 generalize W'.setCell ⟨g, 1, none⟩ (.int .i64 (q.sent - d)) = W5 at HI HB HKs ⊢
 obtain ⟨Az, cz, ⟨hbg, hge⟩, ⟨hle, hcm⟩, ⟨hc0, hc1, hc2, hc3, hc4⟩, ⟨hf0, hf1, hf2, hf3, hf4⟩, HQ⟩ := HI.out.cell
 change ownsAt W5 w0.heap.size 73 2 (.slice Az q.ap.length cz) q.ap.length (spc q.ap) at HQ
 change _ = some (Value.slice Az q.ap.length cz) at hc4
 have HQA := Aside0.mk HQ
 have HSB := Aside0.mk (show ∀ b_, Value.ownBlock (.slice Az q.ap.length cz) = some b_ → b_ < W5.heap.size from fun b_ hb => blk_lt (ownsAt_block HQ hb).2.choose_spec)
 have HGC := Aside0.mk hbg
 have HGE := Aside0.mk hge
 have H5 := Aside0.mk (show w0.heap.size ≤ W5.heap.size ∧ w.heap.size ≤ W5.heap.size from ⟨HB.out.size, HKs.out.1⟩)
 go_wp2_with fail
 go_loopg [8, 46] q.ap.length (fun kq v8 v46 W => ∃ (i : Nat) (iz : Int), v46 = .int .i64 iz ∧ Aside0 (iz = (i : Int) ∧ kq + i = q.ap.length) ∧ Aside0 (ownsAt W W5.heap.size 73 2 v8 (ackAp d (q.ap.take i)).length (spc (ackAp d (q.ap.take i)))) ∧ Aside0 (ownsAt W w0.heap.size 73 2 (.slice Az q.ap.length cz) q.ap.length (spc q.ap)) ∧ Aside0 (W.heap[g]? = some (.cells (cellsQ { q with left := n, s := cutS q.s d.toNat q.s.size, sent := q.sent - d } (.slice Az q.ap.length cz)) 67 (0, 0))) ∧ Aside0 (Below w0.heap.size w0 W) ∧ Aside0 (KeepG g w W) ∧ Aside0 (W5.heap.size ≤ W.heap.size))
 case atStart => exact ⟨0, 0, rfl, ⟨rfl, by simp⟩, ⟨ownsAt_nil _ _ _ _⟩, HQA, HGC, HB, HKs, ⟨Nat.le_refl _⟩⟩
 case round =>
  clear hbg hge hle hcm hc0 hc1 hc2 hc3 hc4 hf0 hf1 hf2 hf3 hf4 HQ
  clear HI HB HKs HQA HGC
  obtain ⟨i, iz, rfl, HK, HV, HQA, HGC, HB, HKs, HZ⟩ := hrel
  obtain ⟨A8, c8, rfl, _⟩ := ownsAt_len HV.out
  have hk := HK.out
  by_cases hlt : iz < (q.ap.length : Int)
  ·have d1 : decide (iz < (q.ap.length : Int)) = true := decide_eq_true hlt
   obtain ⟨k1, rfl⟩ : ∃ k1, gk = k1 + 1 := ⟨gk - 1, by omega⟩
   have hil : i < q.ap.length := by omega
   obtain ⟨⟨a, b⟩, hx⟩ : ∃ x, q.ap[i]? = some x := ⟨_, List.getElem?_eq_getElem hil⟩
   have hab := HAP.out.1 _ (List.mem_of_getElem? hx)
   have HTK := Aside0.mk (show q.ap.take (i + 1) = q.ap.take i ++ [(a, b)] by rw [List.take_add_one, hx]; rfl)
   obtain ⟨gq, oq, rfl, hcells⟩ := ownsAt_cells HQA.out (by omega)
   obtain ⟨hq0, hq1⟩ : wr.cell? ⟨gq, oq + i * 2, none⟩ = some (.int .i64 a) ∧ wr.cell? ⟨gq, oq + i * 2 + 1, none⟩ = some (.int .i64 b) := ⟨hcells _ _ (spc_get q.ap i _ hx).1, hcells _ _ (spc_get q.ap i _ hx).2⟩
   have hn : wrap64 (iz + 1) = ((i + 1 : Nat) : Int) := by have := HAP.out.2; rw [w64p (by omega) (by omega)]; omega
   have HN := Aside0.mk hn
   have HLN := Aside0.mk (show (ackAp d (q.ap.take i)).length ≤ 1000000 by have := ackAp_le d (q.ap.take i); rw [List.length_take] at this; have := HAP.out.2; omega)
   have HAB := Aside0.mk hab
   have p0 : 0 ≤ iz := by omega
   have tn : iz.toNat = i := by omega
   replace p0 := eq_true p0
   replace hlt := eq_true hlt
   obtain ⟨ta, hta⟩ : ∃ t_, a - d = t_ := ⟨_, rfl⟩
   have hwa : wrap64 (a - d) = ta := by have h1 := HAB.out; have h2 := HD.out; have h3 := HS.out; exact (w64p (by omega) (by omega)).trans hta
   have hwb : wrap64 (b - d) = b - d := by have h1 := HAB.out; have h2 := HD.out; have h3 := HS.out; exact w64p (by omega) (by omega)
   obtain ⟨ma, hma⟩ : ∃ m_, (if 0 < ta then ta else 0) = m_ := ⟨_, rfl⟩
   have HMA := Aside0.mk hma
   have HTA := Aside0.mk hta
   have HWA := Aside0.mk (And.intro hwa hwb)
   clear hcells hx hab hn hk hil hma hwa hwb hta
   go_upto_region 9 with fail
   have hbx := blk_new wr (.cells #[.int .i64 a, .int .i64 b] 73)
   have hb := below_alloc (Below.refl wr.heap.size wr) (.cells #[.int .i64 a, .int .i64 b] 73)
   clear hq0 hq1 p0 hlt tn d1
   have n1_ := Aside0.mk (ownsAt_below HV.out hb); have n2_ := Aside0.mk (ownsAt_below HQA.out hb); have n3_ := Aside0.mk (blk_below HGC.out hb); have n4_ := Aside0.mk (below_step HB.out hb); have n5_ := Aside0.mk (HKs.out.trans (KeepG.of_below hb)); have n6_ := Aside0.mk (Nat.le_trans HZ.out hb.size)
   clear HV HQA HGC HB HKs HZ hb
   have HV := n1_; have HQA := n2_; have HGC := n3_; have HB := n4_; have HKs := n5_; have HZ := n6_
   clear n1_ n2_ n3_ n4_ n5_ n6_
   generalize wr.heap.size = bx at hbx ⊢
   generalize wr.alloc (.cells #[.int .i64 a, .int .i64 b] 73) = Wb at hbx HV HQA HGC HB HKs HZ ⊢
   have hx0 := blk_cell hbx 0
   have hx1 := blk_cell hbx 1
   change _ = some (Value.int .i64 a) at hx0
   change _ = some (Value.int .i64 b) at hx1
   clear hbx
   by_cases hdb : d < b
   ·have d2 : decide (d < b) = true := decide_eq_true hdb
    have HDB := Aside0.mk hdb
    have hwa := HWA.out.1
    have hwb := HWA.out.2
    have hma := HMA.out
    have hb := below_alloc (Below.refl Wb.heap.size Wb) (.cells #[.int .i64 ma, .int .i64 (b - d)] 73)
    have HLT := Aside0.mk (ownsAt_lit Wb #[.int .i64 ma, .int .i64 (b - d)] 73 2 1 rfl (by decide))
    have n1_ := Aside0.mk (ownsAt_below HV.out hb); have n2_ := Aside0.mk (ownsAt_below HQA.out hb); have n3_ := Aside0.mk (blk_below HGC.out hb); have n4_ := Aside0.mk (below_step HB.out hb); have n5_ := Aside0.mk (HKs.out.trans (KeepG.of_below hb)); have n6_ := Aside0.mk (Nat.le_trans HZ.out hb.size)
    clear HV HQA HGC HB HKs HZ hb
    have HV := n1_; have HQA := n2_; have HGC := n3_; have HB := n4_; have HKs := n5_; have HZ := n6_
    clear n1_ n2_ n3_ n4_ n5_ n6_
    clear hdb
    go_wp2_with (first | ((with_reducible refine gate_dst (N := 66) rfl ?_); refine wl_append 65 73 (.agg #[.int .i64 0, .int .i64 0]) 2 16 rfl rfl Try.underlying65 (by kernel_rfl) rfl (by decide) (v := .slice A8 (ackAp d (q.ap.take i)).length c8) rfl rfl HV.out HLT.out rfl (by have := HLN.out; simp only [maxLen]; omega) (by have := HLN.out; omega) HZ.out (fun v9 W9 hv9 hg9 hr9 => ?_); have HV9 := Aside0.mk hv9; have HG9 := Aside0.mk hg9; clear hv9 hg9 hr9))
    have hrow : ∀ b_, Value.ownBlock (.slice A8 (ackAp d (q.ap.take i)).length c8) = some b_ → W5.heap.size ≤ b_ ∧ ∃ cur, (Wb.alloc (.cells #[.int .i64 ma, .int .i64 (b - d)] 73)).heap[b_]? = some (Obj.cells cur 73 (0, 0)) := fun b_ hb => ownsAt_block HV.out hb
    have hk9 : KeepT [73] (Wb.alloc (.cells #[.int .i64 ma, .int .i64 (b - d)] 73)) W9 := KeepT.of_grown HG9.out (fun b_ hb => by obtain ⟨_, cur, hc⟩ := hrow b_ hb; exact ⟨cur, _, hc, by decide⟩)
    go_roundg k1
    case measure => omega
    case rel =>
     refine ⟨i + 1, _, rfl, ⟨HN.out, by have := HK.out; omega⟩, ⟨?_⟩, ⟨?_⟩, ⟨(hk9.cells HGC.out (by decide)).trans HGC.out⟩, ⟨below_of_grown HB.out HG9.out HB.out.size (fun b_ hb => Nat.le_trans H5.out.1 (hrow b_ hb).1)⟩, ⟨keepG_grown HKs.out HG9.out (fun b_ hb => Nat.le_trans H5.out.2 (hrow b_ hb).1)⟩, ⟨Nat.le_trans HZ.out HG9.out.size⟩⟩
     ·have h := HV9.out
      rw [HTK.out, ackAp_snoc, if_pos HDB.out, spc_app, List.length_append, HTA.out, HMA.out]
      exact h
     ·exact ownsAt_kept HQA.out (fun b_ cur hb _ => HG9.out.block b_ (Nat.lt_of_lt_of_le (HSB.out b_ hb) HZ.out) (fun e => by have h1 := (hrow b_ e.symm).1; have h2 := HSB.out b_ hb; omega))
   ·have d2 : decide (d < b) = false := decide_eq_false hdb
    have HDB := Aside0.mk hdb
    clear hdb
    go_wp2
    go_roundg k1
    case measure => omega
    case rel => exact ⟨i + 1, _, rfl, ⟨HN.out, by have := HK.out; omega⟩, ⟨by rw [HTK.out, ackAp_snoc, if_neg (show ¬ d < b by have := HDB.out; omega), List.append_nil]; exact HV.out⟩, HQA, HGC, HB, HKs, HZ⟩
  ·have d1 : decide (iz < (q.ap.length : Int)) = false := decide_eq_false hlt
   have hi : i = q.ap.length := by omega
   have hvv := HV.out
   rw [hi, List.take_length] at hvv
   rw [hi, List.take_length] at HV ⊢
   have hgc := HGC.out
   have hf4 := blk_frozen hgc 4
   have hc4 := blk_cell hgc 4
   change _ = some (Value.slice Az q.ap.length cz) at hc4
   have hQ : QAt wr w0.heap.size g { q with left := n, s := cutS q.s d.toNat q.s.size, sent := q.sent - d } := ⟨_, hgc, HGE.out, HQA.out⟩
   have HQQ := Aside0.mk hQ
   have HVV := Aside0.mk hvv
   clear hgc hQ hvv hk hi hlt
   go_wp2
   go_ret2
   exact ⟨rfl, HQQ.out.row _ (ownsAt_base HVV.out H5.out.1) (fun _ => rfl), below_set HB.out HGE.out, HKs.out.trans (KeepG.set g 4 _ _)⟩



/-! ### sternpostlaw15_works: function 7 (by hand) -/
theorem sternpostlaw15_works.w1 : QS.write ⟨10, 0, 8, (⟨#[]⟩ : ByteArray), []⟩ (⟨#[97, 98, 99, 100, 101, 102, 103, 104, 105, 106]⟩ : ByteArray) = (⟨10, 0, 8, (⟨#[97, 98, 99, 100, 101, 102, 103, 104]⟩ : ByteArray), []⟩, 8, 0) := by rfl
theorem sternpostlaw15_works.n1 : QS.next ⟨10, 0, 8, (⟨#[97, 98, 99, 100, 101, 102, 103, 104]⟩ : ByteArray), []⟩ 5 3 = (⟨10, 3, 8, (⟨#[97, 98, 99, 100, 101, 102, 103, 104]⟩ : ByteArray), []⟩, (⟨#[97, 98, 99]⟩ : ByteArray)) := by rfl
theorem sternpostlaw15_works.n2 : QS.next ⟨10, 3, 8, (⟨#[97, 98, 99, 100, 101, 102, 103, 104]⟩ : ByteArray), []⟩ 5 3 = (⟨10, 5, 8, (⟨#[97, 98, 99, 100, 101, 102, 103, 104]⟩ : ByteArray), []⟩, (⟨#[100, 101]⟩ : ByteArray)) := by rfl
theorem sternpostlaw15_works.a1 : (QS.ack ⟨10, 5, 8, (⟨#[97, 98, 99, 100, 101, 102, 103, 104]⟩ : ByteArray), []⟩ 12).2 = (2, 0) := by rfl
set_option maxHeartbeats 4000000 in
set_option maxRecDepth 100000 in
theorem sternpostlaw15_works.calls (w : World) : Calls Try.prog 7 #[] w fun e w' => e = .returned (.bool true) ∧ Below w.heap.size w w' := by
 have HB := Aside0.mk (Below.refl w.heap.size w)
 go_enter Try.func7, Try.ntmps7
 go_wp2_with fail
 refine (sendq_New.calls 10 8 w _ HB.out (by decide) (by decide) (by decide)).mono ?_
 rintro e W1 ⟨g, rfl, hQ, hB, _, _⟩
 have HQ := Aside0.mk hQ
 clear HB
 have HB := Aside0.mk hB
 clear hQ hB
 go_wp2_with fail
 refine (sendq_Queue_Write.calls g ⟨10, 0, 8, (⟨#[]⟩ : ByteArray), []⟩ (⟨#[97, 98, 99, 100, 101, 102, 103, 104, 105, 106]⟩ : ByteArray) w _ HQ.out HB.out (by decide) (by decide)).mono ?_
 rw [sternpostlaw15_works.w1]
 rintro e W2 ⟨rfl, hQ, hB, _⟩
 clear HB HQ
 have HQ := Aside0.mk hQ
 have HB := Aside0.mk hB
 clear hQ hB
 go_wp2_with fail
 refine (sendq_Queue_Next.calls g ⟨10, 0, 8, (⟨#[97, 98, 99, 100, 101, 102, 103, 104]⟩ : ByteArray), []⟩ 5 3 w _ HQ.out HB.out (by decide) (by decide) (by decide)).mono ?_
 rw [sternpostlaw15_works.n1]
 rintro e W3 ⟨rfl, hQ, hB, _⟩
 clear HB HQ
 have HQ := Aside0.mk hQ
 have HB := Aside0.mk hB
 clear hQ hB
 go_wp2_with fail
 refine (sendq_Queue_Next.calls g ⟨10, 3, 8, (⟨#[97, 98, 99, 100, 101, 102, 103, 104]⟩ : ByteArray), []⟩ 5 3 w _ HQ.out HB.out (by decide) (by decide) (by decide)).mono ?_
 rw [sternpostlaw15_works.n2]
 rintro e W4 ⟨rfl, hQ, hB, _⟩
 clear HB HQ
 have HQ := Aside0.mk hQ
 have HB := Aside0.mk hB
 clear hQ hB
 go_wp2_with fail
 refine (sendq_Queue_Ack.calls g ⟨10, 5, 8, (⟨#[97, 98, 99, 100, 101, 102, 103, 104]⟩ : ByteArray), []⟩ 12 w _ HQ.out HB.out (by decide) (by decide) (by decide)).mono ?_
 have e2 : (QS.ack ⟨10, 5, 8, (⟨#[97, 98, 99, 100, 101, 102, 103, 104]⟩ : ByteArray), []⟩ 12).2.1 = 2 ∧ (QS.ack ⟨10, 5, 8, (⟨#[97, 98, 99, 100, 101, 102, 103, 104]⟩ : ByteArray), []⟩ 12).2.2 = 0 := by rw [sternpostlaw15_works.a1]; exact ⟨rfl, rfl⟩
 rw [e2.1, e2.2]
 rintro e W5 ⟨rfl, hQ, hB, _⟩
 clear HB HQ e2
 have HB := Aside0.mk hB
 clear hQ hB
 go_wp2
 go_ret
 exact ⟨by first | rfl | decide | (simp; done), HB.out⟩


/-! ### sternpostbook_Among: function 8 -/
def sternpostbook_Among.f (a0 : Int) (a1 : Int) : Option (Int) := if a1 = 0 then (none) else (some (Int.tmod (wrap64 ((Int.tmod a0 a1) + a1)) a1))
set_option maxHeartbeats 8000000 in
set_option maxRecDepth 100000 in
theorem sternpostbook_Among.calls (a0 : Int) (a1 : Int) (r : Int) (w : World) (h : sternpostbook_Among.f a0 a1 = some r) :
  Calls Try.prog 8 #[.int .i64 a0, .int .i64 a1] w fun e w' => e = .returned (.int .i64 r) ∧ Drawn0 w w' := by
 have H : (if a1 = 0 then (none) else (some (Int.tmod (wrap64 ((Int.tmod a0 a1) + a1)) a1))) = some r := h
 clear h
 by_cases c3 : a1 = 0
 ·rw [if_pos c3] at H
  exact absurd H (by simp)
 ·rw [if_neg c3] at H
  have c3b0 : (a1 == 0) = false := beq_eq_false_iff_ne.mpr c3
  have c3b1 : (a1 != 0) = true := bne_iff_ne.mpr c3
  obtain rfl := Option.some.inj H
  go_enter Try.func8, Try.ntmps8
  go_wp2
  go_ret
  exact ⟨by first | rfl | (simp; done) | (simp [*]; done), by repeat (first | exact Drawn0.refl _ | apply Drawn0.step)⟩

/-! ### sendq_Queue_mark_1: function 42 -/
def sendq_Queue_mark_1.f (a0_0 : Int) (a0_1 : Int) (a1_0 : Int) (a1_1 : Int) : Option (Int) := some (wrap64 (a0_0 - a1_0))
set_option maxHeartbeats 8000000 in
set_option maxRecDepth 100000 in
theorem sendq_Queue_mark_1.calls (a0_0 : Int) (a0_1 : Int) (a1_0 : Int) (a1_1 : Int) (r : Int) (w : World) (h : sendq_Queue_mark_1.f a0_0 a0_1 a1_0 a1_1 = some r) :
  Calls Try.prog 42 #[.agg #[.int .i64 a0_0, .int .i64 a0_1], .agg #[.int .i64 a1_0, .int .i64 a1_1]] w fun e w' => e = .returned (.int .i64 r) ∧ Below w.heap.size w w' := by
 have hu73 := Try.underlying73
 have HB := Aside0.mk (Below.refl w.heap.size w)
 have H : (some (wrap64 (a0_0 - a1_0))) = some r := h
 clear h
 obtain rfl := Option.some.inj H
 go_enter Try.func42, Try.ntmps42
 go_wp2_with (first | ((with_reducible refine gate_dst (N := 2) rfl ?_); refine box_event ?hg (N := 2) ?hd (cs := #[.int .i64 a0_0, .int .i64 a0_1]) (t := 73) ?hr ?_; (case hd => rfl); (case hg => rfl); (case hr => first | (go_simp; done) | (go_simp; rfl)); intro gb106 hg w3 hbox hb; have n0_ := Aside0.mk (below_step (by repeat (first | (with_reducible first | exact HB.out | apply below_alloc | apply pw_below_drewN | apply below_drew1) | exact HB.out)) hb); have n1_ := Aside0.mk (hbox); have n2_ := Aside0.mk ((by rw [hg]; exact (below_size (by repeat (first | (with_reducible first | exact HB.out | apply below_alloc | apply pw_below_drewN | apply below_drew1) | exact HB.out))) : w.heap.size ≤ gb106)); have n3_ := Aside0.mk ((by rw [hg]; exact (below_size (by repeat (first | (with_reducible first | exact HB.out | apply below_alloc | apply pw_below_drewN | apply below_drew1) | exact HB.out))) : w.heap.size ≤ gb106)); clear HB; have HB := n0_; have BK106 := n1_; have GW106 := n2_; have GE106 := n3_; clear n0_ n1_ n2_ n3_; clear hb hbox hg) | ((with_reducible refine gate_dst (N := 3) rfl ?_); refine box_event ?hg (N := 3) ?hd (cs := #[.int .i64 a1_0, .int .i64 a1_1]) (t := 73) ?hr ?_; (case hd => rfl); (case hg => rfl); (case hr => first | (go_simp; done) | (go_simp; rfl)); intro gb107 hg w4 hbox hb; have n0_ := Aside0.mk (blk_below (g := gb106) (o := .cells #[.int .i64 a0_0, .int .i64 a0_1] 73 (0, 0)) (by (with_reducible repeat (first | refine blk_drewN ?_ _ | refine blk_drew ?_ | refine blk_alloc ?_ _)); exact BK106.out) hb); have n1_ := Aside0.mk (below_step (by repeat (first | (with_reducible first | exact HB.out | apply below_alloc | apply pw_below_drewN | apply below_drew1 | refine below_set ?_ GE106.out) | exact HB.out)) hb); have n2_ := Aside0.mk (hbox); have n3_ := Aside0.mk ((by rw [hg]; exact (below_size (by repeat (first | (with_reducible first | exact HB.out | apply below_alloc | apply pw_below_drewN | apply below_drew1 | refine below_set ?_ GE106.out) | exact HB.out))) : w.heap.size ≤ gb107)); have n4_ := Aside0.mk ((by rw [hg]; exact (below_size (by repeat (first | (with_reducible first | exact HB.out | apply below_alloc | apply pw_below_drewN | apply below_drew1 | refine below_set ?_ GE106.out) | exact HB.out))) : w.heap.size ≤ gb107)); have n5_ := Aside0.mk ((by rw [hg]; exact Nat.ne_of_lt (blk_lt (g := gb106) (o := .cells #[.int .i64 a0_0, .int .i64 a0_1] 73 (0, 0)) (by (with_reducible repeat (first | refine blk_drewN ?_ _ | refine blk_drew ?_ | refine blk_alloc ?_ _)); exact BK106.out)) : gb106 ≠ gb107)); have n6_ := Aside0.mk ((by rw [hg]; exact Nat.ne_of_gt (blk_lt (g := gb106) (o := .cells #[.int .i64 a0_0, .int .i64 a0_1] 73 (0, 0)) (by (with_reducible repeat (first | refine blk_drewN ?_ _ | refine blk_drew ?_ | refine blk_alloc ?_ _)); exact BK106.out)) : gb107 ≠ gb106)); clear BK106; clear HB; have BK106 := n0_; have HB := n1_; have BK107 := n2_; have GW107 := n3_; have GE107 := n4_; have NB106_107 := n5_; have NB107_106 := n6_; clear n0_ n1_ n2_ n3_ n4_ n5_ n6_; clear hb hbox hg; have hnb5 := NB106_107.out; have hnc5 := NB107_106.out; obtain ⟨hcz6_0, hcz6_1⟩ := blk_cells2 BK106.out; obtain ⟨hfz6_0, hfz6_1⟩ := blk_frozens2 BK106.out; obtain ⟨hcz7_0, hcz7_1⟩ := blk_cells2 BK107.out; obtain ⟨hfz7_0, hfz7_1⟩ := blk_frozens2 BK107.out))
 go_ret
 exact ⟨by first | rfl | (simp [errW_none, errW_some] <;> rfl) | (simp [*, errW_none, errW_some] <;> rfl), by repeat (first | (with_reducible first | exact HB.out | apply below_alloc | apply pw_below_drewN | apply below_drew1 | refine below_set ?_ GE106.out | refine below_set ?_ GE107.out) | exact HB.out)⟩


/-! ### sendq_span: function 41 (by hand) -/
section
open Go.Shelf Go.Sort Go.Lib
def laid_laysSlF06_f41_ren : Go.Shelf.Ren := ⟨fun | 6 => 41 | 15 => 46 | 14 => 45 | 28 => 56 | 29 => 57 | 20 => 48 | 21 => 49 | 22 => 50 | 23 => 51 | 24 => 52 | 25 => 53 | 26 => 54 | 27 => 55 | 46 => 58 | 47 => 59 | 48 => 60 | 49 => 61 | 50 => 62 | 57 => 63 | n => n, fun | 22 => 65 | 24 => 73 | 25 => 81 | 3 => 3 | 39 => 84 | 0 => 0 | 53 => 93 | 55 => 95 | 4 => 4 | 46 => 87 | 45 => 86 | 50 => 70 | 5 => 5 | 9 => 9 | 66 => 96 | 70 => 100 | 76 => 102 | 77 => 103 | n => n, fun | n => n⟩
theorem laid_laysSlF06_f41 : Go.Proofs.SlLaysF0.n6 Try.prog laid_laysSlF06_f41_ren := {
 mixed := by kernel_rfl
 f6 := ⟨Try.f41.name, by decide, Try.func41.trans (congrArg some (by kernel_rfl))⟩
 f14 := ⟨Try.f45.name, by decide, Try.func45.trans (congrArg some (by kernel_rfl))⟩
 f15 := Try.func46.trans (congrArg some (by kernel_rfl))
 f20 := ⟨Try.f48.name, by decide, Try.func48.trans (congrArg some (by kernel_rfl))⟩
 f21 := ⟨Try.f49.name, by decide, Try.func49.trans (congrArg some (by kernel_rfl))⟩
 f22 := ⟨Try.f50.name, by decide, Try.func50.trans (congrArg some (by kernel_rfl))⟩
 f23 := ⟨Try.f51.name, by decide, Try.func51.trans (congrArg some (by kernel_rfl))⟩
 f24 := ⟨Try.f52.name, by decide, Try.func52.trans (congrArg some (by kernel_rfl))⟩
 f25 := ⟨Try.f53.name, by decide, Try.func53.trans (congrArg some (by kernel_rfl))⟩
 f26 := ⟨Try.f54.name, by decide, Try.func54.trans (congrArg some (by kernel_rfl))⟩
 f27 := ⟨Try.f55.name, by decide, Try.func55.trans (congrArg some (by kernel_rfl))⟩
 f28 := Try.func56.trans (congrArg some (by kernel_rfl))
 f29 := Try.func57.trans (congrArg some (by kernel_rfl))
 f46 := ⟨Try.f58.name, by decide, Try.func58.trans (congrArg some (by kernel_rfl))⟩
 f47 := Try.func59.trans (congrArg some (by kernel_rfl))
 f48 := Try.func60.trans (congrArg some (by kernel_rfl))
 f49 := ⟨Try.f61.name, by decide, Try.func61.trans (congrArg some (by kernel_rfl))⟩
 f50 := ⟨Try.f62.name, by decide, Try.func62.trans (congrArg some (by kernel_rfl))⟩
 f57 := ⟨Try.f63.name, by decide, Try.func63.trans (congrArg some (by kernel_rfl))⟩
 t0 := Try.underlying0
 a0 := Try.isAgg0
 z0 := Try.sizeOf0
 v0 := Try.zeroValue0
 t3 := Try.underlying3
 a3 := Try.isAgg3
 z3 := Try.sizeOf3
 v3 := Try.zeroValue3
 t4 := Try.underlying4
 a4 := Try.isAgg4
 z4 := Try.sizeOf4
 v4 := Try.zeroValue4
 t5 := Try.underlying5
 a5 := Try.isAgg5
 z5 := Try.sizeOf5
 v5 := Try.zeroValue5
 t9 := Try.underlying9
 a9 := Try.isAgg9
 z9 := Try.sizeOf9
 v9 := Try.zeroValue9
 t22 := Try.underlying65
 a22 := Try.isAgg65
 z22 := Try.sizeOf65
 v22 := Try.zeroValue65
 t25 := Try.underlying81
 a25 := Try.isAgg81
 z25 := Try.sizeOf81
 v25 := Try.zeroValue81
 t39 := Try.underlying84
 a39 := Try.isAgg84
 z39 := Try.sizeOf84
 v39 := Try.zeroValue84
 t45 := Try.underlying86
 a45 := Try.isAgg86
 z45 := Try.sizeOf86
 v45 := Try.zeroValue86
 t46 := Try.underlying87
 a46 := Try.isAgg87
 z46 := Try.sizeOf87
 v46 := Try.zeroValue87
 t50 := Try.underlying70
 a50 := Try.isAgg70
 z50 := Try.sizeOf70
 v50 := Try.zeroValue70
 t53 := Try.underlying93
 a53 := Try.isAgg93
 z53 := Try.sizeOf93
 v53 := Try.zeroValue93
 t55 := Try.underlying95
 a55 := Try.isAgg95
 z55 := Try.sizeOf95
 v55 := Try.zeroValue95
 t66 := Try.underlying96
 a66 := Try.isAgg96
 z66 := Try.sizeOf96
 v66 := Try.zeroValue96
 t70 := Try.underlying100
 a70 := Try.isAgg100
 z70 := Try.sizeOf100
 v70 := Try.zeroValue100
 t76 := Try.underlying102
 a76 := Try.isAgg102
 z76 := Try.sizeOf102
 v76 := Try.zeroValue102
 t77 := Try.underlying103
 a77 := Try.isAgg103
 z77 := Try.sizeOf103
 v77 := Try.zeroValue103 }
theorem laid_slices_SortFunc {α : Type} [Inhabited α] (k : Nat) (aE : ∀ w, (isAgg 73).run Try.prog w = .ok true w) (zE : ∀ w, (Go.sizeOf 73).run Try.prog w = .ok k w) (enc : α → List Value) (hk : ∀ x, (enc x).length = k) (h1 : ∀ x, ∀ v ∈ enc x, v.oneCell' = true) (cf : α → α → Int) (hO : SWO (ltOf cf)) (g : Nat) (cb : Array Value) (blk off cap : Nat) (d : Array α) (w : World) (eg : ∀ args w, (callFunc g args).run Try.prog w = .ok (.enter g args) w) (hcmp : CmpLays Try.prog g cb enc k cf blk off d.size w) (hH : HoldsK enc k w blk off d) (hblk : blk < w.heap.size) (hsz : d.size < 4611686018427387904) :
  Calls Try.prog 41 #[.slice (some ⟨blk, off, none⟩) d.size cap, .func (.func g) #[] cb] w fun e w' =>
   e = .returned (.tuple #[]) ∧ ∃ d' n os, PermIn 0 d.size d d' ∧ SortedIn (ltOf cf) 0 d.size d' ∧ w' = sortWorldK enc k w blk off n d' os := AnyQ.slices_SortFunc laid_laysSlF06_f41 k aE zE enc hk h1 cf hO g cb blk off cap d w eg hcmp hH hblk hsz
abbrev SpB := {x : Int × Int // 0 ≤ x.1 ∧ x.1 ≤ 65536}
instance : Inhabited SpB := ⟨⟨(0, 0), by decide⟩⟩
def encS (x : SpB) : List Value := [.int .i64 x.1.1, .int .i64 x.1.2]
def cfS (x y : SpB) : Int := x.1.1 - y.1.1
theorem swoS : SWO (ltOf cfS) where
 irrefl x := by unfold ltOf cfS; simp
 trans x y z h1 h2 := by unfold ltOf cfS at *; simp at *; omega
 ntrans x y z h1 h2 := by unfold ltOf cfS at *; simp at *; omega
set_option maxHeartbeats 1000000 in
theorem cmpS (x y : SpB) (W : World) : Calls Try.prog 42 #[.agg #[.int .i64 x.1.1, .int .i64 x.1.2], .agg #[.int .i64 y.1.1, .int .i64 y.1.2]] W fun e w' => e = .returned (.int .i64 (cfS x y)) ∧ ∃ q os', w' = grow (W.drewN q) os' := by
 obtain ⟨⟨a, b⟩, h1, h2⟩ := x
 obtain ⟨⟨c, d⟩, h3, h4⟩ := y
 dsimp only at h1 h2 h3 h4 ⊢
 have hw : wrap64 (a - c) = a - c := w64p (by omega) (by omega)
 have e : cfS ⟨(a, b), h1, h2⟩ ⟨(c, d), h3, h4⟩ = a - c := rfl
 rw [e]
 clear e h1 h2 h3 h4
 go_enter Try.func42, Try.ntmps42
 go_wp2
 go_ret
 exact ⟨by show Ending.returned (Value.int .i64 (wrap64 (a - c))) = _; rw [hw], 0, _, by rw [alloc_eq_grow, alloc_eq_grow, grow_grow]; rfl⟩
theorem spc_len : ∀ l : List (Int × Int), (spc l).length = l.length * 2
 | [] => rfl
 | x :: l => by have := spc_len l; show (_ :: _ :: spc l).length = _; simp only [List.length_cons, this]; omega
theorem flat_spc (d : Array SpB) : (flatK encS 2 d).toList = spc (d.toList.map Subtype.val) := by
 apply List.ext_getElem?
 intro j
 by_cases hj : j < d.size * 2
 ·have hi : j / 2 < d.size := by omega
  obtain ⟨g1, g2⟩ := spc_get (d.toList.map Subtype.val) (j / 2) (d[j / 2]).1 (by rw [List.getElem?_map]; simp [hi])
  have e1 : (flatK encS 2 d).toList[j]? = some ((flatK encS 2 d)[j]!) := by
   rw [Array.getElem?_toList, Array.getElem?_eq_getElem (by rw [size_flatK]; exact hj), getElem!_pos (flatK encS 2 d) j (by rw [size_flatK]; exact hj)]
  rw [e1, get_flatK _ _ _ _ hj]
  have e2 : d[j / 2]! = d[j / 2] := getElem!_pos d (j / 2) hi
  obtain ⟨y, hy⟩ : ∃ y_, d[j / 2] = y_ := ⟨_, rfl⟩
  rw [hy] at g1 g2 e2
  rw [e2]
  rcases Nat.mod_two_eq_zero_or_one j with h0 | h0
  ·rw [h0, show (spc (d.toList.map Subtype.val))[j]? = (spc (d.toList.map Subtype.val))[j / 2 * 2]? by congr 1; omega, g1]; rfl
  ·rw [h0, show (spc (d.toList.map Subtype.val))[j]? = (spc (d.toList.map Subtype.val))[j / 2 * 2 + 1]? by congr 1; omega, g2]; rfl
 ·rw [List.getElem?_eq_none (by rw [Array.length_toList, size_flatK]; omega), List.getElem?_eq_none (by rw [spc_len]; simp; omega)]
set_option maxHeartbeats 1000000 in
theorem sortSpan_calls (g o cap : Nat) (l : List (Int × Int)) (base : Nat) (W : World) (hv : ownsAt W base 73 2 (.slice (some ⟨g, o, none⟩) l.length cap) l.length (spc l)) (hl : l.length ≤ 1000001) (hb : ∀ x ∈ l, 0 ≤ x.1 ∧ x.1 ≤ 65536) :
  Calls Try.prog 41 #[.slice (some ⟨g, o, none⟩) l.length cap, .func (.func 42) #[] #[]] W fun e w' => e = .returned (.tuple #[]) ∧ ∃ r, r.Perm l ∧ r.Pairwise (fun a b => a.1 ≤ b.1) ∧ ownsAt w' base 73 2 (.slice (some ⟨g, o, none⟩) l.length cap) l.length (spc r) ∧ W.grownBy w' (some g) := by
 obtain ⟨d, hd⟩ : ∃ d : Array SpB, d.toList.map Subtype.val = l := ⟨(l.pmap Subtype.mk hb).toArray, by simp [List.map_pmap]⟩
 have hds : d.size = l.length := by rw [← hd]; simp
 obtain ⟨g', o', c', cur, hvv, hg1, hg2, hg3, hg4, hg5, hg6⟩ : ∃ g' o' c' cur, (Value.slice (some ⟨g, o, none⟩) l.length cap) = .slice (some ⟨g', o', none⟩) l.length c' ∧ base ≤ g' ∧ W.heap[g']? = some (.cells cur 73 (0, 0)) ∧ l.length ≤ c' ∧ c' ≤ maxLen ∧ o' + c' * 2 ≤ cur.size ∧ (cur.toList.drop o').take (l.length * 2) = spc l := by
  rcases hv.2 with ⟨h, _⟩ | ⟨g', o', c', cur, h⟩
  ·simp at h
  ·exact ⟨g', o', c', cur, h⟩
 simp only [Value.slice.injEq, Option.some.injEq, Addr.mk.injEq] at hvv
 obtain ⟨⟨rfl, rfl, _⟩, _, rfl⟩ := hvv
 have hcell : ∀ j, j < l.length * 2 → cur[o + j]? = some ((flatK encS 2 d)[j]!) := fun j hj => by
  have e1 : (spc l)[j]? = some ((flatK encS 2 d)[j]!) := by
   rw [← hd, ← flat_spc, Array.getElem?_toList, Array.getElem?_eq_getElem (by rw [size_flatK]; omega), getElem!_pos (flatK encS 2 d) j (by rw [size_flatK]; omega)]
  rw [← hg6, List.getElem?_take_of_lt hj, List.getElem?_drop] at e1
  simpa using e1
 have hH : HoldsK encS 2 W g o d := fun j hj => by
  rw [size_flatK, hds] at hj
  refine ⟨?_, blk_frozen hg2 _⟩
  rw [blk_cell hg2 (o + j)]; exact hcell j hj
 have hlt : g < W.heap.size := blk_lt hg2
 have hcmp : CmpLays Try.prog 42 #[] encS 2 cfS g o d.size W := fun _ _ _ _ x y => cmpS x y _
 have eg : ∀ args w, (callFunc 42 args).run Try.prog w = .ok (.enter 42 args) w := enters_of Try.func42 (by kernel_rfl) rfl
 have h := laid_slices_SortFunc 2 Try.isAgg73 Try.sizeOf73 encS (fun _ => rfl) (fun x v hv => by simp [encS] at hv; rcases hv with rfl | rfl <;> rfl) cfS swoS 42 #[] g o cap d W eg hcmp hH hlt (by omega)
 rw [hds] at h
 refine h.mono ?_
 rintro e w' ⟨rfl, d', n, os, hp, hs, rfl⟩
 obtain ⟨hp1, _, hp2⟩ := hp
 have hd's : d'.size = l.length := hp1.trans hds
 refine ⟨rfl, d'.toList.map Subtype.val, ?_, ?_, ?_, ?_⟩
 ·have e1 : d'.extract 0 l.length = d' := by rw [← hd's]; simp
  have e2 : d.extract 0 l.length = d := by rw [← hds]; simp
  rw [e1, e2] at hp2
  rw [← hd]; exact hp2.map _
 ·rw [List.pairwise_iff_getElem]
  intro i j hi hj hij
  simp only [List.length_map, Array.length_toList] at hi hj
  have h1 := hs i j (Nat.zero_le _) hij (by omega)
  rw [getElem!_pos d' j hj, getElem!_pos d' i hi] at h1
  unfold ltOf cfS at h1
  simp at h1
  simp only [List.getElem_map, Array.getElem_toList]
  omega
 ·have hg' : (sortWorldK encS 2 W g o n d' os).heap[g]? = some (.cells (putCells id o (flatK encS 2 d') cur) 73 (0, 0)) := by
   unfold sortWorldK grow putRowK putRow mapBlock
   show (Array.modify (Sort.ahead W n).heap g (onCells _) ++ os)[g]? = _
   rw [Array.getElem?_append_left (by rw [Array.size_modify]; exact hlt), Array.getElem?_modify, if_pos rfl]
   show Option.map _ W.heap[g]? = _
   rw [hg2]; rfl
  refine ⟨by rw [spc_len]; simp [hd's], .inr ⟨g, o, cap, _, rfl, hg1, hg', hg3, hg4, by unfold putCells; simpa using hg5, ?_⟩⟩
  rw [← flat_spc]
  have hsz2 : (flatK encS 2 d').size = l.length * 2 := by rw [size_flatK, hd's]
  apply List.ext_getElem?
  intro j
  by_cases hj : j < l.length * 2
  ·have hoj : o + j < cur.size := by have := Nat.mul_le_mul_right 2 hg3; omega
   rw [List.getElem?_take_of_lt hj, List.getElem?_drop, Array.getElem?_toList, Array.getElem?_toList, Array.getElem?_eq_getElem (show j < (flatK encS 2 d').size by omega)]
   unfold putCells
   rw [Array.getElem?_mapIdx, Array.getElem?_eq_getElem hoj]
   simp only [Option.map_some, hsz2]
   rw [if_pos (by omega), show o + j - o = j by omega, getElem!_pos (flatK encS 2 d') j (by omega)]
   rfl
  ·rw [List.getElem?_eq_none (by rw [List.length_take]; omega), List.getElem?_eq_none (by rw [Array.length_toList]; omega)]
 ·refine ⟨rfl, rfl, rfl, ?_, fun k hk hkg => ?_⟩
  ·unfold sortWorldK grow putRowK putRow mapBlock
   show W.heap.size ≤ (Array.modify (Sort.ahead W n).heap g (onCells _) ++ os).size
   rw [Array.size_append, Array.size_modify]
   exact Nat.le_add_right _ _
  ·unfold sortWorldK grow putRowK putRow mapBlock
   show (Array.modify (Sort.ahead W n).heap g (onCells _) ++ os)[k]? = _
   rw [Array.getElem?_append_left (by rw [Array.size_modify]; exact hk), Array.getElem?_modify, if_neg (fun e => hkg (by rw [e]))]
   rfl
end



/-! ### sendq_Queue_mark: function 30 (by hand) -/
/-- one span that lies there, against one that is noted: it stays, or the noted one takes it in -/
def markS (st : List (Int × Int) × (Int × Int)) (y : Int × Int) : List (Int × Int) × (Int × Int) :=
 if y.2 < st.2.1 ∨ st.2.2 < y.1 then (st.1 ++ [y], st.2) else (st.1, (if y.1 < st.2.1 then y.1 else st.2.1, if st.2.2 < y.2 then y.2 else st.2.2))
def markL (x : Int × Int) (l : List (Int × Int)) : List (Int × Int) × (Int × Int) := l.foldl markS ([], x)
theorem markL_snoc (x y : Int × Int) (l : List (Int × Int)) : markL x (l ++ [y]) = markS (markL x l) y := by unfold markL; rw [List.foldl_append]; rfl
def InB (x : Int × Int) : Prop := 0 ≤ x.1 ∧ x.1 ≤ 65536 ∧ 0 ≤ x.2 ∧ x.2 ≤ 65536
theorem markF_in : ∀ (l : List (Int × Int)) (st : List (Int × Int) × (Int × Int)), InB st.2 → (∀ y ∈ l, InB y) → ((l.foldl markS st).1.length ≤ st.1.length + l.length ∧ InB (l.foldl markS st).2 ∧ ∀ y ∈ (l.foldl markS st).1, y ∈ st.1 ∨ y ∈ l)
 | [], st, hx, _ => ⟨Nat.le_refl _, hx, fun y hy => .inl hy⟩
 | y :: l, st, hx, hl => by
  have hy := hl y List.mem_cons_self
  have hx2 : InB (markS st y).2 := by unfold markS; unfold InB at *; split <;> (try exact hx); refine ⟨?_, ?_, ?_, ?_⟩ <;> dsimp only <;> split <;> omega
  obtain ⟨h1, h2, h3⟩ := markF_in l (markS st y) hx2 (fun z hz => hl z (List.mem_cons_of_mem _ hz))
  have h4 : (markS st y).1.length ≤ st.1.length + 1 := by unfold markS; split <;> simp
  refine ⟨by simp only [List.foldl_cons, List.length_cons]; omega, h2, fun z hz => ?_⟩
  rcases h3 z hz with h | h
  ·have : z ∈ st.1 ∨ z = y := by unfold markS at h; split at h <;> simp at h <;> simp [h]
   rcases this with h | rfl
   ·exact .inl h
   ·exact .inr List.mem_cons_self
  ·exact .inr (List.mem_cons_of_mem _ h)
theorem markL_in (x : Int × Int) (l : List (Int × Int)) (hx : InB x) (hl : ∀ y ∈ l, InB y) : (markL x l).1.length ≤ l.length ∧ InB (markL x l).2 ∧ ∀ y ∈ (markL x l).1, y ∈ l := by
 obtain ⟨h1, h2, h3⟩ := markF_in l ([], x) hx hl
 exact ⟨by simpa [markL] using h1, h2, fun y hy => by rcases h3 y hy with h | h; cases h; exact h⟩
theorem grown_old {a b : World} {row : Option Nat} {b5 k : Nat} (hg : a.grownBy b row) (hr : ∀ r, row = some r → b5 ≤ r) (hk : k < b5) (h5 : b5 ≤ a.heap.size) : b.heap[k]? = a.heap[k]? := hg.block k (by omega) (fun e => by have := hr k e.symm; omega)
set_option maxHeartbeats 4000000 in
set_option maxRecDepth 100000 in
theorem sendq_Queue_mark.calls (g : Nat) (q : QS) (xa xb : Int) (w0 w : World) (hI : QAt w w0.heap.size g q) (hB : Below w0.heap.size w0 w) (hx : InB (xa, xb)) (hap : (∀ y ∈ q.ap, InB y) ∧ q.ap.length ≤ 1000000) :
  Calls Try.prog 30 #[.pointer (some ⟨g, 0, none⟩), .agg #[.int .i64 xa, .int .i64 xb]] w fun e w' => e = .returned (.tuple #[]) ∧ ∃ r, r.Perm ((markL (xa, xb) q.ap).1 ++ [(markL (xa, xb) q.ap).2]) ∧ r.Pairwise (fun a b => a.1 ≤ b.1) ∧ QAt w' w0.heap.size g { q with ap := r } ∧ Below w0.heap.size w0 w' ∧ KeepG g w w' := by
 have HI := Aside0.mk hI
 have HB := Aside0.mk hB
 have HX := Aside0.mk hx
 have HAP := Aside0.mk hap
 have HGL := Aside0.mk hI.lt
 clear hI hB hx hap
 obtain ⟨Az, cz, ⟨hbg, hge⟩, ⟨hle, hcm⟩, ⟨hc0, hc1, hc2, hc3, hc4⟩, ⟨hf0, hf1, hf2, hf3, hf4⟩, HQ⟩ := HI.out.cell
 have HSB := Aside0.mk (show ∀ b_, Value.ownBlock (.slice Az q.ap.length cz) = some b_ → b_ < w.heap.size from fun b_ hb => blk_lt (ownsAt_block HQ hb).2.choose_spec)
 have HGE := Aside0.mk hge
 have HW0 := Aside0.mk HB.out.size
 have HQ0 := Aside0.mk HQ
 have HG0 := Aside0.mk hbg
 clear hbg hge hle hcm hc0 hc1 hc2 hc3 hc4 hf0 hf1 hf2 hf3 hf4 HQ
 clear HI
 go_enter Try.func30, Try.ntmps30
 go_upto_region 1 with fail
 have hbx := blk_new w (.cells #[.int .i64 xa, .int .i64 xb] 73)
 have hb := below_alloc (Below.refl w.heap.size w) (.cells #[.int .i64 xa, .int .i64 xb] 73)
 have HQA := Aside0.mk (ownsAt_below HQ0.out hb)
 have HGC := Aside0.mk (blk_below HG0.out hb)
 have HB1 := Aside0.mk (below_step HB.out hb)
 have HKs := Aside0.mk (show KeepG g w _ from KeepG.of_below hb)
 clear HB hb HQ0 HG0
 have HB := HB1
 clear HB1
 have HBX := Aside0.mk (show w.heap.size < (w.alloc (.cells #[.int .i64 xa, .int .i64 xb] 73)).heap.size ∧ w.heap.size ≤ w.heap.size ∧ g < w.heap.size from ⟨blk_lt hbx, Nat.le_refl _, HGL.out⟩)
 clear HGL
 have hbxe : w.heap.size = w.heap.size := rfl
 generalize hbxe : w.heap.size = bx at hbx HBX HSB ⊢
 have HBE := Aside0.mk hbxe
 generalize w.alloc (.cells #[.int .i64 xa, .int .i64 xb] 73) = W5 at hbx HQA HGC HB HKs HBX ⊢
 have HX5 := Aside0.mk hbx
 have hgc := HGC.out
 have hc4 := blk_cell hgc 4
 change _ = some (Value.slice Az q.ap.length cz) at hc4
 clear hbx hbxe hgc
 have H5 := Aside0.mk (show w0.heap.size ≤ W5.heap.size ∧ w.heap.size ≤ W5.heap.size from ⟨HB.out.size, HKs.out.1⟩)
 go_wp2_with fail
 go_loopg [4, 12] q.ap.length (fun kq v4 v12 W => ∃ (i : Nat) (iz : Int) (kp : List (Int × Int)) (ya yb : Int), v12 = .int .i64 iz ∧ Aside0 (iz = (i : Int) ∧ kq + i = q.ap.length) ∧ Aside0 (markL (xa, xb) (q.ap.take i) = (kp, (ya, yb))) ∧ Aside0 (ownsAt W W5.heap.size 73 2 v4 kp.length (spc kp)) ∧ Aside0 (W.heap[bx]? = some (.cells #[.int .i64 ya, .int .i64 yb] 73 (0, 0))) ∧ Aside0 (ownsAt W w0.heap.size 73 2 (.slice Az q.ap.length cz) q.ap.length (spc q.ap)) ∧ Aside0 (W.heap[g]? = some (.cells (cellsQ q (.slice Az q.ap.length cz)) 67 (0, 0))) ∧ Aside0 (Below w0.heap.size w0 W) ∧ Aside0 (KeepG g w W) ∧ Aside0 (W5.heap.size ≤ W.heap.size))
 case atStart => exact ⟨0, 0, [], xa, xb, rfl, ⟨rfl, by simp⟩, ⟨rfl⟩, ⟨ownsAt_nil _ _ _ _⟩, HX5, HQA, HGC, HB, HKs, ⟨Nat.le_refl _⟩⟩
 case round =>
  clear HB HKs HQA HGC HX5 hc4
  obtain ⟨i, iz, kp, ya, yb, rfl, HK, HM, HV, HXB, HQA, HGC, HB, HKs, HZ⟩ := hrel
  obtain ⟨A8, c8, rfl, _⟩ := ownsAt_len HV.out
  have hk := HK.out
  have hmi := markL_in (xa, xb) (q.ap.take i) HX.out (fun y hy => HAP.out.1 y (List.mem_of_mem_take hy))
  rw [HM.out] at hmi
  dsimp only at hmi
  have HMI := Aside0.mk hmi
  have HLN := Aside0.mk (show kp.length ≤ 1000000 by have h1 := hmi.1; rw [List.length_take] at h1; have := HAP.out.2; omega)
  clear hmi
  by_cases hlt : iz < (q.ap.length : Int)
  ·have d1 : decide (iz < (q.ap.length : Int)) = true := decide_eq_true hlt
   obtain ⟨k1, rfl⟩ : ∃ k1, gk = k1 + 1 := ⟨gk - 1, by omega⟩
   have hil : i < q.ap.length := by omega
   obtain ⟨⟨a, b⟩, hx⟩ : ∃ x, q.ap[i]? = some x := ⟨_, List.getElem?_eq_getElem hil⟩
   have HTK := Aside0.mk (show q.ap.take (i + 1) = q.ap.take i ++ [(a, b)] by rw [List.take_add_one, hx]; rfl)
   obtain ⟨gq, oq, rfl, hcells⟩ := ownsAt_cells HQA.out (by omega)
   obtain ⟨hq0, hq1⟩ : wr.cell? ⟨gq, oq + i * 2, none⟩ = some (.int .i64 a) ∧ wr.cell? ⟨gq, oq + i * 2 + 1, none⟩ = some (.int .i64 b) := ⟨hcells _ _ (spc_get q.ap i _ hx).1, hcells _ _ (spc_get q.ap i _ hx).2⟩
   have hn : wrap64 (iz + 1) = ((i + 1 : Nat) : Int) := by have := HAP.out.2; rw [w64p (by omega) (by omega)]; omega
   have HN := Aside0.mk hn
   have p0 : 0 ≤ iz := by omega
   have tn : iz.toNat = i := by omega
   replace p0 := eq_true p0
   replace hlt := eq_true hlt
   clear hcells hx hn hk hil
   go_upto_region 5 with fail
   have hby := blk_new wr (.cells #[.int .i64 a, .int .i64 b] 73)
   have hb := below_alloc (Below.refl wr.heap.size wr) (.cells #[.int .i64 a, .int .i64 b] 73)
   clear hq0 hq1 p0 hlt tn d1
   have n1_ := Aside0.mk (ownsAt_below HV.out hb); have n2_ := Aside0.mk (ownsAt_below HQA.out hb); have n3_ := Aside0.mk (blk_below HGC.out hb); have n4_ := Aside0.mk (below_step HB.out hb); have n5_ := Aside0.mk (HKs.out.trans (KeepG.of_below hb)); have n6_ := Aside0.mk (Nat.le_trans HZ.out hb.size); have n7_ := Aside0.mk (blk_below HXB.out hb)
   clear HV HQA HGC HB HKs HZ HXB hb
   have HV := n1_; have HQA := n2_; have HGC := n3_; have HB := n4_; have HKs := n5_; have HZ := n6_; have HXB := n7_
   clear n1_ n2_ n3_ n4_ n5_ n6_ n7_
   generalize wr.heap.size = by_ at hby ⊢
   generalize wr.alloc (.cells #[.int .i64 a, .int .i64 b] 73) = Wb at hby HV HXB HQA HGC HB HKs HZ ⊢
   have hy0 := blk_cell hby 0
   have hy1 := blk_cell hby 1
   change _ = some (Value.int .i64 a) at hy0
   change _ = some (Value.int .i64 b) at hy1
   have hxb := HXB.out
   have hx0 := blk_cell hxb 0
   have hx1 := blk_cell hxb 1
   have hz0 := blk_frozen hxb 0
   have hz1 := blk_frozen hxb 1
   change _ = some (Value.int .i64 ya) at hx0
   change _ = some (Value.int .i64 yb) at hx1
   clear hby hxb
   by_cases hc : b < ya ∨ yb < a
   ·have HC := Aside0.mk hc
    have hb := below_alloc (Below.refl Wb.heap.size Wb) (.cells #[.int .i64 a, .int .i64 b] 73)
    have HLT := Aside0.mk (ownsAt_lit Wb #[.int .i64 a, .int .i64 b] 73 2 1 rfl (by decide))
    have n1_ := Aside0.mk (ownsAt_below HV.out hb); have n2_ := Aside0.mk (ownsAt_below HQA.out hb); have n3_ := Aside0.mk (blk_below HGC.out hb); have n4_ := Aside0.mk (below_step HB.out hb); have n5_ := Aside0.mk (HKs.out.trans (KeepG.of_below hb)); have n6_ := Aside0.mk (Nat.le_trans HZ.out hb.size); have n7_ := Aside0.mk (blk_below HXB.out hb)
    clear HV HQA HGC HB HKs HZ HXB hb
    have HV := n1_; have HQA := n2_; have HGC := n3_; have HB := n4_; have HKs := n5_; have HZ := n6_; have HXB := n7_
    clear n1_ n2_ n3_ n4_ n5_ n6_ n7_
    have hd : decide (b < ya) = true ∨ (decide (b < ya) = false ∧ decide (yb < a) = true) := by
     by_cases h1 : b < ya
     ·exact .inl (decide_eq_true h1)
     ·exact .inr ⟨decide_eq_false h1, decide_eq_true (by omega)⟩
    clear hc
    have HCON := Aside0.mk hd
    clear hd
    rcases HCON.out with d2 | ⟨d2, d3⟩
    all_goals
     go_wp2_with (first | ((with_reducible refine gate_dst (N := 31) rfl ?_); refine wl_append 65 73 (.agg #[.int .i64 0, .int .i64 0]) 2 16 rfl rfl Try.underlying65 (by kernel_rfl) rfl (by decide) (v := .slice A8 kp.length c8) rfl rfl HV.out HLT.out rfl (by have := HLN.out; simp only [maxLen]; omega) (by have := HLN.out; omega) HZ.out (fun v9 W9 hv9 hg9 hr9 => ?_); have HV9 := Aside0.mk hv9; have HG9 := Aside0.mk hg9; clear hv9 hg9 hr9))
     have hrow : ∀ b_, Value.ownBlock (.slice A8 kp.length c8) = some b_ → W5.heap.size ≤ b_ := fun b_ hb => (ownsAt_block HV.out hb).1
     go_roundg k1
     case measure => omega
     case rel =>
      refine ⟨i + 1, _, kp ++ [(a, b)], ya, yb, rfl, ⟨HN.out, by have := HK.out; omega⟩, ⟨?_⟩, ⟨?_⟩, ⟨(grown_old HG9.out hrow HBX.out.1 HZ.out).trans HXB.out⟩, ⟨?_⟩, ⟨(grown_old HG9.out hrow (Nat.lt_trans HBX.out.2.2 HBX.out.1) HZ.out).trans HGC.out⟩, ⟨below_of_grown HB.out HG9.out HB.out.size (fun b_ hb => Nat.le_trans H5.out.1 (hrow b_ hb))⟩, ⟨keepG_grown HKs.out HG9.out (fun b_ hb => Nat.le_trans H5.out.2 (hrow b_ hb))⟩, ⟨Nat.le_trans HZ.out HG9.out.size⟩⟩
      ·rw [HTK.out, markL_snoc, HM.out]; unfold markS; rw [if_pos HC.out]
      ·have h := HV9.out
       rw [spc_app, List.length_append]
       exact h
      ·exact ownsAt_kept HQA.out (fun b_ cur hb _ => grown_old HG9.out hrow (Nat.lt_trans (HSB.out b_ hb) HBX.out.1) HZ.out)
   ·have HC := Aside0.mk hc
    have d2 : decide (b < ya) = false := decide_eq_false (by omega)
    have d3 : decide (yb < a) = false := decide_eq_false (by omega)
    obtain ⟨na, hna⟩ : ∃ m_, (if a < ya then a else ya) = m_ := ⟨_, rfl⟩
    obtain ⟨nb, hnb⟩ : ∃ m_, (if yb < b then b else yb) = m_ := ⟨_, rfl⟩
    have HNA := Aside0.mk (And.intro hna hnb)
    clear hc
    go_wp2
    go_roundg k1
    case measure => omega
    case rel =>
     have hkk : ∀ k_, k_ ≠ bx → ((Wb.setCell ⟨bx, 0, none⟩ (.int .i64 na)).setCell ⟨bx, 1, none⟩ (.int .i64 nb)).heap[k_]? = Wb.heap[k_]? := fun k_ hne => by rw [heap_setCell_other _ _ _ _ hne, heap_setCell_other _ _ _ _ hne]
     have hg0 : w0.heap.size ≤ bx := by have h1 := HBE.out; have h2 := HW0.out; omega
     refine ⟨i + 1, _, kp, na, nb, rfl, ⟨HN.out, by have := HK.out; omega⟩, ⟨?_⟩, ⟨?_⟩, ⟨blk_put (blk_put HXB.out 0 (.int .i64 na) rfl) 1 (.int .i64 nb) rfl⟩, ⟨?_⟩, ⟨?_⟩, ⟨below_set (below_set HB.out hg0) hg0⟩, ⟨Nat.le_trans HKs.out.1 (by simp [World.setCell]), fun k_ hk_ hn_ => ?_⟩, ⟨Nat.le_trans HZ.out (by simp [World.setCell])⟩⟩
     ·rw [HTK.out, markL_snoc, HM.out]; unfold markS; rw [if_neg (show ¬ (b < ya ∨ yb < a) from HC.out), HNA.out.1, HNA.out.2]
     ·exact ownsAt_kept HV.out (fun b_ cur hb _ => hkk b_ (by have h1 := (ownsAt_block HV.out hb).1; have h2 := HBX.out.1; omega))
     ·exact ownsAt_kept HQA.out (fun b_ cur hb _ => hkk b_ (by have h1 := HSB.out b_ hb; omega))
     ·exact (hkk g (by have := HBX.out.2.2; omega)).trans HGC.out
     ·exact (hkk k_ (by have := HBE.out; omega)).trans (HKs.out.2 k_ hk_ hn_)
  ·have d1 : decide (iz < (q.ap.length : Int)) = false := decide_eq_false hlt
   have hi : i = q.ap.length := by omega
   have hm := HM.out
   rw [hi, List.take_length] at hm
   have HMM := Aside0.mk hm
   have hxb := HXB.out
   have hx0 := blk_cell hxb 0
   have hx1 := blk_cell hxb 1
   change _ = some (Value.int .i64 ya) at hx0
   change _ = some (Value.int .i64 yb) at hx1
   have hb := below_alloc (Below.refl wr.heap.size wr) (.cells #[.int .i64 ya, .int .i64 yb] 73)
   have HLT := Aside0.mk (ownsAt_lit wr #[.int .i64 ya, .int .i64 yb] 73 2 1 rfl (by decide))
   have n1_ := Aside0.mk (ownsAt_below HV.out hb); have n2_ := Aside0.mk (ownsAt_below HQA.out hb); have n3_ := Aside0.mk (blk_below HGC.out hb); have n4_ := Aside0.mk (below_step HB.out hb); have n5_ := Aside0.mk (HKs.out.trans (KeepG.of_below hb)); have n6_ := Aside0.mk (Nat.le_trans HZ.out hb.size); have n7_ := Aside0.mk (blk_below HXB.out hb)
   clear HV HQA HGC HB HKs HZ HXB hb
   have HV := n1_; have HQA := n2_; have HGC := n3_; have HB := n4_; have HKs := n5_; have HZ := n6_; have HXB := n7_
   clear n1_ n2_ n3_ n4_ n5_ n6_ n7_
   clear hm hi hk hlt hxb HM HK
   go_upto_region 10 with (first | ((with_reducible refine gate_dst (N := 47) rfl ?_); refine wl_append 65 73 (.agg #[.int .i64 0, .int .i64 0]) 2 16 rfl rfl Try.underlying65 (by kernel_rfl) rfl (by decide) (v := .slice A8 kp.length c8) rfl rfl HV.out HLT.out rfl (by have := HLN.out; simp only [maxLen]; omega) (by have := HLN.out; omega) HZ.out (fun v9 W9 hv9 hg9 hr9 => ?_); have HV9 := Aside0.mk hv9; have HG9 := Aside0.mk hg9; clear hv9 hg9 hr9))
   clear hx0 hx1 d1
   have hrow : ∀ b_, Value.ownBlock (.slice A8 kp.length c8) = some b_ → W5.heap.size ≤ b_ := fun b_ hb => (ownsAt_block HV.out hb).1
   obtain ⟨A9, c9, rfl, _⟩ := ownsAt_len HV9.out
   obtain ⟨g9, o9, rfl, _⟩ := ownsAt_cells HV9.out (by omega)
   have n2_ := Aside0.mk (ownsAt_kept HQA.out (fun b_ cur hb _ => grown_old HG9.out hrow (Nat.lt_trans (HSB.out b_ hb) HBX.out.1) HZ.out))
   have n3_ := Aside0.mk ((grown_old HG9.out hrow (Nat.lt_trans HBX.out.2.2 HBX.out.1) HZ.out).trans HGC.out)
   have n4_ := Aside0.mk (below_of_grown HB.out HG9.out HB.out.size (fun b_ hb => Nat.le_trans H5.out.1 (hrow b_ hb)))
   have n5_ := Aside0.mk (keepG_grown HKs.out HG9.out (fun b_ hb => Nat.le_trans H5.out.2 (hrow b_ hb)))
   have n6_ := Aside0.mk (Nat.le_trans HZ.out HG9.out.size)
   clear HV HQA HGC HB HKs HZ HXB HG9 hrow
   have HQA := n2_; have HGC := n3_; have HB := n4_; have HKs := n5_; have HZ := n6_
   clear n2_ n3_ n4_ n5_ n6_
   have hv9 := HV9.out
   have hlen : (kp ++ [(ya, yb)]).length = kp.length + 1 := by simp
   have espc : spc kp ++ [Value.int .i64 ya, Value.int .i64 yb] = spc (kp ++ [(ya, yb)]) := by rw [spc_app]; rfl
   have hv9' : ownsAt W9 W5.heap.size 73 2 (.slice (some ⟨g9, o9, none⟩) (kp ++ [(ya, yb)]).length c9) (kp ++ [(ya, yb)]).length (spc (kp ++ [(ya, yb)])) := by rw [hlen, ← espc]; exact hv9
   have hsort := sortSpan_calls g9 o9 c9 (kp ++ [(ya, yb)]) W5.heap.size W9 hv9' (by rw [hlen]; have := HLN.out; omega) (fun z hz => by
    rcases List.mem_append.1 hz with h | h
    ·have := HAP.out.1 z (List.mem_of_mem_take (HMI.out.2.2 z h)); exact ⟨this.1, this.2.1⟩
    ·rw [List.mem_singleton.1 h]; exact ⟨HMI.out.2.1.1, HMI.out.2.1.2.1⟩)
   rw [hlen] at hsort
   have HG9 := Aside0.mk (show W5.heap.size ≤ g9 from (ownsAt_block hv9 rfl).1)
   clear hv9 hv9' espc HV9
   go_wp2_with fail
   refine hsort.mono ?_
   clear hsort
   rintro e W10 ⟨rfl, r, hp, hs, hv, hg⟩
   have hrow : ∀ b_, some g9 = some b_ → W5.heap.size ≤ b_ := fun b_ hb => by rw [← Option.some.inj hb]; exact HG9.out
   have n2_ := Aside0.mk (ownsAt_kept HQA.out (fun b_ cur hb _ => grown_old hg hrow (Nat.lt_trans (HSB.out b_ hb) HBX.out.1) HZ.out))
   have n3_ := Aside0.mk ((grown_old hg hrow (Nat.lt_trans HBX.out.2.2 HBX.out.1) HZ.out).trans HGC.out)
   have n4_ := Aside0.mk (below_of_grown HB.out hg HB.out.size (fun b_ hb => Nat.le_trans H5.out.1 (hrow b_ hb)))
   have n5_ := Aside0.mk (keepG_grown HKs.out hg (fun b_ hb => Nat.le_trans H5.out.2 (hrow b_ hb)))
   clear HQA HGC HB HKs HZ hrow hg
   have HQA := n2_; have HGC := n3_; have HB := n4_; have HKs := n5_
   clear n2_ n3_ n4_ n5_
   have HR := Aside0.mk (And.intro hp (And.intro hs hv))
   clear hp hs hv
   have hgc := HGC.out
   have hc4 := blk_cell hgc 4
   have hf4 := blk_frozen hgc 4
   change _ = some (Value.slice Az q.ap.length cz) at hc4
   have HQ := Aside0.mk (show QAt W10 w0.heap.size g q from ⟨_, hgc, HGE.out, HQA.out⟩)
   clear hgc hlen
   go_wp2
   first | go_end0 | ((try simp only [Exit.inBlock, Exit.then]); refine bodyPost_ret (results_none rfl _ _ _) rfl ?_)
   obtain ⟨hp, hs, hv⟩ := HR.out
   have hrl : r.length = kp.length + 1 := by rw [hp.length_eq]; simp
   refine ⟨rfl, r, by rw [HMM.out]; exact hp, hs, HQ.out.row (q' := { q with ap := r }) _ ?_ (fun _ => rfl), below_set HB.out HGE.out, HKs.out.trans (KeepG.set g 4 _ _)⟩
   show ownsAt W10 w0.heap.size 73 2 _ r.length (spc r)
   rw [hrl]
   exact ownsAt_base hv H5.out.1


end Go.Proofs.Ytobndcdohehhbaa.PSendqHoles

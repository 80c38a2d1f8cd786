-- Laid by this claim's own program over the print's words.
import Derived.Test.YtcmpkgmhcbnmbaaPGatePlaysx0
import Derived.Test.YtcmpkgmhcbnmbaaPGatePlaysx1
namespace Go.Proofs.Ytcmpkgmhcbnmbaa.PGatePlays
open Go.RowKit Go.Proofs.YtcmpkgmhcbnmbaaW.PrintWords Go.Proofs.YtcmpkgmhcbnmbaaW.PrintLast Go.Proofs.YtcmpkgmhcbnmbaaW.PrintMore
attribute [local go_sem] max2_int min2_int max_two min_two max_three min_three max_four min_four max_five min_five extract_cut tmod_nat_lit   -- for this text's walks alone
set_option linter.unusedVariables false
set_option linter.unusedSimpArgs false


/-! ### gate_Gate_Put: function 9 (by hand) -/
def GSt.fits (s : GSt) (fr : List ByteArray) : Int := if wrap64 (s.room - s.long) < (fr.length : Int) then wrap64 (s.room - s.long) else (fr.length : Int)
def GSt.enq (s : GSt) (n f : Int) (fr : List ByteArray) : GSt := { s with q := s.q ++ [(n, fr.take f.toNat)] }
def GSt.held (s : GSt) (n f : Int) (fr : List ByteArray) : GSt := if 0 < f then { s.enq n f fr with long := wrap64 (s.long + f) } else s
def GSt.drop (s : GSt) (f l : Int) : GSt := if f < l then { s with lost := wrap64 (s.lost + wrap64 (l - f)) } else s
def GSt.put (s : GSt) (n : Int) (fr : List ByteArray) : GSt × List ByteArray × Int :=
 if n < 1 ∨ n < s.last then (s, [], 1) else if s.opn = true ∨ n ≤ s.conf then (GSt.went { s with last := n } n fr, fr, 0) else
 ((GSt.held { s with last := n } n (s.fits fr) fr).drop (s.fits fr) fr.length, [], if s.fits fr < (fr.length : Int) then 150 else 0)
theorem run_head {P : Program} {ρ : Operand → Value} {o : Oper} {W : World} {t e : TypeId} {x h : Operand} {A : Option Addr} {n c : Nat} {f : Int} (hu : P.underlying t = some (.slice e)) (hs : (P.info? e).isSome = true) (ho : o.op = .slice t x none (some h) none) (hx : ρ x = .slice A n c) (hh : ρ h = .int .i64 f) (h0 : 0 ≤ f) (hc : f ≤ (c : Int)) :
  (execOp ρ o).run P W = .ok (.value (.slice A f.toNat c)) W := by
 obtain ⟨i, hi⟩ := Option.isSome_iff_exists.1 hs
 have he : P.elem t = e := by simp [Program.elem, hu]
 have e1 : (0 ≤ f ∧ f ≤ (c : Int)) = True := eq_true ⟨h0, hc⟩
 unfold execOp
 simp only [ho, hx, hh, Option.map_some, Option.map_none]
 rw [Sem.run_bind, run_sliceAt_slice (P := P) W t _ _ _ _ (by rw [he]; exact hu)]
 have z : (if c = 0 then A else A.map fun x => x.add 0) = A := by cases A <;> simp [Addr.add]
 simp [Instr.slice, Instr.sliceBounds, Instr.sliceBound, asIntOf, run_underlying hu, sizeOf, typeInfo, hi, e1, z]
def gate_Gate_Put.C (w0 w : World) (bf g : Nat) (s : GSt) (n f : Int) (fr : List ByteArray) (A Af : Option Addr) (c cf : Nat) : Nat → World → Prop
 | 0, W => W.heap[g]? = some (.cells (cellsG s (.slice A s.q.length c)) 53 (0, 0)) ∧ w0.heap.size ≤ g ∧ (∃ cs, ownsAt W w0.heap.size 56 2 (.slice A s.q.length c) s.q.length cs ∧ QC W w0.heap.size W.heap.size s.q cs) ∧ ownsAt W bf 9 1 (.slice Af fr.length cf) fr.length (txt fr) ∧ Below w0.heap.size w0 W ∧ KeepT [53, 56] w W
 | 1, W => W.heap[g]? = some (.cells (cellsG s (.slice A s.q.length c)) 53 (0, 0)) ∧ w0.heap.size ≤ g ∧ Below w0.heap.size w0 W ∧ KeepT [53, 56] w W
 | 2, W => GateAt W w0.heap.size W.heap.size g (s.enq n f fr) ∧ Below w0.heap.size w0 W ∧ KeepT [53, 56] w W
 | _, _ => False
def gate_Gate_Put.R (w0 : World) (s : GSt) (n f : Int) (fr : List ByteArray) (p j : Nat) (W : World) (v : Value) : Prop :=
 if j = 9 then ownsAt W w0.heap.size 9 1 v (fr.take f.toNat).length (txt (fr.take f.toNat))
 else if j = 10 then ∃ f9, v = .agg #[.int .i64 n, f9] ∧ ownsAt W w0.heap.size 9 1 f9 (fr.take f.toNat).length (txt (fr.take f.toNat))
 else if j = 11 then p = 0 → ∃ f9, ownsAt W 0 56 2 v 1 [.int .i64 n, f9] ∧ ownsAt W w0.heap.size 9 1 f9 (fr.take f.toNat).length (txt (fr.take f.toNat))
 else j = 12 ∧ p = 1 → ∃ cs, ownsAt W w0.heap.size 56 2 v (s.q.length + 1) cs ∧ QC W w0.heap.size W.heap.size (s.q ++ [(n, fr.take f.toNat)]) cs
theorem gate_Gate_Put.C_below {w0 w : World} {bf g : Nat} {s : GSt} {n f : Int} {fr : List ByteArray} {A Af : Option Addr} {c cf p : Nat} {W W' : World} (h : gate_Gate_Put.C w0 w bf g s n f fr A Af c cf p W) (hb : Below W.heap.size W W') : gate_Gate_Put.C w0 w bf g s n f fr A Af c cf p W' := by
 have hk := KeepT.of_below (T := [53, 56]) hb
 have hkb : ∀ {t size v m xs b}, ownsAt W b t size v m xs → ownsAt W' b t size v m xs := fun h => ownsAt_kept h (fun g cur _ hg => hb.block g (Array.getElem?_eq_some_iff.1 hg).1)
 match p, h with
 | 0, ⟨h1, h2, ⟨cs, h3, h4⟩, h5, h6, h7⟩ => exact ⟨blk_below h1 hb, h2, ⟨cs, hkb h3, QC_top hb.size (QC_kept hk h4)⟩, hkb h5, below_step h6 hb, h7.trans hk⟩
 | 1, ⟨h1, h2, h6, h7⟩ => exact ⟨blk_below h1 hb, h2, below_step h6 hb, h7.trans hk⟩
 | 2, ⟨h1, h6, h7⟩ => exact ⟨(h1.kept hb).top hb.size, below_step h6 hb, h7.trans hk⟩
theorem gate_Gate_Put.R_keep {w0 : World} {s : GSt} {n f : Int} {fr : List ByteArray} {p j : Nat} {W W' : World} {v : Value} {b : Bool} (hj : b = true → [12, 15][p]? ≠ some j) (hg : KeepT [53, 56] W W' ∧ (b = false → Below W.heap.size W W')) (h : gate_Gate_Put.R w0 s n f fr p j W v) : gate_Gate_Put.R w0 s n f fr (AnyEvents.nx b p) j W' v := by
 obtain ⟨hk, hb⟩ := hg
 unfold gate_Gate_Put.R at h ⊢
 by_cases h9 : j = 9
 ·rw [if_pos h9] at h ⊢; exact ownsAt_keepT h hk (by decide)
 rw [if_neg h9] at h ⊢
 by_cases h10 : j = 10
 ·rw [if_pos h10] at h ⊢; obtain ⟨f9, e, h⟩ := h; exact ⟨f9, e, ownsAt_keepT h hk (by decide)⟩
 rw [if_neg h10] at h ⊢
 by_cases h11 : j = 11
 ·rw [if_pos h11] at h ⊢
  intro hp
  cases b with
  | true => simp [AnyEvents.nx] at hp
  | false =>
   obtain ⟨f9, e, h⟩ := h (by simpa [AnyEvents.nx] using hp)
   exact ⟨f9, ownsAt_kept e (fun g cur _ hg => (hb rfl).block g (Array.getElem?_eq_some_iff.1 hg).1), ownsAt_keepT h hk (by decide)⟩
 rw [if_neg h11] at h ⊢
 rintro ⟨rfl, hp⟩
 cases b with
 | true =>
  simp [AnyEvents.nx] at hp
  subst hp
  exact absurd rfl (hj rfl)
 | false =>
  obtain ⟨cs, e, h⟩ := h ⟨rfl, by simpa [AnyEvents.nx] using hp⟩
  exact ⟨cs, ownsAt_kept e (fun g cur _ hg => (hb rfl).block g (Array.getElem?_eq_some_iff.1 hg).1), QC_top hk.1 (QC_kept hk h)⟩
structure gate_Gate_Put.P (w0 w : World) (g : Nat) (r : GSt × List ByteArray × Int) (e : Ending) (w' : World) : Prop where
 h : ∃ v top', e = .returned (.tuple #[v, .int .i64 r.2.2]) ∧ GateAt w' w0.heap.size top' g r.1 ∧ ownsAt w' top' 9 1 v r.2.1.length (txt r.2.1) ∧ w.heap.size ≤ top' ∧ top' ≤ w'.heap.size ∧ Below w0.heap.size w0 w' ∧ KeepT [53, 56] w w'
set_option maxHeartbeats 4000000 in
set_option maxRecDepth 100000 in
theorem gate_Gate_Put.calls (g bf top : Nat) (s : GSt) (n : Int) (fv : Value) (fr : List ByteArray) (w0 w : World) (hG : GateAt w w0.heap.size top g s) (hB : Below w0.heap.size w0 w) (ht : top ≤ w.heap.size) (hF : ownsAt w bf 9 1 fv fr.length (txt fr)) (hl : fr.length ≤ 1099511627776) (hq : s.q.length ≤ 1073741824) :
  Calls Try.prog 9 #[.pointer (some ⟨g, 0, none⟩), .int .i64 n, fv] w (gate_Gate_Put.P w0 w g (s.put n fr)) := by
 obtain ⟨Af, cf, rfl, hf1_, hf2_, _⟩ := ownsAt_len hF
 have HI := Aside0.mk hG
 have HB := Aside0.mk hB
 have HF := Aside0.mk hF
 clear hG hB hF
 obtain ⟨r, hr⟩ : ∃ r_, s.put n fr = r_ := ⟨_, rfl⟩
 rw [hr]
 by_cases hbad : n < 1 ∨ n < s.last
 ·rw [show s.put n fr = (s, [], 1) by unfold GSt.put; rw [if_pos hbad]] at hr
  subst hr
  obtain ⟨Az, cz, ⟨hbg, hle⟩, hcm, ⟨hc0, hc1, hc2, hc3⟩, ⟨hc4, hc5, hc6, hc7⟩, ⟨hf0, hf1, hf2, hf3⟩, ⟨hf4, hf5, hf6, hf7⟩, csz, HQ, HE⟩ := HI.out.cell
  have HBD := Aside0.mk hbad
  by_cases h1 : n < 1
  ·have d1 : decide (n < 1) = true := decide_eq_true h1
   go_enter Try.func9, Try.ntmps9
   go_wp2
   go_ret2
   exact ⟨_, w.heap.size, rfl, HI.out.top ht, ownsAt_nil _ _ _ _, Nat.le_refl _, Nat.le_refl _, HB.out, KeepT.refl _ _⟩
  ·have d1 : decide (n < 1) = false := decide_eq_false h1
   have d2 : decide (n < s.last) = true := decide_eq_true (hbad.resolve_left h1)
   clear hbad
   go_enter Try.func9, Try.ntmps9
   go_wp2
   go_ret2
   exact ⟨_, w.heap.size, rfl, HI.out.top ht, ownsAt_nil _ _ _ _, Nat.le_refl _, Nat.le_refl _, HB.out, KeepT.refl _ _⟩
 have HBD := Aside0.mk hbad
 have d1 : decide (n < 1) = false := decide_eq_false (fun h => hbad (.inl h))
 have d2 : decide (n < s.last) = false := decide_eq_false (fun h => hbad (.inr h))
 clear hbad
 rw [show s.put n fr = if s.opn = true ∨ n ≤ s.conf then (GSt.went { s with last := n } n fr, fr, 0) else ((GSt.held { s with last := n } n (s.fits fr) fr).drop (s.fits fr) fr.length, [], if s.fits fr < (fr.length : Int) then 150 else 0) by unfold GSt.put; rw [if_neg HBD.out]] at hr
 have hfit : s.fits fr = (GSt.fits { s with last := n } fr) := rfl
 have ho1 : s.opn = (GSt.opn { s with last := n }) := rfl
 have hc1_ : s.conf = (GSt.conf { s with last := n }) := rfl
 have hq1 : s.q = (GSt.q { s with last := n }) := rfl
 have hg1 : ∀ v, (cellsG s v).setIfInBounds 1 (.int .i64 n) = cellsG { s with last := n } v := fun v => rfl
 rw [hfit, ho1, hc1_] at hr
 rw [hq1] at hq
 generalize ({ s with last := n } : GSt) = s1 at hq hq1 hg1 hr
 clear hfit ho1 hc1_
 have HR := Aside0.mk hr
 have HG1 := Aside0.mk hg1
 have HQ1 := Aside0.mk hq1
 clear hg1 hq1 hr
 obtain ⟨Az, cz, ⟨hbg, hle⟩, hcm, ⟨hc0, hc1, hc2, hc3⟩, ⟨hc4, hc5, hc6, hc7⟩, ⟨hf0, hf1, hf2, hf3⟩, ⟨hf4, hf5, hf6, hf7⟩, csz, HQ, HE⟩ := HI.out.cell
 go_enter Try.func9, Try.ntmps9
 go_upto_region 4 with fail
 clear hbg hc0 hc1 hc2 hc3 hc4 hc5 hc6 hc7 hf0 hf1 hf2 hf3 hf4 hf5 hf6 hf7 HQ HE hle hcm
 clear d1 d2
 have i1 : GateAt (w.setCell ⟨g, 1, none⟩ (.int .i64 n)) w0.heap.size top g s1 := HI.out.set 1 _ HQ1.out.symm HG1.out
 have k1 : KeepT [53, 56] w (w.setCell ⟨g, 1, none⟩ (.int .i64 n)) := GateAt.keep_set (KeepT.refl [53, 56] _) HI.out 1 _
 have b1 : Below w0.heap.size w0 (w.setCell ⟨g, 1, none⟩ (.int .i64 n)) := below_set HB.out HI.out.ge
 have f1 := ownsAt_keepT HF.out k1 (by decide)
 clear HI HB HF HG1 HQ1
 generalize w.setCell ⟨g, 1, none⟩ (.int .i64 n) = W1 at i1 k1 b1 f1 ⊢
 have HI := Aside0.mk i1
 have HK := Aside0.mk k1
 have HB := Aside0.mk b1
 have HF := Aside0.mk f1
 have ht1 : top ≤ W1.heap.size := Nat.le_trans ht k1.1
 have hw1 := k1.1
 clear i1 k1 b1 f1
 obtain ⟨Az, cz, ⟨hbg, hle⟩, hcm, ⟨hc0, hc1, hc2, hc3⟩, ⟨hc4, hc5, hc6, hc7⟩, ⟨hf0, hf1, hf2, hf3⟩, ⟨hf4, hf5, hf6, hf7⟩, csz, HQ, HE⟩ := HI.out.cell
 by_cases hout : s1.opn = true ∨ n ≤ s1.conf
 ·have hr := HR.out
  rw [if_pos hout] at hr
  subst hr
  clear HR
  by_cases h1 : s1.opn = true
  ·rw [h1] at hc6
   go_wp2_with fail
   refine (gate_Gate_went.calls g bf top s1 n (.slice Af fr.length cf) fr w0 W1 HI.out HB.out HF.out hl).mono ?_
   rintro e W2 ⟨v, rfl, i2, o2, b2, k2⟩
   have HA := Aside0.mk (And.intro i2 (And.intro o2 (And.intro b2 (HK.out.trans k2))))
   have hw2 := k2.1
   clear i2 o2 b2 k2
   clear hbg hc0 hc1 hc2 hc3 hc4 hc5 hc6 hc7 hf0 hf1 hf2 hf3 hf4 hf5 hf6 hf7 HQ HE hle hcm
   go_wp2
   go_ret2
   exact ⟨v, W1.heap.size, rfl, HA.out.1.top ht1, HA.out.2.1, hw1, hw2, HA.out.2.2.1, HA.out.2.2.2⟩
  ·have h2 : s1.opn = false := by simpa using h1
   rw [h2] at hc6
   have d1 : decide (n ≤ s1.conf) = true := decide_eq_true (hout.resolve_left h1)
   clear hout h1
   go_wp2_with fail
   refine (gate_Gate_went.calls g bf top s1 n (.slice Af fr.length cf) fr w0 W1 HI.out HB.out HF.out hl).mono ?_
   rintro e W2 ⟨v, rfl, i2, o2, b2, k2⟩
   have HA := Aside0.mk (And.intro i2 (And.intro o2 (And.intro b2 (HK.out.trans k2))))
   have hw2 := k2.1
   clear i2 o2 b2 k2
   clear hbg hc0 hc1 hc2 hc3 hc4 hc5 hc6 hc7 hf0 hf1 hf2 hf3 hf4 hf5 hf6 hf7 HQ HE hle hcm
   go_wp2
   go_ret2
   exact ⟨v, W1.heap.size, rfl, HA.out.1.top ht1, HA.out.2.1, hw1, hw2, HA.out.2.2.1, HA.out.2.2.2⟩
 have hr := HR.out
 rw [if_neg hout] at hr
 clear HR
 have h2 : s1.opn = false := by
  cases h : s1.opn with | false => rfl | true => exact absurd (.inl h) hout
 have d1 : decide (n ≤ s1.conf) = false := decide_eq_false (fun h => hout (.inr h))
 rw [h2] at hc6
 clear hout
 have HR := Aside0.mk hr
 clear hr
 go_upto_region 6 with fail
 clear d1 h2 hc6
 have hr := HR.out
 obtain ⟨f, hf⟩ : ∃ f_, s1.fits fr = f_ := ⟨_, rfl⟩
 have hfu : (if wrap64 (s1.room - s1.long) < (fr.length : Int) then wrap64 (s1.room - s1.long) else (fr.length : Int)) = f := hf
 have hfl : f ≤ (fr.length : Int) := by rw [← hfu]; split <;> omega
 rw [hf] at hr
 clear HR
 have HR := Aside0.mk hr
 clear hr
 have same : ∀ (p : Nat) W', Drawn0 W1 W' → True := fun _ _ _ => trivial
 refine AnyEvents.region_then 13 (E := []) (C := fun (_ : Nat) W' => Drawn0 W1 W') (G := fun _ _ _ _ => True) (T := []) (R := fun _ _ _ _ => True) (vs := [(.slice Af fr.length cf), (.int .i64 (fr.length : Int)), (.pointer (some ⟨g, 0, none⟩)), (.pointer (some ⟨g, 0, none⟩)), (.pointer (some ⟨g, 0, none⟩)), (.int .i64 s1.room), (.pointer (some ⟨g, 0, none⟩)), (.pointer (some ⟨g, 0, none⟩)), (.pointer (some ⟨g, 5, none⟩)), (.int .i64 s1.long), (.int .i64 (wrap64 (s1.room - s1.long))), (.int .i64 f), (.int .i64 f)]) (by kernel_rfl) (by kernel_rfl) rfl (by kernel_rfl) ?hc0 same (fun _ _ _ _ _ _ _ _ _ => trivial) (fun _ h => nomatch h) (fun x => ?obs) ?fin
 case hc0 => exact ⟨1, rfl⟩
 case obs =>
  refine AnyEvents.obs_cons (.slice Af fr.length cf) rfl (AnyEvents.ob_plain rfl rfl rfl same rfl (fun p W' hwn hW => ?_)) ?_
  ·obtain ⟨nd, rfl⟩ := hW; first | rfl | (go_simp; done) | (go_simp; rfl) | (go_simp; simp only [i64_w]; done)
  try simp only [Act.put, List.setIfInBounds_toArray, List.set_cons_zero, List.set_cons_succ]
  refine AnyEvents.obs_cons (.int .i64 (fr.length : Int)) rfl (AnyEvents.ob_plain rfl rfl rfl same rfl (fun p W' hwn hW => ?_)) ?_
  ·obtain ⟨nd, rfl⟩ := hW; first | rfl | (go_simp; done) | (go_simp; rfl) | (go_simp; simp only [i64_w]; done)
  try simp only [Act.put, List.setIfInBounds_toArray, List.set_cons_zero, List.set_cons_succ]
  refine AnyEvents.obs_cons (.pointer (some ⟨g, 0, none⟩)) rfl (AnyEvents.ob_plain rfl rfl rfl same rfl (fun p W' hwn hW => ?_)) ?_
  ·obtain ⟨nd, rfl⟩ := hW; first | rfl | (go_simp; done) | (go_simp; rfl) | (go_simp; simp only [i64_w]; done)
  try simp only [Act.put, List.setIfInBounds_toArray, List.set_cons_zero, List.set_cons_succ]
  refine AnyEvents.obs_cons (.pointer (some ⟨g, 0, none⟩)) rfl (AnyEvents.ob_plain rfl rfl rfl same rfl (fun p W' hwn hW => ?_)) ?_
  ·obtain ⟨nd, rfl⟩ := hW; first | rfl | (go_simp; done) | (go_simp; rfl) | (go_simp; simp only [i64_w]; done)
  try simp only [Act.put, List.setIfInBounds_toArray, List.set_cons_zero, List.set_cons_succ]
  refine AnyEvents.obs_cons (.pointer (some ⟨g, 0, none⟩)) rfl (AnyEvents.ob_plain rfl rfl rfl same rfl (fun p W' hwn hW => ?_)) ?_
  ·obtain ⟨nd, rfl⟩ := hW; first | rfl | (go_simp; done) | (go_simp; rfl) | (go_simp; simp only [i64_w]; done)
  try simp only [Act.put, List.setIfInBounds_toArray, List.set_cons_zero, List.set_cons_succ]
  refine AnyEvents.obs_cons (.int .i64 s1.room) rfl (AnyEvents.ob_plain rfl rfl rfl same rfl (fun p W' hwn hW => ?_)) ?_
  ·obtain ⟨nd, rfl⟩ := hW; have z0 : (W1.drewN nd).cell? ⟨g, 0, none⟩ = some (.int .i64 s1.room) := hc0; have z1 : (W1.drewN nd).frozen? ⟨g, 0, none⟩ = false := hf0; first | rfl | (go_simp; done) | (go_simp; rfl) | (go_simp; simp only [i64_w]; done)
  try simp only [Act.put, List.setIfInBounds_toArray, List.set_cons_zero, List.set_cons_succ]
  refine AnyEvents.obs_cons (.pointer (some ⟨g, 0, none⟩)) rfl (AnyEvents.ob_plain rfl rfl rfl same rfl (fun p W' hwn hW => ?_)) ?_
  ·obtain ⟨nd, rfl⟩ := hW; first | rfl | (go_simp; done) | (go_simp; rfl) | (go_simp; simp only [i64_w]; done)
  try simp only [Act.put, List.setIfInBounds_toArray, List.set_cons_zero, List.set_cons_succ]
  refine AnyEvents.obs_cons (.pointer (some ⟨g, 0, none⟩)) rfl (AnyEvents.ob_plain rfl rfl rfl same rfl (fun p W' hwn hW => ?_)) ?_
  ·obtain ⟨nd, rfl⟩ := hW; first | rfl | (go_simp; done) | (go_simp; rfl) | (go_simp; simp only [i64_w]; done)
  try simp only [Act.put, List.setIfInBounds_toArray, List.set_cons_zero, List.set_cons_succ]
  refine AnyEvents.obs_cons (.pointer (some ⟨g, 5, none⟩)) rfl (AnyEvents.ob_plain rfl rfl rfl same rfl (fun p W' hwn hW => ?_)) ?_
  ·obtain ⟨nd, rfl⟩ := hW; first | rfl | (go_simp; done) | (go_simp; rfl) | (go_simp; simp only [i64_w]; done)
  try simp only [Act.put, List.setIfInBounds_toArray, List.set_cons_zero, List.set_cons_succ]
  refine AnyEvents.obs_cons (.int .i64 s1.long) rfl (AnyEvents.ob_plain rfl rfl rfl same rfl (fun p W' hwn hW => ?_)) ?_
  ·obtain ⟨nd, rfl⟩ := hW; have z0 : (W1.drewN nd).cell? ⟨g, 5, none⟩ = some (.int .i64 s1.long) := hc5; have z1 : (W1.drewN nd).frozen? ⟨g, 5, none⟩ = false := hf5; first | rfl | (go_simp; done) | (go_simp; rfl) | (go_simp; simp only [i64_w]; done)
  try simp only [Act.put, List.setIfInBounds_toArray, List.set_cons_zero, List.set_cons_succ]
  refine AnyEvents.obs_cons (.int .i64 (wrap64 (s1.room - s1.long))) rfl (AnyEvents.ob_plain rfl rfl rfl same rfl (fun p W' hwn hW => ?_)) ?_
  ·obtain ⟨nd, rfl⟩ := hW; first | rfl | (go_simp; done) | (go_simp; rfl) | (go_simp; simp only [i64_w]; done)
  try simp only [Act.put, List.setIfInBounds_toArray, List.set_cons_zero, List.set_cons_succ]
  refine AnyEvents.obs_cons (.int .i64 f) rfl (AnyEvents.ob_plain rfl rfl rfl same rfl (fun p W' hwn hW => ?_)) ?_
  ·obtain ⟨nd, rfl⟩ := hW; first | rfl | (go_simp; done) | (go_simp; rfl) | (go_simp; simp only [i64_w]; done)
  try simp only [Act.put, List.setIfInBounds_toArray, List.set_cons_zero, List.set_cons_succ]
  refine AnyEvents.obs_cons (.int .i64 f) rfl (AnyEvents.ob_plain rfl rfl rfl same rfl (fun p W' hwn hW => ?_)) ?_
  ·obtain ⟨nd, rfl⟩ := hW; first | rfl | (go_simp; done) | (go_simp; rfl) | (go_simp; simp only [i64_w]; done)
  try simp only [Act.put, List.setIfInBounds_toArray, List.set_cons_zero, List.set_cons_succ]
  trivial
 case fin =>
  intro x W' hD _
  simp only [List.take_succ_cons, List.take_zero, List.drop_succ_cons, List.drop_zero]
  rw [AnyOrder.lexAt_cons (.slice Af fr.length cf) rfl]
  try simp only [Act.put, List.setIfInBounds_toArray, List.set_cons_zero, List.set_cons_succ]
  rw [AnyOrder.lexAt_cons (.int .i64 (fr.length : Int)) rfl]
  try simp only [Act.put, List.setIfInBounds_toArray, List.set_cons_zero, List.set_cons_succ]
  rw [AnyOrder.lexAt_cons (.pointer (some ⟨g, 0, none⟩)) rfl]
  try simp only [Act.put, List.setIfInBounds_toArray, List.set_cons_zero, List.set_cons_succ]
  rw [AnyOrder.lexAt_cons (.pointer (some ⟨g, 0, none⟩)) rfl]
  try simp only [Act.put, List.setIfInBounds_toArray, List.set_cons_zero, List.set_cons_succ]
  rw [AnyOrder.lexAt_cons (.pointer (some ⟨g, 0, none⟩)) rfl]
  try simp only [Act.put, List.setIfInBounds_toArray, List.set_cons_zero, List.set_cons_succ]
  rw [AnyOrder.lexAt_cons (.int .i64 s1.room) rfl]
  try simp only [Act.put, List.setIfInBounds_toArray, List.set_cons_zero, List.set_cons_succ]
  rw [AnyOrder.lexAt_cons (.pointer (some ⟨g, 0, none⟩)) rfl]
  try simp only [Act.put, List.setIfInBounds_toArray, List.set_cons_zero, List.set_cons_succ]
  rw [AnyOrder.lexAt_cons (.pointer (some ⟨g, 0, none⟩)) rfl]
  try simp only [Act.put, List.setIfInBounds_toArray, List.set_cons_zero, List.set_cons_succ]
  rw [AnyOrder.lexAt_cons (.pointer (some ⟨g, 5, none⟩)) rfl]
  try simp only [Act.put, List.setIfInBounds_toArray, List.set_cons_zero, List.set_cons_succ]
  rw [AnyOrder.lexAt_cons (.int .i64 s1.long) rfl]
  try simp only [Act.put, List.setIfInBounds_toArray, List.set_cons_zero, List.set_cons_succ]
  rw [AnyOrder.lexAt_cons (.int .i64 (wrap64 (s1.room - s1.long))) rfl]
  try simp only [Act.put, List.setIfInBounds_toArray, List.set_cons_zero, List.set_cons_succ]
  rw [AnyOrder.lexAt_cons (.int .i64 f) rfl]
  try simp only [Act.put, List.setIfInBounds_toArray, List.set_cons_zero, List.set_cons_succ]
  rw [AnyOrder.lexAt_cons (.int .i64 f) rfl]
  try simp only [Act.put, List.setIfInBounds_toArray, List.set_cons_zero, List.set_cons_succ]
  rw [AnyOrder.lexAt_nil]
  clear same
  obtain ⟨nd, rfl⟩ := hD
  have i2 : GateAt (W1.drewN nd) w0.heap.size top g s1 := HI.out.drawn rfl
  have k2 : KeepT [53, 56] w (W1.drewN nd) := HK.out
  have b2 : Below w0.heap.size w0 (W1.drewN nd) := pw_below_drewN HB.out nd
  have f2 : ownsAt (W1.drewN nd) bf 9 1 (.slice Af fr.length cf) fr.length (txt fr) := HF.out
  have hz2 : (W1.drewN nd).heap.size = W1.heap.size := rfl
  clear hbg hc0 hc1 hc2 hc3 hc4 hc5 hc7 hf0 hf1 hf2 hf3 hf4 hf5 hf6 hf7 HQ HE hle hcm HI HK HB HF hfu
  generalize W1.drewN nd = W2 at i2 k2 b2 f2 hz2 ⊢
  have ht2 : top ≤ W2.heap.size := by omega
  have hw2 : w.heap.size ≤ W2.heap.size := by omega
  by_cases hpos : 0 < f
  ·have d1 : decide (0 < f) = true := decide_eq_true hpos
   have hheld : s1.held n f fr = { s1.enq n f fr with long := wrap64 (s1.long + f) } := by unfold GSt.held; rw [if_pos hpos]
   have HH := Aside0.mk hheld
   clear hheld
   have HF0 := Aside0.mk (show 0 ≤ f ∧ f ≤ (cf : Int) from ⟨by omega, by omega⟩)
   have hlen : (fr.take f.toNat).length = f.toNat := by rw [List.length_take]; omega
   have HFT := Aside0.mk (show ∀ W', ownsAt W' bf 9 1 (.slice Af fr.length cf) fr.length (txt fr) → ownsAt W' bf 9 1 (.slice Af f.toNat cf) (fr.take f.toNat).length (txt (fr.take f.toNat)) from fun W' h => by
    have h' := ownsAt_take h (k := f.toNat) (by omega)
    rw [hlen]; simpa [txt, List.map_take] using h')
   have HFL := Aside0.mk (rfl : Value.slice Af f.toNat cf = Value.slice Af f.toNat cf)
   obtain ⟨Az, cz, ⟨hbg, hle⟩, hcm, _, _, _, _, csz, HQ, HE⟩ := i2.cell
   have HC0 := Aside0.mk (show gate_Gate_Put.C w0 w bf g s1 n f fr Az Af cz cf 0 W2 from ⟨hbg, i2.ge, ⟨csz, HQ, QC_top ht2 HE⟩, f2, b2, k2⟩)
   clear hbg HQ HE hle hcm i2 k2 b2 f2 hpos
   go_upto_region 8 with fail
   clear d1
   have same : ∀ (p : Nat) (W' : World), gate_Gate_Put.C w0 w bf g s1 n f fr Az Af cz cf p W' → (fun (b : Bool) (_ : Nat) W1_ W2_ => KeepT [53, 56] W1_ W2_ ∧ (b = false → Below W1_.heap.size W1_ W2_)) false p W' W' := fun p W' _ => ⟨KeepT.refl _ _, fun _ => Below.refl _ _⟩
   refine AnyEvents.region_then 16 (E := [12, 15]) (C := fun p W' => gate_Gate_Put.C w0 w bf g s1 n f fr Az Af cz cf p W') (G := fun (b : Bool) (_ : Nat) W1_ W2_ => KeepT [53, 56] W1_ W2_ ∧ (b = false → Below W1_.heap.size W1_ W2_)) (T := [9, 10, 11, 12]) (R := gate_Gate_Put.R w0 s1 n f fr) (vs := [(.pointer (some ⟨g, 0, none⟩)), (.pointer (some ⟨g, 0, none⟩)), (.pointer (some ⟨g, 0, none⟩)), (.pointer (some ⟨g, 7, none⟩)), (.slice Az s1.q.length cz), (.int .i64 n), (.slice Af fr.length cf), (.int .i64 f), (.slice Af f.toNat cf), undef, undef, undef, undef, (.pointer (some ⟨g, 0, none⟩)), (.pointer (some ⟨g, 7, none⟩)), undef]) (by kernel_rfl) (by kernel_rfl) rfl (by kernel_rfl) ?hc0 same (fun b p j W1_ W2_ v hj hg h => gate_Gate_Put.R_keep hj hg h) (by decide) (fun x => ?obs) ?fin
   case hc0 => exact gate_Gate_Put.C_below (p := 0) HC0.out ⟨rfl, rfl, rfl, Nat.le_refl _, fun _ _ => rfl⟩
   case obs =>
    refine AnyEvents.obs_cons (.pointer (some ⟨g, 0, none⟩)) rfl (AnyEvents.ob_plain rfl rfl rfl same rfl (fun p W' hwn hC => by first | rfl | (go_simp; done) | (go_simp; rfl))) ?_
    try simp only [Act.put, List.setIfInBounds_toArray, List.set_cons_zero, List.set_cons_succ]
    refine AnyEvents.obs_cons (.pointer (some ⟨g, 0, none⟩)) rfl (AnyEvents.ob_plain rfl rfl rfl same rfl (fun p W' hwn hC => by first | rfl | (go_simp; done) | (go_simp; rfl))) ?_
    try simp only [Act.put, List.setIfInBounds_toArray, List.set_cons_zero, List.set_cons_succ]
    refine AnyEvents.obs_cons (.pointer (some ⟨g, 0, none⟩)) rfl (AnyEvents.ob_plain rfl rfl rfl same rfl (fun p W' hwn hC => by first | rfl | (go_simp; done) | (go_simp; rfl))) ?_
    try simp only [Act.put, List.setIfInBounds_toArray, List.set_cons_zero, List.set_cons_succ]
    refine AnyEvents.obs_cons (.pointer (some ⟨g, 7, none⟩)) rfl (AnyEvents.ob_plain rfl rfl rfl same rfl (fun p W' hwn hC => by first | rfl | (go_simp; done) | (go_simp; rfl))) ?_
    try simp only [Act.put, List.setIfInBounds_toArray, List.set_cons_zero, List.set_cons_succ]
    refine AnyEvents.obs_cons (.slice Az s1.q.length cz) rfl (AnyEvents.ob_plain rfl rfl rfl same rfl (fun p W' hwn hC => ?_)) ?_
    ·have hp := hwn.hi 0 12 rfl (by kernel_rfl); obtain rfl : p = 0 := by omega
     have z0 : W'.cell? ⟨g, 7, none⟩ = some (.slice Az s1.q.length cz) := blk_cell hC.1 7
     have z1 := blk_frozen hC.1 7
     clear hC
     first | (go_simp; done) | (go_simp; rfl)
    try simp only [Act.put, List.setIfInBounds_toArray, List.set_cons_zero, List.set_cons_succ]
    refine AnyEvents.obs_cons (.int .i64 n) rfl (AnyEvents.ob_plain rfl rfl rfl same rfl (fun p W' hwn hC => by first | rfl | (go_simp; done) | (go_simp; rfl))) ?_
    try simp only [Act.put, List.setIfInBounds_toArray, List.set_cons_zero, List.set_cons_succ]
    refine AnyEvents.obs_cons (.slice Af fr.length cf) rfl (AnyEvents.ob_plain rfl rfl rfl same rfl (fun p W' hwn hC => by first | rfl | (go_simp; done) | (go_simp; rfl))) ?_
    try simp only [Act.put, List.setIfInBounds_toArray, List.set_cons_zero, List.set_cons_succ]
    refine AnyEvents.obs_cons (.int .i64 f) rfl (AnyEvents.ob_plain rfl rfl rfl same rfl (fun p W' hwn hC => by first | rfl | (go_simp; done) | (go_simp; rfl))) ?_
    try simp only [Act.put, List.setIfInBounds_toArray, List.set_cons_zero, List.set_cons_succ]
    refine AnyEvents.obs_cons (.slice Af f.toNat cf) rfl (AnyEvents.ob_plain rfl rfl rfl same rfl (fun p W' hwn hC => run_head Try.underlying28 (by kernel_rfl) rfl rfl rfl HF0.out.1 HF0.out.2)) ?_
    try simp only [Act.put, List.setIfInBounds_toArray, List.set_cons_zero, List.set_cons_succ]
    refine AnyEvents.obs_cons (x 9) rfl (AnyEvents.ob_hand rfl (fun p W' hwn hC _ => ?_)) ?_
    ·have hp := hwn.hi 0 12 rfl (by kernel_rfl); obtain rfl : p = 0 := by omega
     obtain ⟨h1, h2, h3, h5, h6, h7⟩ := hC
     obtain ⟨v', w', hr, ho, hg, _⟩ := run_append_ats (P := Try.prog) (w := W') (base := W'.heap.size) (t := 28) (ty := 28) (e := 9) (z := .string (⟨#[]⟩ : ByteArray)) (size := 1) (bytes := 16) Try.underlying28 (by kernel_rfl) rfl (by decide) (ownsAt_nil W' W'.heap.size 9 1) (HFT.out W' h5) (texts_one _) (by simp only [maxLen, List.length_take]; omega) (by simp only [List.length_take]; omega) (Nat.le_refl _)
     refine res_ok (exec_append' rfl rfl HFL.out hr) ⟨gate_Gate_Put.C_below (p := 0) ⟨h1, h2, h3, h5, h6, h7⟩ (below_grown hg), ⟨KeepT.of_below (below_grown hg), fun _ => below_grown hg⟩, ?_⟩
     rw [if_pos (by decide)]; unfold gate_Gate_Put.R; rw [if_pos rfl]
     simpa using ownsAt_base ho h6.size
    try simp only [Act.put, List.setIfInBounds_toArray, List.set_cons_zero, List.set_cons_succ]
    refine AnyEvents.obs_cons (x 10) rfl (AnyEvents.ob_hand rfl (fun p W' hwn hC ht => ?_)) ?_
    ·have h9 := ht 9 _ _ rfl rfl (by decide) (by kernel_rfl)
     unfold gate_Gate_Put.R at h9; rw [if_pos rfl] at h9
     obtain ⟨A9, c9, e9, _⟩ := ownsAt_len h9
     refine res_ok (v := .agg #[.int .i64 n, x 9]) (w' := W') (by rw [e9]; first | (go_simp; done) | (go_simp; rfl)) ⟨hC, ⟨KeepT.refl _ _, fun _ => Below.refl _ _⟩, ?_⟩
     rw [if_pos (by decide)]; unfold gate_Gate_Put.R; rw [if_neg (by decide), if_pos rfl]
     exact ⟨_, rfl, h9⟩
    try simp only [Act.put, List.setIfInBounds_toArray, List.set_cons_zero, List.set_cons_succ]
    refine AnyEvents.obs_cons (x 11) rfl (AnyEvents.ob_hand rfl (fun p W' hwn hC ht => ?_)) ?_
    ·have hp := hwn.hi 0 12 rfl (by kernel_rfl); obtain rfl : p = 0 := by omega
     have h10 := ht 10 _ _ rfl rfl (by decide) (by kernel_rfl)
     unfold gate_Gate_Put.R at h10; rw [if_neg (by decide), if_pos rfl] at h10
     obtain ⟨f9, e10, h9⟩ := h10
     obtain ⟨A9, c9, rfl, _⟩ := ownsAt_len h9
     have hb := below_alloc (Below.refl W'.heap.size W') (Obj.cells #[.int .i64 n, .slice A9 (fr.take f.toNat).length c9] 56)
     refine res_ok (v := .slice (some ⟨W'.heap.size, 0, none⟩) 1 1) (w' := W'.alloc (.cells #[.int .i64 n, .slice A9 (fr.take f.toNat).length c9] 56)) (by rw [e10]; first | (go_simp; done) | (go_simp; rfl)) ⟨gate_Gate_Put.C_below (p := 0) hC hb, ⟨KeepT.of_below hb, fun _ => hb⟩, ?_⟩
     rw [if_pos (by decide)]; unfold gate_Gate_Put.R; rw [if_neg (by decide), if_neg (by decide), if_pos rfl]
     exact fun _ => ⟨_, ⟨rfl, .inr ⟨W'.heap.size, 0, 1, _, rfl, Nat.zero_le _, blk_new _ _, Nat.le_refl _, by simp [maxLen], by simp, rfl⟩⟩, ownsAt_kept h9 (fun g_ cur_ _ hg_ => hb.block g_ (Array.getElem?_eq_some_iff.1 hg_).1)⟩
    try simp only [Act.put, List.setIfInBounds_toArray, List.set_cons_zero, List.set_cons_succ]
    refine AnyEvents.obs_cons (x 12) rfl (AnyEvents.ob_hand rfl (fun p W' hwn hC ht => ?_)) ?_
    ·obtain rfl : p = 0 := hwn.at_ 0 rfl
     have h11 := ht 11 _ _ rfl rfl (by decide) (by kernel_rfl)
     unfold gate_Gate_Put.R at h11; rw [if_neg (by decide), if_neg (by decide), if_pos rfl] at h11
     obtain ⟨f9, ha, h9⟩ := h11 rfl
     obtain ⟨A9, c9, rfl, _⟩ := ownsAt_len h9
     obtain ⟨h1, h2, ⟨cs, h3, h4⟩, h5, h6, h7⟩ := hC
     obtain ⟨v', w', hr, ho, hg, _⟩ := run_append_ats (P := Try.prog) (t := 51) (ty := 51) (e := 56) (z := .agg #[.int .i64 0, .slice none 0 0]) (size := 2) (bytes := 32) Try.underlying51 (by kernel_rfl) rfl (by decide) h3 ha rfl (by simp only [maxLen]; omega) (by omega) h6.size
     have hrow : ∀ b, Value.ownBlock (.slice Az s1.q.length cz) = some b → w0.heap.size ≤ b ∧ ∃ cur, W'.heap[b]? = some (Obj.cells cur 56 (0, 0)) := fun b hb => ownsAt_block h3 hb
     have hk : KeepT [53, 56] W' w' := KeepT.of_grown hg (fun b hb => by obtain ⟨_, cur', hc'⟩ := hrow b hb; exact ⟨cur', _, hc', by decide⟩)
     have hgk : w'.heap[g]? = W'.heap[g]? := hg.block g (blk_lt h1) (fun he => by obtain ⟨_, cur', hc'⟩ := hrow g he.symm; rw [h1] at hc'; simp at hc')
     have hb := below_of_grown h6 hg h6.size (fun b hb => (hrow b hb).1)
     refine res_ok (exec_append' rfl rfl rfl hr) ⟨show gate_Gate_Put.C w0 w bf g s1 n f fr Az Af cz cf 1 w' from ⟨hgk.trans h1, h2, hb, h7.trans hk⟩, ⟨hk, fun h => by cases h⟩, ?_⟩
     rw [if_pos (by decide)]; unfold gate_Gate_Put.R; rw [if_neg (by decide), if_neg (by decide), if_neg (by decide)]
     exact fun _ => ⟨_, ho, QC_snoc (ownsAt_keepT h9 hk (by decide)) (fun b hb9 => by obtain ⟨_, _, hc⟩ := ownsAt_block h9 hb9; exact Nat.lt_of_lt_of_le (blk_lt hc) hg.size) (QC_top hg.size (QC_kept hk h4))⟩
    try simp only [Act.put, List.setIfInBounds_toArray, List.set_cons_zero, List.set_cons_succ]
    refine AnyEvents.obs_cons (.pointer (some ⟨g, 0, none⟩)) rfl (AnyEvents.ob_plain rfl rfl rfl same rfl (fun p W' hwn hC => by first | rfl | (go_simp; done) | (go_simp; rfl))) ?_
    try simp only [Act.put, List.setIfInBounds_toArray, List.set_cons_zero, List.set_cons_succ]
    refine AnyEvents.obs_cons (.pointer (some ⟨g, 7, none⟩)) rfl (AnyEvents.ob_plain rfl rfl rfl same rfl (fun p W' hwn hC => by first | rfl | (go_simp; done) | (go_simp; rfl))) ?_
    try simp only [Act.put, List.setIfInBounds_toArray, List.set_cons_zero, List.set_cons_succ]
    refine AnyEvents.obs_cons undef rfl (AnyEvents.ob_hand rfl (fun p W' hwn hC ht => ?_)) ?_
    ·obtain rfl : p = 1 := hwn.at_ 1 rfl
     have h12 := ht 12 _ _ rfl rfl (by decide) (by kernel_rfl)
     unfold gate_Gate_Put.R at h12; rw [if_neg (by decide), if_neg (by decide), if_neg (by decide)] at h12
     obtain ⟨cs, ho, hq⟩ := h12 ⟨rfl, rfl⟩
     obtain ⟨A12, c12, e12, _⟩ := ownsAt_len ho
     rw [e12] at ho
     obtain ⟨h1, h2, h6, h7⟩ := hC
     have hk := KeepT.set (T := [53, 56]) h1 (by decide) 7 (.slice A12 (s1.q.length + 1) c12)
     have hk' := KeepT.set (T := [53]) h1 (by decide) 7 (.slice A12 (s1.q.length + 1) c12)
     have hz : (W'.setCell ⟨g, 7, none⟩ (.slice A12 (s1.q.length + 1) c12)).heap.size = W'.heap.size := by simp [World.setCell]
     refine res_skip (w' := W'.setCell ⟨g, 7, none⟩ (.slice A12 (s1.q.length + 1) c12)) (run_store1 (y := .tmp 65) rfl rfl e12 h1 (by simp [cellsG]) rfl rfl (by kernel_rfl)) ⟨show gate_Gate_Put.C w0 w bf g s1 n f fr Az Af cz cf 2 _ from ⟨⟨_, cs, blk_put h1 7 _ rfl, h2, ?_, ?_⟩, below_set h6 h2, h7.trans hk⟩, ⟨hk, fun h => by cases h⟩, rfl⟩
     ·show ownsAt _ _ 56 2 _ (s1.q ++ [(n, (fr.take f.toNat))]).length cs; rw [List.length_append]; exact ownsAt_keepT ho hk' (by decide)
     ·rw [hz]; exact QC_kept hk hq
    try simp only [Act.put, List.setIfInBounds_toArray, List.set_cons_zero, List.set_cons_succ]
    trivial
   case fin =>
    intro x W' hC _
    simp only [List.take_succ_cons, List.take_zero, List.drop_succ_cons, List.drop_zero]
    rw [AnyOrder.lexAt_cons (.pointer (some ⟨g, 0, none⟩)) rfl]
    try simp only [Act.put, List.setIfInBounds_toArray, List.set_cons_zero, List.set_cons_succ]
    rw [AnyOrder.lexAt_cons (.pointer (some ⟨g, 0, none⟩)) rfl]
    try simp only [Act.put, List.setIfInBounds_toArray, List.set_cons_zero, List.set_cons_succ]
    rw [AnyOrder.lexAt_cons (.pointer (some ⟨g, 0, none⟩)) rfl]
    try simp only [Act.put, List.setIfInBounds_toArray, List.set_cons_zero, List.set_cons_succ]
    rw [AnyOrder.lexAt_cons (.pointer (some ⟨g, 7, none⟩)) rfl]
    try simp only [Act.put, List.setIfInBounds_toArray, List.set_cons_zero, List.set_cons_succ]
    rw [AnyOrder.lexAt_cons (.slice Az s1.q.length cz) rfl]
    try simp only [Act.put, List.setIfInBounds_toArray, List.set_cons_zero, List.set_cons_succ]
    rw [AnyOrder.lexAt_cons (.int .i64 n) rfl]
    try simp only [Act.put, List.setIfInBounds_toArray, List.set_cons_zero, List.set_cons_succ]
    rw [AnyOrder.lexAt_cons (.slice Af fr.length cf) rfl]
    try simp only [Act.put, List.setIfInBounds_toArray, List.set_cons_zero, List.set_cons_succ]
    rw [AnyOrder.lexAt_cons (.int .i64 f) rfl]
    try simp only [Act.put, List.setIfInBounds_toArray, List.set_cons_zero, List.set_cons_succ]
    rw [AnyOrder.lexAt_cons (.slice Af f.toNat cf) rfl]
    try simp only [Act.put, List.setIfInBounds_toArray, List.set_cons_zero, List.set_cons_succ]
    rw [AnyOrder.lexAt_cons (x 9) rfl]
    try simp only [Act.put, List.setIfInBounds_toArray, List.set_cons_zero, List.set_cons_succ]
    rw [AnyOrder.lexAt_cons (x 10) rfl]
    try simp only [Act.put, List.setIfInBounds_toArray, List.set_cons_zero, List.set_cons_succ]
    rw [AnyOrder.lexAt_cons (x 11) rfl]
    try simp only [Act.put, List.setIfInBounds_toArray, List.set_cons_zero, List.set_cons_succ]
    rw [AnyOrder.lexAt_cons (x 12) rfl]
    try simp only [Act.put, List.setIfInBounds_toArray, List.set_cons_zero, List.set_cons_succ]
    rw [AnyOrder.lexAt_cons (.pointer (some ⟨g, 0, none⟩)) rfl]
    try simp only [Act.put, List.setIfInBounds_toArray, List.set_cons_zero, List.set_cons_succ]
    rw [AnyOrder.lexAt_cons (.pointer (some ⟨g, 7, none⟩)) rfl]
    try simp only [Act.put, List.setIfInBounds_toArray, List.set_cons_zero, List.set_cons_succ]
    rw [AnyOrder.lexAt_cons undef rfl]
    try simp only [Act.put, List.setIfInBounds_toArray, List.set_cons_zero, List.set_cons_succ]
    rw [AnyOrder.lexAt_nil]
    clear same
    have i3 : GateAt W' w0.heap.size W'.heap.size g (s1.enq n f fr) := hC.1
    have HA3 := Aside0.mk hC
    clear hC HC0 HF0 HFT HFL
    obtain ⟨Az', cz', ⟨hbg, hle⟩, hcm, ⟨hc0, hc1, hc2, hc3⟩, ⟨hc4, hc5, hc6, hc7⟩, ⟨hf0, hf1, hf2, hf3⟩, ⟨hf4, hf5, hf6, hf7⟩, csz', HQ, HE⟩ := i3.cell
    go_upto_region 10 with fail
    have hn5 : (s1.enq n f fr).long = s1.long := rfl
    try rw [hn5]
    clear hbg hc0 hc1 hc2 hc3 hc4 hc5 hc6 hc7 hf0 hf1 hf2 hf3 hf4 hf5 hf6 hf7 HQ HE hle hcm
    have hz : (W'.setCell ⟨g, 5, none⟩ (.int .i64 (wrap64 (s1.long + f)))).heap.size = W'.heap.size := by simp [World.setCell]
    have i4 : GateAt (W'.setCell ⟨g, 5, none⟩ (.int .i64 (wrap64 (s1.long + f)))) w0.heap.size (W'.setCell ⟨g, 5, none⟩ (.int .i64 (wrap64 (s1.long + f)))).heap.size g { s1.enq n f fr with long := wrap64 (s1.long + f) } := by
     rw [hz]; exact i3.set 5 _ rfl (fun v => rfl)
    have k4 : KeepT [53, 56] w (W'.setCell ⟨g, 5, none⟩ (.int .i64 (wrap64 (s1.long + f)))) := GateAt.keep_set HA3.out.2.2 i3 5 _
    have HA4 := Aside0.mk (And.intro i4 (And.intro (show Below w0.heap.size w0 (W'.setCell ⟨g, 5, none⟩ (.int .i64 (wrap64 (s1.long + f)))) from below_set HA3.out.2.1 i3.ge) (And.intro k4 k4.1)))
    clear i3 i4 k4 HA3 hz
    generalize W'.setCell ⟨g, 5, none⟩ (.int .i64 (wrap64 (s1.long + f))) = W4 at HA4 ⊢
    have i4 := HA4.out.1
    obtain ⟨Ay, cy, ⟨hbg, hle⟩, hcm, ⟨hc0, hc1, hc2, hc3⟩, ⟨hc4, hc5, hc6, hc7⟩, ⟨hf0, hf1, hf2, hf3⟩, ⟨hf4, hf5, hf6, hf7⟩, csy, HQ, HE⟩ := i4.cell
    clear hbg HQ HE hle hcm i4
    by_cases hlt : f < (fr.length : Int)
    ·have d2 : decide (f < (fr.length : Int)) = true := decide_eq_true hlt
     have HT := Aside0.mk hlt
     clear hlt
     go_wp2
     go_ret2
     have hr := HR.out
     rw [HH.out, if_pos HT.out] at hr
     subst hr
     have hz : ∀ u, (W4.setCell ⟨g, 4, none⟩ u).heap.size = W4.heap.size := fun u => by simp [World.setCell]
     exact ⟨_, W4.heap.size, rfl, HA4.out.1.set 4 _ (by show (GSt.drop _ _ _).q = _; unfold GSt.drop; rw [if_pos HT.out]) (fun v => by show _ = cellsG (GSt.drop _ _ _) v; unfold GSt.drop; rw [if_pos HT.out]; rfl), ownsAt_nil _ _ _ _, HA4.out.2.2.2, by rw [hz]; exact Nat.le_refl _, below_set HA4.out.2.1 HA4.out.1.ge, GateAt.keep_set HA4.out.2.2.1 HA4.out.1 4 _⟩
    ·have d2 : decide (f < (fr.length : Int)) = false := decide_eq_false hlt
     have HT := Aside0.mk hlt
     clear hlt
     go_wp2
     go_ret2
     have hr := HR.out
     rw [HH.out, if_neg (by have := HT.out; omega)] at hr
     subst hr
     exact ⟨_, W4.heap.size, rfl, by show GateAt _ _ _ _ (GSt.drop _ _ _); unfold GSt.drop; rw [if_neg (by have := HT.out; omega)]; exact HA4.out.1, ownsAt_nil _ _ _ _, HA4.out.2.2.2, Nat.le_refl _, HA4.out.2.1, HA4.out.2.2.1⟩
  ·have d1 : decide (0 < f) = false := decide_eq_false hpos
   have HH := Aside0.mk (show s1.held n f fr = s1 by unfold GSt.held; rw [if_neg hpos])
   have HA4 := Aside0.mk (And.intro (i2.top ht2) (And.intro b2 (And.intro k2 hw2)))
   clear i2 b2 k2 f2 hpos
   go_upto_region 10 with fail
   clear d1
   generalize W2 = W4 at HA4 hz2 ht2 hw2 ⊢
   have i4 := HA4.out.1
   obtain ⟨Ay, cy, ⟨hbg, hle⟩, hcm, ⟨hc0, hc1, hc2, hc3⟩, ⟨hc4, hc5, hc6, hc7⟩, ⟨hf0, hf1, hf2, hf3⟩, ⟨hf4, hf5, hf6, hf7⟩, csy, HQ, HE⟩ := i4.cell
   clear hbg HQ HE hle hcm i4
   by_cases hlt : f < (fr.length : Int)
   ·have d2 : decide (f < (fr.length : Int)) = true := decide_eq_true hlt
    have HT := Aside0.mk hlt
    clear hlt
    go_wp2
    go_ret2
    have hr := HR.out
    rw [HH.out, if_pos HT.out] at hr
    subst hr
    have hz : ∀ u, (W4.setCell ⟨g, 4, none⟩ u).heap.size = W4.heap.size := fun u => by simp [World.setCell]
    exact ⟨_, W4.heap.size, rfl, HA4.out.1.set 4 _ (by show (GSt.drop _ _ _).q = _; unfold GSt.drop; rw [if_pos HT.out]) (fun v => by show _ = cellsG (GSt.drop _ _ _) v; unfold GSt.drop; rw [if_pos HT.out]; rfl), ownsAt_nil _ _ _ _, HA4.out.2.2.2, by rw [hz]; exact Nat.le_refl _, below_set HA4.out.2.1 HA4.out.1.ge, GateAt.keep_set HA4.out.2.2.1 HA4.out.1 4 _⟩
   ·have d2 : decide (f < (fr.length : Int)) = false := decide_eq_false hlt
    have HT := Aside0.mk hlt
    clear hlt
    go_wp2
    go_ret2
    have hr := HR.out
    rw [HH.out, if_neg (by have := HT.out; omega)] at hr
    subst hr
    exact ⟨_, W4.heap.size, rfl, by show GateAt _ _ _ _ (GSt.drop _ _ _); unfold GSt.drop; rw [if_neg (by have := HT.out; omega)]; exact HA4.out.1, ownsAt_nil _ _ _ _, HA4.out.2.2.2, Nat.le_refl _, HA4.out.2.1, HA4.out.2.2.1⟩



/-! ### gate_Gate_Open: function 13 (by hand) -/
def GSt.open_ (s : GSt) : GSt × List ByteArray := GSt.until { s with opn := true, conf := 0 } s.last
set_option maxHeartbeats 4000000 in
set_option maxRecDepth 100000 in
theorem gate_Gate_Open.calls (g top : Nat) (s : GSt) (w0 w : World) (hG : GateAt w w0.heap.size top g s) (hB : Below w0.heap.size w0 w) (ht : top ≤ w.heap.size) (hl : s.open_.2.length ≤ 1099511627776) :
  Calls Try.prog 13 #[.pointer (some ⟨g, 0, none⟩)] w fun e w' => ∃ v, e = .returned v ∧ GateAt w' w0.heap.size top g s.open_.1 ∧ ownsAt w' w.heap.size 9 1 v s.open_.2.length (txt s.open_.2) ∧ Below w0.heap.size w0 w' ∧ KeepT [53, 56] w w' := by
 have HI := Aside0.mk hG
 have HB := Aside0.mk hB
 clear hG hB
 obtain ⟨Az, cz, ⟨hbg, hle⟩, hcm, ⟨hc0, hc1, hc2, hc3⟩, ⟨hc4, hc5, hc6, hc7⟩, ⟨hf0, hf1, hf2, hf3⟩, ⟨hf4, hf5, hf6, hf7⟩, csz, HQ, HE⟩ := HI.out.cell
 unfold GSt.open_ at hl ⊢
 have hq1 : (GSt.q { s with opn := true, conf := 0 }) = s.q := rfl
 have hg1 : ∀ v, ((cellsG s v).setIfInBounds 6 (.bool true)).setIfInBounds 2 (.int .i64 0) = cellsG { s with opn := true, conf := 0 } v := fun v => rfl
 have hk : s.last = (GSt.last { s with opn := true, conf := 0 }) := rfl
 rw [hk] at hl ⊢
 generalize ({ s with opn := true, conf := 0 } : GSt) = s1 at hl hk hq1 hg1 ⊢
 have HQ1 := Aside0.mk hq1
 have HG1 := Aside0.mk hg1
 clear hq1 hg1 hk
 go_enter Try.func13, Try.ntmps13
 go_upto_region 2 with fail
 clear hbg hc0 hc1 hc2 hc3 hc4 hc5 hc6 hc7 hf0 hf1 hf2 hf3 hf4 hf5 hf6 hf7 HQ HE hle hcm
 have i1 : GateAt (w.setCell ⟨g, 6, none⟩ (.bool true)) w0.heap.size top g { s with opn := true } := HI.out.set 6 _ rfl (fun v => rfl)
 have k1 : KeepT [53, 56] w (w.setCell ⟨g, 6, none⟩ (.bool true)) := GateAt.keep_set (KeepT.refl [53, 56] _) HI.out 6 _
 have i2 : GateAt ((w.setCell ⟨g, 6, none⟩ (.bool true)).setCell ⟨g, 2, none⟩ (.int .i64 0)) w0.heap.size top g s1 := i1.set 2 _ HQ1.out HG1.out
 have k2 : KeepT [53, 56] w ((w.setCell ⟨g, 6, none⟩ (.bool true)).setCell ⟨g, 2, none⟩ (.int .i64 0)) := GateAt.keep_set k1 i1 2 _
 have b2 : Below w0.heap.size w0 ((w.setCell ⟨g, 6, none⟩ (.bool true)).setCell ⟨g, 2, none⟩ (.int .i64 0)) := below_set (below_set HB.out HI.out.ge) HI.out.ge
 have ha := And.intro i2 (And.intro b2 (And.intro k2.1 k2))
 clear i1 i2 b2 k1 k2 HI HB
 generalize (w.setCell ⟨g, 6, none⟩ (.bool true)).setCell ⟨g, 2, none⟩ (.int .i64 0) = W1 at ha ⊢
 have HA := Aside0.mk ha
 clear ha
 have HI := Aside0.mk HA.out.1
 obtain ⟨Az, cz, ⟨hbg, hle⟩, hcm, ⟨hc0, hc1, hc2, hc3⟩, ⟨hc4, hc5, hc6, hc7⟩, ⟨hf0, hf1, hf2, hf3⟩, ⟨hf4, hf5, hf6, hf7⟩, csz, HQ, HE⟩ := HI.out.cell
 go_wp2_with fail
 refine (gate_Gate_until.calls g top s1 s1.last w0 _ HA.out.1 HA.out.2.1 (Nat.le_trans ht HA.out.2.2.1) hl).mono ?_
 rintro e W2 ⟨v, rfl, i2, o2, b2, k2⟩
 have i2 := Aside0.mk i2; have o2 := Aside0.mk o2; have b2 := Aside0.mk b2; have k2 := Aside0.mk (HA.out.2.2.2.trans k2)
 have hz := HA.out.2.2.1
 clear HA
 go_wp2
 go_ret
 exact ⟨v, rfl, i2.out, ownsAt_base o2.out hz, b2.out, k2.out⟩


/-! ### sternpostbook_SameTexts: function 16 -/
def sternpostbook_SameTexts.l0 : Nat → List ByteArray → List ByteArray → Int → Option (Bool)
 | 0, _, _, _ => none
 | k + 1, x0, x1, x5 => if x5 < (x0.length : Int) then (if 0 ≤ x5 then (if x5 < (x1.length : Int) then (if (rdOf ByteArray.empty x0 x5).toList = (rdOf ByteArray.empty x1 x5).toList then (sternpostbook_SameTexts.l0 k x0 x1 (wrap64 (x5 + 1))) else (some false)) else (none)) else (none)) else (some true)
def sternpostbook_SameTexts.f (k : Nat) (l0 : List ByteArray) (l1 : List ByteArray) : Option (Bool) := if (l0.length : Int) = (l1.length : Int) then (sternpostbook_SameTexts.l0 k l0 l1 0) else (some false)
theorem sternpostbook_SameTexts.mono_l : ∀ k, (∀ y0 y1 y2, LeO (sternpostbook_SameTexts.l0 k y0 y1 y2) (sternpostbook_SameTexts.l0 (k + 1) y0 y1 y2))
 | 0 => fun _ _ _ r h => by simp [sternpostbook_SameTexts.l0] at h
 | k + 1 => by
  have ih0 := sternpostbook_SameTexts.mono_l k
  ·intro y0 y1 y2
   unfold sternpostbook_SameTexts.l0
   repeat' first
   | (with_reducible exact ih0 _ _ _)
   | (with_reducible exact LeO.refl _)
   | (with_reducible exact LeO.none _)
   | (with_reducible refine LeO.ite ?_ ?_)
   | (with_reducible refine LeO.bind ?_ (fun _ => ?_))
   | exact ih0 _ _ _
   | exact LeO.none _
   | refine LeO.ite ?_ ?_
   | refine LeO.bind ?_ (fun _ => ?_)
theorem sternpostbook_SameTexts.mono : ∀ a0 a1 k, LeO (sternpostbook_SameTexts.f k a0 a1) (sternpostbook_SameTexts.f (k + 1) a0 a1) := by
 intro a0 a1 k
 have ih0 := sternpostbook_SameTexts.mono_l k
 unfold sternpostbook_SameTexts.f
 repeat' first
   | (with_reducible exact ih0 _ _ _)
   | (with_reducible exact LeO.refl _)
   | (with_reducible exact LeO.none _)
   | (with_reducible refine LeO.ite ?_ ?_)
   | (with_reducible refine LeO.bind ?_ (fun _ => ?_))
   | exact ih0 _ _ _
   | exact LeO.none _
   | refine LeO.ite ?_ ?_
   | refine LeO.bind ?_ (fun _ => ?_)
set_option maxHeartbeats 8000000 in
set_option maxRecDepth 100000 in
theorem sternpostbook_SameTexts.calls (k : Nat) (A0 : Option Addr) (c0 : Nat) (l0 : List ByteArray) (A1 : Option Addr) (c1 : Nat) (l1 : List ByteArray) (r : Bool) (w : World) (hr0 : Kd.C Kd.string w A0 l0.length l0) (hc0 : l0.length ≤ c0) (hr1 : Kd.C Kd.string w A1 l1.length l1) (hc1 : l1.length ≤ c1) (h : sternpostbook_SameTexts.f k l0 l1 = some r) :
  Calls Try.prog 16 #[.slice A0 l0.length c0, .slice A1 l1.length c1] w fun e w' => e = .returned (.bool r) ∧ Drawn0 w w' := by
 have HR0 := Aside0.mk hr0
 have HC0 := Aside0.mk hc0
 clear hr0 hc0
 have HR1 := Aside0.mk hr1
 have HC1 := Aside0.mk hc1
 clear hr1 hc1
 have H : (if (l0.length : Int) = (l1.length : Int) then (sternpostbook_SameTexts.l0 k l0 l1 0) else (some false)) = some r := h
 clear h
 by_cases c3 : (l0.length : Int) = (l1.length : Int)
 ·rw [if_pos c3] at H
  have c3b0 : ((l0.length : Int) == (l1.length : Int)) = true := beq_iff_eq.mpr c3
  have c3b1 : ((l0.length : Int) != (l1.length : Int)) = false := bne_eq_false_iff_eq.mpr c3
  have c3b2 : (l0.length == l1.length) = true := by first | simpa using c3 | (simp at c3 ⊢; omega)
  clear c3
  have H' := Aside0.mk H
  clear H
  go_enter Try.func16, Try.ntmps16
  go_wp2
  repeat (go_quiet (fail); try go_wp2)
  go_loopg [5] k (fun kq v5 w' => ∃ (x5_1 : Int), v5 = .int .i64 x5_1 ∧ Aside0 (sternpostbook_SameTexts.l0 kq l0 l1 x5_1 = some r) ∧ Aside0 (kq ≤ k) ∧ Drawn0 w w')
  case atStart => exact ⟨(0), (by first | rfl | (simp; done) | (simp [*]; done)), H', ⟨Nat.le_refl _⟩, by repeat (first | exact Drawn0.refl _ | apply Drawn0.step)⟩
  case round =>
   clear H'
   try clear c1; try clear p2; try clear c3; try clear c3b0; try clear c3b1; try clear c3b2
   obtain ⟨x5_1, rfl, HA, HK1, ⟨m1, rfl⟩⟩ := hrel
   cases gk with
   | zero => exact absurd HA.out (by simp [sternpostbook_SameTexts.l0])
   | succ k1 =>
    have H := HA.out
    clear HA
    simp only [sternpostbook_SameTexts.l0] at H
    by_cases c4 : x5_1 < (l0.length : Int)
    ·rw [if_pos c4] at H
     have c4b0 : decide (x5_1 < (l0.length : Int)) = true := decide_eq_true c4
     clear c4
     by_cases c5 : 0 ≤ x5_1
     ·rw [if_pos c5] at H
      have c5b0 : decide (0 ≤ x5_1) = true := decide_eq_true c5
      clear c5
      by_cases c6 : x5_1 < (l1.length : Int)
      ·rw [if_pos c6] at H
       have c6b0 : decide (x5_1 < (l1.length : Int)) = true := decide_eq_true c6
       clear c6
       by_cases c7 : (rdOf ByteArray.empty l0 x5_1).toList = (rdOf ByteArray.empty l1 x5_1).toList
       ·rw [if_pos c7] at H
        have c7b0 : ((rdOf ByteArray.empty l0 x5_1).toList == (rdOf ByteArray.empty l1 x5_1).toList) = true := beq_iff_eq.mpr c7
        have c7b1 : ((rdOf ByteArray.empty l0 x5_1).toList != (rdOf ByteArray.empty l1 x5_1).toList) = false := bne_eq_false_iff_eq.mpr c7
        clear c7
        have H' := Aside0.mk H
        clear H
        have p101 : 0 ≤ (x5_1 : Int) := of_decide_eq_true (by first | (with_reducible assumption) | assumption)
        have q101 : x5_1 < (l0.length : Int) := of_decide_eq_true (by first | (with_reducible assumption) | assumption)
        obtain ⟨ad101, e101, hx101_0⟩ := Kd.at_string HR0.out x5_1 p101 q101
        cases e101
        replace p101 := eq_true p101
        replace q101 := eq_true q101
        have p102 : 0 ≤ (x5_1 : Int) := of_decide_eq_true (by first | (with_reducible assumption) | assumption)
        have q102 : x5_1 < (l1.length : Int) := of_decide_eq_true (by first | (with_reducible assumption) | assumption)
        obtain ⟨ad102, e102, hx102_0⟩ := Kd.at_string HR1.out x5_1 p102 q102
        cases e102
        replace p102 := eq_true p102
        replace q102 := eq_true q102
        go_wp2
        repeat (go_quiet (fail); try go_wp2)
        go_roundg k1
        case measure => have := HK1.out; omega
        case rel => exact ⟨(wrap64 (x5_1 + 1)), (by first | rfl | (simp; done) | (simp [*]; done)), H', ⟨by have := HK1.out; omega⟩, by repeat (first | exact Drawn0.refl _ | apply Drawn0.step)⟩
       ·rw [if_neg c7] at H
        have c7b0 : ((rdOf ByteArray.empty l0 x5_1).toList == (rdOf ByteArray.empty l1 x5_1).toList) = false := beq_eq_false_iff_ne.mpr c7
        have c7b1 : ((rdOf ByteArray.empty l0 x5_1).toList != (rdOf ByteArray.empty l1 x5_1).toList) = true := bne_iff_ne.mpr c7
        obtain rfl := Option.some.inj H
        have p101 : 0 ≤ (x5_1 : Int) := of_decide_eq_true (by first | (with_reducible assumption) | assumption)
        have q101 : x5_1 < (l0.length : Int) := of_decide_eq_true (by first | (with_reducible assumption) | assumption)
        obtain ⟨ad101, e101, hx101_0⟩ := Kd.at_string HR0.out x5_1 p101 q101
        cases e101
        replace p101 := eq_true p101
        replace q101 := eq_true q101
        have p102 : 0 ≤ (x5_1 : Int) := of_decide_eq_true (by first | (with_reducible assumption) | assumption)
        have q102 : x5_1 < (l1.length : Int) := of_decide_eq_true (by first | (with_reducible assumption) | assumption)
        obtain ⟨ad102, e102, hx102_0⟩ := Kd.at_string HR1.out x5_1 p102 q102
        cases e102
        replace p102 := eq_true p102
        replace q102 := eq_true q102
        go_wp2
        repeat (go_quiet (fail); try go_wp2)
        go_ret
        exact ⟨by first | rfl | (simp; done) | (simp [*]; done), by repeat (first | exact Drawn0.refl _ | apply Drawn0.step)⟩
      ·rw [if_neg c6] at H
       exact absurd H (by simp)
     ·rw [if_neg c5] at H
      exact absurd H (by simp)
    ·rw [if_neg c4] at H
     have c4b0 : decide (x5_1 < (l0.length : Int)) = false := decide_eq_false c4
     clear c4
     obtain rfl := Option.some.inj H
     go_wp2
     repeat (go_quiet (fail); try go_wp2)
     go_ret
     exact ⟨by first | rfl | (simp; done) | (simp [*]; done), by repeat (first | exact Drawn0.refl _ | apply Drawn0.step)⟩
 ·rw [if_neg c3] at H
  have c3b0 : ((l0.length : Int) == (l1.length : Int)) = false := beq_eq_false_iff_ne.mpr c3
  have c3b1 : ((l0.length : Int) != (l1.length : Int)) = true := bne_iff_ne.mpr c3
  have c3b2 : (l0.length == l1.length) = false := by first | simpa using c3 | (simp at c3 ⊢; omega)
  obtain rfl := Option.some.inj H
  go_enter Try.func16, Try.ntmps16
  go_wp2
  repeat (go_quiet (fail); try go_wp2)
  go_ret
  exact ⟨by first | rfl | (simp; done) | (simp [*]; done), by repeat (first | exact Drawn0.refl _ | apply Drawn0.step)⟩


/-! ### sternpostlaw25_works: function 6 (by hand) -/
set_option maxHeartbeats 4000000 in
set_option maxRecDepth 100000 in
theorem sternpostlaw25_works.calls (w : World) : Calls Try.prog 6 #[] w fun e w' => e = .returned (.bool true) ∧ Below w.heap.size w w' := by
 have hz : (0 : Nat) ≤ w.heap.size := Nat.zero_le _
 go_enter Try.func6, Try.ntmps6
 go_wp2_with fail
 refine (gate_New.calls 9 w w (Below.refl _ _) (by decide) (by decide)).mono ?_
 rintro e W1 ⟨g, rfl, hG, hB, _, _⟩
 have HG := Aside0.mk hG; have HB := Aside0.mk hB; clear hG hB
 go_wp2_with fail
 refine (gate_Gate_Shut.calls g 0 (GSt.new 9) 1 w W1 HG.out HB.out (Nat.zero_le _) (by decide)).mono ?_
 rintro e W2 ⟨v, rfl, hG, _, hB, _⟩
 rw [show (GSt.new 9).shut 1 = ((⟨9, 0, 1, 0, 0, 0, false, []⟩ : GSt), []) from rfl] at hG
 clear HG HB; have HG := Aside0.mk hG; have HB := Aside0.mk hB; clear hG hB
 have HT := Aside0.mk (Nat.zero_le W2.heap.size)
 go_wp2_with fail
 have hb := below_alloc (Below.refl W2.heap.size W2) (Obj.cells #[.string (⟨#[97]⟩ : ByteArray)] 9)
 have hl := ownsAt_lit W2 #[.string (⟨#[97]⟩ : ByteArray)] 9 1 1 rfl (by decide)
 have HG_ := Aside0.mk (HG.out.kept hb); have HB_ := Aside0.mk (below_step HB.out hb); clear HG HB; have HG := HG_; have HB := HB_; clear HG_ HB_
 have HT_ := Aside0.mk (Nat.le_trans HT.out hb.size); clear HT; have HT := HT_; clear HT_
 refine (gate_Gate_Put.calls g _ _ (⟨9, 0, 1, 0, 0, 0, false, []⟩ : GSt) 1 _ [(⟨#[97]⟩ : ByteArray)] w _ HG.out HB.out HT.out hl (by decide) (by decide)).mono ?_
 rintro e W3 ⟨va, top1, rfl, hG, hO, _, hT, hB, hK⟩
 clear hb hl
 have hr : GSt.put (⟨9, 0, 1, 0, 0, 0, false, []⟩ : GSt) 1 [(⟨#[97]⟩ : ByteArray)] = ((⟨9, 1, 1, 1, 0, 0, false, []⟩ : GSt), [(⟨#[97]⟩ : ByteArray)], 0) := by first | rfl | kernel_rfl
 rw [hr] at hG hO
 clear HG HB HT; have HG := Aside0.mk hG; have HB := Aside0.mk hB; have HT := Aside0.mk hT
 have Oa := Aside0.mk (ownsAt_low hO); clear hG hB hT hO hK
 go_wp2_with fail
 have hb := below_alloc (Below.refl W3.heap.size W3) (Obj.cells #[.string (⟨#[98]⟩ : ByteArray)] 9)
 have hl := ownsAt_lit W3 #[.string (⟨#[98]⟩ : ByteArray)] 9 1 1 rfl (by decide)
 have HG_ := Aside0.mk (HG.out.kept hb); have HB_ := Aside0.mk (below_step HB.out hb); clear HG HB; have HG := HG_; have HB := HB_; clear HG_ HB_
 have Oa_ := Aside0.mk (ownsAt_below Oa.out hb); clear Oa; have Oa := Oa_; clear Oa_
 have HT_ := Aside0.mk (Nat.le_trans HT.out hb.size); clear HT; have HT := HT_; clear HT_
 refine (gate_Gate_Put.calls g _ _ (⟨9, 1, 1, 1, 0, 0, false, []⟩ : GSt) 2 _ [(⟨#[98]⟩ : ByteArray)] w _ HG.out HB.out HT.out hl (by decide) (by decide)).mono ?_
 rintro e W4 ⟨vb, top2, rfl, hG, hO, _, hT, hB, hK⟩
 clear hb hl
 have hr : GSt.put (⟨9, 1, 1, 1, 0, 0, false, []⟩ : GSt) 2 [(⟨#[98]⟩ : ByteArray)] = ((⟨9, 2, 1, 1, 0, 1, false, [(2, [(⟨#[98]⟩ : ByteArray)])]⟩ : GSt), [], 0) := by first | rfl | kernel_rfl
 rw [hr] at hG hO
 clear HG HB HT; have HG := Aside0.mk hG; have HB := Aside0.mk hB; have HT := Aside0.mk hT
 have Oa_ := Aside0.mk (ownsAt_keepT Oa.out hK (by decide)); clear Oa; have Oa := Oa_; clear Oa_
 have Ob := Aside0.mk (ownsAt_low hO); clear hG hB hT hO hK
 go_wp2_with fail
 have hb := below_alloc (Below.refl W4.heap.size W4) (Obj.cells #[.string (⟨#[99]⟩ : ByteArray)] 9)
 have hl := ownsAt_lit W4 #[.string (⟨#[99]⟩ : ByteArray)] 9 1 1 rfl (by decide)
 have HG_ := Aside0.mk (HG.out.kept hb); have HB_ := Aside0.mk (below_step HB.out hb); clear HG HB; have HG := HG_; have HB := HB_; clear HG_ HB_
 have Oa_ := Aside0.mk (ownsAt_below Oa.out hb); clear Oa; have Oa := Oa_; clear Oa_
 have Ob_ := Aside0.mk (ownsAt_below Ob.out hb); clear Ob; have Ob := Ob_; clear Ob_
 have HT_ := Aside0.mk (Nat.le_trans HT.out hb.size); clear HT; have HT := HT_; clear HT_
 refine (gate_Gate_Put.calls g _ _ (⟨9, 2, 1, 1, 0, 1, false, [(2, [(⟨#[98]⟩ : ByteArray)])]⟩ : GSt) 3 _ [(⟨#[99]⟩ : ByteArray)] w _ HG.out HB.out HT.out hl (by decide) (by decide)).mono ?_
 rintro e W5 ⟨vc, top3, rfl, hG, hO, _, hT, hB, hK⟩
 clear hb hl
 have hr : GSt.put (⟨9, 2, 1, 1, 0, 1, false, [(2, [(⟨#[98]⟩ : ByteArray)])]⟩ : GSt) 3 [(⟨#[99]⟩ : ByteArray)] = ((⟨9, 3, 1, 1, 0, 2, false, [(2, [(⟨#[98]⟩ : ByteArray)]), (3, [(⟨#[99]⟩ : ByteArray)])]⟩ : GSt), [], 0) := by first | rfl | kernel_rfl
 rw [hr] at hG hO
 clear HG HB HT; have HG := Aside0.mk hG; have HB := Aside0.mk hB; have HT := Aside0.mk hT
 have Oa_ := Aside0.mk (ownsAt_keepT Oa.out hK (by decide)); clear Oa; have Oa := Oa_; clear Oa_
 have Ob_ := Aside0.mk (ownsAt_keepT Ob.out hK (by decide)); clear Ob; have Ob := Ob_; clear Ob_
 have Oc := Aside0.mk (ownsAt_low hO); clear hG hB hT hO hK
 go_wp2_with fail
 refine (gate_Gate_Confirm.calls g _ (⟨9, 3, 1, 1, 0, 2, false, [(2, [(⟨#[98]⟩ : ByteArray)]), (3, [(⟨#[99]⟩ : ByteArray)])]⟩ : GSt) 2 w _ HG.out HB.out HT.out (by decide)).mono ?_
 rintro e Wd ⟨vd, rfl, hG, hO, hB, hK⟩
 have hr : GSt.confirm (⟨9, 3, 1, 1, 0, 2, false, [(2, [(⟨#[98]⟩ : ByteArray)]), (3, [(⟨#[99]⟩ : ByteArray)])]⟩ : GSt) 2 = ((⟨9, 3, 2, 2, 0, 1, false, [(3, [(⟨#[99]⟩ : ByteArray)])]⟩ : GSt), [(⟨#[98]⟩ : ByteArray)]) := by first | rfl | kernel_rfl
 rw [hr] at hG hO
 have HT_ := Aside0.mk (Nat.le_trans HT.out hK.1)
 clear HG HB HT; have HG := Aside0.mk hG; have HB := Aside0.mk hB; have HT := HT_; clear HT_
 have Oa_ := Aside0.mk (ownsAt_keepT Oa.out hK (by decide)); clear Oa; have Oa := Oa_; clear Oa_
 have Ob_ := Aside0.mk (ownsAt_keepT Ob.out hK (by decide)); clear Ob; have Ob := Ob_; clear Ob_
 have Oc_ := Aside0.mk (ownsAt_keepT Oc.out hK (by decide)); clear Oc; have Oc := Oc_; clear Oc_
 have Od := Aside0.mk (ownsAt_low hO); clear hG hB hO hK
 go_wp2_with fail
 refine (gate_Gate_Open.calls g _ (⟨9, 3, 2, 2, 0, 1, false, [(3, [(⟨#[99]⟩ : ByteArray)])]⟩ : GSt) w _ HG.out HB.out HT.out (by decide)).mono ?_
 rintro e Wf ⟨vf, rfl, hG, hO, hB, hK⟩
 have hr : GSt.open_ (⟨9, 3, 2, 2, 0, 1, false, [(3, [(⟨#[99]⟩ : ByteArray)])]⟩ : GSt) = ((⟨9, 3, 0, 3, 0, 0, true, []⟩ : GSt), [(⟨#[99]⟩ : ByteArray)]) := by first | rfl | kernel_rfl
 rw [hr] at hG hO
 have HT_ := Aside0.mk (Nat.le_trans HT.out hK.1)
 clear HG HB HT; have HG := Aside0.mk hG; have HB := Aside0.mk hB; have HT := HT_; clear HT_
 have Oa_ := Aside0.mk (ownsAt_keepT Oa.out hK (by decide)); clear Oa; have Oa := Oa_; clear Oa_
 have Ob_ := Aside0.mk (ownsAt_keepT Ob.out hK (by decide)); clear Ob; have Ob := Ob_; clear Ob_
 have Oc_ := Aside0.mk (ownsAt_keepT Oc.out hK (by decide)); clear Oc; have Oc := Oc_; clear Oc_
 have Od_ := Aside0.mk (ownsAt_keepT Od.out hK (by decide)); clear Od; have Od := Od_; clear Od_
 have Of := Aside0.mk (ownsAt_low hO); clear hG hB hO hK
 obtain ⟨Aa, ca, rfl, _⟩ := ownsAt_len Oa.out
 obtain ⟨Ab, cb, rfl, _⟩ := ownsAt_len Ob.out
 obtain ⟨Ac, cc, rfl, _⟩ := ownsAt_len Oc.out
 obtain ⟨Ad, cd, rfl, _⟩ := ownsAt_len Od.out
 obtain ⟨Af, cf, rfl, _⟩ := ownsAt_len Of.out
 go_wp2_with fail
 have hb := below_alloc (Below.refl Wf.heap.size Wf) (Obj.cells #[.string (⟨#[97]⟩ : ByteArray)] 9)
 have hl := ownsAt_lit Wf #[.string (⟨#[97]⟩ : ByteArray)] 9 1 1 rfl (by decide)
 have HG_ := Aside0.mk (HG.out.kept hb); have HB_ := Aside0.mk (below_step HB.out hb); clear HG HB; have HG := HG_; have HB := HB_; clear HG_ HB_
 have Oa_ := Aside0.mk (ownsAt_below Oa.out hb); clear Oa; have Oa := Oa_; clear Oa_
 have Ob_ := Aside0.mk (ownsAt_below Ob.out hb); clear Ob; have Ob := Ob_; clear Ob_
 have Oc_ := Aside0.mk (ownsAt_below Oc.out hb); clear Oc; have Oc := Oc_; clear Oc_
 have Od_ := Aside0.mk (ownsAt_below Od.out hb); clear Od; have Od := Od_; clear Od_
 have Of_ := Aside0.mk (ownsAt_below Of.out hb); clear Of; have Of := Of_; clear Of_
 have c0 := ownsAt_texts (l := [(⟨#[97]⟩ : ByteArray)]) Oa.out
 have c1 := ownsAt_texts (l := [(⟨#[97]⟩ : ByteArray)]) hl
 refine (sternpostbook_SameTexts.calls 5 Aa ca [(⟨#[97]⟩ : ByteArray)] _ 1 [(⟨#[97]⟩ : ByteArray)] true _ c0.1 c0.2 c1.1 c1.2 (by kernel_rfl)).mono ?_
 rintro e Xa ⟨rfl, hd⟩
 have hb' := hd.below
 clear hb hl c0 c1
 have HG_ := Aside0.mk (HG.out.kept hb'); have HB_ := Aside0.mk (below_step HB.out hb'); clear HG HB; have HG := HG_; have HB := HB_; clear HG_ HB_
 have Oa_ := Aside0.mk (ownsAt_below Oa.out hb'); clear Oa; have Oa := Oa_; clear Oa_
 have Ob_ := Aside0.mk (ownsAt_below Ob.out hb'); clear Ob; have Ob := Ob_; clear Ob_
 have Oc_ := Aside0.mk (ownsAt_below Oc.out hb'); clear Oc; have Oc := Oc_; clear Oc_
 have Od_ := Aside0.mk (ownsAt_below Od.out hb'); clear Od; have Od := Od_; clear Od_
 have Of_ := Aside0.mk (ownsAt_below Of.out hb'); clear Of; have Of := Of_; clear Of_
 clear hd hb'
 go_wp2_with fail
 have hb := below_alloc (Below.refl Xa.heap.size Xa) (Obj.cells #[.string (⟨#[98]⟩ : ByteArray)] 9)
 have hl := ownsAt_lit Xa #[.string (⟨#[98]⟩ : ByteArray)] 9 1 1 rfl (by decide)
 have HG_ := Aside0.mk (HG.out.kept hb); have HB_ := Aside0.mk (below_step HB.out hb); clear HG HB; have HG := HG_; have HB := HB_; clear HG_ HB_
 have Oa_ := Aside0.mk (ownsAt_below Oa.out hb); clear Oa; have Oa := Oa_; clear Oa_
 have Ob_ := Aside0.mk (ownsAt_below Ob.out hb); clear Ob; have Ob := Ob_; clear Ob_
 have Oc_ := Aside0.mk (ownsAt_below Oc.out hb); clear Oc; have Oc := Oc_; clear Oc_
 have Od_ := Aside0.mk (ownsAt_below Od.out hb); clear Od; have Od := Od_; clear Od_
 have Of_ := Aside0.mk (ownsAt_below Of.out hb); clear Of; have Of := Of_; clear Of_
 have c0 := ownsAt_texts (l := [(⟨#[98]⟩ : ByteArray)]) Od.out
 have c1 := ownsAt_texts (l := [(⟨#[98]⟩ : ByteArray)]) hl
 refine (sternpostbook_SameTexts.calls 5 Ad cd [(⟨#[98]⟩ : ByteArray)] _ 1 [(⟨#[98]⟩ : ByteArray)] true _ c0.1 c0.2 c1.1 c1.2 (by kernel_rfl)).mono ?_
 rintro e Xd ⟨rfl, hd⟩
 have hb' := hd.below
 clear hb hl c0 c1
 have HG_ := Aside0.mk (HG.out.kept hb'); have HB_ := Aside0.mk (below_step HB.out hb'); clear HG HB; have HG := HG_; have HB := HB_; clear HG_ HB_
 have Oa_ := Aside0.mk (ownsAt_below Oa.out hb'); clear Oa; have Oa := Oa_; clear Oa_
 have Ob_ := Aside0.mk (ownsAt_below Ob.out hb'); clear Ob; have Ob := Ob_; clear Ob_
 have Oc_ := Aside0.mk (ownsAt_below Oc.out hb'); clear Oc; have Oc := Oc_; clear Oc_
 have Od_ := Aside0.mk (ownsAt_below Od.out hb'); clear Od; have Od := Od_; clear Od_
 have Of_ := Aside0.mk (ownsAt_below Of.out hb'); clear Of; have Of := Of_; clear Of_
 clear hd hb'
 go_wp2_with fail
 have hb := below_alloc (Below.refl Xd.heap.size Xd) (Obj.cells #[.string (⟨#[99]⟩ : ByteArray)] 9)
 have hl := ownsAt_lit Xd #[.string (⟨#[99]⟩ : ByteArray)] 9 1 1 rfl (by decide)
 have HG_ := Aside0.mk (HG.out.kept hb); have HB_ := Aside0.mk (below_step HB.out hb); clear HG HB; have HG := HG_; have HB := HB_; clear HG_ HB_
 have Oa_ := Aside0.mk (ownsAt_below Oa.out hb); clear Oa; have Oa := Oa_; clear Oa_
 have Ob_ := Aside0.mk (ownsAt_below Ob.out hb); clear Ob; have Ob := Ob_; clear Ob_
 have Oc_ := Aside0.mk (ownsAt_below Oc.out hb); clear Oc; have Oc := Oc_; clear Oc_
 have Od_ := Aside0.mk (ownsAt_below Od.out hb); clear Od; have Od := Od_; clear Od_
 have Of_ := Aside0.mk (ownsAt_below Of.out hb); clear Of; have Of := Of_; clear Of_
 have c0 := ownsAt_texts (l := [(⟨#[99]⟩ : ByteArray)]) Of.out
 have c1 := ownsAt_texts (l := [(⟨#[99]⟩ : ByteArray)]) hl
 refine (sternpostbook_SameTexts.calls 5 Af cf [(⟨#[99]⟩ : ByteArray)] _ 1 [(⟨#[99]⟩ : ByteArray)] true _ c0.1 c0.2 c1.1 c1.2 (by kernel_rfl)).mono ?_
 rintro e Xf ⟨rfl, hd⟩
 have hb' := hd.below
 clear hb hl c0 c1
 have HG_ := Aside0.mk (HG.out.kept hb'); have HB_ := Aside0.mk (below_step HB.out hb'); clear HG HB; have HG := HG_; have HB := HB_; clear HG_ HB_
 have Oa_ := Aside0.mk (ownsAt_below Oa.out hb'); clear Oa; have Oa := Oa_; clear Oa_
 have Ob_ := Aside0.mk (ownsAt_below Ob.out hb'); clear Ob; have Ob := Ob_; clear Ob_
 have Oc_ := Aside0.mk (ownsAt_below Oc.out hb'); clear Oc; have Oc := Oc_; clear Oc_
 have Od_ := Aside0.mk (ownsAt_below Od.out hb'); clear Od; have Od := Od_; clear Od_
 have Of_ := Aside0.mk (ownsAt_below Of.out hb'); clear Of; have Of := Of_; clear Of_
 clear hd hb'
 go_wp2
 go_ret
 exact ⟨rfl, HB.out⟩


/-! ### sternpostbook_Among: function 8 -/
def sternpostbook_Among.f (a0 : Int) (a1 : Int) : Option (Int) := if a1 = 0 then (none) else (some (Int.tmod (wrap64 ((Int.tmod a0 a1) + a1)) a1))
set_option maxHeartbeats 8000000 in
set_option maxRecDepth 100000 in
theorem sternpostbook_Among.calls (a0 : Int) (a1 : Int) (r : Int) (w : World) (h : sternpostbook_Among.f a0 a1 = some r) :
  Calls Try.prog 8 #[.int .i64 a0, .int .i64 a1] w fun e w' => e = .returned (.int .i64 r) ∧ Drawn0 w w' := by
 have H : (if a1 = 0 then (none) else (some (Int.tmod (wrap64 ((Int.tmod a0 a1) + a1)) a1))) = some r := h
 clear h
 by_cases c3 : a1 = 0
 ·rw [if_pos c3] at H
  exact absurd H (by simp)
 ·rw [if_neg c3] at H
  have c3b0 : (a1 == 0) = false := beq_eq_false_iff_ne.mpr c3
  have c3b1 : (a1 != 0) = true := bne_iff_ne.mpr c3
  obtain rfl := Option.some.inj H
  go_enter Try.func8, Try.ntmps8
  go_wp2
  go_ret
  exact ⟨by first | rfl | (simp; done) | (simp [*]; done), by repeat (first | exact Drawn0.refl _ | apply Drawn0.step)⟩


/-! ### gate_Gate_Len: function 10 (by hand) -/
set_option maxHeartbeats 4000000 in
set_option maxRecDepth 100000 in
theorem gate_Gate_Len.calls (g base top : Nat) (s : GSt) (w : World) (hG : GateAt w base top g s) :
  Calls Try.prog 10 #[.pointer (some ⟨g, 0, none⟩)] w fun e w' => e = .returned (.int .i64 s.long) ∧ w' = w := by
 have HI := Aside0.mk hG
 obtain ⟨Az, cz, ⟨hbg, hle⟩, hcm, ⟨hc0, hc1, hc2, hc3⟩, ⟨hc4, hc5, hc6, hc7⟩, ⟨hf0, hf1, hf2, hf3⟩, ⟨hf4, hf5, hf6, hf7⟩, csz, HQ, HE⟩ := HI.out.cell
 go_enter Try.func10, Try.ntmps10
 go_wp2
 go_ret
 exact ⟨rfl, rfl⟩



/-! ### gate_Gate_Clear: function 11 (by hand) -/
def GSt.clear (s : GSt) : GSt := { s with q := [], long := 0 }
set_option maxHeartbeats 4000000 in
set_option maxRecDepth 100000 in
theorem gate_Gate_Clear.calls (g top : Nat) (s : GSt) (w0 w : World) (hG : GateAt w w0.heap.size top g s) (hB : Below w0.heap.size w0 w) :
  Calls Try.prog 11 #[.pointer (some ⟨g, 0, none⟩)] w fun e w' => e = .returned (.int .i64 s.long) ∧ GateAt w' w0.heap.size top g s.clear ∧ Below w0.heap.size w0 w' ∧ KeepT [53, 56] w w' := by
 have HI := Aside0.mk hG
 have HB := Aside0.mk hB
 clear hG hB
 obtain ⟨Az, cz, ⟨hbg, hle⟩, hcm, ⟨hc0, hc1, hc2, hc3⟩, ⟨hc4, hc5, hc6, hc7⟩, ⟨hf0, hf1, hf2, hf3⟩, ⟨hf4, hf5, hf6, hf7⟩, csz, HQ, HE⟩ := HI.out.cell
 go_enter Try.func11, Try.ntmps11
 go_wp2
 go_ret
 obtain ⟨v, cs, h1, h2, h3, h4⟩ := HI.out
 have k1 := blk_put h1 7 (.slice none 0 0) rfl
 have k2 := blk_put k1 5 (.int .i64 0) rfl
 exact ⟨rfl, ⟨.slice none 0 0, [], k2, h2, ownsAt_nil _ _ _ _, rfl⟩, below_set (below_set HB.out h2) h2, (KeepT.set h1 (by decide) _ _).trans (KeepT.set k1 (by decide) _ _)⟩


end Go.Proofs.Ytcmpkgmhcbnmbaa.PGatePlays

-- Laid by this claim's own program over the print's words.
import Derived.Test.YtobndcdohehhbaaPSendqPlaysx0
import Derived.Test.YtobndcdohehhbaaPSendqPlaysx1
import Derived.Test.YtobndcdohehhbaaPSendqPlaysx3
import Derived.Test.YtobndcdohehhbaaPSendqPlaysx4
import Derived.Test.YtobndcdohehhbaaPSendqPlaysx5
import Derived.Test.YtobndcdohehhbaaPSendqPlaysx7
import Derived.Test.YtobndcdohehhbaaPSendqPlaysx10
namespace Go.Proofs.Ytobndcdohehhbaa.PSendqPlays
open Go.RowKit Go.Proofs.YtobndcdohehhbaaW.PrintWords Go.Proofs.YtobndcdohehhbaaW.PrintLast Go.Proofs.YtobndcdohehhbaaW.PrintMore
attribute [local go_sem] max2_int min2_int max_two min_two max_three min_three max_four min_four max_five min_five extract_cut tmod_nat_lit   -- for this text's walks alone
set_option linter.unusedVariables false
set_option linter.unusedSimpArgs false

/-! ### sternpostlaw15_SendqPlays: function 6 -/
def sternpostlaw15_SendqPlays_tail.f (k : Nat) (a0 : Int) (a1 : Int) (l2 : List S55) : Option Bool := if (l2.all fun x => decide (-9223372036854775808 ≤ x.f1 ∧ x.f1 < 9223372036854775808)) = true then some true else none
theorem sternpostlaw15_SendqPlays_tail.mono (a0 : Int) (a1 : Int) (l2 : List S55) (k : Nat) : LeO (sternpostlaw15_SendqPlays_tail.f k a0 a1 l2) (sternpostlaw15_SendqPlays_tail.f (k + 1) a0 a1 l2) := LeO.refl _
set_option maxHeartbeats 4000000 in
set_option maxRecDepth 100000 in
theorem sternbad_sendq (first room : Int) (w : World) (hf : ¬ (sqOk first ∧ 1 ≤ room ∧ room ≤ 65536)) :
  Calls Try.prog 9 #[.int .i64 first, .int .i64 room] w fun e w' => e = .returned (.tuple #[.pointer none, .int .i64 1]) ∧ Below w.heap.size w w' := by
 have hc : ∃ c, seq_Check.f first = some c ∧ (c = 0 ∧ (room < 1 ∨ 65536 < room) ∨ c = 1) := by
  rw [seqcheck_ first]
  by_cases h : sqOk first
  ·rw [if_pos h]
   by_cases hr : room < 1 ∨ 65536 < room
   ·exact ⟨0, rfl, .inl ⟨rfl, hr⟩⟩
   ·exact absurd ⟨h, by omega, by omega⟩ hf
  ·rw [if_neg h]; exact ⟨1, rfl, .inr rfl⟩
 obtain ⟨c, hc, hcc⟩ := hc
 have HC := Aside0.mk hc
 clear hc hf
 go_enter Try.func9, Try.ntmps9
 go_wp2_with fail
 refine (seq_Check.calls first c _ HC.out).mono ?_
 rintro e W1 ⟨rfl, hd⟩
 have hb := hd.below
 have HB := Aside0.mk hb
 clear hd hb
 rcases hcc with ⟨rfl, hr | hr⟩ | rfl
 ·have d1 : decide (room < 1) = true := decide_eq_true hr
  clear hr
  go_wp2
  go_ret2
  exact ⟨rfl, HB.out⟩
 ·have d1 : decide (room < 1) = false := decide_eq_false (by omega)
  have d2 : decide (65536 < room) = true := decide_eq_true hr
  clear hr
  go_wp2
  go_ret2
  exact ⟨rfl, HB.out⟩
 ·go_wp2
  go_ret2
  exact ⟨rfl, HB.out⟩
set_option maxHeartbeats 4000000 in
set_option maxRecDepth 100000 in
theorem sternbad_sternpostref15 (first room : Int) (w : World) (hf : ¬ (sqOk first ∧ 1 ≤ room ∧ room ≤ 65536)) :
  Calls Try.prog 19 #[.int .i64 first, .int .i64 room] w fun e w' => e = .returned (.tuple #[.pointer none, .int .i64 1]) ∧ Below w.heap.size w w' := by
 have hc : ∃ c, sternpostref01_Check.f first = some c ∧ (c = 0 ∧ (room < 1 ∨ 65536 < room) ∨ c = 1) := by
  rw [refcheck_ first]
  by_cases h : sqOk first
  ·rw [if_pos h]
   by_cases hr : room < 1 ∨ 65536 < room
   ·exact ⟨0, rfl, .inl ⟨rfl, hr⟩⟩
   ·exact absurd ⟨h, by omega, by omega⟩ hf
  ·rw [if_neg h]; exact ⟨1, rfl, .inr rfl⟩
 obtain ⟨c, hc, hcc⟩ := hc
 have HC := Aside0.mk hc
 clear hc hf
 go_enter Try.func19, Try.ntmps19
 go_wp2_with fail
 refine (sternpostref01_Check.calls first c _ HC.out).mono ?_
 rintro e W1 ⟨rfl, hd⟩
 have hb := hd.below
 have HB := Aside0.mk hb
 clear hd hb
 rcases hcc with ⟨rfl, hr | hr⟩ | rfl
 ·have d1 : decide (room < 1) = true := decide_eq_true hr
  clear hr
  go_wp2
  go_ret2
  exact ⟨rfl, HB.out⟩
 ·have d1 : decide (room < 1) = false := decide_eq_false (by omega)
  have d2 : decide (65536 < room) = true := decide_eq_true hr
  clear hr
  go_wp2
  go_ret2
  exact ⟨rfl, HB.out⟩
 ·go_wp2
  go_ret2
  exact ⟨rfl, HB.out⟩
theorem ob_evcallT {P : Program} {ops : Array Oper} {E : List Nat} {C : Nat → World → Prop} {G : Bool → Nat → World → World → Prop} {T : List Nat} {R : Nat → Nat → World → Value → Prop} {vs : List Value} {x : Nat → Value} {k q : Nat} {o : Oper} {a : Act} (hq : E[q]? = some k) (hw : Region.wanted o (yielded ops a.tmps) = true) (hT : T.contains k = true) (f : FuncId) (args : Array Value)
  (h : ∀ w, C q w → (execOp a.eval o).run P w = .ok (.enter f args) w) (hc : ∀ w, C q w → Calls P f args w (fun r w' => ∃ v, r = .returned v ∧ C (q + 1) w' ∧ G true q w w' ∧ R (q + 1) k w' v)) : AnyEvents.EvOb P ops E C G T R vs x k o a := fun p w hwn hC _ => by
 obtain rfl := hwn.at_ q hq
 have hke : E.contains k = true := by simpa using List.mem_of_getElem? hq
 rw [if_pos hw, h w hC, hT, hke]
 exact (hc w hC).mono fun r w' ⟨v, he, h1, h2, h3⟩ => ⟨v, he, h1, h2, by rw [if_pos rfl]; exact h3⟩
theorem ob_evcallR {P : Program} {ops : Array Oper} {E : List Nat} {C : Nat → World → Prop} {G : Bool → Nat → World → World → Prop} {T : List Nat} {R : Nat → Nat → World → Value → Prop} {vs : List Value} {x : Nat → Value} {k q : Nat} {o : Oper} {a : Act} {v : Value} (hq : E[q]? = some k) (hw : Region.wanted o (yielded ops a.tmps) = true) (hT : T.contains k = false) (hv : vs.getD k undef = v)
  (h : ∀ w, C q w → (∀ j p s, ops[j]? = some p → p.dst = some s → T.contains j = true → AnyOrder.waits ops k j = true → R q j w (x j)) → ∃ f args, (execOp a.eval o).run P w = .ok (.enter f args) w ∧ Calls P f args w (fun r w' => r = .returned v ∧ C (q + 1) w' ∧ G true q w w')) : AnyEvents.EvOb P ops E C G T R vs x k o a := fun p w hwn hC ht => by
 obtain rfl := hwn.at_ q hq
 have hke : E.contains k = true := by simpa using List.mem_of_getElem? hq
 obtain ⟨f, args, h1, hc⟩ := h w hC ht
 rw [if_pos hw, h1, hT, hke]
 exact hc.mono fun r w' ⟨he, h1, h2⟩ => ⟨v, he, h1, h2, hv.symm⟩
theorem ob_evplain {P : Program} {ops : Array Oper} {E : List Nat} {C : Nat → World → Prop} {G : Bool → Nat → World → World → Prop} {T : List Nat} {R : Nat → Nat → World → Value → Prop} {vs : List Value} {x : Nat → Value} {k q : Nat} {o : Oper} {a : Act} {v : Value} (hq : E[q]? = some k) (hw : Region.wanted o (yielded ops a.tmps) = true) (hT : T.contains k = false) (hv : vs.getD k undef = v)
  (h : ∀ w, C q w → (execOp a.eval o).run P w = .ok (.value v) w ∧ C (q + 1) w ∧ G true q w w) : AnyEvents.EvOb P ops E C G T R vs x k o a := fun p w hwn hC _ => by
 obtain rfl := hwn.at_ q hq
 have hke : E.contains k = true := by simpa using List.mem_of_getElem? hq
 obtain ⟨h1, h2, h3⟩ := h w hC
 rw [if_pos hw, h1, hT, hke]
 exact ⟨h2, h3, hv.symm⟩
theorem not_mem2 {a b c : Nat} (h1 : a ≠ b) (h2 : a ≠ c) : a ∉ [b, c] := by simp [h1, h2]
theorem SrcAt.ranges {w : World} {A : Option Addr} {c : Nat} {l : List S47} (h : Kd.C k47 w A l.length l) : SrcAt w 2 (.slice A l.length c) (l.map fun x => (x.f0, x.f1)).length (spc (l.map fun x => (x.f0, x.f1))) := by
 have hlen : ∀ m : List (Int × Int), (spc m).length = m.length * 2 := fun m => by unfold spc; induction m with | nil => rfl | cons x m ih => simp only [List.flatMap_cons, List.length_append, List.length_cons, ih]; simp; omega
 refine ⟨hlen _, ?_⟩
 by_cases h0 : l.length = 0
 ·rw [List.length_map, h0]; exact .inl ⟨rfl, A, c, rfl⟩
 ·obtain ⟨ad, rfl, _⟩ := at_T47 h 0 (Int.le_refl _) (by omega)
  refine .inr ⟨ad, c, by rw [List.length_map], fun j u hu => ?_⟩
  have hj := (List.getElem?_eq_some_iff.1 hu).1
  rw [hlen, List.length_map] at hj
  obtain ⟨i, hi⟩ : ∃ i, i = j / 2 := ⟨_, rfl⟩
  have hil : i < l.length := by omega
  obtain ⟨ad', he, hc0, hc1⟩ := at_T47 h (i : Int) (by omega) (by omega)
  injection he with he
  subst he
  have hr : rd_T47 l (i : Int) = l[i] := by unfold rd_T47; rw [Int.toNat_natCast, List.getD_eq_getElem?_getD, List.getElem?_eq_getElem hil]; rfl
  rw [hr, Int.toNat_natCast] at hc0 hc1
  have hg := spc_get (l.map fun x => (x.f0, x.f1)) i (l[i].f0, l[i].f1) (by rw [List.getElem?_map, List.getElem?_eq_getElem hil]; rfl)
  rcases (show j = i * 2 ∨ j = i * 2 + 1 by omega) with rfl | rfl
  ·rw [hg.1] at hu; rw [← Option.some.inj hu]; exact hc0
  ·rw [hg.2] at hu; rw [← Option.some.inj hu, add_field _ _ 1 (by omega)]; exact hc1
theorem RefAt.rowlt {w : World} {base top g : Nat} {q : RQ} (h : RefAt w base top g q) : ∀ v, w.heap[g]? = some (.cells (cellsR q v) 61 (0, 0)) → ∀ b, v.ownBlock = some b → b < w.heap.size ∧ ∃ cur, w.heap[b]? = some (.cells cur 4 (0, 0)) := by
 intro v hv b hb
 obtain ⟨v', h1, _, h3⟩ := h
 rw [hv] at h1
 obtain rfl : v = v' := by
  have h4 := congrArg (fun x => match x with | some (Obj.cells cs _ _) => cs[4]? | _ => none) h1
  simpa [cellsR] using h4
 obtain ⟨_, cur, hc⟩ := ownsAt_block h3 hb
 exact ⟨blk_lt hc, cur, hc⟩
/-- the phases of a round: the fork, its step, the queues' step -/
def PlC (w : World) (gq gr gf : Nat) (q : QS) (got : List Bool) (p : Nat) (W : World) : Prop :=
 Below w.heap.size w W ∧ (∃ qf gt, QAt W w.heap.size gf qf ∧ QG qf gt ∧ (p ≤ 1 → qf = q ∧ gt = got)) ∧ (∃ q' got', QAt W w.heap.size gq q' ∧ RefAt W w.heap.size w.heap.size gr (rq q' got') ∧ QG q' got' ∧ (p ≤ 3 → q' = q ∧ got' = got))
def PlR (w : World) (gr : Nat) (q : QS) (got : List Bool) (p j : Nat) (W : World) (v : Value) : Prop :=
 j = 5 → ∃ g2, v = .pointer (some ⟨g2, 0, none⟩) ∧ (p = 1 → ∃ top, RefAt W w.heap.size top g2 (rq q got) ∧ g2 ≠ gr ∧ w.heap.size ≤ top ∧ top ≤ W.heap.size ∧ ∀ v, W.heap[gr]? = some (.cells (cellsR (rq q got) v) 61 (0, 0)) → ∀ b, v.ownBlock = some b → b < top ∧ b ≠ g2)
theorem PlR.keep {w : World} {gr : Nat} {q : QS} {got : List Bool} : ∀ c p j a b v, (c = true → [5, 10, 13, 20][p]? ≠ some j) → (c = true ∨ b = a) → PlR w gr q got p j a v → PlR w gr q got (AnyEvents.nx c p) j b v := by
 intro c p j a b v hc hg hr hj
 obtain ⟨g2, e, h⟩ := hr hj
 refine ⟨g2, e, fun hp => ?_⟩
 rcases hg with rfl | rfl
 ·obtain rfl : p = 0 := by simpa [AnyEvents.nx] using hp
  exact absurd (by rw [hj]; rfl) (hc rfl)
 ·cases c
  ·exact h hp
  ·obtain rfl : p = 0 := by simpa [AnyEvents.nx] using hp
   exact absurd (by rw [hj]; rfl) (hc rfl)
theorem typ_ne {w : World} {a b : Nat} {x y : Array Value} {s t : TypeId} (h : w.heap[a]? = some (.cells x s (0, 0))) (k : w.heap[b]? = some (.cells y t (0, 0))) (hn : s ≠ t) : a ≠ b := fun e => by subst e; rw [h] at k; simp at k; exact hn k.2

def sternpostlaw15_SendqPlays.f (k : Nat) (a0 : Int) (a1 : Int) (l2 : List (S55)) : Option (Bool) := sternpostlaw15_SendqPlays_tail.f k a0 a1 l2
theorem sternpostlaw15_SendqPlays.mono : ∀ a0 a1 a2 k, LeO (sternpostlaw15_SendqPlays.f k a0 a1 a2) (sternpostlaw15_SendqPlays.f (k + 1) a0 a1 a2) := by
 intro a0 a1 a2 k
 unfold sternpostlaw15_SendqPlays.f
 repeat' first
   | (with_reducible exact sternpostlaw15_SendqPlays_tail.mono _ _ _ _)
   | (with_reducible exact LeO.refl _)
   | (with_reducible exact LeO.none _)
   | (with_reducible refine LeO.ite ?_ ?_)
   | (with_reducible refine LeO.bind ?_ (fun _ => ?_))
   | exact sternpostlaw15_SendqPlays_tail.mono _ _ _ _
   | exact LeO.none _
   | refine LeO.ite ?_ ?_
   | refine LeO.bind ?_ (fun _ => ?_)
set_option maxHeartbeats 8000000 in
set_option maxRecDepth 100000 in
theorem sternpostlaw15_SendqPlays.calls (k : Nat) (a0 : Int) (a1 : Int) (A2 : Option Addr) (c2 : Nat) (l2 : List (S55)) (r : Bool) (w : World) (hr2 : Kd.C k55 w A2 l2.length l2) (hc2 : l2.length ≤ c2) (h : sternpostlaw15_SendqPlays.f k a0 a1 l2 = some r) (hrT_ : r = true) :
  Calls Try.prog 6 #[.int .i64 a0, .int .i64 a1, .slice A2 l2.length c2] w fun e w' => e = .returned (.bool r) ∧ Below w.heap.size w w' := by
 have hu55 := Try.underlying55
 have HR2 := Aside0.mk hr2
 have HC2 := Aside0.mk hc2
 clear hr2 hc2
 have HB := Aside0.mk (Below.refl w.heap.size w)
 have H : (sternpostlaw15_SendqPlays_tail.f k a0 a1 l2) = some r := h
 clear h
 go_enter Try.func6, Try.ntmps6
 go_upto_region 1 with fail
 -- UPTO BARE
 obtain rfl : r = true := hrT_
 have hfit : ∀ x ∈ l2, -9223372036854775808 ≤ x.f1 ∧ x.f1 < 9223372036854775808 := by
  unfold sternpostlaw15_SendqPlays_tail.f at H
  split at H
  ·rename_i hh; intro x hx; simpa using List.all_eq_true.1 hh x hx
  ·cases H
 have HFIT := Aside0.mk hfit
 clear H hfit
 by_cases good : sqOk a0 ∧ 1 ≤ a1 ∧ a1 ≤ 65536
 rotate_left
 ·have HBD := Aside0.mk good
  clear good
  go_wp2_with fail
  refine (sternbad_sendq a0 a1 _ HBD.out).mono ?_
  rintro e W1 ⟨rfl, hb⟩
  have nHB_ := Aside0.mk (below_step HB.out hb); clear HB hb; have HB := nHB_; clear nHB_
  go_wp2_with fail
  refine (sternbad_sternpostref15 a0 a1 _ HBD.out).mono ?_
  rintro e W2 ⟨rfl, hb⟩
  have nHB_ := Aside0.mk (below_step HB.out hb); clear HB hb; have HB := nHB_; clear nHB_
  go_wp2_with fail
  refine (sternpostlaw15_works.calls _).mono ?_
  rintro e W3 ⟨rfl, hb⟩
  have nHB_ := Aside0.mk (below_step HB.out hb); clear HB hb; have HB := nHB_; clear nHB_
  go_wp2_with fail
  go_loopg [11] 0 (fun kq v11 W => v11 = .int .i64 0 ∧ Aside0 (Below w.heap.size w W))
  case atStart => exact ⟨rfl, HB⟩
  case round =>
   clear HB
   obtain ⟨rfl, HB⟩ := hrel
   go_wp2
   go_ret
   exact ⟨rfl, HB.out⟩
 obtain ⟨g1, g2, g3⟩ := good
 have HGD := Aside0.mk (And.intro g1 (And.intro g2 g3))
 clear g1 g2 g3
 go_wp2_with fail
 refine (sendq_New.calls a0 a1 w _ HB.out HGD.out.1 HGD.out.2.1 HGD.out.2.2).mono ?_
 rintro e W1 ⟨gq, rfl, hQ, hB, _, _⟩
 clear HB
 have HQ := Aside0.mk hQ; have HB := Aside0.mk hB; clear hQ hB
 go_wp2_with fail
 refine (sternpostref15_New.calls a0 a1 w _ HB.out HGD.out.1 HGD.out.2.1 HGD.out.2.2).mono ?_
 rintro e W2 ⟨gr, rfl, hR, hB, hb, _⟩
 have nHQ_ := Aside0.mk (HQ.out.kept hb); clear HQ hb; have HQ := nHQ_; clear nHQ_
 clear HB
 have HR := Aside0.mk (show RefAt W2 w.heap.size w.heap.size gr (rq ⟨a0, 0, a1, (⟨#[]⟩ : ByteArray), []⟩ []) from hR); have HB := Aside0.mk hB; clear hR hB
 go_wp2_with fail
 refine (sternpostlaw15_works.calls _).mono ?_
 rintro e W3 ⟨rfl, hb⟩
 have nHQ_ := Aside0.mk (HQ.out.kept hb); have nHR_ := Aside0.mk (HR.out.kept hb); have nHB_ := Aside0.mk (below_step HB.out hb); clear HQ HR HB hb; have HQ := nHQ_; have HR := nHR_; have HB := nHB_; clear nHQ_ nHR_ nHB_
 have HG := Aside0.mk (show QG ⟨a0, 0, a1, (⟨#[]⟩ : ByteArray), []⟩ [] from ⟨HGD.out.1, ⟨Int.le_refl _, Int.le_refl _, (by have := HGD.out; show (0 : Int) ≤ a1; omega), HGD.out.2.2⟩, ⟨⟨List.Pairwise.nil, fun _ h => nomatch h⟩, fun _ h => nomatch h⟩, rfl, fun k hk => absurd hk (Nat.not_lt_zero k)⟩)
 clear HGD
 go_wp2_with fail
 go_loopg [11] 60 (fun kq v11 W => ∃ (i : Nat) (iz : Int) (q : QS) (got : List Bool), v11 = .int .i64 iz ∧ Aside0 (iz = (i : Int) ∧ kq + i = 60) ∧ Aside0 (QAt W w.heap.size gq q) ∧ Aside0 (RefAt W w.heap.size w.heap.size gr (rq q got)) ∧ Aside0 (QG q got) ∧ Aside0 (Below w.heap.size w W))
 case atStart => exact ⟨0, 0, _, _, rfl, ⟨rfl, rfl⟩, HQ, HR, HG, HB⟩
 case round =>
  clear HQ HR HG HB
  obtain ⟨i, iz, q, got, rfl, HK, HQ, HR, HG, HB⟩ := hrel
  have hk := HK.out
  by_cases hlt : iz < (l2.length : Int)
  rotate_left
  ·have d1 : decide (iz < (l2.length : Int)) = false := decide_eq_false hlt
   clear hlt hk
   go_wp2
   go_ret
   exact ⟨rfl, HB.out⟩
  have d1 : decide (iz < (l2.length : Int)) = true := decide_eq_true hlt
  by_cases h60 : iz < 60
  rotate_left
  ·have d2 : decide (iz < 60) = false := decide_eq_false h60
   clear hlt h60 hk
   go_wp2
   go_ret
   exact ⟨rfl, HB.out⟩
  have d2 : decide (iz < 60) = true := decide_eq_true h60
  obtain ⟨k1, rfl⟩ : ∃ k1, gk = k1 + 1 := ⟨gk - 1, by omega⟩
  have p0 : 0 ≤ iz := by omega
  have hii : wrap64 (iz + 1) = ((i + 1 : Nat) : Int) := by rw [w64p (by omega) (by omega)]; omega
  have HII := Aside0.mk hii
  clear hii
  obtain ⟨ad, A4, c4, ead, hx0, hx1, hx2, hx3, hx4, hx5, hlc, hC4⟩ := at_T55 HR2.out iz p0 hlt
  subst ead
  have hmem : (rd_T55 l2 iz) ∈ l2 := by unfold rd_T55; rw [List.getD_eq_getElem?_getD, List.getElem?_eq_getElem (show iz.toNat < l2.length by omega)]; exact List.getElem_mem _
  have hn := HFIT.out _ hmem
  obtain ⟨ac, hac⟩ : ∃ a_, rd_T55 l2 iz = a_ := ⟨_, rfl⟩
  rw [hac] at hx0 hx1 hx2 hx3 hx4 hx5 hlc hC4 hn
  obtain ⟨f0, f1, f2, f3, f4, f5⟩ := ac
  dsimp only at hx0 hx1 hx2 hx3 hx4 hx5 hlc hC4 hn
  have HN := Aside0.mk hn
  have HC4 := Aside0.mk hC4
  have HX := Aside0.mk (And.intro hx0 (And.intro hx1 (And.intro hx2 (And.intro hx3 (And.intro hx4 hx5)))))
  replace hx3 := pw_cell_below HB.out hx3
  replace hx4 := pw_cell_below HB.out hx4
  clear hx0 hx1 hx2 hx5 hmem hn hac hlc hC4 hk h60
  replace p0 := eq_true p0
  replace hlt := eq_true hlt
  by_cases c1 : 2000 < (f3.size : Int)
  ·have d3 : decide (2000 < (f3.size : Int)) = true := decide_eq_true c1
   clear c1
   go_wp2
   go_roundg k1
   case measure => omega
   case rel => exact ⟨i + 1, _, q, got, rfl, ⟨HII.out, by have := HK.out; omega⟩, HQ, HR, HG, HB⟩
  have d3 : decide (2000 < (f3.size : Int)) = false := decide_eq_false c1
  by_cases c2 : 50 < (f4.length : Int)
  ·have d4 : decide (50 < (f4.length : Int)) = true := decide_eq_true c2
   clear c1 c2
   go_wp2
   go_roundg k1
   case measure => omega
   case rel => exact ⟨i + 1, _, q, got, rfl, ⟨HII.out, by have := HK.out; omega⟩, HQ, HR, HG, HB⟩
  have d4 : decide (50 < (f4.length : Int)) = false := decide_eq_false c2
  have HSM := Aside0.mk (show f3.size ≤ 2000 ∧ f4.length ≤ 50 by omega)
  clear c1 c2
  go_upto_region 9 with fail
  clear d1 d2 d3 d4 hx3 hx4
  go_wp2_with fail
  refine (sendq_Queue_Fork.calls gq q w _ HQ.out HB.out HG.out.aplen.2).mono ?_
  rintro e W3 ⟨gf, rfl, hne, hF, hQ, hB, hb, hge⟩
  have nHR_ := Aside0.mk (HR.out.kept hb); clear HR hb; have HR := nHR_; clear nHR_
  clear HQ HB
  have HF := Aside0.mk hF; have HQ := Aside0.mk hQ; have HB := Aside0.mk hB; have HNE := Aside0.mk hne
  clear hF hQ hB hne hge
  go_upto_region 10 with fail
  have same : ∀ (p : Nat) W', PlC w gq gr gf q got p W' → (fun (c : Bool) (p : Nat) (a b : World) => c = true ∨ b = a) false p W' W' := fun _ _ _ => .inr rfl
  refine AnyEvents.region_then (P := Try.prog) 23 (E := [5, 10, 13, 20]) (C := PlC w gq gr gf q got) (G := fun c _ a b => c = true ∨ b = a) (T := [5]) (R := PlR w gr q got) (vs := [?v37_0, ?v37_1, ?v37_2, ?v37_3, ?v37_4, undef, ?v37_6, ?v37_7, ?v37_8, ?v37_9, (.bool true), ?v37_11, ?v37_12, (.bool false), ?v37_14, ?v37_15, ?v37_16, ?v37_17, ?v37_18, ?v37_19, (.bool true), ?v37_21, ?v37_22]) (by kernel_rfl) (by kernel_rfl) rfl (by kernel_rfl) ?hc37r same ?kp37r ?hc37re (fun x => ?obs37r) ?fin37r
  case hc37re => decide
  case kp37r => exact PlR.keep
  case hc37r => exact ⟨pw_below_drewN HB.out 1, ⟨q, got, HF.out.drawn rfl, HG.out, fun _ => ⟨rfl, rfl⟩⟩, ⟨q, got, HQ.out.drawn rfl, HR.out.drawn rfl, HG.out, fun _ => ⟨rfl, rfl⟩⟩⟩
  case obs37r =>
   refine AnyEvents.obs_cons ?v37_0 (val_holeT rfl (by simp only [List.getD_cons_zero, List.getD_cons_succ])) (AnyEvents.ob_plain (v := ?v37_0) rfl rfl rfl same (by simp only [List.getD_cons_zero, List.getD_cons_succ]) (fun ph W' hwn hW => ?_)) ?_
   ·have z0 := pw_cell_below hW.1 HX.out.1; have z1 := pw_cell_below hW.1 HX.out.2.1; have z2 := pw_cell_below hW.1 HX.out.2.2.1; have z3 := pw_cell_below hW.1 HX.out.2.2.2.1; have z4 := pw_cell_below hW.1 HX.out.2.2.2.2.1; have z5 := pw_cell_below hW.1 HX.out.2.2.2.2.2; first | (go_simp; done) | (go_simp; (try simp only [i64_w]); rfl) | (go_simp; simp; rfl)
   try simp only [Act.put, List.setIfInBounds_toArray, List.set_cons_zero, List.set_cons_succ]
   refine AnyEvents.obs_cons ?v37_1 (val_holeT rfl (by simp only [List.getD_cons_zero, List.getD_cons_succ])) (AnyEvents.ob_plain (v := ?v37_1) rfl rfl rfl same (by simp only [List.getD_cons_zero, List.getD_cons_succ]) (fun ph W' hwn hW => ?_)) ?_
   ·have z0 := pw_cell_below hW.1 HX.out.1; have z1 := pw_cell_below hW.1 HX.out.2.1; have z2 := pw_cell_below hW.1 HX.out.2.2.1; have z3 := pw_cell_below hW.1 HX.out.2.2.2.1; have z4 := pw_cell_below hW.1 HX.out.2.2.2.2.1; have z5 := pw_cell_below hW.1 HX.out.2.2.2.2.2; first | (go_simp; done) | (go_simp; (try simp only [i64_w]); rfl) | (go_simp; simp; rfl)
   try simp only [Act.put, List.setIfInBounds_toArray, List.set_cons_zero, List.set_cons_succ]
   refine AnyEvents.obs_cons ?v37_2 (val_holeT rfl (by simp only [List.getD_cons_zero, List.getD_cons_succ])) (AnyEvents.ob_plain (v := ?v37_2) rfl rfl rfl same (by simp only [List.getD_cons_zero, List.getD_cons_succ]) (fun ph W' hwn hW => ?_)) ?_
   ·have z0 := pw_cell_below hW.1 HX.out.1; have z1 := pw_cell_below hW.1 HX.out.2.1; have z2 := pw_cell_below hW.1 HX.out.2.2.1; have z3 := pw_cell_below hW.1 HX.out.2.2.2.1; have z4 := pw_cell_below hW.1 HX.out.2.2.2.2.1; have z5 := pw_cell_below hW.1 HX.out.2.2.2.2.2; first | (go_simp; done) | (go_simp; (try simp only [i64_w]); rfl) | (go_simp; simp; rfl)
   try simp only [Act.put, List.setIfInBounds_toArray, List.set_cons_zero, List.set_cons_succ]
   refine AnyEvents.obs_cons ?v37_3 (val_holeT rfl (by simp only [List.getD_cons_zero, List.getD_cons_succ])) (AnyEvents.ob_plain (v := ?v37_3) rfl rfl rfl same (by simp only [List.getD_cons_zero, List.getD_cons_succ]) (fun ph W' hwn hW => ?_)) ?_
   ·have z0 := pw_cell_below hW.1 HX.out.1; have z1 := pw_cell_below hW.1 HX.out.2.1; have z2 := pw_cell_below hW.1 HX.out.2.2.1; have z3 := pw_cell_below hW.1 HX.out.2.2.2.1; have z4 := pw_cell_below hW.1 HX.out.2.2.2.2.1; have z5 := pw_cell_below hW.1 HX.out.2.2.2.2.2; first | (go_simp; done) | (go_simp; (try simp only [i64_w]); rfl) | (go_simp; simp; rfl)
   try simp only [Act.put, List.setIfInBounds_toArray, List.set_cons_zero, List.set_cons_succ]
   refine AnyEvents.obs_cons ?v37_4 (val_holeT rfl (by simp only [List.getD_cons_zero, List.getD_cons_succ])) (AnyEvents.ob_plain (v := ?v37_4) rfl rfl rfl same (by simp only [List.getD_cons_zero, List.getD_cons_succ]) (fun ph W' hwn hW => ?_)) ?_
   ·have z0 := pw_cell_below hW.1 HX.out.1; have z1 := pw_cell_below hW.1 HX.out.2.1; have z2 := pw_cell_below hW.1 HX.out.2.2.1; have z3 := pw_cell_below hW.1 HX.out.2.2.2.1; have z4 := pw_cell_below hW.1 HX.out.2.2.2.2.1; have z5 := pw_cell_below hW.1 HX.out.2.2.2.2.2; first | (go_simp; done) | (go_simp; (try simp only [i64_w]); rfl) | (go_simp; simp; rfl)
   try simp only [Act.put, List.setIfInBounds_toArray, List.set_cons_zero, List.set_cons_succ]
   refine AnyEvents.obs_cons (x 5) rfl (ob_evcallT (q := 0) rfl rfl rfl 22 #[.pointer (some ⟨gr, 0, none⟩)] (fun W' hW => ?_) (fun W' hW => ?_)) ?_
   ·first | (go_simp; done) | (go_simp; rfl)
   ·obtain ⟨HB_, ⟨qf, gt, hF, hGf, hef⟩, ⟨q', got', hQ, hR, hG, he⟩⟩ := hW; obtain ⟨rfl, rfl⟩ := he (by decide); refine (sternpostref15_Queue_Fork.callsR gr w.heap.size (rq q' got') w W' hR HB_ (by show got'.length ≤ 1000000; have := hG.len; have := hG.le; omega)).mono ?_; rintro e W4 ⟨g2, rfl, hR2, hB4, hb4, hg2⟩; refine ⟨_, rfl, ⟨hB4, ⟨qf, gt, hF.kept hb4, hGf, fun _ => hef (by decide)⟩, ⟨q', got', hQ.kept hb4, hR.kept hb4, hG, fun _ => ⟨rfl, rfl⟩⟩⟩, .inl rfl, fun _ => ⟨g2, rfl, fun _ => ⟨W'.heap.size, hR2, (by have := hR.lt; omega), HB_.size, hb4.size, fun v hv b hb => ?_⟩⟩⟩; obtain ⟨h1, _⟩ := hR.rowlt v (by rw [← hb4.block gr hR.lt]; exact hv) b hb; exact ⟨h1, by omega⟩
   try simp only [Act.put, List.setIfInBounds_toArray, List.set_cons_zero, List.set_cons_succ]
   refine AnyEvents.obs_cons ?v37_6 (val_holeT rfl (by simp only [List.getD_cons_zero, List.getD_cons_succ])) (AnyEvents.ob_plain (v := ?v37_6) rfl rfl rfl same (by simp only [List.getD_cons_zero, List.getD_cons_succ]) (fun ph W' hwn hW => ?_)) ?_
   ·have z0 := pw_cell_below hW.1 HX.out.1; have z1 := pw_cell_below hW.1 HX.out.2.1; have z2 := pw_cell_below hW.1 HX.out.2.2.1; have z3 := pw_cell_below hW.1 HX.out.2.2.2.1; have z4 := pw_cell_below hW.1 HX.out.2.2.2.2.1; have z5 := pw_cell_below hW.1 HX.out.2.2.2.2.2; first | (go_simp; done) | (go_simp; (try simp only [i64_w]); rfl) | (go_simp; simp; rfl)
   try simp only [Act.put, List.setIfInBounds_toArray, List.set_cons_zero, List.set_cons_succ]
   refine AnyEvents.obs_cons ?v37_7 (val_holeT rfl (by simp only [List.getD_cons_zero, List.getD_cons_succ])) (AnyEvents.ob_plain (v := ?v37_7) rfl rfl rfl same (by simp only [List.getD_cons_zero, List.getD_cons_succ]) (fun ph W' hwn hW => ?_)) ?_
   ·have z0 := pw_cell_below hW.1 HX.out.1; have z1 := pw_cell_below hW.1 HX.out.2.1; have z2 := pw_cell_below hW.1 HX.out.2.2.1; have z3 := pw_cell_below hW.1 HX.out.2.2.2.1; have z4 := pw_cell_below hW.1 HX.out.2.2.2.2.1; have z5 := pw_cell_below hW.1 HX.out.2.2.2.2.2; first | (go_simp; done) | (go_simp; (try simp only [i64_w]); rfl) | (go_simp; simp; rfl)
   try simp only [Act.put, List.setIfInBounds_toArray, List.set_cons_zero, List.set_cons_succ]
   refine AnyEvents.obs_cons ?v37_8 (val_holeT rfl (by simp only [List.getD_cons_zero, List.getD_cons_succ])) (AnyEvents.ob_plain (v := ?v37_8) rfl rfl rfl same (by simp only [List.getD_cons_zero, List.getD_cons_succ]) (fun ph W' hwn hW => ?_)) ?_
   ·have z0 := pw_cell_below hW.1 HX.out.1; have z1 := pw_cell_below hW.1 HX.out.2.1; have z2 := pw_cell_below hW.1 HX.out.2.2.1; have z3 := pw_cell_below hW.1 HX.out.2.2.2.1; have z4 := pw_cell_below hW.1 HX.out.2.2.2.2.1; have z5 := pw_cell_below hW.1 HX.out.2.2.2.2.2; first | (go_simp; done) | (go_simp; (try simp only [i64_w]); rfl) | (go_simp; simp; rfl)
   try simp only [Act.put, List.setIfInBounds_toArray, List.set_cons_zero, List.set_cons_succ]
   refine AnyEvents.obs_cons ?v37_9 (val_holeT rfl (by simp only [List.getD_cons_zero, List.getD_cons_succ])) (AnyEvents.ob_plain (v := ?v37_9) rfl rfl rfl same (by simp only [List.getD_cons_zero, List.getD_cons_succ]) (fun ph W' hwn hW => ?_)) ?_
   ·have z0 := pw_cell_below hW.1 HX.out.1; have z1 := pw_cell_below hW.1 HX.out.2.1; have z2 := pw_cell_below hW.1 HX.out.2.2.1; have z3 := pw_cell_below hW.1 HX.out.2.2.2.1; have z4 := pw_cell_below hW.1 HX.out.2.2.2.2.1; have z5 := pw_cell_below hW.1 HX.out.2.2.2.2.2; first | (go_simp; done) | (go_simp; (try simp only [i64_w]); rfl) | (go_simp; simp; rfl)
   try simp only [Act.put, List.setIfInBounds_toArray, List.set_cons_zero, List.set_cons_succ]
   refine AnyEvents.obs_cons (.bool true) (val_holeT rfl (by simp only [List.getD_cons_zero, List.getD_cons_succ])) (ob_evcallR (q := 1) (v := (.bool true)) rfl rfl rfl (by simp only [List.getD_cons_zero, List.getD_cons_succ]) (fun W' hW hT => ?_)) ?_
   ·obtain ⟨g2, e5, hx5_⟩ := hT 5 _ _ rfl rfl (by decide) (by kernel_rfl) rfl; obtain ⟨top, hR2, hne2, ht1, ht2, hlow⟩ := hx5_ rfl; obtain ⟨HB_, ⟨qf, gt, hF, hGf, hef⟩, ⟨q', got', hQ, hR, hG, he⟩⟩ := hW; obtain ⟨rfl, rfl⟩ := he (by decide); obtain ⟨rfl, rfl⟩ := hef (by decide); refine ⟨21, #[.pointer (some ⟨gf, 0, none⟩), .pointer (some ⟨g2, 0, none⟩), (.agg #[.int .i64 f0, .int .i64 f1, .int .i64 f2, .string f3, .slice A4 f4.length c4, .bool f5])], by rw [e5]; first | (go_simp; done) | (go_simp; rfl), ?_⟩; have hlm : (f4.map fun x => (x.f0, x.f1)).length = f4.length := List.length_map _; have hc := sternpostlaw15_step.callsR gf g2 top qf gt f0 f1 f2 f3 A4 c4 (f4.map fun x => (x.f0, x.f1)) f5 w W' hF hR2 HB_ hG (by have h := SrcAt.kept (SrcAt.ranges (c := c4) HC4.out) HB_; rw [hlm] at h ⊢; exact h) (by rw [hlm]; exact HSM.out.2) HSM.out.1 ht2 ht1 HN.out; rw [hlm] at hc; refine hc.mono ?_; rintro e W4 ⟨rfl, q2, got2, hF2, hR3, hG2, hB4, hk⟩; refine ⟨rfl, ⟨hB4, ⟨q2, got2, hF2, hG2, fun h => absurd h (by decide)⟩, ⟨qf, gt, hQ.keepX hk ?_ ?_, hR.keepX hk ?_ ?_, hG, fun _ => ⟨rfl, rfl⟩⟩⟩, .inl rfl⟩
    ·obtain ⟨_, k1_, _⟩ := hQ; obtain ⟨_, k2_, _⟩ := hR2; exact not_mem2 HNE.out (typ_ne k1_ k2_ (by decide))
    ·intro b cur hb; obtain ⟨_, k1_, _⟩ := hF; obtain ⟨_, k2_, _⟩ := hR2; exact not_mem2 (typ_ne hb k1_ (by decide)) (typ_ne hb k2_ (by decide))
    ·obtain ⟨_, k1_, _⟩ := hF; obtain ⟨_, k2_, _⟩ := hR; exact not_mem2 (Ne.symm (typ_ne k1_ k2_ (by decide))) (Ne.symm hne2)
    ·intro v hv b hb; obtain ⟨h1, h2⟩ := hlow v hv b hb; obtain ⟨_, cur, hcur⟩ := hR.rowlt v hv b hb; obtain ⟨_, k1_, _⟩ := hF; exact ⟨h1, not_mem2 (typ_ne hcur k1_ (by decide)) h2⟩
   try simp only [Act.put, List.setIfInBounds_toArray, List.set_cons_zero, List.set_cons_succ]
   refine AnyEvents.obs_cons ?v37_11 (val_holeT rfl (by simp only [List.getD_cons_zero, List.getD_cons_succ])) (AnyEvents.ob_plain (v := ?v37_11) rfl rfl rfl same (by simp only [List.getD_cons_zero, List.getD_cons_succ]) (fun ph W' hwn hW => ?_)) ?_
   ·have z0 := pw_cell_below hW.1 HX.out.1; have z1 := pw_cell_below hW.1 HX.out.2.1; have z2 := pw_cell_below hW.1 HX.out.2.2.1; have z3 := pw_cell_below hW.1 HX.out.2.2.2.1; have z4 := pw_cell_below hW.1 HX.out.2.2.2.2.1; have z5 := pw_cell_below hW.1 HX.out.2.2.2.2.2; first | (go_simp; done) | (go_simp; (try simp only [i64_w]); rfl) | (go_simp; simp; rfl)
   try simp only [Act.put, List.setIfInBounds_toArray, List.set_cons_zero, List.set_cons_succ]
   refine AnyEvents.obs_cons ?v37_12 (val_holeT rfl (by simp only [List.getD_cons_zero, List.getD_cons_succ])) (AnyEvents.ob_plain (v := ?v37_12) rfl rfl rfl same (by simp only [List.getD_cons_zero, List.getD_cons_succ]) (fun ph W' hwn hW => ?_)) ?_
   ·have z0 := pw_cell_below hW.1 HX.out.1; have z1 := pw_cell_below hW.1 HX.out.2.1; have z2 := pw_cell_below hW.1 HX.out.2.2.1; have z3 := pw_cell_below hW.1 HX.out.2.2.2.1; have z4 := pw_cell_below hW.1 HX.out.2.2.2.2.1; have z5 := pw_cell_below hW.1 HX.out.2.2.2.2.2; first | (go_simp; done) | (go_simp; (try simp only [i64_w]); rfl) | (go_simp; simp; rfl)
   try simp only [Act.put, List.setIfInBounds_toArray, List.set_cons_zero, List.set_cons_succ]
   refine AnyEvents.obs_cons (.bool false) (val_holeT rfl (by simp only [List.getD_cons_zero, List.getD_cons_succ])) (ob_evplain (q := 2) (v := (.bool false)) rfl rfl rfl (by simp only [List.getD_cons_zero, List.getD_cons_succ]) (fun W' hW => ⟨?_, ?_, .inl rfl⟩)) ?_
   ·first | (go_simp; done) | (go_simp; rfl)
   ·obtain ⟨HB_, ⟨qf, gt, hF, hGf, hef⟩, ⟨q', got', hQ, hR, hG, he⟩⟩ := hW; exact ⟨HB_, ⟨qf, gt, hF, hGf, fun h => absurd h (by decide)⟩, ⟨q', got', hQ, hR, hG, fun _ => he (by decide)⟩⟩
   try simp only [Act.put, List.setIfInBounds_toArray, List.set_cons_zero, List.set_cons_succ]
   refine AnyEvents.obs_cons ?v37_14 (val_holeT rfl (by simp only [List.getD_cons_zero, List.getD_cons_succ])) (AnyEvents.ob_plain (v := ?v37_14) rfl rfl rfl same (by simp only [List.getD_cons_zero, List.getD_cons_succ]) (fun ph W' hwn hW => ?_)) ?_
   ·have z0 := pw_cell_below hW.1 HX.out.1; have z1 := pw_cell_below hW.1 HX.out.2.1; have z2 := pw_cell_below hW.1 HX.out.2.2.1; have z3 := pw_cell_below hW.1 HX.out.2.2.2.1; have z4 := pw_cell_below hW.1 HX.out.2.2.2.2.1; have z5 := pw_cell_below hW.1 HX.out.2.2.2.2.2; first | (go_simp; done) | (go_simp; (try simp only [i64_w]); rfl) | (go_simp; simp; rfl)
   try simp only [Act.put, List.setIfInBounds_toArray, List.set_cons_zero, List.set_cons_succ]
   refine AnyEvents.obs_cons ?v37_15 (val_holeT rfl (by simp only [List.getD_cons_zero, List.getD_cons_succ])) (AnyEvents.ob_plain (v := ?v37_15) rfl rfl rfl same (by simp only [List.getD_cons_zero, List.getD_cons_succ]) (fun ph W' hwn hW => ?_)) ?_
   ·have z0 := pw_cell_below hW.1 HX.out.1; have z1 := pw_cell_below hW.1 HX.out.2.1; have z2 := pw_cell_below hW.1 HX.out.2.2.1; have z3 := pw_cell_below hW.1 HX.out.2.2.2.1; have z4 := pw_cell_below hW.1 HX.out.2.2.2.2.1; have z5 := pw_cell_below hW.1 HX.out.2.2.2.2.2; first | (go_simp; done) | (go_simp; (try simp only [i64_w]); rfl) | (go_simp; simp; rfl)
   try simp only [Act.put, List.setIfInBounds_toArray, List.set_cons_zero, List.set_cons_succ]
   refine AnyEvents.obs_cons ?v37_16 (val_holeT rfl (by simp only [List.getD_cons_zero, List.getD_cons_succ])) (AnyEvents.ob_plain (v := ?v37_16) rfl rfl rfl same (by simp only [List.getD_cons_zero, List.getD_cons_succ]) (fun ph W' hwn hW => ?_)) ?_
   ·have z0 := pw_cell_below hW.1 HX.out.1; have z1 := pw_cell_below hW.1 HX.out.2.1; have z2 := pw_cell_below hW.1 HX.out.2.2.1; have z3 := pw_cell_below hW.1 HX.out.2.2.2.1; have z4 := pw_cell_below hW.1 HX.out.2.2.2.2.1; have z5 := pw_cell_below hW.1 HX.out.2.2.2.2.2; first | (go_simp; done) | (go_simp; (try simp only [i64_w]); rfl) | (go_simp; simp; rfl)
   try simp only [Act.put, List.setIfInBounds_toArray, List.set_cons_zero, List.set_cons_succ]
   refine AnyEvents.obs_cons ?v37_17 (val_holeT rfl (by simp only [List.getD_cons_zero, List.getD_cons_succ])) (AnyEvents.ob_plain (v := ?v37_17) rfl rfl rfl same (by simp only [List.getD_cons_zero, List.getD_cons_succ]) (fun ph W' hwn hW => ?_)) ?_
   ·have z0 := pw_cell_below hW.1 HX.out.1; have z1 := pw_cell_below hW.1 HX.out.2.1; have z2 := pw_cell_below hW.1 HX.out.2.2.1; have z3 := pw_cell_below hW.1 HX.out.2.2.2.1; have z4 := pw_cell_below hW.1 HX.out.2.2.2.2.1; have z5 := pw_cell_below hW.1 HX.out.2.2.2.2.2; first | (go_simp; done) | (go_simp; (try simp only [i64_w]); rfl) | (go_simp; simp; rfl)
   try simp only [Act.put, List.setIfInBounds_toArray, List.set_cons_zero, List.set_cons_succ]
   refine AnyEvents.obs_cons ?v37_18 (val_holeT rfl (by simp only [List.getD_cons_zero, List.getD_cons_succ])) (AnyEvents.ob_plain (v := ?v37_18) rfl rfl rfl same (by simp only [List.getD_cons_zero, List.getD_cons_succ]) (fun ph W' hwn hW => ?_)) ?_
   ·have z0 := pw_cell_below hW.1 HX.out.1; have z1 := pw_cell_below hW.1 HX.out.2.1; have z2 := pw_cell_below hW.1 HX.out.2.2.1; have z3 := pw_cell_below hW.1 HX.out.2.2.2.1; have z4 := pw_cell_below hW.1 HX.out.2.2.2.2.1; have z5 := pw_cell_below hW.1 HX.out.2.2.2.2.2; first | (go_simp; done) | (go_simp; (try simp only [i64_w]); rfl) | (go_simp; simp; rfl)
   try simp only [Act.put, List.setIfInBounds_toArray, List.set_cons_zero, List.set_cons_succ]
   refine AnyEvents.obs_cons ?v37_19 (val_holeT rfl (by simp only [List.getD_cons_zero, List.getD_cons_succ])) (AnyEvents.ob_plain (v := ?v37_19) rfl rfl rfl same (by simp only [List.getD_cons_zero, List.getD_cons_succ]) (fun ph W' hwn hW => ?_)) ?_
   ·have z0 := pw_cell_below hW.1 HX.out.1; have z1 := pw_cell_below hW.1 HX.out.2.1; have z2 := pw_cell_below hW.1 HX.out.2.2.1; have z3 := pw_cell_below hW.1 HX.out.2.2.2.1; have z4 := pw_cell_below hW.1 HX.out.2.2.2.2.1; have z5 := pw_cell_below hW.1 HX.out.2.2.2.2.2; first | (go_simp; done) | (go_simp; (try simp only [i64_w]); rfl) | (go_simp; simp; rfl)
   try simp only [Act.put, List.setIfInBounds_toArray, List.set_cons_zero, List.set_cons_succ]
   refine AnyEvents.obs_cons (.bool true) (val_holeT rfl (by simp only [List.getD_cons_zero, List.getD_cons_succ])) (AnyEvents.ob_evcall (q := 3) (v := (.bool true)) rfl rfl rfl (by simp only [List.getD_cons_zero, List.getD_cons_succ]) 21 #[.pointer (some ⟨gq, 0, none⟩), .pointer (some ⟨gr, 0, none⟩), (.agg #[.int .i64 f0, .int .i64 f1, .int .i64 f2, .string f3, .slice A4 f4.length c4, .bool f5])] (fun W' hW => ?_) (fun W' hW => ?_)) ?_
   ·first | (go_simp; done) | (go_simp; rfl)
   ·obtain ⟨HB_, ⟨qf, gt, hF, hGf, hef⟩, ⟨q', got', hQ, hR, hG, he⟩⟩ := hW; obtain ⟨rfl, rfl⟩ := he (by decide); have hlm : (f4.map fun x => (x.f0, x.f1)).length = f4.length := List.length_map _; have hc := sternpostlaw15_step.callsR gq gr w.heap.size q' got' f0 f1 f2 f3 A4 c4 (f4.map fun x => (x.f0, x.f1)) f5 w W' hQ hR HB_ hG (by have h := SrcAt.kept (SrcAt.ranges (c := c4) HC4.out) HB_; rw [hlm] at h ⊢; exact h) (by rw [hlm]; exact HSM.out.2) HSM.out.1 HB_.size (Nat.le_refl _) HN.out; rw [hlm] at hc; refine hc.mono ?_; rintro e W4 ⟨rfl, q2, got2, hQ2, hR2, hG2, hB4, hk⟩; refine ⟨rfl, ⟨hB4, ⟨qf, gt, hF.keepX hk ?_ ?_, hGf, fun h => absurd h (by decide)⟩, ⟨q2, got2, hQ2, hR2, hG2, fun h => absurd h (by decide)⟩⟩, .inl rfl⟩
    ·obtain ⟨_, k1_, _⟩ := hF; obtain ⟨_, k2_, _⟩ := hR; exact not_mem2 (Ne.symm HNE.out) (typ_ne k1_ k2_ (by decide))
    ·intro b cur hb; obtain ⟨_, k1_, _⟩ := hQ; obtain ⟨_, k2_, _⟩ := hR; exact not_mem2 (typ_ne hb k1_ (by decide)) (typ_ne hb k2_ (by decide))
   try simp only [Act.put, List.setIfInBounds_toArray, List.set_cons_zero, List.set_cons_succ]
   refine AnyEvents.obs_cons ?v37_21 (val_holeT rfl (by simp only [List.getD_cons_zero, List.getD_cons_succ])) (AnyEvents.ob_plain (v := ?v37_21) rfl rfl rfl same (by simp only [List.getD_cons_zero, List.getD_cons_succ]) (fun ph W' hwn hW => ?_)) ?_
   ·have z0 := pw_cell_below hW.1 HX.out.1; have z1 := pw_cell_below hW.1 HX.out.2.1; have z2 := pw_cell_below hW.1 HX.out.2.2.1; have z3 := pw_cell_below hW.1 HX.out.2.2.2.1; have z4 := pw_cell_below hW.1 HX.out.2.2.2.2.1; have z5 := pw_cell_below hW.1 HX.out.2.2.2.2.2; first | (go_simp; done) | (go_simp; (try simp only [i64_w]); rfl) | (go_simp; simp; rfl)
   try simp only [Act.put, List.setIfInBounds_toArray, List.set_cons_zero, List.set_cons_succ]
   refine AnyEvents.obs_cons ?v37_22 (val_holeT rfl (by simp only [List.getD_cons_zero, List.getD_cons_succ])) (AnyEvents.ob_plain (v := ?v37_22) rfl rfl rfl same (by simp only [List.getD_cons_zero, List.getD_cons_succ]) (fun ph W' hwn hW => ?_)) ?_
   ·have z0 := pw_cell_below hW.1 HX.out.1; have z1 := pw_cell_below hW.1 HX.out.2.1; have z2 := pw_cell_below hW.1 HX.out.2.2.1; have z3 := pw_cell_below hW.1 HX.out.2.2.2.1; have z4 := pw_cell_below hW.1 HX.out.2.2.2.2.1; have z5 := pw_cell_below hW.1 HX.out.2.2.2.2.2; first | (go_simp; done) | (go_simp; (try simp only [i64_w]); rfl) | (go_simp; simp; rfl)
   try simp only [Act.put, List.setIfInBounds_toArray, List.set_cons_zero, List.set_cons_succ]
   trivial
  case fin37r =>
   intro x W' hD hR
   simp only [List.take_succ_cons, List.take_zero, List.drop_succ_cons, List.drop_zero]
   rw [AnyOrder.lexAt_cons ?v37_0 (val_holeT rfl (by simp only [List.getD_cons_zero, List.getD_cons_succ]))]
   try simp only [Act.put, List.setIfInBounds_toArray, List.set_cons_zero, List.set_cons_succ]
   rw [AnyOrder.lexAt_cons ?v37_1 (val_holeT rfl (by simp only [List.getD_cons_zero, List.getD_cons_succ]))]
   try simp only [Act.put, List.setIfInBounds_toArray, List.set_cons_zero, List.set_cons_succ]
   rw [AnyOrder.lexAt_cons ?v37_2 (val_holeT rfl (by simp only [List.getD_cons_zero, List.getD_cons_succ]))]
   try simp only [Act.put, List.setIfInBounds_toArray, List.set_cons_zero, List.set_cons_succ]
   rw [AnyOrder.lexAt_cons ?v37_3 (val_holeT rfl (by simp only [List.getD_cons_zero, List.getD_cons_succ]))]
   try simp only [Act.put, List.setIfInBounds_toArray, List.set_cons_zero, List.set_cons_succ]
   rw [AnyOrder.lexAt_cons ?v37_4 (val_holeT rfl (by simp only [List.getD_cons_zero, List.getD_cons_succ]))]
   try simp only [Act.put, List.setIfInBounds_toArray, List.set_cons_zero, List.set_cons_succ]
   rw [AnyOrder.lexAt_cons (x 5) rfl]
   try simp only [Act.put, List.setIfInBounds_toArray, List.set_cons_zero, List.set_cons_succ]
   rw [AnyOrder.lexAt_cons ?v37_6 (val_holeT rfl (by simp only [List.getD_cons_zero, List.getD_cons_succ]))]
   try simp only [Act.put, List.setIfInBounds_toArray, List.set_cons_zero, List.set_cons_succ]
   rw [AnyOrder.lexAt_cons ?v37_7 (val_holeT rfl (by simp only [List.getD_cons_zero, List.getD_cons_succ]))]
   try simp only [Act.put, List.setIfInBounds_toArray, List.set_cons_zero, List.set_cons_succ]
   rw [AnyOrder.lexAt_cons ?v37_8 (val_holeT rfl (by simp only [List.getD_cons_zero, List.getD_cons_succ]))]
   try simp only [Act.put, List.setIfInBounds_toArray, List.set_cons_zero, List.set_cons_succ]
   rw [AnyOrder.lexAt_cons ?v37_9 (val_holeT rfl (by simp only [List.getD_cons_zero, List.getD_cons_succ]))]
   try simp only [Act.put, List.setIfInBounds_toArray, List.set_cons_zero, List.set_cons_succ]
   rw [AnyOrder.lexAt_cons (.bool true) (val_holeT rfl (by simp only [List.getD_cons_zero, List.getD_cons_succ]))]
   try simp only [Act.put, List.setIfInBounds_toArray, List.set_cons_zero, List.set_cons_succ]
   rw [AnyOrder.lexAt_cons ?v37_11 (val_holeT rfl (by simp only [List.getD_cons_zero, List.getD_cons_succ]))]
   try simp only [Act.put, List.setIfInBounds_toArray, List.set_cons_zero, List.set_cons_succ]
   rw [AnyOrder.lexAt_cons ?v37_12 (val_holeT rfl (by simp only [List.getD_cons_zero, List.getD_cons_succ]))]
   try simp only [Act.put, List.setIfInBounds_toArray, List.set_cons_zero, List.set_cons_succ]
   rw [AnyOrder.lexAt_cons (.bool false) (val_holeT rfl (by simp only [List.getD_cons_zero, List.getD_cons_succ]))]
   try simp only [Act.put, List.setIfInBounds_toArray, List.set_cons_zero, List.set_cons_succ]
   rw [AnyOrder.lexAt_cons ?v37_14 (val_holeT rfl (by simp only [List.getD_cons_zero, List.getD_cons_succ]))]
   try simp only [Act.put, List.setIfInBounds_toArray, List.set_cons_zero, List.set_cons_succ]
   rw [AnyOrder.lexAt_cons ?v37_15 (val_holeT rfl (by simp only [List.getD_cons_zero, List.getD_cons_succ]))]
   try simp only [Act.put, List.setIfInBounds_toArray, List.set_cons_zero, List.set_cons_succ]
   rw [AnyOrder.lexAt_cons ?v37_16 (val_holeT rfl (by simp only [List.getD_cons_zero, List.getD_cons_succ]))]
   try simp only [Act.put, List.setIfInBounds_toArray, List.set_cons_zero, List.set_cons_succ]
   rw [AnyOrder.lexAt_cons ?v37_17 (val_holeT rfl (by simp only [List.getD_cons_zero, List.getD_cons_succ]))]
   try simp only [Act.put, List.setIfInBounds_toArray, List.set_cons_zero, List.set_cons_succ]
   rw [AnyOrder.lexAt_cons ?v37_18 (val_holeT rfl (by simp only [List.getD_cons_zero, List.getD_cons_succ]))]
   try simp only [Act.put, List.setIfInBounds_toArray, List.set_cons_zero, List.set_cons_succ]
   rw [AnyOrder.lexAt_cons ?v37_19 (val_holeT rfl (by simp only [List.getD_cons_zero, List.getD_cons_succ]))]
   try simp only [Act.put, List.setIfInBounds_toArray, List.set_cons_zero, List.set_cons_succ]
   rw [AnyOrder.lexAt_cons (.bool true) (val_holeT rfl (by simp only [List.getD_cons_zero, List.getD_cons_succ]))]
   try simp only [Act.put, List.setIfInBounds_toArray, List.set_cons_zero, List.set_cons_succ]
   rw [AnyOrder.lexAt_cons ?v37_21 (val_holeT rfl (by simp only [List.getD_cons_zero, List.getD_cons_succ]))]
   try simp only [Act.put, List.setIfInBounds_toArray, List.set_cons_zero, List.set_cons_succ]
   rw [AnyOrder.lexAt_cons ?v37_22 (val_holeT rfl (by simp only [List.getD_cons_zero, List.getD_cons_succ]))]
   try simp only [Act.put, List.setIfInBounds_toArray, List.set_cons_zero, List.set_cons_succ]
   rw [AnyOrder.lexAt_nil]
   clear same
   clear hR HF HQ HR HG HB
   obtain ⟨hB, ⟨qf, gt, hF, hGf, _⟩, ⟨q', got', hQ, hR, hG, _⟩⟩ := hD
   have HF := Aside0.mk hF; have HQ := Aside0.mk hQ; have HR := Aside0.mk hR; have HG := Aside0.mk hG; have HGF := Aside0.mk hGf; have HB := Aside0.mk hB
   clear hF hQ hR hG hGf hB
   go_wp2_with fail
   refine (sendq_Queue_Write.calls gf qf _ w _ HF.out HB.out (by have := HGF.out.le; omega) (by decide)).mono ?_
   rintro e W5 ⟨rfl, hF, hB, hK⟩
   have n1_ := Aside0.mk (HQ.out.other (fun e => HNE.out e) ⟨_, HF.out⟩ hK); have n2_ := Aside0.mk (HR.out.keepG HF.out hK)
   clear HQ HR HF HB hK
   have HQ := n1_; have HR := n2_; have HF := Aside0.mk hF; have HB := Aside0.mk hB
   clear n1_ n2_ hF hB
   go_wp2_with fail
   refine (sendq_Queue_Probe.calls gf _ w _ HF.out HB.out).mono ?_
   rintro e W6 ⟨rfl, hF, hB, hK⟩
   have n1_ := Aside0.mk (HQ.out.other (fun e => HNE.out e) ⟨_, HF.out⟩ hK); have n2_ := Aside0.mk (HR.out.keepG HF.out hK)
   clear HQ HR HF HB hK hF
   have HQ := n1_; have HR := n2_; have HB := Aside0.mk hB
   clear n1_ n2_ hB
   go_wp2_with fail
   refine (sendq_Queue_State.calls gq q' w _ HQ.out HG.out.ok (by have := HG.out.le; omega)).mono ?_
   rintro e W7 ⟨rfl, nd, rfl⟩
   have n1_ := Aside0.mk (HQ.out.drawn (w' := W6.drewN nd) rfl); have n2_ := Aside0.mk (HR.out.drawn (w' := W6.drewN nd) rfl); have n3_ := Aside0.mk (pw_below_drewN HB.out nd)
   clear HQ HR HB
   generalize W6.drewN nd = W7 at n1_ n2_ n3_ ⊢
   have HQ := n1_; have HR := n2_; have HB := n3_
   clear n1_ n2_ n3_
   obtain ⟨Az, cz, ⟨hbg, hge⟩, ⟨hle, hcm⟩, ⟨hc0, hc1, hc2, hc3, hc4⟩, _, HQ_⟩ := HR.out.cell
   change W7.cell? ⟨gr, 0, none⟩ = some (.int .i64 q'.left) at hc0
   clear hbg hge hle hcm hc1 hc2 hc3 hc4 HQ_
   go_wp2_with fail
   refine (sternpostref15_Queue_Next1.callsR gr w.heap.size w.heap.size (rq q' got') _ HR.out HG.out.ok (show (0 : Int) ≤ q'.sent ∧ q'.sent ≤ 65536 by have := HG.out.le; omega)).mono ?_
   rw [show (rq q' got').at_ (rq q' got').sent = q'.at_ q'.sent from rfl]
   rintro e W8 ⟨rfl, nd, rfl⟩
   have n1_ := Aside0.mk (HQ.out.drawn (w' := W7.drewN nd) rfl); have n2_ := Aside0.mk (HR.out.drawn (w' := W7.drewN nd) rfl); have n3_ := Aside0.mk (pw_below_drewN HB.out nd)
   clear hc0 HQ HR HB
   generalize W7.drewN nd = W8 at n1_ n2_ n3_ ⊢
   have HQ := n1_; have HR := n2_; have HB := n3_
   clear n1_ n2_ n3_
   obtain ⟨Az, cz, ⟨hbg, hge⟩, ⟨hle, hcm⟩, ⟨hc0, hc1, hc2, hc3, hc4⟩, _, HQ_⟩ := HR.out.cell
   change W8.cell? ⟨gr, 3, none⟩ = some (.string q'.s) at hc3
   clear hbg hge hle hcm hc0 hc1 hc2 hc4 HQ_
   go_wp2
   go_roundg k1
   case measure => omega
   case rel => exact ⟨i + 1, _, q', got', rfl, ⟨HII.out, by have := HK.out; omega⟩, HQ, HR, HG, HB⟩

/-- THE ONE PURE STATEMENT of sternpostlaw15_SendqPlays: yours. -/
def fit47 (x : S47) : Prop := ((Lit.int .i64 x.f0).wf = true) ∧ (Lit.int .i64 x.f1).wf = true
def fit55 (x : S55) : Prop := ((Lit.int .i64 x.f0).wf = true) ∧ ((Lit.int .i64 x.f1).wf = true) ∧ ((Lit.int .i64 x.f2).wf = true) ∧ (x.f3.size ≤ 140737488351232) ∧ ((x.f4.length * 16 ≤ 140737488351232 ∧ ∀ x_ ∈ x.f4, fit47 x_)) ∧ True
def sternpostlaw15_SendqPlays.Pure : Prop := ∀ (a0 : Int) (a1 : Int) (l2 : List (S55)), (Lit.int .i64 a0).wf = true → (Lit.int .i64 a1).wf = true → (l2.length * 72 ≤ 140737488351232 ∧ ∀ x_ ∈ l2, fit55 x_) → ∃ k, sternpostlaw15_SendqPlays.f k a0 a1 l2 = some true
theorem sternpostlaw15_SendqPlays.walk (P : sternpostlaw15_SendqPlays.Pure) (a0 : Int) (a1 : Int) (A2 : Option Addr) (c2 : Nat) (l2 : List (S55)) (w : World) (w0 : (Lit.int .i64 a0).wf = true) (w1 : (Lit.int .i64 a1).wf = true) (hr2 : Kd.C k55 w A2 l2.length l2) (hc2 : l2.length ≤ c2) (w2 : (l2.length * 72 ≤ 140737488351232 ∧ ∀ x_ ∈ l2, fit55 x_)) :
  Calls Try.prog 6 #[.int .i64 a0, .int .i64 a1, .slice A2 l2.length c2] w fun e w' => e = .returned (.bool true) ∧ Below w.heap.size w w' := by
 obtain ⟨k, h⟩ := P a0 a1 l2 w0 w1 w2
 refine (sternpostlaw15_SendqPlays.calls k a0 a1 _ _ l2 true w hr2 hc2 h rfl).mono ?_
 rintro e w' ⟨rfl, hd⟩
 exact ⟨rfl, hd⟩

end Go.Proofs.Ytobndcdohehhbaa.PSendqPlays

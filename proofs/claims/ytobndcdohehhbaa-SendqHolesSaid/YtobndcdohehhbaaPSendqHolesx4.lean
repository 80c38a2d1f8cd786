-- Laid by this claim's own program over the print's words.
import Derived.Test.YtobndcdohehhbaaPSendqHolesx0
import Derived.Test.YtobndcdohehhbaaPSendqHolesx1
import Derived.Test.YtobndcdohehhbaaPSendqHolesx2
import Derived.Test.YtobndcdohehhbaaPSendqHolesx3
namespace Go.Proofs.Ytobndcdohehhbaa.PSendqHoles
open Go.RowKit Go.Proofs.YtobndcdohehhbaaW.PrintWords Go.Proofs.YtobndcdohehhbaaW.PrintLast Go.Proofs.YtobndcdohehhbaaW.PrintMore
attribute [local go_sem] max2_int min2_int max_two min_two max_three min_three max_four min_four max_five min_five extract_cut tmod_nat_lit   -- for this text's walks alone
set_option linter.unusedVariables false
set_option linter.unusedSimpArgs false


/-! ### sendq_Queue_Hole: function 15 (by hand) -/
def holeL (sent : Int) : Int → List (Int × Int) → Int × Int
 | f, [] => (f, sent)
 | f, x :: l => if f < x.1 then (f, x.1) else holeL sent x.2 l
theorem holeL_in (sent : Int) (hs : 0 ≤ sent ∧ sent ≤ 65536) : ∀ (l : List (Int × Int)) (f : Int), (0 ≤ f ∧ f ≤ 65536) → (∀ x ∈ l, InB x ∧ x.1 ≤ sent) → 0 ≤ (holeL sent f l).1 ∧ (holeL sent f l).1 ≤ 65536 ∧ 0 ≤ (holeL sent f l).2 ∧ (holeL sent f l).2 ≤ sent
 | [], f, hf, _ => ⟨hf.1, hf.2, hs.1, Int.le_refl _⟩
 | x :: l, f, hf, h => by
  have hx := h x List.mem_cons_self
  unfold InB at hx
  unfold holeL
  split
  ·exact ⟨hf.1, hf.2, hx.1.1, hx.2⟩
  ·exact holeL_in sent hs l x.2 ⟨hx.1.2.2.1, hx.1.2.2.2⟩ (fun y hy => h y (List.mem_cons_of_mem _ hy))
def QS.holeTo (q : QS) (most : Int) : Int := min (holeL q.sent 0 q.ap).2 ((holeL q.sent 0 q.ap).1 + max 0 (min most q.sent))
def QS.hole (q : QS) (most : Int) : Int × ByteArray := if q.holeTo most ≤ (holeL q.sent 0 q.ap).1 then (q.left, (⟨#[]⟩ : ByteArray)) else (q.at_ (holeL q.sent 0 q.ap).1, cutS q.s (holeL q.sent 0 q.ap).1.toNat (q.holeTo most).toNat)
set_option maxHeartbeats 4000000 in
set_option maxRecDepth 100000 in
theorem sendq_Queue_Hole.calls (g : Nat) (q : QS) (most : Int) (w0 w : World) (hI : QAt w w0.heap.size g q) (hl : sqOk q.left) (hs : 0 ≤ q.sent ∧ q.sent ≤ (q.s.size : Int) ∧ (q.s.size : Int) ≤ 65536) (hap : (∀ x ∈ q.ap, InB x ∧ x.1 ≤ q.sent) ∧ q.ap.length ≤ 1000000) :
  Calls Try.prog 15 #[.pointer (some ⟨g, 0, none⟩), .int .i64 most] w fun e w' => e = .returned (.tuple #[.int .i64 (q.hole most).1, .string (q.hole most).2]) ∧ Below w.heap.size w w' := by
 have HI := Aside0.mk hI
 have HL := Aside0.mk hl
 have HS := Aside0.mk hs
 have HAP := Aside0.mk hap
 have HB := Aside0.mk (Below.refl w.heap.size w)
 obtain ⟨⟨f, t⟩, hft⟩ : ∃ p_, holeL q.sent 0 q.ap = p_ := ⟨_, rfl⟩
 have hin := holeL_in q.sent (by omega) q.ap 0 (by omega) hap.1
 rw [hft] at hin
 dsimp only at hin
 obtain ⟨m9, hm9⟩ : ∃ m_, (if q.sent < most then q.sent else most) = m_ := ⟨_, rfl⟩
 obtain ⟨m10, hm10⟩ : ∃ m_, (if 0 < m9 then m9 else 0) = m_ := ⟨_, rfl⟩
 have hm10b : 0 ≤ m10 ∧ m10 ≤ 65536 := by rw [← hm10, ← hm9]; split <;> (try split) <;> omega
 obtain ⟨t1, ht1⟩ : ∃ m_, f + m10 = m_ := ⟨_, rfl⟩
 have hw1 : wrap64 (f + m10) = t1 := (w64p (by omega) (by omega)).trans ht1
 obtain ⟨t2, ht2⟩ : ∃ m_, (if t1 < t then t1 else t) = m_ := ⟨_, rfl⟩
 have htt : q.holeTo most = t2 := by
  unfold QS.holeTo
  rw [hft, ← ht2, ← ht1, ← hm10, ← hm9]
  dsimp only
  (repeat' split) <;> omega
 have he : q.hole most = if t2 ≤ f then (q.left, (⟨#[]⟩ : ByteArray)) else (q.at_ f, cutS q.s f.toNat t2.toNat) := by unfold QS.hole; rw [htt, hft]
 have ht2b : t2 ≤ t := by rw [← ht2]; split <;> omega
 have HIN := Aside0.mk (And.intro hin ht2b)
 have HM := Aside0.mk (And.intro hm9 (And.intro hm10 (And.intro hw1 ht2)))
 obtain ⟨R, hR⟩ : ∃ R_, q.hole most = R_ := ⟨_, rfl⟩
 rw [hR] at he ⊢
 have HR := Aside0.mk he
 clear hI hl hs hap hin hR hm9 hm10 hm10b ht1 hw1 ht2 htt he ht2b
 obtain ⟨Az, cz, ⟨hbg, hge⟩, ⟨hle, hcm⟩, ⟨hc0, hc1, hc2, hc3, hc4⟩, ⟨hf0, hf1, hf2, hf3, hf4⟩, HQ⟩ := HI.out.cell
 change _ = some (Value.slice Az q.ap.length cz) at hc4
 have HQA := Aside0.mk HQ
 have HGC := Aside0.mk hbg
 have HGE := Aside0.mk hge
 have HFT := Aside0.mk hft
 clear hft HI
 go_enter Try.func15, Try.ntmps15
 go_upto_region 1 with fail
 have same : ∀ (ph : Nat) W', Drawn0 w W' → True := fun _ _ _ => trivial
 refine AnyEvents.region_then 5 (E := []) (C := fun (_ : Nat) W' => Drawn0 w W') (G := fun _ _ _ _ => True) (T := []) (R := fun _ _ _ _ => True) (vs := [?v14_0, ?v14_1, ?v14_2, ?v14_3, ?v14_4]) (by kernel_rfl) (by kernel_rfl) rfl (by kernel_rfl) ?hc14r same (fun _ _ _ _ _ _ _ _ _ => trivial) (fun _ h => nomatch h) (fun x => ?obs14r) ?fin14r
 case hc14r => exact ⟨1, rfl⟩
 case obs14r =>
  refine AnyEvents.obs_cons ?v14_0 (val_hole (by simp only [List.getD_cons_zero, List.getD_cons_succ])) (AnyEvents.ob_plain (v := ?v14_0) rfl rfl rfl same (by simp only [List.getD_cons_zero, List.getD_cons_succ]) (fun ph W' hwn hW => ?_)) ?_
  ·obtain ⟨nd, rfl⟩ := hW; have z0 := drew_cell nd hc1; first | (go_simp; done) | (go_simp; (try simp only [i64_w]); rfl) | (go_simp; simp; rfl)
  try simp only [Act.put, List.setIfInBounds_toArray, List.set_cons_zero, List.set_cons_succ]
  refine AnyEvents.obs_cons ?v14_1 (val_hole (by simp only [List.getD_cons_zero, List.getD_cons_succ])) (AnyEvents.ob_plain (v := ?v14_1) rfl rfl rfl same (by simp only [List.getD_cons_zero, List.getD_cons_succ]) (fun ph W' hwn hW => ?_)) ?_
  ·obtain ⟨nd, rfl⟩ := hW; have z0 := drew_cell nd hc1; first | (go_simp; done) | (go_simp; (try simp only [i64_w]); rfl) | (go_simp; simp; rfl)
  try simp only [Act.put, List.setIfInBounds_toArray, List.set_cons_zero, List.set_cons_succ]
  refine AnyEvents.obs_cons ?v14_2 (val_hole (by simp only [List.getD_cons_zero, List.getD_cons_succ])) (AnyEvents.ob_plain (v := ?v14_2) rfl rfl rfl same (by simp only [List.getD_cons_zero, List.getD_cons_succ]) (fun ph W' hwn hW => ?_)) ?_
  ·obtain ⟨nd, rfl⟩ := hW; have z0 := drew_cell nd hc1; first | (go_simp; done) | (go_simp; (try simp only [i64_w]); rfl) | (go_simp; simp; rfl)
  try simp only [Act.put, List.setIfInBounds_toArray, List.set_cons_zero, List.set_cons_succ]
  refine AnyEvents.obs_cons ?v14_3 (val_hole (by simp only [List.getD_cons_zero, List.getD_cons_succ])) (AnyEvents.ob_plain (v := ?v14_3) rfl rfl rfl same (by simp only [List.getD_cons_zero, List.getD_cons_succ]) (fun ph W' hwn hW => ?_)) ?_
  ·obtain ⟨nd, rfl⟩ := hW; have z0 := drew_cell nd hc1; first | (go_simp; done) | (go_simp; (try simp only [i64_w]); rfl) | (go_simp; simp; rfl)
  try simp only [Act.put, List.setIfInBounds_toArray, List.set_cons_zero, List.set_cons_succ]
  refine AnyEvents.obs_cons ?v14_4 (val_hole (by simp only [List.getD_cons_zero, List.getD_cons_succ])) (AnyEvents.ob_plain (v := ?v14_4) rfl rfl rfl same (by simp only [List.getD_cons_zero, List.getD_cons_succ]) (fun ph W' hwn hW => ?_)) ?_
  ·obtain ⟨nd, rfl⟩ := hW; have z0 := drew_cell nd hc1; first | (go_simp; done) | (go_simp; (try simp only [i64_w]); rfl) | (go_simp; simp; rfl)
  try simp only [Act.put, List.setIfInBounds_toArray, List.set_cons_zero, List.set_cons_succ]
  trivial
 case fin14r =>
  intro x W' hD _
  simp only [List.take_succ_cons, List.take_zero, List.drop_succ_cons, List.drop_zero]
  rw [AnyOrder.lexAt_cons ?v14_0 (val_hole (by simp only [List.getD_cons_zero, List.getD_cons_succ]))]
  try simp only [Act.put, List.setIfInBounds_toArray, List.set_cons_zero, List.set_cons_succ]
  rw [AnyOrder.lexAt_cons ?v14_1 (val_hole (by simp only [List.getD_cons_zero, List.getD_cons_succ]))]
  try simp only [Act.put, List.setIfInBounds_toArray, List.set_cons_zero, List.set_cons_succ]
  rw [AnyOrder.lexAt_cons ?v14_2 (val_hole (by simp only [List.getD_cons_zero, List.getD_cons_succ]))]
  try simp only [Act.put, List.setIfInBounds_toArray, List.set_cons_zero, List.set_cons_succ]
  rw [AnyOrder.lexAt_cons ?v14_3 (val_hole (by simp only [List.getD_cons_zero, List.getD_cons_succ]))]
  try simp only [Act.put, List.setIfInBounds_toArray, List.set_cons_zero, List.set_cons_succ]
  rw [AnyOrder.lexAt_cons ?v14_4 (val_hole (by simp only [List.getD_cons_zero, List.getD_cons_succ]))]
  try simp only [Act.put, List.setIfInBounds_toArray, List.set_cons_zero, List.set_cons_succ]
  rw [AnyOrder.lexAt_nil]
  clear same
  obtain ⟨nd, rfl⟩ := hD
  have hb := pw_below_drewN (Below.refl w.heap.size w) nd
  clear hbg hge hle hcm hc0 hc1 hc2 hc3 hc4 hf0 hf1 hf2 hf3 hf4 HQ
  have n1_ := Aside0.mk (blk_below HGC.out hb); have n2_ := Aside0.mk (ownsAt_below HQA.out hb); have n4_ := Aside0.mk (below_step HB.out hb)
  clear HGC HQA HB hb
  have HGC := n1_; have HQA := n2_; have HB := n4_
  clear n1_ n2_ n4_
  generalize w.drewN nd = W1 at HGC HB HQA ⊢
  have hgc := HGC.out
  have hc4 := blk_cell hgc 4
  change _ = some (Value.slice Az q.ap.length cz) at hc4
  clear hgc
  go_upto_block 0 with fail
  clear hc4
  go_cut [6, 7] (fun v6 v7 W => v6 = .int .i64 f ∧ v7 = .int .i64 t ∧ Aside0 (W.heap[g]? = some (.cells (cellsQ q (.slice Az q.ap.length cz)) 67 (0, 0))) ∧ Aside0 (ownsAt W w0.heap.size 73 2 (.slice Az q.ap.length cz) q.ap.length (spc q.ap)) ∧ Aside0 (Below w.heap.size w W))
  case first =>
   go_wp2_with fail
   go_loopg [6, 7, 19] q.ap.length (fun kq v6 v7 v19 W => ∃ (i : Nat) (iz fz : Int), v6 = .int .i64 fz ∧ v7 = .int .i64 q.sent ∧ v19 = .int .i64 iz ∧ Aside0 (iz = (i : Int) ∧ kq + i = q.ap.length) ∧ Aside0 (holeL q.sent fz (q.ap.drop i) = (f, t)) ∧ Aside0 (W.heap[g]? = some (.cells (cellsQ q (.slice Az q.ap.length cz)) 67 (0, 0))) ∧ Aside0 (ownsAt W w0.heap.size 73 2 (.slice Az q.ap.length cz) q.ap.length (spc q.ap)) ∧ Aside0 (Below w.heap.size w W))
   case atStart => exact ⟨0, 0, 0, rfl, rfl, rfl, ⟨rfl, by simp⟩, HFT, HGC, HQA, HB⟩
   case round =>
    clear HGC HQA HB
    obtain ⟨i, iz, fz, rfl, rfl, rfl, HK, HF, HGC, HQA, HB⟩ := hrel
    have hk := HK.out
    by_cases hlt : iz < (q.ap.length : Int)
    ·have d1 : decide (iz < (q.ap.length : Int)) = true := decide_eq_true hlt
     obtain ⟨k1, rfl⟩ : ∃ k1, gk = k1 + 1 := ⟨gk - 1, by omega⟩
     have hil : i < q.ap.length := by omega
     obtain ⟨⟨a, b⟩, hx⟩ : ∃ x, q.ap[i]? = some x := ⟨_, List.getElem?_eq_getElem hil⟩
     have hf := HF.out
     rw [List.drop_eq_getElem_cons hil, show q.ap[i] = (a, b) from Option.some.inj ((List.getElem?_eq_getElem hil).symm.trans hx), holeL] at hf
     dsimp only at hf
     obtain ⟨gq, oq, rfl, hcells⟩ := ownsAt_cells HQA.out (by omega)
     obtain ⟨hq0, hq1⟩ : wr.cell? ⟨gq, oq + i * 2, none⟩ = some (.int .i64 a) ∧ wr.cell? ⟨gq, oq + i * 2 + 1, none⟩ = some (.int .i64 b) := ⟨hcells _ _ (spc_get q.ap i _ hx).1, hcells _ _ (spc_get q.ap i _ hx).2⟩
     have hn : wrap64 (iz + 1) = ((i + 1 : Nat) : Int) := by have := HAP.out.2; rw [w64p (by omega) (by omega)]; omega
     have HN := Aside0.mk hn
     have HF2 := Aside0.mk hf
     have p0 : 0 ≤ iz := by omega
     have tn : iz.toNat = i := by omega
     replace p0 := eq_true p0
     replace hlt := eq_true hlt
     clear hcells hx hn hk hil hf HF
     go_upto_region 5 with fail
     have hby := blk_new wr (.cells #[.int .i64 a, .int .i64 b] 73)
     have hb := below_alloc (Below.refl wr.heap.size wr) (.cells #[.int .i64 a, .int .i64 b] 73)
     clear hq0 hq1 p0 hlt tn d1
     have n1_ := Aside0.mk (blk_below HGC.out hb); have n2_ := Aside0.mk (ownsAt_below HQA.out hb); have n4_ := Aside0.mk (below_step HB.out hb)
     clear HGC HQA HB hb
     have HGC := n1_; have HQA := n2_; have HB := n4_
     clear n1_ n2_ n4_
     generalize wr.heap.size = by_ at hby ⊢
     generalize wr.alloc (.cells #[.int .i64 a, .int .i64 b] 73) = Wb at hby HGC HB HQA ⊢
     have hy0 := blk_cell hby 0
     have hy1 := blk_cell hby 1
     change _ = some (Value.int .i64 a) at hy0
     change _ = some (Value.int .i64 b) at hy1
     clear hby
     by_cases hc : fz < a
     ·have d2 : decide (fz < a) = true := decide_eq_true hc
      have hf2 := HF2.out
      rw [if_pos hc] at hf2
      obtain ⟨e1, e2⟩ := Prod.mk.inj hf2
      subst e1 e2
      clear hf2 hc
      go_wp2
      go_meet
      case rel => exact ⟨rfl, rfl, HGC, HQA, HB⟩
     ·have d2 : decide (fz < a) = false := decide_eq_false hc
      have hf2 := HF2.out
      rw [if_neg hc] at hf2
      have HF3 := Aside0.mk hf2
      clear hf2 hc
      go_wp2
      go_roundg k1
      case measure => omega
      case rel => exact ⟨i + 1, _, b, rfl, rfl, rfl, ⟨HN.out, by have := HK.out; omega⟩, HF3, HGC, HQA, HB⟩
    ·have d1 : decide (iz < (q.ap.length : Int)) = false := decide_eq_false hlt
     have hf := HF.out
     rw [List.drop_of_length_le (by omega), holeL] at hf
     obtain ⟨e1, e2⟩ := Prod.mk.inj hf
     subst e1 e2
     clear hf hk hlt
     go_wp2
     go_meet
     case rel => exact ⟨rfl, rfl, HGC, HQA, HB⟩
  case rest =>
   clear HGC HQA HB
   obtain ⟨rfl, rfl, HGC, HQA, HB⟩ := hcut
   have hgc := HGC.out
   have hc1 := blk_cell hgc 1
   have hc0 := blk_cell hgc 0
   have hc3 := blk_cell hgc 3
   change _ = some (Value.int .i64 q.sent) at hc1
   change _ = some (Value.int .i64 q.left) at hc0
   change _ = some (Value.string q.s) at hc3
   obtain ⟨hm9, hm10, hw1, ht2⟩ := HM.out
   have HI := Aside0.mk (show QAt wc w0.heap.size g q from ⟨_, hgc, HGE.out, HQA.out⟩)
   clear hgc
   by_cases hc : t2 ≤ f
   ·have d2 : decide (t2 ≤ f) = true := decide_eq_true hc
    have HC := Aside0.mk hc
    clear hc
    go_wp2
    go_ret2
    have hr := HR.out
    rw [if_pos HC.out] at hr
    rw [hr]
    exact ⟨rfl, HB.out⟩
   ·have d2 : decide (t2 ≤ f) = false := decide_eq_false hc
    have HC := Aside0.mk hc
    clear hc
    go_upto_region 12 with fail
    clear d2 hm9 hm10 hw1 ht2
    have same : ∀ (ph : Nat) W', Drawn0 wc W' → True := fun _ _ _ => trivial
    refine AnyEvents.region_then 11 (E := []) (C := fun (_ : Nat) W' => Drawn0 wc W') (G := fun _ _ _ _ => True) (T := []) (R := fun _ _ _ _ => True) (vs := [?v13_0, ?v13_1, (.int .i64 (q.at_ f)), ?v13_3, ?v13_4, ?v13_5, ?v13_6, ?v13_7, ?v13_8, (.string (cutS q.s f.toNat t2.toNat)), ?v13_10]) (by kernel_rfl) (by kernel_rfl) rfl (by kernel_rfl) ?hc13r same (fun _ _ _ _ _ _ _ _ _ => trivial) (fun _ h => nomatch h) (fun x => ?obs13r) ?fin13r
    case hc13r => exact ⟨1, rfl⟩
    case obs13r =>
     refine AnyEvents.obs_cons ?v13_0 (val_hole (by simp only [List.getD_cons_zero, List.getD_cons_succ])) (AnyEvents.ob_plain (v := ?v13_0) rfl rfl rfl same (by simp only [List.getD_cons_zero, List.getD_cons_succ]) (fun ph W' hwn hW => ?_)) ?_
     ·obtain ⟨nd, rfl⟩ := hW; have z0 := drew_cell nd hc3; first | (go_simp; done) | (go_simp; (try simp only [i64_w]); rfl) | (go_simp; simp; rfl)
     try simp only [Act.put, List.setIfInBounds_toArray, List.set_cons_zero, List.set_cons_succ]
     refine AnyEvents.obs_cons ?v13_1 (val_hole (by simp only [List.getD_cons_zero, List.getD_cons_succ])) (AnyEvents.ob_plain (v := ?v13_1) rfl rfl rfl same (by simp only [List.getD_cons_zero, List.getD_cons_succ]) (fun ph W' hwn hW => ?_)) ?_
     ·obtain ⟨nd, rfl⟩ := hW; have z0 := drew_cell nd hc3; first | (go_simp; done) | (go_simp; (try simp only [i64_w]); rfl) | (go_simp; simp; rfl)
     try simp only [Act.put, List.setIfInBounds_toArray, List.set_cons_zero, List.set_cons_succ]
     refine AnyEvents.obs_cons (.int .i64 (q.at_ f)) (val_hole (by simp only [List.getD_cons_zero, List.getD_cons_succ])) (AnyEvents.ob_call (v := (.int .i64 (q.at_ f))) rfl rfl rfl (by simp only [List.getD_cons_zero, List.getD_cons_succ]) 26 #[.pointer (some ⟨g, 0, none⟩), .int .i64 f] (fun ph W' hwn hW => ?_) (fun ph W' hwn hW => ?_)) ?_
     ·first | (go_simp; done) | (go_simp; rfl)
     ·obtain ⟨nd, rfl⟩ := hW; refine (sendq_Queue_at.calls g q f w0 (wc.drewN nd) (HI.out.drawn rfl) HL.out (by have := HIN.out; omega)).mono ?_; rintro e W2_ ⟨rfl, nd2, rfl⟩; exact ⟨rfl, ⟨nd + nd2, drewN_drewN _ _ _⟩, trivial⟩
     try simp only [Act.put, List.setIfInBounds_toArray, List.set_cons_zero, List.set_cons_succ]
     refine AnyEvents.obs_cons ?v13_3 (val_hole (by simp only [List.getD_cons_zero, List.getD_cons_succ])) (AnyEvents.ob_plain (v := ?v13_3) rfl rfl rfl same (by simp only [List.getD_cons_zero, List.getD_cons_succ]) (fun ph W' hwn hW => ?_)) ?_
     ·obtain ⟨nd, rfl⟩ := hW; have z0 := drew_cell nd hc3; first | (go_simp; done) | (go_simp; (try simp only [i64_w]); rfl) | (go_simp; simp; rfl)
     try simp only [Act.put, List.setIfInBounds_toArray, List.set_cons_zero, List.set_cons_succ]
     refine AnyEvents.obs_cons ?v13_4 (val_hole (by simp only [List.getD_cons_zero, List.getD_cons_succ])) (AnyEvents.ob_plain (v := ?v13_4) rfl rfl rfl same (by simp only [List.getD_cons_zero, List.getD_cons_succ]) (fun ph W' hwn hW => ?_)) ?_
     ·obtain ⟨nd, rfl⟩ := hW; have z0 := drew_cell nd hc3; first | (go_simp; done) | (go_simp; (try simp only [i64_w]); rfl) | (go_simp; simp; rfl)
     try simp only [Act.put, List.setIfInBounds_toArray, List.set_cons_zero, List.set_cons_succ]
     refine AnyEvents.obs_cons ?v13_5 (val_hole (by simp only [List.getD_cons_zero, List.getD_cons_succ])) (AnyEvents.ob_plain (v := ?v13_5) rfl rfl rfl same (by simp only [List.getD_cons_zero, List.getD_cons_succ]) (fun ph W' hwn hW => ?_)) ?_
     ·obtain ⟨nd, rfl⟩ := hW; have z0 := drew_cell nd hc3; first | (go_simp; done) | (go_simp; (try simp only [i64_w]); rfl) | (go_simp; simp; rfl)
     try simp only [Act.put, List.setIfInBounds_toArray, List.set_cons_zero, List.set_cons_succ]
     refine AnyEvents.obs_cons ?v13_6 (val_hole (by simp only [List.getD_cons_zero, List.getD_cons_succ])) (AnyEvents.ob_plain (v := ?v13_6) rfl rfl rfl same (by simp only [List.getD_cons_zero, List.getD_cons_succ]) (fun ph W' hwn hW => ?_)) ?_
     ·obtain ⟨nd, rfl⟩ := hW; have z0 := drew_cell nd hc3; first | (go_simp; done) | (go_simp; (try simp only [i64_w]); rfl) | (go_simp; simp; rfl)
     try simp only [Act.put, List.setIfInBounds_toArray, List.set_cons_zero, List.set_cons_succ]
     refine AnyEvents.obs_cons ?v13_7 (val_hole (by simp only [List.getD_cons_zero, List.getD_cons_succ])) (AnyEvents.ob_plain (v := ?v13_7) rfl rfl rfl same (by simp only [List.getD_cons_zero, List.getD_cons_succ]) (fun ph W' hwn hW => ?_)) ?_
     ·obtain ⟨nd, rfl⟩ := hW; have z0 := drew_cell nd hc3; first | (go_simp; done) | (go_simp; (try simp only [i64_w]); rfl) | (go_simp; simp; rfl)
     try simp only [Act.put, List.setIfInBounds_toArray, List.set_cons_zero, List.set_cons_succ]
     refine AnyEvents.obs_cons ?v13_8 (val_hole (by simp only [List.getD_cons_zero, List.getD_cons_succ])) (AnyEvents.ob_plain (v := ?v13_8) rfl rfl rfl same (by simp only [List.getD_cons_zero, List.getD_cons_succ]) (fun ph W' hwn hW => ?_)) ?_
     ·obtain ⟨nd, rfl⟩ := hW; have z0 := drew_cell nd hc3; first | (go_simp; done) | (go_simp; (try simp only [i64_w]); rfl) | (go_simp; simp; rfl)
     try simp only [Act.put, List.setIfInBounds_toArray, List.set_cons_zero, List.set_cons_succ]
     refine AnyEvents.obs_cons (.string (cutS q.s f.toNat t2.toNat)) (val_hole (by simp only [List.getD_cons_zero, List.getD_cons_succ])) (AnyEvents.ob_plain (v := (.string (cutS q.s f.toNat t2.toNat))) rfl rfl rfl same (by simp only [List.getD_cons_zero, List.getD_cons_succ]) (fun ph W' hwn hW => ?_)) ?_
     ·obtain ⟨nd, rfl⟩ := hW; refine (run_sl_at (i := f) (j := t2) (s := q.s) Try.underlying9 rfl rfl rfl rfl (by have := HIN.out; omega) (by have := HC.out; omega) (by have h1 := HIN.out; have h2 := HS.out; omega)).trans ?_; rfl
     try simp only [Act.put, List.setIfInBounds_toArray, List.set_cons_zero, List.set_cons_succ]
     refine AnyEvents.obs_cons ?v13_10 (val_hole (by simp only [List.getD_cons_zero, List.getD_cons_succ])) (AnyEvents.ob_plain (v := ?v13_10) rfl rfl rfl same (by simp only [List.getD_cons_zero, List.getD_cons_succ]) (fun ph W' hwn hW => ?_)) ?_
     ·obtain ⟨nd, rfl⟩ := hW; have z0 := drew_cell nd hc3; first | (go_simp; done) | (go_simp; (try simp only [i64_w]); rfl) | (go_simp; simp; rfl)
     try simp only [Act.put, List.setIfInBounds_toArray, List.set_cons_zero, List.set_cons_succ]
     trivial
    case fin13r =>
     intro x W' hD _
     simp only [List.take_succ_cons, List.take_zero, List.drop_succ_cons, List.drop_zero]
     rw [AnyOrder.lexAt_cons ?v13_0 (val_hole (by simp only [List.getD_cons_zero, List.getD_cons_succ]))]
     try simp only [Act.put, List.setIfInBounds_toArray, List.set_cons_zero, List.set_cons_succ]
     rw [AnyOrder.lexAt_cons ?v13_1 (val_hole (by simp only [List.getD_cons_zero, List.getD_cons_succ]))]
     try simp only [Act.put, List.setIfInBounds_toArray, List.set_cons_zero, List.set_cons_succ]
     rw [AnyOrder.lexAt_cons (.int .i64 (q.at_ f)) (val_hole (by simp only [List.getD_cons_zero, List.getD_cons_succ]))]
     try simp only [Act.put, List.setIfInBounds_toArray, List.set_cons_zero, List.set_cons_succ]
     rw [AnyOrder.lexAt_cons ?v13_3 (val_hole (by simp only [List.getD_cons_zero, List.getD_cons_succ]))]
     try simp only [Act.put, List.setIfInBounds_toArray, List.set_cons_zero, List.set_cons_succ]
     rw [AnyOrder.lexAt_cons ?v13_4 (val_hole (by simp only [List.getD_cons_zero, List.getD_cons_succ]))]
     try simp only [Act.put, List.setIfInBounds_toArray, List.set_cons_zero, List.set_cons_succ]
     rw [AnyOrder.lexAt_cons ?v13_5 (val_hole (by simp only [List.getD_cons_zero, List.getD_cons_succ]))]
     try simp only [Act.put, List.setIfInBounds_toArray, List.set_cons_zero, List.set_cons_succ]
     rw [AnyOrder.lexAt_cons ?v13_6 (val_hole (by simp only [List.getD_cons_zero, List.getD_cons_succ]))]
     try simp only [Act.put, List.setIfInBounds_toArray, List.set_cons_zero, List.set_cons_succ]
     rw [AnyOrder.lexAt_cons ?v13_7 (val_hole (by simp only [List.getD_cons_zero, List.getD_cons_succ]))]
     try simp only [Act.put, List.setIfInBounds_toArray, List.set_cons_zero, List.set_cons_succ]
     rw [AnyOrder.lexAt_cons ?v13_8 (val_hole (by simp only [List.getD_cons_zero, List.getD_cons_succ]))]
     try simp only [Act.put, List.setIfInBounds_toArray, List.set_cons_zero, List.set_cons_succ]
     rw [AnyOrder.lexAt_cons (.string (cutS q.s f.toNat t2.toNat)) (val_hole (by simp only [List.getD_cons_zero, List.getD_cons_succ]))]
     try simp only [Act.put, List.setIfInBounds_toArray, List.set_cons_zero, List.set_cons_succ]
     rw [AnyOrder.lexAt_cons ?v13_10 (val_hole (by simp only [List.getD_cons_zero, List.getD_cons_succ]))]
     try simp only [Act.put, List.setIfInBounds_toArray, List.set_cons_zero, List.set_cons_succ]
     rw [AnyOrder.lexAt_nil]
     clear same
     obtain ⟨nd2, rfl⟩ := hD
     go_wp2
     go_ret2
     have hr := HR.out
     rw [if_neg (show ¬ t2 ≤ f by have := HC.out; omega)] at hr
     rw [hr]
     exact ⟨rfl, pw_below_drewN HB.out nd2⟩


/-! ### seq_Ahead: function 29 -/
def seq_Ahead.f (a0 : Int) (a1 : Int) : Option (Bool × Int) := (seq_Distance.f a0 a1).bind fun bt108 => ((seq_within.f bt108.1 1 2147483647).bind fun t110 => (some (t110, bt108.2)))
set_option maxHeartbeats 8000000 in
set_option maxRecDepth 100000 in
theorem seq_Ahead.calls (a0 : Int) (a1 : Int) (r1 : Bool) (r2 : Int) (w : World) (h : seq_Ahead.f a0 a1 = some (r1, r2)) :
  Calls Try.prog 29 #[.int .i64 a0, .int .i64 a1] w fun e w' => e = .returned (.tuple #[.bool r1, .int .i64 r2]) ∧ Below w.heap.size w w' := by
 have HB := Aside0.mk (Below.refl w.heap.size w)
 have H : ((seq_Distance.f a0 a1).bind fun bt108 => ((seq_within.f bt108.1 1 2147483647).bind fun t110 => (some (t110, bt108.2)))) = some (r1, r2) := h
 clear h
 replace H := Option.bind_eq_some_iff.mp H
 obtain ⟨⟨t108, t109⟩, A30, H⟩ := H
 replace H : ((seq_within.f t108 1 2147483647).bind fun t110 => (some (t110, t109))) = some (r1, r2) := H
 have A3 := Aside0.mk A30
 clear A30
 replace H := Option.bind_eq_some_iff.mp H
 obtain ⟨t110, A40, H⟩ := H
 replace H : (some (t110, t109)) = some (r1, r2) := H
 have A4 := Aside0.mk A40
 clear A40
 simp only [Option.some.injEq, Prod.mk.injEq] at H
 obtain ⟨rfl, rfl⟩ := H
 go_enter Try.func29, Try.ntmps29
 go_wp2_with (first | ((with_reducible refine gate_callee (f := 17) rfl ?_); refine goesL_ (some 11) rfl rfl Try.func17 (by kernel_rfl) rfl #[.int .i64 a0, .int .i64 a1] rfl (by (try simp only [List.map_toArray, List.map_cons, List.map_nil]); first | done | rfl | (simp only [List.length_drop, List.length_take]; rfl)) ?_; (with_reducible refine (seq_Distance.calls a0 a1 t108 t109 _ A3.out).mono ?_); rintro e w5 ⟨rfl, hb⟩; refine ⟨_, rfl, ?_⟩; have n0_ := Aside0.mk (below_step (by repeat (first | (with_reducible first | exact HB.out | apply below_alloc | apply pw_below_drewN | apply below_drew1) | exact HB.out)) hb); clear HB; have HB := n0_; clear n0_; (try clear hb); (try clear hb2); (try clear hk); (try clear hi)) | ((with_reducible refine gate_callee (f := 25) rfl ?_); refine goesL_ (some 15) rfl rfl Try.func25 (by kernel_rfl) rfl #[.int .i64 t108, .int .i64 1, .int .i64 2147483647] rfl (by (try simp only [List.map_toArray, List.map_cons, List.map_nil]); first | done | rfl | (simp only [List.length_drop, List.length_take]; rfl)) ?_; (with_reducible refine (seq_within.calls t108 1 2147483647 t110 _ A4.out).mono ?_); rintro e w' ⟨rfl, ⟨nd, rfl⟩⟩; refine ⟨_, rfl, ?_⟩))
 go_ret2
 exact ⟨by first | rfl | (simp [errW_none, errW_some] <;> rfl) | (simp [*, errW_none, errW_some] <;> rfl), by repeat (first | (with_reducible first | exact HB.out | apply below_alloc | apply pw_below_drewN | apply below_drew1) | exact HB.out)⟩


/-! ### sendq_Queue_Apart: function 18 (by hand) -/
/-- a span put into a list of spans that rise, none touching another one -/
def addSpan (x : Int × Int) : List (Int × Int) → List (Int × Int)
 | [] => [x]
 | y :: l => if y.2 < x.1 then y :: addSpan x l else if x.2 < y.1 then x :: y :: l else addSpan (if y.1 < x.1 then y.1 else x.1, if x.2 < y.2 then y.2 else x.2) l
def SepL (l : List (Int × Int)) : Prop := l.Pairwise (fun a b => a.2 < b.1) ∧ ∀ y ∈ l, y.1 < y.2
theorem SepL.tail {y : Int × Int} {l : List (Int × Int)} (h : SepL (y :: l)) : SepL l := ⟨(List.pairwise_cons.1 h.1).2, fun z hz => h.2 z (List.mem_cons_of_mem _ hz)⟩
theorem markF_right (x : Int × Int) : ∀ (l : List (Int × Int)) (k : List (Int × Int)), (∀ y ∈ l, x.2 < y.1) → l.foldl markS (k, x) = (k ++ l, x)
 | [], k, _ => by simp
 | y :: l, k, h => by
  have hy := h y List.mem_cons_self
  show l.foldl markS (markS (k, x) y) = _
  have e : markS (k, x) y = (k ++ [y], x) := by unfold markS; rw [if_pos (.inr hy)]
  rw [e, markF_right x l _ (fun z hz => h z (List.mem_cons_of_mem _ hz))]; simp
theorem markF_add : ∀ (l : List (Int × Int)) (k : List (Int × Int)) (x : Int × Int), SepL l → ((l.foldl markS (k, x)).1 ++ [(l.foldl markS (k, x)).2]).Perm (k ++ addSpan x l)
 | [], k, x, _ => List.Perm.refl _
 | y :: l, k, x, h => by
  show ((l.foldl markS (markS (k, x) y)).1 ++ [(l.foldl markS (markS (k, x) y)).2]).Perm _
  unfold addSpan
  by_cases h1 : y.2 < x.1
  ·have e : markS (k, x) y = (k ++ [y], x) := by unfold markS; rw [if_pos (.inl h1)]
   rw [e, if_pos h1]
   have := markF_add l (k ++ [y]) x h.tail
   simpa using this
  ·rw [if_neg h1]
   by_cases h2 : x.2 < y.1
   ·have e : markS (k, x) y = (k ++ [y], x) := by unfold markS; rw [if_pos (.inr h2)]
    rw [e, if_pos h2, markF_right x l _ (fun z hz => by have h3 := (List.pairwise_cons.1 h.1).1 z hz; have h4 := h.2 y List.mem_cons_self; omega)]
    have : (k ++ [y] ++ l ++ [x]).Perm (k ++ ([y] ++ l ++ [x])) := by simp
    refine this.trans (List.Perm.append_left k ?_)
    exact List.perm_append_comm (l₁ := [y] ++ l) (l₂ := [x])
   ·have e : markS (k, x) y = (k, (if y.1 < x.1 then y.1 else x.1, if x.2 < y.2 then y.2 else x.2)) := by unfold markS; rw [if_neg (by intro h; rcases h with h | h; exact h1 h; exact h2 h)]
    rw [e, if_neg h2]
    exact markF_add l k _ h.tail
theorem addSpan_low {x : Int × Int} {m : Int} : ∀ {l : List (Int × Int)}, m < x.1 → (∀ y ∈ l, m < y.1) → ∀ z ∈ addSpan x l, m < z.1
 | [], hx, _, z, hz => by rw [List.mem_singleton.1 hz]; exact hx
 | y :: l, hx, h, z, hz => by
  have hy := h y List.mem_cons_self
  have hl : ∀ y ∈ l, m < y.1 := fun w hw => h w (List.mem_cons_of_mem _ hw)
  unfold addSpan at hz
  split at hz
  ·rcases List.mem_cons.1 hz with rfl | hz
   ·exact hy
   ·exact addSpan_low hx hl z hz
  ·split at hz
   ·rcases List.mem_cons.1 hz with rfl | hz
    ·exact hx
    ·exact h z hz
   ·exact addSpan_low (x := (if y.1 < x.1 then y.1 else x.1, if x.2 < y.2 then y.2 else x.2)) (by show m < if y.1 < x.1 then y.1 else x.1; split <;> assumption) hl z hz
theorem addSpan_sep : ∀ (l : List (Int × Int)) (x : Int × Int), x.1 < x.2 → SepL l → SepL (addSpan x l)
 | [], x, hx, _ => ⟨List.pairwise_singleton _ _, fun y hy => by rw [List.mem_singleton.1 hy]; exact hx⟩
 | y :: l, x, hx, h => by
  have hy := h.2 y List.mem_cons_self
  have hyl := (List.pairwise_cons.1 h.1).1
  unfold addSpan
  split
  ·rename_i h1
   have ih := addSpan_sep l x hx h.tail
   exact ⟨List.pairwise_cons.2 ⟨fun z hz => addSpan_low h1 hyl z hz, ih.1⟩, fun z hz => by rcases List.mem_cons.1 hz with rfl | hz; exact hy; exact ih.2 z hz⟩
  ·split
   ·rename_i h1 h2
    refine ⟨List.pairwise_cons.2 ⟨fun z hz => ?_, h.1⟩, fun z hz => by rcases List.mem_cons.1 hz with rfl | hz; exact hx; exact h.2 z hz⟩
    rcases List.mem_cons.1 hz with rfl | hz
    ·exact h2
    ·have := hyl z hz; omega
   ·exact addSpan_sep l _ (by dsimp only; split <;> split <;> omega) h.tail
/-- what is covered -/
def Cov (l : List (Int × Int)) (k : Int) : Prop := ∃ y ∈ l, y.1 ≤ k ∧ k < y.2
theorem cov_add (k : Int) : ∀ (l : List (Int × Int)) (x : Int × Int), x.1 < x.2 → SepL l → (Cov (addSpan x l) k ↔ (x.1 ≤ k ∧ k < x.2) ∨ Cov l k)
 | [], x, _, _ => by unfold addSpan Cov; simp
 | y :: l, x, hx, h => by
  have hy := h.2 y List.mem_cons_self
  have hc : ∀ (z : Int × Int) (l : List (Int × Int)), Cov (z :: l) k ↔ (z.1 ≤ k ∧ k < z.2) ∨ Cov l k := fun z l => by unfold Cov; simp
  unfold addSpan
  split
  ·rw [hc, hc, cov_add k l x hx h.tail]
   constructor
   ·rintro (h | h | h); exact .inr (.inl h); exact .inl h; exact .inr (.inr h)
   ·rintro (h | h | h); exact .inr (.inl h); exact .inl h; exact .inr (.inr h)
  ·split
   ·rw [hc]
   ·rw [cov_add k l _ (by dsimp only; split <;> split <;> omega) h.tail, hc]
    dsimp only
    constructor
    ·rintro (h | h)
     ·by_cases hk : x.1 ≤ k ∧ k < x.2
      ·exact .inl hk
      ·refine .inr (.inl ?_); split at h <;> split at h <;> omega
     ·exact .inr (.inr h)
    ·rintro (h | h | h)
     ·refine .inl ?_; split <;> split <;> omega
     ·refine .inl ?_; split <;> split <;> omega
     ·exact .inr h
theorem addSpan_in (s : Int) : ∀ (l : List (Int × Int)) (x : Int × Int), (0 ≤ x.1 ∧ x.2 ≤ s) → (∀ y ∈ l, 0 ≤ y.1 ∧ y.2 ≤ s) → ∀ y ∈ addSpan x l, 0 ≤ y.1 ∧ y.2 ≤ s
 | [], x, hx, _, y, hy => by rw [List.mem_singleton.1 hy]; exact hx
 | z :: l, x, hx, h, y, hy => by
  have hz := h z List.mem_cons_self
  have hl : ∀ y ∈ l, 0 ≤ y.1 ∧ y.2 ≤ s := fun w hw => h w (List.mem_cons_of_mem _ hw)
  unfold addSpan at hy
  split at hy
  ·rcases List.mem_cons.1 hy with rfl | hy
   ·exact hz
   ·exact addSpan_in s l x hx hl y hy
  ·split at hy
   ·rcases List.mem_cons.1 hy with rfl | hy
    ·exact hx
    ·exact h y hy
   ·exact addSpan_in s l _ (by dsimp only; constructor <;> split <;> omega) hl y hy
theorem sep_strict {l : List (Int × Int)} (h : SepL l) : l.Pairwise (fun a b => a.1 < b.1) := by
 have := h.1
 refine List.Pairwise.imp_of_mem ?_ this
 intro a b ha _ hab
 have := h.2 a ha; omega
theorem sorted_unique : ∀ {l r : List (Int × Int)}, r.Perm l → r.Pairwise (fun a b => a.1 ≤ b.1) → l.Pairwise (fun a b => a.1 < b.1) → r = l
 | [], r, hp, _, _ => hp.eq_nil
 | x :: l, r, hp, hr, hl => by
  cases r with
  | nil => exact absurd hp.symm.eq_nil (by simp)
  | cons y r =>
   have hx : x = y := by
    rcases List.mem_cons.1 (hp.symm.mem_iff.1 (List.mem_cons_self (a := x) (l := l))) with h | h
    ·exact h
    ·have h1 := (List.pairwise_cons.1 hr).1 x h
     rcases List.mem_cons.1 (hp.mem_iff.1 (List.mem_cons_self (a := y) (l := r))) with h2 | h2
     ·exact h2.symm
     ·have h3 := (List.pairwise_cons.1 hl).1 y h2; omega
   subst hx
   rw [sorted_unique (hp.cons_inv) (List.pairwise_cons.1 hr).2 (List.pairwise_cons.1 hl).2]
theorem mark_unique {x : Int × Int} {l r : List (Int × Int)} (hx : x.1 < x.2) (hl : SepL l) (hp : r.Perm ((markL x l).1 ++ [(markL x l).2])) (hr : r.Pairwise (fun a b => a.1 ≤ b.1)) : r = addSpan x l :=
 sorted_unique (hp.trans (by have := markF_add l [] x hl; simpa [markL] using this)) hr (sep_strict (addSpan_sep l x hx hl))
theorem sep_len : ∀ (l : List (Int × Int)) (lo hi : Int), SepL l → (∀ y ∈ l, lo ≤ y.1 ∧ y.2 ≤ hi) → lo ≤ hi + 1 → (l.length : Int) ≤ hi + 1 - lo
 | [], lo, hi, _, _, h => by simp; omega
 | y :: l, lo, hi, h, hb, hlo => by
  have hy := h.2 y List.mem_cons_self
  have h1 := hb y List.mem_cons_self
  have := sep_len l (y.2 + 1) hi h.tail (fun z hz => ⟨by have := (List.pairwise_cons.1 h.1).1 z hz; omega, (hb z (List.mem_cons_of_mem _ hz)).2⟩) (by omega)
  simp only [List.length_cons]; omega

theorem seqdist_any (a b : Int) : seq_Distance.f a b = some (if sqOk a ∧ sqOk b then ((b - a) % 4294967296, 0) else (0, 1)) := by
 by_cases ha : sqOk a
 ·rw [seqdist_ a b ha]
  by_cases hb : sqOk b
  ·rw [if_pos hb, if_pos ⟨ha, hb⟩]
  ·rw [if_neg hb, if_neg (fun h => hb h.2)]
 ·unfold seq_Distance.f seq_both.f
  rw [seqcheck_ a, seqcheck_ b, if_neg ha, if_neg (show ¬ (sqOk a ∧ sqOk b) from fun h => ha h.1)]
  simp only [Option.bind_some]
  by_cases hb : sqOk b
  ·rw [if_pos hb]; rfl
  ·rw [if_neg hb]; rfl
theorem seqahead_ (a b : Int) : ∃ ah er, seq_Ahead.f a b = some (ah, er) ∧ (sqOk a → sqOk b → er = 0 ∧ ah = decide (1 ≤ (b - a) % 4294967296 ∧ (b - a) % 4294967296 ≤ 2147483647)) := by
 unfold seq_Ahead.f seq_within.f
 rw [seqdist_any]
 simp only [Option.bind_some]
 by_cases h : sqOk a ∧ sqOk b
 ·rw [if_pos h]
  have h0 := Int.emod_nonneg (b - a) (show (4294967296 : Int) ≠ 0 by decide)
  by_cases h1 : (b - a) % 4294967296 ≥ 1
  ·rw [if_pos h1]
   refine ⟨_, _, rfl, fun _ _ => ⟨rfl, ?_⟩⟩
   rw [Bool.eq_iff_iff]; simp only [decide_eq_true_eq]; omega
  ·rw [if_neg h1]
   exact ⟨_, _, rfl, fun _ _ => ⟨rfl, (decide_eq_false (by omega)).symm⟩⟩
 ·rw [if_neg h]
  exact ⟨_, _, rfl, fun ha hb => absurd ⟨ha, hb⟩ h⟩
def QS.note (q : QS) (x : Int × Int) : QS := if (q.off x.1).2 = true ∧ (q.off x.2).2 = true ∧ (q.off x.1).1 < (q.off x.2).1 then { q with ap := addSpan ((q.off x.1).1, (q.off x.2).1) q.ap } else q
def QAp (q : QS) : Prop := SepL q.ap ∧ ∀ y ∈ q.ap, 0 ≤ y.1 ∧ y.2 ≤ q.sent
def apSum (l : List (Int × Int)) : Int := l.foldl (fun n x => n + (x.2 - x.1)) 0
theorem apSum_snoc (l : List (Int × Int)) (x : Int × Int) : apSum (l ++ [x]) = apSum l + (x.2 - x.1) := by unfold apSum; rw [List.foldl_append]; rfl
theorem note_same (q : QS) (x : Int × Int) : (q.note x).left = q.left ∧ (q.note x).sent = q.sent ∧ (q.note x).room = q.room ∧ (q.note x).s = q.s := by unfold QS.note; split <;> exact ⟨rfl, rfl, rfl, rfl⟩
theorem note_ap {q : QS} (x : Int × Int) (h : QAp q) : QAp (q.note x) := by
 unfold QS.note
 split
 ·rename_i hc
  obtain ⟨h1, h2, h3⟩ := hc
  have h4 := off_ok h1
  have h5 := off_ok h2
  exact ⟨addSpan_sep q.ap _ h3 h.1, addSpan_in q.sent q.ap _ ⟨h4.1, h5.2⟩ h.2⟩
 ·exact h
theorem notes_same (l : List (Int × Int)) : ∀ q : QS, (l.foldl QS.note q).left = q.left ∧ (l.foldl QS.note q).sent = q.sent ∧ (l.foldl QS.note q).room = q.room ∧ (l.foldl QS.note q).s = q.s := by
 induction l with
 | nil => exact fun q => ⟨rfl, rfl, rfl, rfl⟩
 | cons x l ih => exact fun q => by obtain ⟨h1, h2, h3, h4⟩ := ih (q.note x); obtain ⟨g1, g2, g3, g4⟩ := note_same q x; exact ⟨h1.trans g1, h2.trans g2, h3.trans g3, h4.trans g4⟩
theorem notes_ap (l : List (Int × Int)) : ∀ q : QS, QAp q → QAp (l.foldl QS.note q) := by
 induction l with
 | nil => exact fun q h => h
 | cons x l ih => exact fun q h => ih (q.note x) (note_ap x h)
theorem QAp.len {q : QS} (h : QAp q) (hs : 0 ≤ q.sent ∧ q.sent ≤ 65536) : (∀ y ∈ q.ap, InB y) ∧ q.ap.length ≤ 1000000 := by
 refine ⟨fun y hy => ?_, ?_⟩
 ·have h1 := h.2 y hy; have h2 := h.1.2 y hy; unfold InB; omega
 ·have := sep_len q.ap 0 q.sent h.1 h.2 (by omega); omega
theorem apSum_in {s : Int} (hs : 0 ≤ s ∧ s ≤ 65536) : ∀ (l : List (Int × Int)), (∀ y ∈ l, 0 ≤ y.1 ∧ y.1 < y.2 ∧ y.2 ≤ s) → ∀ n : Int, n ≤ l.foldl (fun n x => n + (x.2 - x.1)) n ∧ l.foldl (fun n x => n + (x.2 - x.1)) n ≤ n + 65536 * (l.length : Int)
 | [], _, n => by simp
 | x :: l, h, n => by
  have hx := h x List.mem_cons_self
  have := apSum_in hs l (fun y hy => h y (List.mem_cons_of_mem _ hy)) (n + (x.2 - x.1))
  simp only [List.foldl_cons, List.length_cons]; omega
theorem own_keepG {w w' : World} {base base' g : Nat} {e : TypeId} {size : Nat} {v : Value} {n : Nat} {xs : List Value} {q : QS} (h : ownsAt w base e size v n xs) (he : e ≠ 67) (hQ : QAt w base' g q) (hk : KeepG g w w') : ownsAt w' base e size v n xs :=
 ownsAt_kept h (fun b cur _ hb => hk.2 b (blk_lt hb) (fun e1 => by
  obtain ⟨v', h4, _⟩ := hQ
  rw [e1, h4] at hb
  simp at hb
  exact he hb.2.symm))
set_option maxHeartbeats 4000000 in
set_option maxRecDepth 100000 in
theorem sendq_Queue_Apart.calls (g : Nat) (q : QS) (Aa : Option Addr) (ca : Nat) (l : List (Int × Int)) (w0 w : World) (hI : QAt w w0.heap.size g q) (hB : Below w0.heap.size w0 w) (hA : ownsAt w 0 47 2 (.slice Aa l.length ca) l.length (spc l)) (hl : sqOk q.left) (hs : 0 ≤ q.sent ∧ q.sent ≤ 65536) (hap : QAp q) :
  Calls Try.prog 18 #[.pointer (some ⟨g, 0, none⟩), .slice Aa l.length ca] w fun e w' => e = .returned (.int .i64 (apSum (l.foldl QS.note q).ap)) ∧ QAt w' w0.heap.size g (l.foldl QS.note q) ∧ Below w0.heap.size w0 w' ∧ KeepG g w w' := by
 have HI := Aside0.mk hI
 have HB := Aside0.mk hB
 have HA := Aside0.mk hA
 have HL := Aside0.mk hl
 have HS := Aside0.mk hs
 have HAP := Aside0.mk hap
 have HKs := Aside0.mk (KeepG.refl g w)
 have HLM := Aside0.mk (show l.length ≤ 9223372036854775807 by obtain ⟨_, _, he, h1, h2, _⟩ := ownsAt_len hA; injection he with _ _ h3; simp only [maxLen] at h2; omega)
 clear hI hB hA hl hs hap
 go_enter Try.func18, Try.ntmps18
 go_wp2_with fail
 go_loopg [18] l.length (fun kq v18 W => ∃ (i : Nat) (iz : Int), v18 = .int .i64 iz ∧ Aside0 (iz = (i : Int) ∧ kq + i = l.length) ∧ Aside0 (QAt W w0.heap.size g ((l.take i).foldl QS.note q)) ∧ Aside0 (ownsAt W 0 47 2 (.slice Aa l.length ca) l.length (spc l)) ∧ Aside0 (Below w0.heap.size w0 W) ∧ Aside0 (KeepG g w W))
 case atStart => exact ⟨0, 0, rfl, ⟨rfl, by simp⟩, HI, HA, HB, HKs⟩
 case round =>
  clear HI HA HB HKs
  obtain ⟨i, iz, rfl, HK, HI, HA, HB, HKs⟩ := hrel
  have hk := HK.out
  obtain ⟨qi, hqi⟩ : ∃ q_, (l.take i).foldl QS.note q = q_ := ⟨_, rfl⟩
  rw [hqi] at HI
  have hsame := notes_same (l.take i) q
  have hapi := notes_ap (l.take i) q HAP.out
  rw [hqi] at hsame hapi
  have HQI := Aside0.mk hqi
  have HAI := Aside0.mk hapi
  have HLI := Aside0.mk (show sqOk qi.left by rw [hsame.1]; exact HL.out)
  have HSI := Aside0.mk (show 0 ≤ qi.sent ∧ qi.sent ≤ 65536 by rw [hsame.2.1]; exact HS.out)
  clear hqi hsame hapi
  by_cases hlt : iz < (l.length : Int)
  ·have d1 : decide (iz < (l.length : Int)) = true := decide_eq_true hlt
   obtain ⟨k1, rfl⟩ : ∃ k1, gk = k1 + 1 := ⟨gk - 1, by omega⟩
   have hil : i < l.length := by omega
   obtain ⟨⟨fa, fb⟩, hx⟩ : ∃ x, l[i]? = some x := ⟨_, List.getElem?_eq_getElem hil⟩
   have HTK := Aside0.mk (show (l.take (i + 1)).foldl QS.note q = qi.note (fa, fb) by rw [List.take_add_one, hx, List.foldl_append, HQI.out]; rfl)
   obtain ⟨gq, oq, rfl, hcells⟩ := ownsAt_cells HA.out (by omega)
   obtain ⟨hq0, hq1⟩ : wr.cell? ⟨gq, oq + i * 2, none⟩ = some (.int .i64 fa) ∧ wr.cell? ⟨gq, oq + i * 2 + 1, none⟩ = some (.int .i64 fb) := ⟨hcells _ _ (spc_get l i _ hx).1, hcells _ _ (spc_get l i _ hx).2⟩
   have hn : wrap64 (iz + 1) = ((i + 1 : Nat) : Int) := by have := HLM.out; rw [w64p (by omega) (by omega)]; omega
   have HN := Aside0.mk hn
   have p0 : 0 ≤ iz := by omega
   have tn : iz.toNat = i := by omega
   replace p0 := eq_true p0
   replace hlt := eq_true hlt
   clear hcells hx hn hk hil
   go_upto_region 4 with fail
   have hby := blk_new wr (.cells #[.int .i64 fa, .int .i64 fb] 47)
   have hb := below_alloc (Below.refl wr.heap.size wr) (.cells #[.int .i64 fa, .int .i64 fb] 47)
   clear hq0 hq1 p0 hlt tn d1
   have n0_ := Aside0.mk (HI.out.kept hb); have n1_ := Aside0.mk (ownsAt_below HA.out hb); have n2_ := Aside0.mk (below_step HB.out hb); have n3_ := Aside0.mk (HKs.out.trans (KeepG.of_below hb))
   clear HI HA HB HKs hb
   have HI := n0_; have HA := n1_; have HB := n2_; have HKs := n3_
   clear n0_ n1_ n2_ n3_
   generalize wr.heap.size = by_ at hby ⊢
   generalize wr.alloc (.cells #[.int .i64 fa, .int .i64 fb] 47) = Wb at hby HI HA HB HKs ⊢
   have HX := Aside0.mk hby
   have hy0 := blk_cell hby 0
   change _ = some (Value.int .i64 fa) at hy0
   clear hby
   obtain ⟨ah, er, hah, hahf⟩ := seqahead_ fa fb
   have HAH := Aside0.mk hah
   obtain ⟨⟨da, oa⟩, hoa⟩ : ∃ p_, qi.off fa = p_ := ⟨_, rfl⟩
   obtain ⟨⟨db, ob⟩, hob⟩ : ∃ p_, qi.off fb = p_ := ⟨_, rfl⟩
   have hno : oa = true → ob = true → er = 0 ∧ (ah = true ↔ da < db) := fun h1 h2 => by
    subst h1 h2
    have s1 := HSI.out; have s2 := HLI.out
    unfold QS.off at hoa hob
    by_cases ka : sqOk fa
    ·by_cases kb : sqOk fb
     ·rw [if_pos ka] at hoa
      rw [if_pos kb] at hob
      obtain ⟨e1, e2⟩ := Prod.mk.inj hoa
      obtain ⟨e3, e4⟩ := Prod.mk.inj hob
      have e2 := of_decide_eq_true e2
      have e4 := of_decide_eq_true e4
      obtain ⟨f1, f2⟩ := hahf ka kb
      refine ⟨f1, ?_⟩
      rw [f2, decide_eq_true_eq]
      unfold sqOk at ka kb s2
      omega
     ·rw [if_neg kb] at hob; exact absurd (Prod.mk.inj hob).2 (by decide)
    ·rw [if_neg ka] at hoa; exact absurd (Prod.mk.inj hoa).2 (by decide)
   have HNO := Aside0.mk hno
   have HOA := Aside0.mk hoa
   have HOB := Aside0.mk hob
   clear hah hahf hno hoa hob
   go_wp2_with fail
   refine (sendq_Queue_off.calls g qi fa w0 _ HI.out HLI.out).mono ?_
   rw [HOA.out]
   rintro e W2 ⟨rfl, hb⟩
   clear hy0
   have n0_ := Aside0.mk (HI.out.kept hb); have n1_ := Aside0.mk (ownsAt_below HA.out hb); have n2_ := Aside0.mk (below_step HB.out hb); have n3_ := Aside0.mk (HKs.out.trans (KeepG.of_below hb)); have n4_ := Aside0.mk (blk_below HX.out hb)
   clear HI HA HB HKs HX hb
   have HI := n0_; have HA := n1_; have HB := n2_; have HKs := n3_; have HX := n4_
   clear n0_ n1_ n2_ n3_ n4_
   have hx := HX.out
   have hy1 := blk_cell hx 1
   change _ = some (Value.int .i64 fb) at hy1
   clear hx
   go_wp2_with fail
   refine (sendq_Queue_off.calls g qi fb w0 _ HI.out HLI.out).mono ?_
   rw [HOB.out]
   rintro e W3 ⟨rfl, hb⟩
   clear hy1
   have n0_ := Aside0.mk (HI.out.kept hb); have n1_ := Aside0.mk (ownsAt_below HA.out hb); have n2_ := Aside0.mk (below_step HB.out hb); have n3_ := Aside0.mk (HKs.out.trans (KeepG.of_below hb)); have n4_ := Aside0.mk (blk_below HX.out hb)
   clear HI HA HB HKs HX hb
   have HI := n0_; have HA := n1_; have HB := n2_; have HKs := n3_; have HX := n4_
   clear n0_ n1_ n2_ n3_ n4_
   have hx := HX.out
   have hy0 := blk_cell hx 0
   have hy1 := blk_cell hx 1
   change _ = some (Value.int .i64 fa) at hy0
   change _ = some (Value.int .i64 fb) at hy1
   clear hx
   go_wp2_with fail
   refine (seq_Ahead.calls fa fb ah er _ HAH.out).mono ?_
   rintro e W4 ⟨rfl, hb⟩
   clear hy0 hy1
   have n0_ := Aside0.mk (HI.out.kept hb); have n1_ := Aside0.mk (ownsAt_below HA.out hb); have n2_ := Aside0.mk (below_step HB.out hb); have n3_ := Aside0.mk (HKs.out.trans (KeepG.of_below hb)); have n4_ := Aside0.mk (blk_below HX.out hb)
   clear HI HA HB HKs HX hb
   have HI := n0_; have HA := n1_; have HB := n2_; have HKs := n3_; have HX := n4_
   clear n0_ n1_ n2_ n3_ n4_
   by_cases hc : oa = true ∧ ob = true ∧ da < db
   ·obtain ⟨rfl, rfl, hlt2⟩ := hc
    obtain ⟨rfl, hh⟩ := HNO.out rfl rfl
    have hah2 := hh.mpr hlt2
    subst hah2
    have HLT := Aside0.mk hlt2
    have hin1 := off_ok (show (qi.off fa).2 = true by rw [HOA.out])
    have hin2 := off_ok (show (qi.off fb).2 = true by rw [HOB.out])
    rw [HOA.out] at hin1
    rw [HOB.out] at hin2
    have HIN := Aside0.mk (And.intro hin1 hin2)
    clear hh hlt2 hin1 hin2
    go_wp2_with fail
    refine (sendq_Queue_mark.calls g qi da db w0 _ HI.out HB.out (by have h1 := HIN.out; have h2 := HSI.out; unfold InB; dsimp only at *; omega) (HAI.out.len HSI.out)).mono ?_
    rintro e W5 ⟨rfl, r, hp, hs, hQ, hB, hK⟩
    have hr := mark_unique (x := (da, db)) HLT.out HAI.out.1 hp hs
    rw [hr] at hQ
    have n1_ := Aside0.mk (show QAt W5 w0.heap.size g (qi.note (fa, fb)) by
     have e : qi.note (fa, fb) = { qi with ap := addSpan (da, db) qi.ap } := by unfold QS.note; rw [HOA.out, HOB.out, if_pos ⟨rfl, rfl, HLT.out⟩]
     rw [e]; exact hQ)
    have n2_ := Aside0.mk (own_keepG HA.out (by decide) HI.out hK)
    have n3_ := Aside0.mk hB
    have n4_ := Aside0.mk (HKs.out.trans hK)
    clear HI HA HB HKs hQ hB hK hp hs hr
    have HI := n1_; have HA := n2_; have HB := n3_; have HKs := n4_
    clear n1_ n2_ n3_ n4_
    go_wp2
    go_roundg k1
    case measure => omega
    case rel => exact ⟨i + 1, _, rfl, ⟨HN.out, by have := HK.out; omega⟩, ⟨by rw [HTK.out]; exact HI.out⟩, HA, HB, HKs⟩
   ·have e : qi.note (fa, fb) = qi := by unfold QS.note; rw [HOA.out, HOB.out, if_neg hc]
    have HE := Aside0.mk e
    have hcc : oa = false ∨ (oa = true ∧ ob = false) ∨ (oa = true ∧ ob = true ∧ ah = false ∧ er = 0) := by
     cases oa
     ·exact .inl rfl
     ·cases ob
      ·exact .inr (.inl ⟨rfl, rfl⟩)
      ·obtain ⟨h1, h2⟩ := HNO.out rfl rfl
       refine .inr (.inr ⟨rfl, rfl, ?_, h1⟩)
       cases ah
       ·rfl
       ·exact absurd ⟨rfl, rfl, h2.mp rfl⟩ hc
    clear hc e
    rcases hcc with rfl | ⟨rfl, rfl⟩ | ⟨rfl, rfl, rfl, rfl⟩
    all_goals
     go_wp2
     go_roundg k1
     case measure => omega
     case rel => exact ⟨i + 1, _, rfl, ⟨HN.out, by have := HK.out; omega⟩, ⟨by rw [HTK.out, HE.out]; exact HI.out⟩, HA, HB, HKs⟩
  ·have d1 : decide (iz < (l.length : Int)) = false := decide_eq_false hlt
   have hil : i = l.length := by omega
   have hqi := HQI.out
   rw [hil, List.take_length] at hqi
   have HAPI := Aside0.mk (HAI.out.len HSI.out)
   have HQ2 := Aside0.mk hqi
   clear hk hil hqi HK HQI hlt
   obtain ⟨Az, cz, ⟨hbg, hge⟩, ⟨hle, hcm⟩, ⟨hc0, hc1, hc2, hc3, hc4⟩, ⟨hf0, hf1, hf2, hf3, hf4⟩, HQ⟩ := HI.out.cell
   change _ = some (Value.slice Az qi.ap.length cz) at hc4
   have HQA := Aside0.mk HQ
   go_wp2_with fail
   have hz0 : apSum (qi.ap.take 0) = 0 := rfl
   go_loopg [13, 66] qi.ap.length (fun kq v13 v66 W => ∃ (j : Nat) (jz nz : Int), v13 = .int .i64 nz ∧ v66 = .int .i64 jz ∧ Aside0 (jz = (j : Int) ∧ kq + j = qi.ap.length) ∧ Aside0 (nz = apSum (qi.ap.take j)) ∧ Aside0 (QAt W w0.heap.size g qi) ∧ Aside0 (ownsAt W w0.heap.size 73 2 (.slice Az qi.ap.length cz) qi.ap.length (spc qi.ap)) ∧ Aside0 (Below w0.heap.size w0 W) ∧ Aside0 (KeepG g w W))
   case atStart => exact ⟨0, 0, 0, rfl, rfl, ⟨rfl, by omega⟩, ⟨hz0.symm⟩, HI, HQA, HB, HKs⟩
   case round =>
    clear hbg hge hle hcm hc0 hc1 hc2 hc3 hc4 hf0 hf1 hf2 hf3 hf4 HQ
    clear HI HQA HB HKs HA hz0 d1
    obtain ⟨j, jz, nz, rfl, rfl, HJ, HN, HI, HQA, HB, HKs⟩ := hrel
    have hj := HJ.out
    by_cases hlt : jz < (qi.ap.length : Int)
    ·have d1 : decide (jz < (qi.ap.length : Int)) = true := decide_eq_true hlt
     obtain ⟨k2, hk2⟩ : ∃ k2, gk = k2 + 1 := ⟨gk - 1, by omega⟩
     subst hk2
     have hjl : j < qi.ap.length := by omega
     obtain ⟨⟨a, b⟩, hx⟩ : ∃ x, qi.ap[j]? = some x := ⟨_, List.getElem?_eq_getElem hjl⟩
     have htk : qi.ap.take (j + 1) = qi.ap.take j ++ [(a, b)] := by rw [List.take_add_one, hx]; rfl
     have HTK := Aside0.mk htk
     have hab := HAPI.out.1 _ (List.mem_of_getElem? hx)
     unfold InB at hab
     dsimp only at hab
     have hsum := apSum_in (s := qi.sent) HSI.out (qi.ap.take j) (fun y hy => ⟨(HAI.out.2 y (List.mem_of_mem_take hy)).1, HAI.out.1.2 y (List.mem_of_mem_take hy), (HAI.out.2 y (List.mem_of_mem_take hy)).2⟩) 0
     have hnz := HN.out
     unfold apSum at hnz
     rw [← hnz, List.length_take] at hsum
     have hlen := HAPI.out.2
     have hw1 : wrap64 (b - a) = b - a := w64p (by omega) (by omega)
     have hw2 : wrap64 (nz + (b - a)) = nz + (b - a) := w64p (by omega) (by omega)
     obtain ⟨gq, oq, rfl, hcells⟩ := ownsAt_cells HQA.out (by omega)
     obtain ⟨hq0, hq1⟩ : wr.cell? ⟨gq, oq + j * 2, none⟩ = some (.int .i64 a) ∧ wr.cell? ⟨gq, oq + j * 2 + 1, none⟩ = some (.int .i64 b) := ⟨hcells _ _ (spc_get qi.ap j _ hx).1, hcells _ _ (spc_get qi.ap j _ hx).2⟩
     have hn : wrap64 (jz + 1) = ((j + 1 : Nat) : Int) := by rw [w64p (by omega) (by omega)]; omega
     have HN1 := Aside0.mk hn
     have HW := Aside0.mk (And.intro hw1 hw2)
     have p0 : 0 ≤ jz := by omega
     have tn : jz.toNat = j := by omega
     replace p0 := eq_true p0
     replace hlt := eq_true hlt
     clear hcells hx hn hj hjl htk hab hsum hnz hlen hw1 hw2
     go_upto_region 14 with fail
     have hby := blk_new wr (.cells #[.int .i64 a, .int .i64 b] 73)
     have hb := below_alloc (Below.refl wr.heap.size wr) (.cells #[.int .i64 a, .int .i64 b] 73)
     clear hq0 hq1 p0 hlt tn d1
     have n0_ := Aside0.mk (HI.out.kept hb); have n1_ := Aside0.mk (ownsAt_below HQA.out hb); have n2_ := Aside0.mk (below_step HB.out hb); have n3_ := Aside0.mk (HKs.out.trans (KeepG.of_below hb))
     clear HI HQA HB HKs hb
     have HI := n0_; have HQA := n1_; have HB := n2_; have HKs := n3_
     clear n0_ n1_ n2_ n3_
     generalize wr.heap.size = by_ at hby ⊢
     generalize wr.alloc (.cells #[.int .i64 a, .int .i64 b] 73) = Wb at hby HI HQA HB HKs ⊢
     have hy0 := blk_cell hby 0
     have hy1 := blk_cell hby 1
     change _ = some (Value.int .i64 a) at hy0
     change _ = some (Value.int .i64 b) at hy1
     have hw1 := HW.out.1
     have hw2 := HW.out.2
     clear hby
     go_wp2
     go_roundg k2
     case measure => omega
     case rel => exact ⟨j + 1, _, _, rfl, rfl, ⟨HN1.out, by have := HJ.out; omega⟩, ⟨by rw [HTK.out, apSum_snoc, ← HN.out]; first | rfl | exact hw2⟩, HI, HQA, HB, HKs⟩
    ·have d1 : decide (jz < (qi.ap.length : Int)) = false := decide_eq_false hlt
     have hn := HN.out
     rw [show j = qi.ap.length by omega, List.take_length] at hn
     have HNN := Aside0.mk hn
     clear hn hj hlt
     go_wp2
     go_ret
     exact ⟨by rw [HQ2.out, ← HNN.out]; rfl, by rw [HQ2.out]; exact HI.out, HB.out, HKs.out⟩


end Go.Proofs.Ytobndcdohehhbaa.PSendqHoles

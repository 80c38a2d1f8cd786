-- Laid by this claim's own program over the print's words.
import Derived.Test.YtakajeoeijnmhaaPSegBackx0
import Derived.Test.YtakajeoeijnmhaaPSegBackx5
import Derived.Test.YtakajeoeijnmhaaPSegBackx9
import Derived.Test.YtakajeoeijnmhaaPSegBackx10
import Derived.Test.YtakajeoeijnmhaaPSegBackx11
import Derived.Test.YtakajeoeijnmhaaPSegBackx12
import Derived.Test.YtakajeoeijnmhaaPSegBackx13
import Derived.Test.YtakajeoeijnmhaaPSegBackx14
namespace Go.Proofs.Ytakajeoeijnmhaa.PSegBack
open Go.RowKit Go.Proofs.YtakajeoeijnmhaaW.PrintWords Go.Proofs.YtakajeoeijnmhaaW.PrintLast Go.Proofs.YtakajeoeijnmhaaW.PrintMore
attribute [local go_sem] max2_int min2_int max_two min_two max_three min_three max_four min_four max_five min_five extract_cut tmod_nat_lit   -- for this text's walks alone
set_option linter.unusedVariables false
set_option linter.unusedSimpArgs false


/-! ### seg_Decode: function 24 (by hand) -/
set_option maxHeartbeats 1000000 in
set_option maxRecDepth 100000 in
theorem seg_Decode.get (a0 : ByteArray) (g : Nat) (a1 a2 : Int) (r1 r2 : Int) (w : World) (hb : w.heap[g]? = some (.cells #[.string a0] 9 (0, 0))) (h : sum_Get.f a0 a1 a2 = some (r1, r2)) :
  Calls Try.prog 43 #[.int .i64 a1, .int .i64 a2, .pointer (some ⟨g, 0, none⟩)] w fun e w' => e = .returned (.int .i64 r1) ∧ Below w.heap.size w w' := by
 have hcz : w.cell? ⟨g, 0, none⟩ = some (.string a0) := (blk_cell hb 0).trans rfl
 go_enter Try.func43, Try.ntmps43
 go_wp2_with fail
 refine (sum_Get.calls a0 a1 a2 r1 r2 _ h).mono ?_
 rintro e w3 ⟨rfl, hb3⟩
 go_wp2
 go_ret
 exact ⟨by first | rfl | simp, hb3⟩
def seg_Decode.hd (s : ByteArray) : Int := wrap64 ((wrap64 ((bt s 12) / 16)) * 4)
def seg_Decode.f2 (k : Nat) (s : ByteArray) (m sc st ec : Int) (sd sk sp : Bool) (l : List S73) : Option (Int × Int × Int × Int × Int × Int × Int × Int × Int × Int × Int × Bool × Bool × Bool × List S73 × ByteArray × Int) :=
 (sum_Get.f s 0 2).bind fun g1 => (sum_Get.f s 2 2).bind fun g2 => (sum_Get.f s 4 4).bind fun g3 => (sum_Get.f s 8 4).bind fun g4 => (sum_Get.f s 13 1).bind fun g5 => (sum_Get.f s 14 2).bind fun g6 => (sum_Get.f s 18 2).bind fun g7 => if Go.bits .and .u8 (bt s 12) 15 > 0 then some (0, 0, 0, 0, 0, 0, 0, 0, 0, 0, 0, false, false, false, [], (⟨#[]⟩ : ByteArray), 80) else
 (seg_Check.f k g1.1 g2.1 g3.1 g4.1 g5.1 g6.1 g7.1 m sc st ec sd sk sp l (cutS s (seg_Decode.hd s).toNat s.size)).bind fun cc => if cc = 0 then some (g1.1, g2.1, g3.1, g4.1, g5.1, g6.1, g7.1, m, sc, st, ec, sd, sk, sp, l, cutS s (seg_Decode.hd s).toNat s.size, 0) else some (0, 0, 0, 0, 0, 0, 0, 0, 0, 0, 0, false, false, false, [], (⟨#[]⟩ : ByteArray), 80)
def seg_Decode.f (k : Nat) (a b : Int) (s : ByteArray) : Option (Int × Int × Int × Int × Int × Int × Int × Int × Int × Int × Int × Bool × Bool × Bool × List S73 × ByteArray × Int) :=
 (seg_addresses.f a b).bind fun e0 => if e0 = 0 then if (s.size : Int) < 20 then some (0, 0, 0, 0, 0, 0, 0, 0, 0, 0, 0, false, false, false, [], (⟨#[]⟩ : ByteArray), 80) else if (s.size : Int) > 1540 then some (0, 0, 0, 0, 0, 0, 0, 0, 0, 0, 0, false, false, false, [], (⟨#[]⟩ : ByteArray), 80) else
  if seg_Decode.hd s < 20 then some (0, 0, 0, 0, 0, 0, 0, 0, 0, 0, 0, false, false, false, [], (⟨#[]⟩ : ByteArray), 80) else if seg_Decode.hd s > (s.size : Int) then some (0, 0, 0, 0, 0, 0, 0, 0, 0, 0, 0, false, false, false, [], (⟨#[]⟩ : ByteArray), 80) else
  (sum_Pseudo.f k a b 6 (s.size : Int)).bind fun ps => if ps.1.size + s.size ≤ 9223372036854775807 then
  (sum_Whole.f k (ps.1 ++ s)).bind fun wh => if wh = true then
  (opts_Decode.f k (cutS s 20 (seg_Decode.hd s).toNat)).bind fun o => if o.2.2.2.2.2.2.2.2 = 0 then seg_Decode.f2 k s o.1 o.2.1 o.2.2.1 o.2.2.2.1 o.2.2.2.2.1 o.2.2.2.2.2.1 o.2.2.2.2.2.2.1 o.2.2.2.2.2.2.2.1 else some (0, 0, 0, 0, 0, 0, 0, 0, 0, 0, 0, false, false, false, [], (⟨#[]⟩ : ByteArray), o.2.2.2.2.2.2.2.2)
  else some (0, 0, 0, 0, 0, 0, 0, 0, 0, 0, 0, false, false, false, [], (⟨#[]⟩ : ByteArray), 20) else none
 else some (0, 0, 0, 0, 0, 0, 0, 0, 0, 0, 0, false, false, false, [], (⟨#[]⟩ : ByteArray), e0)
theorem seg_Decode.mono2 (k : Nat) (s : ByteArray) (m sc st ec : Int) (sd sk sp : Bool) (l : List S73) : LeO (seg_Decode.f2 k s m sc st ec sd sk sp l) (seg_Decode.f2 (k + 1) s m sc st ec sd sk sp l) := by
 unfold seg_Decode.f2
 exact LeO.bind (LeO.refl _) fun _ => LeO.bind (LeO.refl _) fun _ => LeO.bind (LeO.refl _) fun _ => LeO.bind (LeO.refl _) fun _ => LeO.bind (LeO.refl _) fun _ => LeO.bind (LeO.refl _) fun _ => LeO.bind (LeO.refl _) fun _ => LeO.ite (LeO.refl _) (LeO.bind (seg_Check.mono _ _ _ _ _ _ _ _ _ _ _ _ _ _ _ _ _) fun _ => LeO.refl _)
set_option maxHeartbeats 400000 in
theorem seg_Decode.mono : ∀ a b s k, LeO (seg_Decode.f k a b s) (seg_Decode.f (k + 1) a b s) := by
 intro a b s k
 unfold seg_Decode.f
 refine LeO.bind (LeO.refl _) fun e0 => ?_
 refine LeO.ite ?_ (LeO.refl _)
 refine LeO.ite (LeO.refl _) ?_
 refine LeO.ite (LeO.refl _) ?_
 refine LeO.ite (LeO.refl _) ?_
 refine LeO.ite (LeO.refl _) ?_
 refine LeO.bind (sum_Pseudo.mono _ _ _ _ _) fun ps => ?_
 refine LeO.ite ?_ (LeO.none _)
 refine LeO.bind (sum_Whole.mono _ _) fun wh => ?_
 refine LeO.ite ?_ (LeO.refl _)
 refine LeO.bind (opts_Decode.mono _ _) fun o => ?_
 exact LeO.ite (seg_Decode.mono2 _ _ _ _ _ _ _ _ _ _) (LeO.refl _)
theorem seg_Decode.out {W : World} {g : Nat} {c0 c1 c2 c3 c4 c5 c6 c7 c8 c9 c10 c11 c12 c13 c14 c15 y0 y1 y2 y3 y4 y5 y6 y7 y8 y9 y10 y11 y12 y13 y14 y15 : Value} {cs : Array Value} (hcs : cs = #[y0, y1, y2, y3, y4, y5, y6, y7, y8, y9, y10, y11, y12, y13, y14, y15]) (hb : W.heap[g]? = some (.cells #[c0, c1, c2, c3, c4, c5, c6, c7, c8, c9, c10, c11, c12, c13, c14, c15] 26 (0, 0))) :
  ((((((((((((((((W.setCell ⟨g, 0, none⟩ y0).setCell ⟨g, 1, none⟩ y1).setCell ⟨g, 2, none⟩ y2).setCell ⟨g, 3, none⟩ y3).setCell ⟨g, 4, none⟩ y4).setCell ⟨g, 5, none⟩ y5).setCell ⟨g, 6, none⟩ y6).setCell ⟨g, 7, none⟩ y7).setCell ⟨g, 8, none⟩ y8).setCell ⟨g, 9, none⟩ y9).setCell ⟨g, 10, none⟩ y10).setCell ⟨g, 11, none⟩ y11).setCell ⟨g, 12, none⟩ y12).setCell ⟨g, 13, none⟩ y13).setCell ⟨g, 14, none⟩ y14).setCell ⟨g, 15, none⟩ y15).heap[g]? = some (.cells cs 26 (0, 0)) ∧ ∀ (base : Nat) (v : Value) (xs : List S73), Kd.R k73 73 W base (fun _ => True) v xs → Kd.R k73 73 ((((((((((((((((W.setCell ⟨g, 0, none⟩ y0).setCell ⟨g, 1, none⟩ y1).setCell ⟨g, 2, none⟩ y2).setCell ⟨g, 3, none⟩ y3).setCell ⟨g, 4, none⟩ y4).setCell ⟨g, 5, none⟩ y5).setCell ⟨g, 6, none⟩ y6).setCell ⟨g, 7, none⟩ y7).setCell ⟨g, 8, none⟩ y8).setCell ⟨g, 9, none⟩ y9).setCell ⟨g, 10, none⟩ y10).setCell ⟨g, 11, none⟩ y11).setCell ⟨g, 12, none⟩ y12).setCell ⟨g, 13, none⟩ y13).setCell ⟨g, 14, none⟩ y14).setCell ⟨g, 15, none⟩ y15) base (fun _ => True) v xs := by
 subst hcs
 have h0 := blk_put (cs' := #[y0, c1, c2, c3, c4, c5, c6, c7, c8, c9, c10, c11, c12, c13, c14, c15]) hb 0 y0 rfl
 have h1 := blk_put (cs' := #[y0, y1, c2, c3, c4, c5, c6, c7, c8, c9, c10, c11, c12, c13, c14, c15]) h0 1 y1 rfl
 have h2 := blk_put (cs' := #[y0, y1, y2, c3, c4, c5, c6, c7, c8, c9, c10, c11, c12, c13, c14, c15]) h1 2 y2 rfl
 have h3 := blk_put (cs' := #[y0, y1, y2, y3, c4, c5, c6, c7, c8, c9, c10, c11, c12, c13, c14, c15]) h2 3 y3 rfl
 have h4 := blk_put (cs' := #[y0, y1, y2, y3, y4, c5, c6, c7, c8, c9, c10, c11, c12, c13, c14, c15]) h3 4 y4 rfl
 have h5 := blk_put (cs' := #[y0, y1, y2, y3, y4, y5, c6, c7, c8, c9, c10, c11, c12, c13, c14, c15]) h4 5 y5 rfl
 have h6 := blk_put (cs' := #[y0, y1, y2, y3, y4, y5, y6, c7, c8, c9, c10, c11, c12, c13, c14, c15]) h5 6 y6 rfl
 have h7 := blk_put (cs' := #[y0, y1, y2, y3, y4, y5, y6, y7, c8, c9, c10, c11, c12, c13, c14, c15]) h6 7 y7 rfl
 have h8 := blk_put (cs' := #[y0, y1, y2, y3, y4, y5, y6, y7, y8, c9, c10, c11, c12, c13, c14, c15]) h7 8 y8 rfl
 have h9 := blk_put (cs' := #[y0, y1, y2, y3, y4, y5, y6, y7, y8, y9, c10, c11, c12, c13, c14, c15]) h8 9 y9 rfl
 have h10 := blk_put (cs' := #[y0, y1, y2, y3, y4, y5, y6, y7, y8, y9, y10, c11, c12, c13, c14, c15]) h9 10 y10 rfl
 have h11 := blk_put (cs' := #[y0, y1, y2, y3, y4, y5, y6, y7, y8, y9, y10, y11, c12, c13, c14, c15]) h10 11 y11 rfl
 have h12 := blk_put (cs' := #[y0, y1, y2, y3, y4, y5, y6, y7, y8, y9, y10, y11, y12, c13, c14, c15]) h11 12 y12 rfl
 have h13 := blk_put (cs' := #[y0, y1, y2, y3, y4, y5, y6, y7, y8, y9, y10, y11, y12, y13, c14, c15]) h12 13 y13 rfl
 have h14 := blk_put (cs' := #[y0, y1, y2, y3, y4, y5, y6, y7, y8, y9, y10, y11, y12, y13, y14, c15]) h13 14 y14 rfl
 have h15 := blk_put (cs' := #[y0, y1, y2, y3, y4, y5, y6, y7, y8, y9, y10, y11, y12, y13, y14, y15]) h14 15 y15 rfl
 refine ⟨h15, fun base v xs hR => ?_⟩
 have hR := Kd.R_set hR hb (by decide) 0 y0
 have hR := Kd.R_set hR h0 (by decide) 1 y1
 have hR := Kd.R_set hR h1 (by decide) 2 y2
 have hR := Kd.R_set hR h2 (by decide) 3 y3
 have hR := Kd.R_set hR h3 (by decide) 4 y4
 have hR := Kd.R_set hR h4 (by decide) 5 y5
 have hR := Kd.R_set hR h5 (by decide) 6 y6
 have hR := Kd.R_set hR h6 (by decide) 7 y7
 have hR := Kd.R_set hR h7 (by decide) 8 y8
 have hR := Kd.R_set hR h8 (by decide) 9 y9
 have hR := Kd.R_set hR h9 (by decide) 10 y10
 have hR := Kd.R_set hR h10 (by decide) 11 y11
 have hR := Kd.R_set hR h11 (by decide) 12 y12
 have hR := Kd.R_set hR h12 (by decide) 13 y13
 have hR := Kd.R_set hR h13 (by decide) 14 y14
 have hR := Kd.R_set hR h14 (by decide) 15 y15
 exact hR
theorem slice_from {P : Program} {ρ : Operand → Value} {o : Oper} {W : World} {t : TypeId} {x a : Operand} {s : ByteArray} {i : Int} (hu : P.underlying t = some .string) (ho : o.op = .slice t x (some a) none none) (hx : ρ x = .string s) (ha : ρ a = .int .i64 i) (h0 : 0 ≤ i) (h1 : i ≤ (s.size : Int)) : (execOp ρ o).run P W = .ok (.value (.string (cutS s i.toNat s.size))) W := by
 have e1 : ¬ ((s.size : Int) < i) := by omega
 have e2 : (0 ≤ i) = True := eq_true h0
 have e3 : (i ≤ (s.size : Int)) = True := eq_true h1
 unfold execOp
 simp only [ho]
 go_simp
set_option maxHeartbeats 8000000 in
set_option maxRecDepth 100000 in
theorem seg_Decode.calls (k : Nat) (a b : Int) (s : ByteArray) (r1 r2 r3 r4 r5 r6 r7 r8 r9 r10 r11 : Int) (r12 r13 r14 : Bool) (r15 : List S73) (r16 : ByteArray) (r17 : Int) (w : World) (h : seg_Decode.f k a b s = some (r1, r2, r3, r4, r5, r6, r7, r8, r9, r10, r11, r12, r13, r14, r15, r16, r17)) :
  Calls Try.prog 24 #[.int .i64 a, .int .i64 b, .string s] w fun e w' => ∃ v14_ : Value, e = .returned (.tuple #[.agg #[.int .i64 r1, .int .i64 r2, .int .i64 r3, .int .i64 r4, .int .i64 r5, .int .i64 r6, .int .i64 r7, .int .i64 r8, .int .i64 r9, .int .i64 r10, .int .i64 r11, .bool r12, .bool r13, .bool r14, v14_, .string r16], .int .i64 r17]) ∧ Kd.R k73 73 w' w.heap.size (fun _ => True) v14_ r15 ∧ Below w.heap.size w w' := by
 have hu26 := Try.underlying26
 have hu24 := Try.underlying24
 have HB := Aside0.mk (Below.refl w.heap.size w)
 have hmf : ∀ (fn : Fn) (first cap : Array Value) (w : World), (Instr.makeFunc fn first cap).run Try.prog w = .ok (.func fn first cap) w := fun _ _ _ _ => rfl
 unfold seg_Decode.f at h
 obtain ⟨e0, he0, H⟩ := Option.bind_eq_some_iff.mp h
 have HE := Aside0.mk he0
 have HT := Aside0.mk H
 clear h he0 H
 go_enter Try.func24, Try.ntmps24
 go_wp2_with (first | ((with_reducible refine gate_dst (N := 5) rfl ?_); refine box_event ?hg (N := 5) ?hd (cs := #[.string s]) (t := 9) ?hr ?_; (case hd => rfl); (case hg => rfl); (case hr => first | (go_simp; done) | (go_simp; rfl)); intro gs hg w1 hbox hb; have n0_ := Aside0.mk (below_step HB.out hb); have BS := Aside0.mk hbox; clear HB hbox hb hg; have HB := n0_; clear n0_; have hsc0 := (blk_cell BS.out 0).trans rfl; have hsf0 := blk_frozen BS.out 0) | ((with_reducible refine gate_dst (N := 6) rfl ?_); refine box_event ?hg (N := 6) ?hd (cs := #[.int .i64 0, .int .i64 0, .int .i64 0, .int .i64 0, .int .i64 0, .int .i64 0, .int .i64 0, .int .i64 0, .int .i64 0, .int .i64 0, .int .i64 0, .bool false, .bool false, .bool false, .slice none 0 0, .string (⟨#[]⟩ : ByteArray)]) (t := 26) ?hr ?_; (case hd => rfl); (case hg => rfl); (case hr => first | (go_simp; done) | (go_simp; rfl)); intro gr hg w2 hbox hb; have n0_ := Aside0.mk (below_step HB.out hb); have n1_ := Aside0.mk (blk_below BS.out hb); have GR := Aside0.mk ((by rw [hg]; exact below_size HB.out) : w.heap.size ≤ gr); have BR := Aside0.mk hbox; clear HB BS hbox hb hg hsc0 hsf0; have HB := n0_; have BS := n1_; clear n0_ n1_; have hsc0 : w2.cell? ⟨gs, 0, none⟩ = some (.string s) := (blk_cell BS.out 0).trans rfl; have hsf0 := blk_frozen BS.out 0))
 refine (seg_addresses.calls a b e0 _ HE.out).mono ?_
 rintro e W1 ⟨rfl, hW⟩
 clear hsc0 hsf0
 have n0_ := Aside0.mk (below_step HB.out hW); have n1_ := Aside0.mk (blk_below BS.out hW); have n2_ := Aside0.mk (blk_below BR.out hW); clear HB BS BR hW; have HB := n0_; have BS := n1_; have BR := n2_; clear n0_ n1_ n2_
 have hsc0 : W1.cell? ⟨gs, 0, none⟩ = some (.string s) := (blk_cell BS.out 0).trans rfl; have hsf0 := blk_frozen BS.out 0
 have H := HT.out
 clear HT HE
 by_cases c0 : e0 = 0
 case neg =>
  rw [if_neg c0] at H
  simp only [Option.some.injEq, Prod.mk.injEq] at H
  obtain ⟨rfl, rfl, rfl, rfl, rfl, rfl, rfl, rfl, rfl, rfl, rfl, rfl, rfl, rfl, rfl, rfl, rfl⟩ := H
  have d0 : (e0 != 0) = true := bne_iff_ne.mpr c0
  go_wp2_with (first | ((with_reducible refine gate_store (t := 26) rfl ?_); refine store_big rfl 26 _ _ rfl _ _ rfl rfl 26 _ (BR.out) (by kernel_rfl) (by rfl) (by rfl) _ (by simp only [World.setCells, Nat.reduceAdd]; rfl) ?_; simp only [Act.put, List.setIfInBounds_toArray, List.set_cons_zero, List.set_cons_succ]))
  refine bodyPost_ret (results_ct rfl _ _ gr 26 #[.int .i64 0, .int .i64 0, .int .i64 0, .int .i64 0, .int .i64 0, .int .i64 0, .int .i64 0, .int .i64 0, .int .i64 0, .int .i64 0, .int .i64 0, .bool false, .bool false, .bool false, .slice none 0 0, .string (⟨#[]⟩ : ByteArray)] (0, 0) _ rfl (seg_Decode.out (by rfl) BR.out).1 Try.underlying26 rfl (by kernel_rfl)) rfl ?_
  exact ⟨_, rfl, Kd.R_nil _ _ _ _ _, by repeat (first | (with_reducible first | exact HB.out | apply below_alloc | apply pw_below_drewN | apply below_drew1 | refine below_set ?_ GR.out) | exact HB.out)⟩
 rw [if_pos c0] at H
 have d0 : (e0 != 0) = false := bne_eq_false_iff_eq.mpr c0
 by_cases c1 : (s.size : Int) < 20
 ·rw [if_pos c1] at H
  simp only [Option.some.injEq, Prod.mk.injEq] at H
  obtain ⟨rfl, rfl, rfl, rfl, rfl, rfl, rfl, rfl, rfl, rfl, rfl, rfl, rfl, rfl, rfl, rfl, rfl⟩ := H
  have d1 : decide ((s.size : Int) < 20) = true := decide_eq_true c1
  go_wp2_with (first | ((with_reducible refine gate_store (t := 26) rfl ?_); refine store_big rfl 26 _ _ rfl _ _ rfl rfl 26 _ (BR.out) (by kernel_rfl) (by rfl) (by rfl) _ (by simp only [World.setCells, Nat.reduceAdd]; rfl) ?_; simp only [Act.put, List.setIfInBounds_toArray, List.set_cons_zero, List.set_cons_succ]))
  refine bodyPost_ret (results_ct rfl _ _ gr 26 #[.int .i64 0, .int .i64 0, .int .i64 0, .int .i64 0, .int .i64 0, .int .i64 0, .int .i64 0, .int .i64 0, .int .i64 0, .int .i64 0, .int .i64 0, .bool false, .bool false, .bool false, .slice none 0 0, .string (⟨#[]⟩ : ByteArray)] (0, 0) _ rfl (seg_Decode.out (by rfl) BR.out).1 Try.underlying26 rfl (by kernel_rfl)) rfl ?_
  exact ⟨_, rfl, Kd.R_nil _ _ _ _ _, by repeat (first | (with_reducible first | exact HB.out | apply below_alloc | apply pw_below_drewN | apply below_drew1 | refine below_set ?_ GR.out) | exact HB.out)⟩
 rw [if_neg c1] at H
 have d1 : decide ((s.size : Int) < 20) = false := decide_eq_false c1
 by_cases c2 : (s.size : Int) > 1540
 ·rw [if_pos c2] at H
  simp only [Option.some.injEq, Prod.mk.injEq] at H
  obtain ⟨rfl, rfl, rfl, rfl, rfl, rfl, rfl, rfl, rfl, rfl, rfl, rfl, rfl, rfl, rfl, rfl, rfl⟩ := H
  have d2 : decide (1540 < (s.size : Int)) = true := decide_eq_true c2
  go_wp2_with (first | ((with_reducible refine gate_store (t := 26) rfl ?_); refine store_big rfl 26 _ _ rfl _ _ rfl rfl 26 _ (BR.out) (by kernel_rfl) (by rfl) (by rfl) _ (by simp only [World.setCells, Nat.reduceAdd]; rfl) ?_; simp only [Act.put, List.setIfInBounds_toArray, List.set_cons_zero, List.set_cons_succ]))
  refine bodyPost_ret (results_ct rfl _ _ gr 26 #[.int .i64 0, .int .i64 0, .int .i64 0, .int .i64 0, .int .i64 0, .int .i64 0, .int .i64 0, .int .i64 0, .int .i64 0, .int .i64 0, .int .i64 0, .bool false, .bool false, .bool false, .slice none 0 0, .string (⟨#[]⟩ : ByteArray)] (0, 0) _ rfl (seg_Decode.out (by rfl) BR.out).1 Try.underlying26 rfl (by kernel_rfl)) rfl ?_
  exact ⟨_, rfl, Kd.R_nil _ _ _ _ _, by repeat (first | (with_reducible first | exact HB.out | apply below_alloc | apply pw_below_drewN | apply below_drew1 | refine below_set ?_ GR.out) | exact HB.out)⟩
 rw [if_neg c2] at H
 have d2 : decide (1540 < (s.size : Int)) = false := decide_eq_false c2
 have q12 : (12 < s.size) = True := eq_true (by omega)
 have hx12 : ∀ h : 12 < s.size, ((s[12]'h).toNat : Int) = bt s 12 := bt_at s 12
 have HHD := Aside0.mk (show wrap64 ((wrap64 ((bt s 12) / 16)) * 4) = seg_Decode.hd s from rfl)
 obtain ⟨hd, hhq⟩ : ∃ q_, seg_Decode.hd s = q_ := ⟨_, rfl⟩
 rw [hhq] at H HHD
 have HHQ := Aside0.mk hhq
 clear hhq
 have hhd := HHD.out
 by_cases c3 : hd < 20
 ·rw [if_pos c3] at H
  simp only [Option.some.injEq, Prod.mk.injEq] at H
  obtain ⟨rfl, rfl, rfl, rfl, rfl, rfl, rfl, rfl, rfl, rfl, rfl, rfl, rfl, rfl, rfl, rfl, rfl⟩ := H
  have d3 : decide (hd < 20) = true := decide_eq_true c3
  go_wp2_with (first | ((with_reducible refine gate_store (t := 26) rfl ?_); refine store_big rfl 26 _ _ rfl _ _ rfl rfl 26 _ (BR.out) (by kernel_rfl) (by rfl) (by rfl) _ (by simp only [World.setCells, Nat.reduceAdd]; rfl) ?_; simp only [Act.put, List.setIfInBounds_toArray, List.set_cons_zero, List.set_cons_succ]))
  refine bodyPost_ret (results_ct rfl _ _ gr 26 #[.int .i64 0, .int .i64 0, .int .i64 0, .int .i64 0, .int .i64 0, .int .i64 0, .int .i64 0, .int .i64 0, .int .i64 0, .int .i64 0, .int .i64 0, .bool false, .bool false, .bool false, .slice none 0 0, .string (⟨#[]⟩ : ByteArray)] (0, 0) _ rfl (seg_Decode.out (by rfl) BR.out).1 Try.underlying26 rfl (by kernel_rfl)) rfl ?_
  exact ⟨_, rfl, Kd.R_nil _ _ _ _ _, by repeat (first | (with_reducible first | exact HB.out | apply below_alloc | apply pw_below_drewN | apply below_drew1 | refine below_set ?_ GR.out) | exact HB.out)⟩
 rw [if_neg c3] at H
 have d3 : decide (hd < 20) = false := decide_eq_false c3
 by_cases c4 : hd > (s.size : Int)
 ·rw [if_pos c4] at H
  simp only [Option.some.injEq, Prod.mk.injEq] at H
  obtain ⟨rfl, rfl, rfl, rfl, rfl, rfl, rfl, rfl, rfl, rfl, rfl, rfl, rfl, rfl, rfl, rfl, rfl⟩ := H
  have d4 : decide ((s.size : Int) < hd) = true := decide_eq_true c4
  go_wp2_with (first | ((with_reducible refine gate_store (t := 26) rfl ?_); refine store_big rfl 26 _ _ rfl _ _ rfl rfl 26 _ (BR.out) (by kernel_rfl) (by rfl) (by rfl) _ (by simp only [World.setCells, Nat.reduceAdd]; rfl) ?_; simp only [Act.put, List.setIfInBounds_toArray, List.set_cons_zero, List.set_cons_succ]))
  refine bodyPost_ret (results_ct rfl _ _ gr 26 #[.int .i64 0, .int .i64 0, .int .i64 0, .int .i64 0, .int .i64 0, .int .i64 0, .int .i64 0, .int .i64 0, .int .i64 0, .int .i64 0, .int .i64 0, .bool false, .bool false, .bool false, .slice none 0 0, .string (⟨#[]⟩ : ByteArray)] (0, 0) _ rfl (seg_Decode.out (by rfl) BR.out).1 Try.underlying26 rfl (by kernel_rfl)) rfl ?_
  exact ⟨_, rfl, Kd.R_nil _ _ _ _ _, by repeat (first | (with_reducible first | exact HB.out | apply below_alloc | apply pw_below_drewN | apply below_drew1 | refine below_set ?_ GR.out) | exact HB.out)⟩
 rw [if_neg c4] at H
 have d4 : decide ((s.size : Int) < hd) = false := decide_eq_false c4
 obtain ⟨⟨ps, pe⟩, hps, H⟩ := Option.bind_eq_some_iff.mp H
 have HP := Aside0.mk hps
 clear hps
 replace H := Aside0.mk H
 go_wp2_with fail
 refine (sum_Pseudo.calls k a b 6 (s.size : Int) ps pe _ HP.out).mono ?_
 rintro e W2 ⟨rfl, hW⟩
 clear hsc0 hsf0
 have n0_ := Aside0.mk (below_step HB.out hW); have n1_ := Aside0.mk (blk_below BS.out hW); have n2_ := Aside0.mk (blk_below BR.out hW); clear HB BS BR hW; have HB := n0_; have BS := n1_; have BR := n2_; clear n0_ n1_ n2_
 have hsc0 : W2.cell? ⟨gs, 0, none⟩ = some (.string s) := (blk_cell BS.out 0).trans rfl; have hsf0 := blk_frozen BS.out 0
 have H := H.out
 try dsimp only at H
 by_cases c5 : ps.size + s.size ≤ 9223372036854775807
 case neg => rw [if_neg c5] at H; exact absurd H (by simp)
 rw [if_pos c5] at H
 have d5 : (9223372036854775807 < ps.size + s.size) = False := eq_false (Nat.not_lt.2 c5)
 have d5a := eq_true c5
 obtain ⟨wh, hwh, H⟩ := Option.bind_eq_some_iff.mp H
 have HW := Aside0.mk hwh
 have HT := Aside0.mk H
 clear hwh H
 go_wp2_with fail
 refine (sum_Whole.calls k (ps ++ s) wh _ HW.out).mono ?_
 rintro e W3 ⟨rfl, hW⟩
 clear hsc0 hsf0
 have n0_ := Aside0.mk (below_step HB.out hW); have n1_ := Aside0.mk (blk_below BS.out hW); have n2_ := Aside0.mk (blk_below BR.out hW); clear HB BS BR hW; have HB := n0_; have BS := n1_; have BR := n2_; clear n0_ n1_ n2_
 have hsc0 : W3.cell? ⟨gs, 0, none⟩ = some (.string s) := (blk_cell BS.out 0).trans rfl; have hsf0 := blk_frozen BS.out 0
 have H := HT.out
 clear HT
 cases wh with
 | false =>
  rw [if_neg (by decide)] at H
  simp only [Option.some.injEq, Prod.mk.injEq] at H
  obtain ⟨rfl, rfl, rfl, rfl, rfl, rfl, rfl, rfl, rfl, rfl, rfl, rfl, rfl, rfl, rfl, rfl, rfl⟩ := H
  go_wp2_with (first | ((with_reducible refine gate_store (t := 26) rfl ?_); refine store_big rfl 26 _ _ rfl _ _ rfl rfl 26 _ (BR.out) (by kernel_rfl) (by rfl) (by rfl) _ (by simp only [World.setCells, Nat.reduceAdd]; rfl) ?_; simp only [Act.put, List.setIfInBounds_toArray, List.set_cons_zero, List.set_cons_succ]))
  refine bodyPost_ret (results_ct rfl _ _ gr 26 #[.int .i64 0, .int .i64 0, .int .i64 0, .int .i64 0, .int .i64 0, .int .i64 0, .int .i64 0, .int .i64 0, .int .i64 0, .int .i64 0, .int .i64 0, .bool false, .bool false, .bool false, .slice none 0 0, .string (⟨#[]⟩ : ByteArray)] (0, 0) _ rfl (seg_Decode.out (by rfl) BR.out).1 Try.underlying26 rfl (by kernel_rfl)) rfl ?_
  exact ⟨_, rfl, Kd.R_nil _ _ _ _ _, by repeat (first | (with_reducible first | exact HB.out | apply below_alloc | apply pw_below_drewN | apply below_drew1 | refine below_set ?_ GR.out) | exact HB.out)⟩
 | true =>
  rw [if_pos rfl] at H
  have sl0 : (20 ≤ hd) = True := eq_true (by omega)
  have sl1 : (hd ≤ (s.size : Int)) = True := eq_true (by omega)
  have sl2 : (hd < 20) = False := eq_false (by omega)
  have sl3 : ((s.size : Int) < hd) = False := eq_false (by omega)
  have sl4 : (0 ≤ hd) = True := eq_true (by omega)
  have HD := Aside0.mk (show 20 ≤ hd ∧ hd ≤ (s.size : Int) from ⟨by omega, by omega⟩)
  obtain ⟨⟨m, sc, st, ec, sd, sk, sp, l, oe⟩, ho, H⟩ := Option.bind_eq_some_iff.mp H
  have HO := Aside0.mk ho
  have HT := Aside0.mk H
  clear ho H
  go_wp2_with fail
  refine (opts_Decode.calls k (cutS s 20 hd.toNat) m sc st ec sd sk sp l oe _ HO.out).mono ?_
  rintro e W4 ⟨vo, rfl, hRo, hW⟩
  obtain ⟨Ao, co, hvo, hlo, hCo⟩ := Kd.R_reads hRo
  generalize hln : l.length = ln at hvo hlo
  subst hvo
  have RO := Aside0.mk (Kd.R_lower hRo (below_size HB.out))
  have LN := Aside0.mk hln
  have HLO := Aside0.mk hlo
  clear hln hlo hCo hRo
  clear hsc0 hsf0
  have n0_ := Aside0.mk (below_step HB.out hW); have n1_ := Aside0.mk (blk_below BS.out hW); have n2_ := Aside0.mk (blk_below BR.out hW); clear HB BS BR hW; have HB := n0_; have BS := n1_; have BR := n2_; clear n0_ n1_ n2_
  have hsc0 : W4.cell? ⟨gs, 0, none⟩ = some (.string s) := (blk_cell BS.out 0).trans rfl; have hsf0 := blk_frozen BS.out 0
  have H := HT.out
  clear HT
  try dsimp only at H
  by_cases c6 : oe = 0
  case neg =>
   rw [if_neg c6] at H
   simp only [Option.some.injEq, Prod.mk.injEq] at H
   obtain ⟨rfl, rfl, rfl, rfl, rfl, rfl, rfl, rfl, rfl, rfl, rfl, rfl, rfl, rfl, rfl, rfl, rfl⟩ := H
   have d6 : (oe != 0) = true := bne_iff_ne.mpr c6
   go_wp2_with (first | ((with_reducible refine gate_dst (N := 12) rfl ?_); refine box_event ?hg (N := 12) ?hd (cs := #[.int .i64 0, .int .i64 0, .int .i64 0, .int .i64 0, .bool false, .bool false, .bool false, .slice none 0 0]) (t := 24) ?hr ?_; (case hd => rfl); (case hg => rfl); (case hr => first | (go_simp; done) | (go_simp; rfl)); intro go hg w5 hbox hb; have n0_ := Aside0.mk (below_step HB.out hb); have n1_ := Aside0.mk (blk_below BS.out hb); have n2_ := Aside0.mk (blk_below BR.out hb); have n3_ := Aside0.mk (Kd.R_below RO.out hb); have GO := Aside0.mk ((by rw [hg]; exact below_size HB.out) : w.heap.size ≤ go); have BO := Aside0.mk hbox; have NOR := Aside0.mk ((by rw [hg]; exact Nat.ne_of_gt (blk_lt BR.out)) : go ≠ gr); have NOS := Aside0.mk ((by rw [hg]; exact Nat.ne_of_gt (blk_lt BS.out)) : go ≠ gs); have NRO := Aside0.mk (Ne.symm NOR.out); have NSO := Aside0.mk (Ne.symm NOS.out); clear HB BS BR RO hbox hb hg hsc0 hsf0; have HB := n0_; have BS := n1_; have BR := n2_; have RO := n3_; clear n0_ n1_ n2_ n3_; have hsc0 : w5.cell? ⟨gs, 0, none⟩ = some (.string s) := (blk_cell BS.out 0).trans rfl; have hsf0 := blk_frozen BS.out 0; have hoc0 : w5.cell? ⟨go, 0, none⟩ = some (.int .i64 0) := (blk_cell BO.out 0).trans rfl; have hof0 := blk_frozen BO.out 0; have hoc1 : w5.cell? ⟨go, 1, none⟩ = some (.int .i64 0) := (blk_cell BO.out 1).trans rfl; have hof1 := blk_frozen BO.out 1; have hoc2 : w5.cell? ⟨go, 2, none⟩ = some (.int .i64 0) := (blk_cell BO.out 2).trans rfl; have hof2 := blk_frozen BO.out 2; have hoc3 : w5.cell? ⟨go, 3, none⟩ = some (.int .i64 0) := (blk_cell BO.out 3).trans rfl; have hof3 := blk_frozen BO.out 3; have hoc4 : w5.cell? ⟨go, 4, none⟩ = some (.bool false) := (blk_cell BO.out 4).trans rfl; have hof4 := blk_frozen BO.out 4; have hoc5 : w5.cell? ⟨go, 5, none⟩ = some (.bool false) := (blk_cell BO.out 5).trans rfl; have hof5 := blk_frozen BO.out 5; have hoc6 : w5.cell? ⟨go, 6, none⟩ = some (.bool false) := (blk_cell BO.out 6).trans rfl; have hof6 := blk_frozen BO.out 6; have hoc7 : w5.cell? ⟨go, 7, none⟩ = some (.slice none 0 0) := (blk_cell BO.out 7).trans rfl; have hof7 := blk_frozen BO.out 7) | ((with_reducible refine gate_store (t := 26) rfl ?_); refine store_big rfl 26 _ _ rfl _ _ rfl rfl 26 _ (by (with_reducible repeat (first | (apply blk_farA; case hp => assumption))); apply Aside0.out; assumption) (by kernel_rfl) (by rfl) (by rfl) _ (by simp only [World.setCells, Nat.reduceAdd]; rfl) ?_; simp only [Act.put, List.setIfInBounds_toArray, List.set_cons_zero, List.set_cons_succ]))
   refine bodyPost_ret (results_ct rfl _ _ gr 26 #[.int .i64 0, .int .i64 0, .int .i64 0, .int .i64 0, .int .i64 0, .int .i64 0, .int .i64 0, .int .i64 0, .int .i64 0, .int .i64 0, .int .i64 0, .bool false, .bool false, .bool false, .slice none 0 0, .string (⟨#[]⟩ : ByteArray)] (0, 0) _ rfl (seg_Decode.out (by rfl) (by (with_reducible repeat (first | (apply blk_farA; case hp => assumption))); apply Aside0.out; assumption)).1 Try.underlying26 rfl (by kernel_rfl)) rfl ?_
   exact ⟨_, rfl, Kd.R_nil _ _ _ _ _, by repeat (first | (with_reducible first | exact HB.out | apply below_alloc | apply pw_below_drewN | apply below_drew1 | refine below_set ?_ GR.out | refine below_set ?_ GO.out) | exact HB.out)⟩
  rw [if_pos c6] at H
  have d6 : (oe != 0) = false := bne_eq_false_iff_eq.mpr c6
  unfold seg_Decode.f2 at H
  try dsimp only at H
  rw [HHQ.out] at H
  obtain ⟨⟨g1, e1⟩, hg1, H⟩ := Option.bind_eq_some_iff.mp H
  have G1 := Aside0.mk hg1
  clear hg1
  obtain ⟨⟨g2, e2⟩, hg2, H⟩ := Option.bind_eq_some_iff.mp H
  have G2 := Aside0.mk hg2
  clear hg2
  obtain ⟨⟨g3, e3⟩, hg3, H⟩ := Option.bind_eq_some_iff.mp H
  have G3 := Aside0.mk hg3
  clear hg3
  obtain ⟨⟨g4, e4⟩, hg4, H⟩ := Option.bind_eq_some_iff.mp H
  have G4 := Aside0.mk hg4
  clear hg4
  obtain ⟨⟨g5, e5⟩, hg5, H⟩ := Option.bind_eq_some_iff.mp H
  have G5 := Aside0.mk hg5
  clear hg5
  obtain ⟨⟨g6, e6⟩, hg6, H⟩ := Option.bind_eq_some_iff.mp H
  have G6 := Aside0.mk hg6
  clear hg6
  obtain ⟨⟨g7, e7⟩, hg7, H⟩ := Option.bind_eq_some_iff.mp H
  have G7 := Aside0.mk hg7
  clear hg7
  have HT := Aside0.mk H
  clear H c6
  go_wp2_with (first | ((with_reducible refine gate_dst (N := 12) rfl ?_); refine box_event ?hg (N := 12) ?hd (cs := #[.int .i64 0, .int .i64 0, .int .i64 0, .int .i64 0, .bool false, .bool false, .bool false, .slice none 0 0]) (t := 24) ?hr ?_; (case hd => rfl); (case hg => rfl); (case hr => first | (go_simp; done) | (go_simp; rfl)); intro go hg w5 hbox hb; have n0_ := Aside0.mk (below_step HB.out hb); have n1_ := Aside0.mk (blk_below BS.out hb); have n2_ := Aside0.mk (blk_below BR.out hb); have n3_ := Aside0.mk (Kd.R_below RO.out hb); have GO := Aside0.mk ((by rw [hg]; exact below_size HB.out) : w.heap.size ≤ go); have BO := Aside0.mk hbox; have NOR := Aside0.mk ((by rw [hg]; exact Nat.ne_of_gt (blk_lt BR.out)) : go ≠ gr); have NOS := Aside0.mk ((by rw [hg]; exact Nat.ne_of_gt (blk_lt BS.out)) : go ≠ gs); have NRO := Aside0.mk (Ne.symm NOR.out); have NSO := Aside0.mk (Ne.symm NOS.out); clear HB BS BR RO hbox hb hg hsc0 hsf0; have HB := n0_; have BS := n1_; have BR := n2_; have RO := n3_; clear n0_ n1_ n2_ n3_; have hsc0 : w5.cell? ⟨gs, 0, none⟩ = some (.string s) := (blk_cell BS.out 0).trans rfl; have hsf0 := blk_frozen BS.out 0; have hoc0 : w5.cell? ⟨go, 0, none⟩ = some (.int .i64 0) := (blk_cell BO.out 0).trans rfl; have hof0 := blk_frozen BO.out 0; have hoc1 : w5.cell? ⟨go, 1, none⟩ = some (.int .i64 0) := (blk_cell BO.out 1).trans rfl; have hof1 := blk_frozen BO.out 1; have hoc2 : w5.cell? ⟨go, 2, none⟩ = some (.int .i64 0) := (blk_cell BO.out 2).trans rfl; have hof2 := blk_frozen BO.out 2; have hoc3 : w5.cell? ⟨go, 3, none⟩ = some (.int .i64 0) := (blk_cell BO.out 3).trans rfl; have hof3 := blk_frozen BO.out 3; have hoc4 : w5.cell? ⟨go, 4, none⟩ = some (.bool false) := (blk_cell BO.out 4).trans rfl; have hof4 := blk_frozen BO.out 4; have hoc5 : w5.cell? ⟨go, 5, none⟩ = some (.bool false) := (blk_cell BO.out 5).trans rfl; have hof5 := blk_frozen BO.out 5; have hoc6 : w5.cell? ⟨go, 6, none⟩ = some (.bool false) := (blk_cell BO.out 6).trans rfl; have hof6 := blk_frozen BO.out 6; have hoc7 : w5.cell? ⟨go, 7, none⟩ = some (.slice none 0 0) := (blk_cell BO.out 7).trans rfl; have hof7 := blk_frozen BO.out 7))
  have O8 := opts_Decode.out8 (y0 := .int .i64 m) (y1 := .int .i64 sc) (y2 := .int .i64 st) (y3 := .int .i64 ec) (y4 := .bool sd) (y5 := .bool sk) (y6 := .bool sp) (y7 := .slice Ao ln co) rfl HB.out GO.out BO.out
  have BO6 := O8.1
  have HB6 := O8.2.1
  have RO6 := O8.2.2 _ _ RO.out
  have BS6 : ((((((((w5.setCell ⟨go, 0, none⟩ (.int .i64 m)).setCell ⟨go, 1, none⟩ (.int .i64 sc)).setCell ⟨go, 2, none⟩ (.int .i64 st)).setCell ⟨go, 3, none⟩ (.int .i64 ec)).setCell ⟨go, 4, none⟩ (.bool sd)).setCell ⟨go, 5, none⟩ (.bool sk)).setCell ⟨go, 6, none⟩ (.bool sp)).setCell ⟨go, 7, none⟩ (.slice Ao ln co)).heap[gs]? = some (.cells #[.string s] 9 (0, 0)) := by (with_reducible repeat (first | (apply blk_farA; case hp => assumption))); apply Aside0.out; assumption
  have BR6 : ((((((((w5.setCell ⟨go, 0, none⟩ (.int .i64 m)).setCell ⟨go, 1, none⟩ (.int .i64 sc)).setCell ⟨go, 2, none⟩ (.int .i64 st)).setCell ⟨go, 3, none⟩ (.int .i64 ec)).setCell ⟨go, 4, none⟩ (.bool sd)).setCell ⟨go, 5, none⟩ (.bool sk)).setCell ⟨go, 6, none⟩ (.bool sp)).setCell ⟨go, 7, none⟩ (.slice Ao ln co)).heap[gr]? = some (.cells #[.int .i64 0, .int .i64 0, .int .i64 0, .int .i64 0, .int .i64 0, .int .i64 0, .int .i64 0, .int .i64 0, .int .i64 0, .int .i64 0, .int .i64 0, .bool false, .bool false, .bool false, .slice none 0 0, .string (⟨#[]⟩ : ByteArray)] 26 (0, 0)) := by (with_reducible repeat (first | (apply blk_farA; case hp => assumption))); apply Aside0.out; assumption
  clear O8 hoc0 hof0 hoc1 hof1 hoc2 hof2 hoc3 hof3 hoc4 hof4 hoc5 hof5 hoc6 hof6 hoc7 hof7 hsc0 hsf0 HB BS BR RO BO
  generalize (((((((w5.setCell ⟨go, 0, none⟩ (.int .i64 m)).setCell ⟨go, 1, none⟩ (.int .i64 sc)).setCell ⟨go, 2, none⟩ (.int .i64 st)).setCell ⟨go, 3, none⟩ (.int .i64 ec)).setCell ⟨go, 4, none⟩ (.bool sd)).setCell ⟨go, 5, none⟩ (.bool sk)).setCell ⟨go, 6, none⟩ (.bool sp)).setCell ⟨go, 7, none⟩ (.slice Ao ln co) = W6 at BO6 HB6 RO6 BS6 BR6 ⊢
  have HB := Aside0.mk HB6; have BS := Aside0.mk BS6; have BR := Aside0.mk BR6; have RO := Aside0.mk RO6; have BO := Aside0.mk BO6; clear HB6 BS6 BR6 RO6 BO6
  have C1 := fun (W : World) (hb : W.heap[gs]? = some (.cells #[.string s] 9 (0, 0))) => seg_Decode.get s gs 0 2 g1 e1 W hb G1.out
  have C2 := fun (W : World) (hb : W.heap[gs]? = some (.cells #[.string s] 9 (0, 0))) => seg_Decode.get s gs 2 2 g2 e2 W hb G2.out
  have C3 := fun (W : World) (hb : W.heap[gs]? = some (.cells #[.string s] 9 (0, 0))) => seg_Decode.get s gs 4 4 g3 e3 W hb G3.out
  have C4 := fun (W : World) (hb : W.heap[gs]? = some (.cells #[.string s] 9 (0, 0))) => seg_Decode.get s gs 8 4 g4 e4 W hb G4.out
  have C5 := fun (W : World) (hb : W.heap[gs]? = some (.cells #[.string s] 9 (0, 0))) => seg_Decode.get s gs 13 1 g5 e5 W hb G5.out
  have C6 := fun (W : World) (hb : W.heap[gs]? = some (.cells #[.string s] 9 (0, 0))) => seg_Decode.get s gs 14 2 g6 e6 W hb G6.out
  have C7 := fun (W : World) (hb : W.heap[gs]? = some (.cells #[.string s] 9 (0, 0))) => seg_Decode.get s gs 18 2 g7 e7 W hb G7.out
  have same : ∀ W', Below W6.heap.size W6 W' → Below W'.heap.size W' W' := fun W' _ => Below.refl _ _
  refine AnyOrder.region_then 20 (C := fun W' => Below W6.heap.size W6 W') (G := fun W1 W2 => Below W1.heap.size W1 W2) (T := [19]) (R := fun _ w v => ∃ g, v = .pointer (some ⟨g, 0, none⟩) ∧ W6.heap.size ≤ g ∧ w.heap[g]? = some (.cells #[.int .i64 0, .int .i64 0, .int .i64 0, .int .i64 0, .int .i64 0, .int .i64 0, .int .i64 0, .int .i64 0, .int .i64 0, .int .i64 0, .int .i64 0, .bool false, .bool false, .bool false, .slice none 0 0, .string (⟨#[]⟩ : ByteArray)] 26 (0, 0))) (vs := [(.func (.func 43) #[] #[.pointer (some ⟨gs, 0, none⟩)]), (.int .i64 g1), (.func (.func 43) #[] #[.pointer (some ⟨gs, 0, none⟩)]), (.int .i64 g2), (.func (.func 43) #[] #[.pointer (some ⟨gs, 0, none⟩)]), (.int .i64 g3), (.func (.func 43) #[] #[.pointer (some ⟨gs, 0, none⟩)]), (.int .i64 g4), (.func (.func 43) #[] #[.pointer (some ⟨gs, 0, none⟩)]), (.int .i64 g5), (.func (.func 43) #[] #[.pointer (some ⟨gs, 0, none⟩)]), (.int .i64 g6), (.func (.func 43) #[] #[.pointer (some ⟨gs, 0, none⟩)]), (.int .i64 g7), (.agg #[.int .i64 m, .int .i64 sc, .int .i64 st, .int .i64 ec, .bool sd, .bool sk, .bool sp, .slice Ao ln co]), (.string s), (.int .i64 hd), (.string (cutS s hd.toNat s.size)), (.agg #[.int .i64 g1, .int .i64 g2, .int .i64 g3, .int .i64 g4, .int .i64 g5, .int .i64 g6, .int .i64 g7, .int .i64 m, .int .i64 sc, .int .i64 st, .int .i64 ec, .bool sd, .bool sk, .bool sp, .slice Ao ln co, .string (cutS s hd.toNat s.size)]), undef]) (by kernel_rfl) rfl (by kernel_rfl) (below_drew1 (Below.refl _ _)) same (fun i w w' v h1 h2 => ?keep) (fun x => ?obs) ?fin
  case keep => exact h2.elim fun g h => ⟨g, h.1, h.2.1, blk_below h.2.2 h1⟩
  case obs =>
   refine AnyOrder.obs_cons (.func (.func 43) #[] #[.pointer (some ⟨gs, 0, none⟩)]) rfl (AnyOrder.ob_quiet (d := 72) rfl (show (72 : Nat) < 102 by omega) rfl rfl same (fun _ => by first | exact ⟨_, rfl⟩ | exact ⟨pure _, rfl⟩) ?_) ?_
   ·go_big_quiet_op; first | rfl | exact ⟨_, fun _ _ => rfl, rfl⟩
   try simp only [Act.put, List.setIfInBounds_toArray, List.set_cons_zero, List.set_cons_succ]
   refine AnyOrder.obs_cons (.int .i64 g1) rfl (AnyOrder.ob_call rfl rfl rfl 43 #[.int .i64 0, .int .i64 2, .pointer (some ⟨gs, 0, none⟩)] (fun W' hW => ?_) (fun W' hW => ?_)) ?_
   ·go_simp
   ·exact (C1 W' (blk_below BS.out hW)).mono fun e w2 h2 => ⟨h2.1, below_step hW h2.2, h2.2⟩
   try simp only [Act.put, List.setIfInBounds_toArray, List.set_cons_zero, List.set_cons_succ]
   refine AnyOrder.obs_cons (.func (.func 43) #[] #[.pointer (some ⟨gs, 0, none⟩)]) rfl (AnyOrder.ob_quiet (d := 74) rfl (show (74 : Nat) < 102 by omega) rfl rfl same (fun _ => by first | exact ⟨_, rfl⟩ | exact ⟨pure _, rfl⟩) ?_) ?_
   ·go_big_quiet_op; first | rfl | exact ⟨_, fun _ _ => rfl, rfl⟩
   try simp only [Act.put, List.setIfInBounds_toArray, List.set_cons_zero, List.set_cons_succ]
   refine AnyOrder.obs_cons (.int .i64 g2) rfl (AnyOrder.ob_call rfl rfl rfl 43 #[.int .i64 2, .int .i64 2, .pointer (some ⟨gs, 0, none⟩)] (fun W' hW => ?_) (fun W' hW => ?_)) ?_
   ·go_simp
   ·exact (C2 W' (blk_below BS.out hW)).mono fun e w2 h2 => ⟨h2.1, below_step hW h2.2, h2.2⟩
   try simp only [Act.put, List.setIfInBounds_toArray, List.set_cons_zero, List.set_cons_succ]
   refine AnyOrder.obs_cons (.func (.func 43) #[] #[.pointer (some ⟨gs, 0, none⟩)]) rfl (AnyOrder.ob_quiet (d := 76) rfl (show (76 : Nat) < 102 by omega) rfl rfl same (fun _ => by first | exact ⟨_, rfl⟩ | exact ⟨pure _, rfl⟩) ?_) ?_
   ·go_big_quiet_op; first | rfl | exact ⟨_, fun _ _ => rfl, rfl⟩
   try simp only [Act.put, List.setIfInBounds_toArray, List.set_cons_zero, List.set_cons_succ]
   refine AnyOrder.obs_cons (.int .i64 g3) rfl (AnyOrder.ob_call rfl rfl rfl 43 #[.int .i64 4, .int .i64 4, .pointer (some ⟨gs, 0, none⟩)] (fun W' hW => ?_) (fun W' hW => ?_)) ?_
   ·go_simp
   ·exact (C3 W' (blk_below BS.out hW)).mono fun e w2 h2 => ⟨h2.1, below_step hW h2.2, h2.2⟩
   try simp only [Act.put, List.setIfInBounds_toArray, List.set_cons_zero, List.set_cons_succ]
   refine AnyOrder.obs_cons (.func (.func 43) #[] #[.pointer (some ⟨gs, 0, none⟩)]) rfl (AnyOrder.ob_quiet (d := 78) rfl (show (78 : Nat) < 102 by omega) rfl rfl same (fun _ => by first | exact ⟨_, rfl⟩ | exact ⟨pure _, rfl⟩) ?_) ?_
   ·go_big_quiet_op; first | rfl | exact ⟨_, fun _ _ => rfl, rfl⟩
   try simp only [Act.put, List.setIfInBounds_toArray, List.set_cons_zero, List.set_cons_succ]
   refine AnyOrder.obs_cons (.int .i64 g4) rfl (AnyOrder.ob_call rfl rfl rfl 43 #[.int .i64 8, .int .i64 4, .pointer (some ⟨gs, 0, none⟩)] (fun W' hW => ?_) (fun W' hW => ?_)) ?_
   ·go_simp
   ·exact (C4 W' (blk_below BS.out hW)).mono fun e w2 h2 => ⟨h2.1, below_step hW h2.2, h2.2⟩
   try simp only [Act.put, List.setIfInBounds_toArray, List.set_cons_zero, List.set_cons_succ]
   refine AnyOrder.obs_cons (.func (.func 43) #[] #[.pointer (some ⟨gs, 0, none⟩)]) rfl (AnyOrder.ob_quiet (d := 80) rfl (show (80 : Nat) < 102 by omega) rfl rfl same (fun _ => by first | exact ⟨_, rfl⟩ | exact ⟨pure _, rfl⟩) ?_) ?_
   ·go_big_quiet_op; first | rfl | exact ⟨_, fun _ _ => rfl, rfl⟩
   try simp only [Act.put, List.setIfInBounds_toArray, List.set_cons_zero, List.set_cons_succ]
   refine AnyOrder.obs_cons (.int .i64 g5) rfl (AnyOrder.ob_call rfl rfl rfl 43 #[.int .i64 13, .int .i64 1, .pointer (some ⟨gs, 0, none⟩)] (fun W' hW => ?_) (fun W' hW => ?_)) ?_
   ·go_simp
   ·exact (C5 W' (blk_below BS.out hW)).mono fun e w2 h2 => ⟨h2.1, below_step hW h2.2, h2.2⟩
   try simp only [Act.put, List.setIfInBounds_toArray, List.set_cons_zero, List.set_cons_succ]
   refine AnyOrder.obs_cons (.func (.func 43) #[] #[.pointer (some ⟨gs, 0, none⟩)]) rfl (AnyOrder.ob_quiet (d := 82) rfl (show (82 : Nat) < 102 by omega) rfl rfl same (fun _ => by first | exact ⟨_, rfl⟩ | exact ⟨pure _, rfl⟩) ?_) ?_
   ·go_big_quiet_op; first | rfl | exact ⟨_, fun _ _ => rfl, rfl⟩
   try simp only [Act.put, List.setIfInBounds_toArray, List.set_cons_zero, List.set_cons_succ]
   refine AnyOrder.obs_cons (.int .i64 g6) rfl (AnyOrder.ob_call rfl rfl rfl 43 #[.int .i64 14, .int .i64 2, .pointer (some ⟨gs, 0, none⟩)] (fun W' hW => ?_) (fun W' hW => ?_)) ?_
   ·go_simp
   ·exact (C6 W' (blk_below BS.out hW)).mono fun e w2 h2 => ⟨h2.1, below_step hW h2.2, h2.2⟩
   try simp only [Act.put, List.setIfInBounds_toArray, List.set_cons_zero, List.set_cons_succ]
   refine AnyOrder.obs_cons (.func (.func 43) #[] #[.pointer (some ⟨gs, 0, none⟩)]) rfl (AnyOrder.ob_quiet (d := 84) rfl (show (84 : Nat) < 102 by omega) rfl rfl same (fun _ => by first | exact ⟨_, rfl⟩ | exact ⟨pure _, rfl⟩) ?_) ?_
   ·go_big_quiet_op; first | rfl | exact ⟨_, fun _ _ => rfl, rfl⟩
   try simp only [Act.put, List.setIfInBounds_toArray, List.set_cons_zero, List.set_cons_succ]
   refine AnyOrder.obs_cons (.int .i64 g7) rfl (AnyOrder.ob_call rfl rfl rfl 43 #[.int .i64 18, .int .i64 2, .pointer (some ⟨gs, 0, none⟩)] (fun W' hW => ?_) (fun W' hW => ?_)) ?_
   ·go_simp
   ·exact (C7 W' (blk_below BS.out hW)).mono fun e w2 h2 => ⟨h2.1, below_step hW h2.2, h2.2⟩
   try simp only [Act.put, List.setIfInBounds_toArray, List.set_cons_zero, List.set_cons_succ]
   refine AnyOrder.obs_cons (.agg #[.int .i64 m, .int .i64 sc, .int .i64 st, .int .i64 ec, .bool sd, .bool sk, .bool sp, .slice Ao ln co]) rfl (AnyOrder.ob_quiet (d := 86) rfl (show (86 : Nat) < 102 by omega) rfl rfl same (fun _ => by first | exact ⟨_, rfl⟩ | exact ⟨pure _, rfl⟩) ?_) ?_
   ·refine ⟨_, fun W' hW => ?_, rfl⟩; obtain ⟨ho0, ho1, ho2, ho3, ho4, ho5, ho6, ho7⟩ := blk_cells8 (blk_below BO.out hW); unfold Oper.quietAt; go_simp; first | done | rfl | exact ⟨rfl, rfl⟩
   try simp only [Act.put, List.setIfInBounds_toArray, List.set_cons_zero, List.set_cons_succ]
   refine AnyOrder.obs_cons (.string s) rfl (AnyOrder.ob_quiet (d := 87) rfl (show (87 : Nat) < 102 by omega) rfl rfl same (fun _ => by first | exact ⟨_, rfl⟩ | exact ⟨pure _, rfl⟩) ?_) ?_
   ·refine ⟨_, fun W' hW => ?_, rfl⟩; have hcz := (blk_cell (blk_below BS.out hW) 0).trans rfl; unfold Oper.quietAt; go_simp; first | done | rfl | exact ⟨rfl, rfl⟩
   try simp only [Act.put, List.setIfInBounds_toArray, List.set_cons_zero, List.set_cons_succ]
   refine AnyOrder.obs_cons (.int .i64 hd) rfl (AnyOrder.ob_quiet (d := 88) rfl (show (88 : Nat) < 102 by omega) rfl rfl same (fun _ => by first | exact ⟨_, rfl⟩ | exact ⟨pure _, rfl⟩) ?_) ?_
   ·go_big_quiet_op; first | rfl | exact ⟨_, fun _ _ => rfl, rfl⟩
   try simp only [Act.put, List.setIfInBounds_toArray, List.set_cons_zero, List.set_cons_succ]
   refine AnyOrder.obs_cons (.string (cutS s hd.toNat s.size)) rfl (AnyOrder.ob_plain rfl rfl same rfl (fun W' hW => slice_from Try.underlying9 rfl rfl rfl (by have := HD.out; omega) HD.out.2)) ?_
   try simp only [Act.put, List.setIfInBounds_toArray, List.set_cons_zero, List.set_cons_succ]
   refine AnyOrder.obs_cons (.agg #[.int .i64 g1, .int .i64 g2, .int .i64 g3, .int .i64 g4, .int .i64 g5, .int .i64 g6, .int .i64 g7, .int .i64 m, .int .i64 sc, .int .i64 st, .int .i64 ec, .bool sd, .bool sk, .bool sp, .slice Ao ln co, .string (cutS s hd.toNat s.size)]) rfl (AnyOrder.ob_quiet (d := 90) rfl (show (90 : Nat) < 102 by omega) rfl rfl same (fun _ => by first | exact ⟨_, rfl⟩ | exact ⟨pure _, rfl⟩) ?_) ?_
   ·go_big_quiet_op; first | rfl | exact ⟨_, fun _ _ => rfl, rfl⟩
   try simp only [Act.put, List.setIfInBounds_toArray, List.set_cons_zero, List.set_cons_succ]
   refine AnyOrder.obs_cons (x 19) rfl (AnyOrder.ob_token rfl rfl (fun W' hW => ⟨.pointer (some ⟨W'.heap.size, 0, none⟩), W'.alloc (.cells #[.int .i64 0, .int .i64 0, .int .i64 0, .int .i64 0, .int .i64 0, .int .i64 0, .int .i64 0, .int .i64 0, .int .i64 0, .int .i64 0, .int .i64 0, .bool false, .bool false, .bool false, .slice none 0 0, .string (⟨#[]⟩ : ByteArray)] 26 (0, 0)), by first | (go_simp; done) | (go_simp; rfl), below_alloc hW _, below_alloc (Below.refl _ _) _, W'.heap.size, rfl, below_size hW, blk_new _ _⟩)) ?_
   try simp only [Act.put, List.setIfInBounds_toArray, List.set_cons_zero, List.set_cons_succ]
   trivial
  case fin =>
   intro x W hW hR
   simp only [List.take_succ_cons, List.take_zero, List.drop_succ_cons, List.drop_zero]
   rw [AnyOrder.lexAt_cons (.func (.func 43) #[] #[.pointer (some ⟨gs, 0, none⟩)]) rfl]
   try simp only [Act.put, List.setIfInBounds_toArray, List.set_cons_zero, List.set_cons_succ]
   rw [AnyOrder.lexAt_cons (.int .i64 g1) rfl]
   try simp only [Act.put, List.setIfInBounds_toArray, List.set_cons_zero, List.set_cons_succ]
   rw [AnyOrder.lexAt_cons (.func (.func 43) #[] #[.pointer (some ⟨gs, 0, none⟩)]) rfl]
   try simp only [Act.put, List.setIfInBounds_toArray, List.set_cons_zero, List.set_cons_succ]
   rw [AnyOrder.lexAt_cons (.int .i64 g2) rfl]
   try simp only [Act.put, List.setIfInBounds_toArray, List.set_cons_zero, List.set_cons_succ]
   rw [AnyOrder.lexAt_cons (.func (.func 43) #[] #[.pointer (some ⟨gs, 0, none⟩)]) rfl]
   try simp only [Act.put, List.setIfInBounds_toArray, List.set_cons_zero, List.set_cons_succ]
   rw [AnyOrder.lexAt_cons (.int .i64 g3) rfl]
   try simp only [Act.put, List.setIfInBounds_toArray, List.set_cons_zero, List.set_cons_succ]
   rw [AnyOrder.lexAt_cons (.func (.func 43) #[] #[.pointer (some ⟨gs, 0, none⟩)]) rfl]
   try simp only [Act.put, List.setIfInBounds_toArray, List.set_cons_zero, List.set_cons_succ]
   rw [AnyOrder.lexAt_cons (.int .i64 g4) rfl]
   try simp only [Act.put, List.setIfInBounds_toArray, List.set_cons_zero, List.set_cons_succ]
   rw [AnyOrder.lexAt_cons (.func (.func 43) #[] #[.pointer (some ⟨gs, 0, none⟩)]) rfl]
   try simp only [Act.put, List.setIfInBounds_toArray, List.set_cons_zero, List.set_cons_succ]
   rw [AnyOrder.lexAt_cons (.int .i64 g5) rfl]
   try simp only [Act.put, List.setIfInBounds_toArray, List.set_cons_zero, List.set_cons_succ]
   rw [AnyOrder.lexAt_cons (.func (.func 43) #[] #[.pointer (some ⟨gs, 0, none⟩)]) rfl]
   try simp only [Act.put, List.setIfInBounds_toArray, List.set_cons_zero, List.set_cons_succ]
   rw [AnyOrder.lexAt_cons (.int .i64 g6) rfl]
   try simp only [Act.put, List.setIfInBounds_toArray, List.set_cons_zero, List.set_cons_succ]
   rw [AnyOrder.lexAt_cons (.func (.func 43) #[] #[.pointer (some ⟨gs, 0, none⟩)]) rfl]
   try simp only [Act.put, List.setIfInBounds_toArray, List.set_cons_zero, List.set_cons_succ]
   rw [AnyOrder.lexAt_cons (.int .i64 g7) rfl]
   try simp only [Act.put, List.setIfInBounds_toArray, List.set_cons_zero, List.set_cons_succ]
   rw [AnyOrder.lexAt_cons (.agg #[.int .i64 m, .int .i64 sc, .int .i64 st, .int .i64 ec, .bool sd, .bool sk, .bool sp, .slice Ao ln co]) rfl]
   try simp only [Act.put, List.setIfInBounds_toArray, List.set_cons_zero, List.set_cons_succ]
   rw [AnyOrder.lexAt_cons (.string s) rfl]
   try simp only [Act.put, List.setIfInBounds_toArray, List.set_cons_zero, List.set_cons_succ]
   rw [AnyOrder.lexAt_cons (.int .i64 hd) rfl]
   try simp only [Act.put, List.setIfInBounds_toArray, List.set_cons_zero, List.set_cons_succ]
   rw [AnyOrder.lexAt_cons (.string (cutS s hd.toNat s.size)) rfl]
   try simp only [Act.put, List.setIfInBounds_toArray, List.set_cons_zero, List.set_cons_succ]
   rw [AnyOrder.lexAt_cons (.agg #[.int .i64 g1, .int .i64 g2, .int .i64 g3, .int .i64 g4, .int .i64 g5, .int .i64 g6, .int .i64 g7, .int .i64 m, .int .i64 sc, .int .i64 st, .int .i64 ec, .bool sd, .bool sk, .bool sp, .slice Ao ln co, .string (cutS s hd.toNat s.size)]) rfl]
   try simp only [Act.put, List.setIfInBounds_toArray, List.set_cons_zero, List.set_cons_succ]
   rw [AnyOrder.lexAt_cons (x 19) rfl]
   try simp only [Act.put, List.setIfInBounds_toArray, List.set_cons_zero, List.set_cons_succ]
   rw [AnyOrder.lexAt_nil]
   obtain ⟨gp, hx, hge, hbp⟩ := hR 19 _ 15 (by omega) rfl rfl rfl
   rw [hx]
   clear hR same
   generalize hQQ : Exit.then _ _ = QQ
   go_wp2_with (first | ((with_reducible refine gate_store (t := 26) rfl ?_); refine store_big rfl 26 _ _ rfl _ _ rfl rfl 26 _ (hbp) (by kernel_rfl) (by rfl) (by rfl) _ (by simp only [World.setCells, Nat.reduceAdd]; rfl) ?_; simp only [Act.put, List.setIfInBounds_toArray, List.set_cons_zero, List.set_cons_succ]))
   generalize hq : World.setCell _ _ _ = W7
   have hb7 : Below W6.heap.size W6 W7 := by rw [← hq]; repeat (first | (with_reducible exact hW) | (with_reducible refine below_set ?_ hge))
   have BP := Aside0.mk (show W7.heap[gp]? = some (.cells #[.int .i64 g1, .int .i64 g2, .int .i64 g3, .int .i64 g4, .int .i64 g5, .int .i64 g6, .int .i64 g7, .int .i64 m, .int .i64 sc, .int .i64 st, .int .i64 ec, .bool sd, .bool sk, .bool sp, .slice Ao ln co, .string (cutS s hd.toNat s.size)] 26 (0, 0)) from by rw [← hq]; exact (seg_Decode.out (by rfl) hbp).1)
   subst hQQ
   have NPS := Aside0.mk (Nat.ne_of_lt (Nat.lt_of_lt_of_le (blk_lt BS.out) hge))
   have NPR := Aside0.mk (Nat.ne_of_lt (Nat.lt_of_lt_of_le (blk_lt BR.out) hge))
   have GP := Aside0.mk (Nat.le_trans (below_size HB.out) hge)
   clear hq hx hW hbp hge C1 C2 C3 C4 C5 C6 C7
   have n0_ := Aside0.mk (below_step HB.out hb7); have n1_ := Aside0.mk (blk_below BS.out hb7); have n2_ := Aside0.mk (blk_below BR.out hb7); have n3_ := Aside0.mk (Kd.R_below RO.out hb7); clear HB BS BR RO; have HB := n0_; have BS := n1_; have BR := n2_; have RO := n3_; clear n0_ n1_ n2_ n3_
   clear hb7 BO
   have hsc0 : W7.cell? ⟨gs, 0, none⟩ = some (.string s) := (blk_cell BS.out 0).trans rfl
   have H := HT.out
   clear HT
   try dsimp only at H
   by_cases c7 : Go.bits .and .u8 (bt s 12) 15 > 0
   ·rw [if_pos c7] at H
    simp only [Option.some.injEq, Prod.mk.injEq] at H
    obtain ⟨rfl, rfl, rfl, rfl, rfl, rfl, rfl, rfl, rfl, rfl, rfl, rfl, rfl, rfl, rfl, rfl, rfl⟩ := H
    have d7 : decide (0 < Go.bits .and .u8 (bt s 12) 15) = true := decide_eq_true c7
    go_wp2_with (first | ((with_reducible refine gate_store (t := 26) rfl ?_); refine store_big rfl 26 _ _ rfl _ _ rfl rfl 26 _ (BR.out) (by kernel_rfl) (by rfl) (by rfl) _ (by simp only [World.setCells, Nat.reduceAdd]; rfl) ?_; simp only [Act.put, List.setIfInBounds_toArray, List.set_cons_zero, List.set_cons_succ]))
    refine bodyPost_ret (results_ct rfl _ _ gr 26 #[.int .i64 0, .int .i64 0, .int .i64 0, .int .i64 0, .int .i64 0, .int .i64 0, .int .i64 0, .int .i64 0, .int .i64 0, .int .i64 0, .int .i64 0, .bool false, .bool false, .bool false, .slice none 0 0, .string (⟨#[]⟩ : ByteArray)] (0, 0) _ rfl (seg_Decode.out (by rfl) BR.out).1 Try.underlying26 rfl (by kernel_rfl)) rfl ?_
    exact ⟨_, rfl, Kd.R_nil _ _ _ _ _, by repeat (first | (with_reducible first | exact HB.out | apply below_alloc | apply pw_below_drewN | apply below_drew1 | refine below_set ?_ GR.out) | exact HB.out)⟩
   rw [if_neg c7] at H
   have d7 : decide (0 < Go.bits .and .u8 (bt s 12) 15) = false := decide_eq_false c7
   obtain ⟨cc, hcc, H⟩ := Option.bind_eq_some_iff.mp H
   have HC := Aside0.mk hcc
   have HT := Aside0.mk H
   clear hcc H c7
   obtain ⟨_, _, hvx, hlx, hCx⟩ := Kd.R_reads RO.out
   have HRX := Aside0.mk RO.out
   clear hvx hlx hCx
   go_wp2_with (first | ((with_reducible refine gate_load (t := 26) rfl ?_); refine gate_wanted ?hw (fun hw_ => ?_); (case hw => first | rfl | (go_simp; done)); refine load_big hw_ 26 _ rfl _ rfl 26 _ (0, 0) _ (BP.out) Try.underlying26 rfl (by kernel_rfl) ?_; clear hw_; simp only [Act.put, List.setIfInBounds_toArray, List.set_cons_zero, List.set_cons_succ]))
   have hck := seg_Check.calls k g1 g2 g3 g4 g5 g6 g7 m sc st ec sd sk sp Ao co l (cutS s hd.toNat s.size) cc W7 (by have h := (Kd.R_reads' (xs := l) (by first | exact RO.out | (rw [LN.out]; exact RO.out))).2.2; exact h) (by rw [LN.out]; exact HLO.out) HC.out
   rw [LN.out] at hck
   refine hck.mono ?_
   rintro e W8 ⟨rfl, hW⟩
   clear hck hsc0
   have BP8 := Aside0.mk (blk_below BP.out hW); clear BP; have BP := BP8; clear BP8
   have n0_ := Aside0.mk (below_step HB.out hW); have n1_ := Aside0.mk (blk_below BS.out hW); have n2_ := Aside0.mk (blk_below BR.out hW); have n3_ := Aside0.mk (Kd.R_below RO.out hW); clear HB BS BR RO; have HB := n0_; have BS := n1_; have BR := n2_; have RO := n3_; clear n0_ n1_ n2_ n3_
   clear hW
   have H := HT.out
   clear HT
   by_cases c8 : cc = 0
   case neg =>
    rw [if_neg c8] at H
    simp only [Option.some.injEq, Prod.mk.injEq] at H
    obtain ⟨rfl, rfl, rfl, rfl, rfl, rfl, rfl, rfl, rfl, rfl, rfl, rfl, rfl, rfl, rfl, rfl, rfl⟩ := H
    have d8 : (cc != 0) = true := bne_iff_ne.mpr c8
    go_wp2_with (first | ((with_reducible refine gate_store (t := 26) rfl ?_); refine store_big rfl 26 _ _ rfl _ _ rfl rfl 26 _ (BR.out) (by kernel_rfl) (by rfl) (by rfl) _ (by simp only [World.setCells, Nat.reduceAdd]; rfl) ?_; simp only [Act.put, List.setIfInBounds_toArray, List.set_cons_zero, List.set_cons_succ]))
    refine bodyPost_ret (results_ct rfl _ _ gr 26 #[.int .i64 0, .int .i64 0, .int .i64 0, .int .i64 0, .int .i64 0, .int .i64 0, .int .i64 0, .int .i64 0, .int .i64 0, .int .i64 0, .int .i64 0, .bool false, .bool false, .bool false, .slice none 0 0, .string (⟨#[]⟩ : ByteArray)] (0, 0) _ rfl (seg_Decode.out (by rfl) BR.out).1 Try.underlying26 rfl (by kernel_rfl)) rfl ?_
    exact ⟨_, rfl, Kd.R_nil _ _ _ _ _, by repeat (first | (with_reducible first | exact HB.out | apply below_alloc | apply pw_below_drewN | apply below_drew1 | refine below_set ?_ GR.out) | exact HB.out)⟩
   rw [if_pos c8] at H
   simp only [Option.some.injEq, Prod.mk.injEq] at H
   obtain ⟨rfl, rfl, rfl, rfl, rfl, rfl, rfl, rfl, rfl, rfl, rfl, rfl, rfl, rfl, rfl, rfl, rfl⟩ := H
   have d8 : (cc != 0) = false := bne_eq_false_iff_eq.mpr c8
   clear c8
   go_wp2_with (first | ((with_reducible refine gate_load (t := 26) rfl ?_); refine gate_wanted ?hw (fun hw_ => ?_); (case hw => first | rfl | (go_simp; done)); refine load_big hw_ 26 _ rfl _ rfl 26 _ (0, 0) _ (BP.out) Try.underlying26 rfl (by kernel_rfl) ?_; clear hw_; simp only [Act.put, List.setIfInBounds_toArray, List.set_cons_zero, List.set_cons_succ]) | ((with_reducible refine gate_store (t := 26) rfl ?_); refine store_big rfl 26 _ _ rfl _ _ rfl rfl 26 _ (BR.out) (by kernel_rfl) (by rfl) (by rfl) _ (by simp only [World.setCells, Nat.reduceAdd]; rfl) ?_; simp only [Act.put, List.setIfInBounds_toArray, List.set_cons_zero, List.set_cons_succ]))
   refine bodyPost_ret (results_ct rfl _ _ gr 26 #[.int .i64 g1, .int .i64 g2, .int .i64 g3, .int .i64 g4, .int .i64 g5, .int .i64 g6, .int .i64 g7, .int .i64 m, .int .i64 sc, .int .i64 st, .int .i64 ec, .bool sd, .bool sk, .bool sp, .slice Ao ln co, .string (cutS s hd.toNat s.size)] (0, 0) _ rfl (seg_Decode.out (by rfl) BR.out).1 Try.underlying26 rfl (by kernel_rfl)) rfl ?_
   exact ⟨_, rfl, (seg_Decode.out (by rfl) BR.out).2 _ _ _ RO.out, by repeat (first | (with_reducible first | exact HB.out | apply below_alloc | apply pw_below_drewN | apply below_drew1 | refine below_set ?_ GR.out) | exact HB.out)⟩


/-! ### sternpostbook_Among: function 26 -/
def sternpostbook_Among.f (a0 : Int) (a1 : Int) : Option (Int) := if a1 = 0 then (none) else (some (Int.tmod (wrap64 ((Int.tmod a0 a1) + a1)) a1))
set_option maxHeartbeats 8000000 in
set_option maxRecDepth 100000 in
theorem sternpostbook_Among.calls (a0 : Int) (a1 : Int) (r : Int) (w : World) (h : sternpostbook_Among.f a0 a1 = some r) :
  Calls Try.prog 26 #[.int .i64 a0, .int .i64 a1] w fun e w' => e = .returned (.int .i64 r) ∧ Drawn0 w w' := by
 have H : (if a1 = 0 then (none) else (some (Int.tmod (wrap64 ((Int.tmod a0 a1) + a1)) a1))) = some r := h
 clear h
 by_cases c3 : a1 = 0
 ·rw [if_pos c3] at H
  exact absurd H (by simp)
 ·rw [if_neg c3] at H
  have c3b0 : (a1 == 0) = false := beq_eq_false_iff_ne.mpr c3
  have c3b1 : (a1 != 0) = true := bne_iff_ne.mpr c3
  obtain rfl := Option.some.inj H
  go_enter Try.func26, Try.ntmps26
  go_wp2
  go_ret
  exact ⟨by first | rfl | (simp; done) | (simp [*]; done), by repeat (first | exact Drawn0.refl _ | apply Drawn0.step)⟩

/-! ### sternpostlaw08_SegBack: function 8 -/
theorem stored16 {W : World} {g : Nat} {d0 d1 d2 d3 d4 d5 d6 d7 d8 d9 d10 d11 d12 d13 d14 d15 z0 z1 z2 z3 z4 z5 z6 z7 z8 z9 z10 z11 z12 z13 z14 z15 : Value} {cs : Array Value} (hcs : cs = #[z0, z1, z2, z3, z4, z5, z6, z7, z8, z9, z10, z11, z12, z13, z14, z15]) (hb : W.heap[g]? = some (.cells #[d0, d1, d2, d3, d4, d5, d6, d7, d8, d9, d10, d11, d12, d13, d14, d15] 26 (0, 0))) :
  ((((((((((((((((W.setCell ⟨g, 0, none⟩ z0).setCell ⟨g, 1, none⟩ z1).setCell ⟨g, 2, none⟩ z2).setCell ⟨g, 3, none⟩ z3).setCell ⟨g, 4, none⟩ z4).setCell ⟨g, 5, none⟩ z5).setCell ⟨g, 6, none⟩ z6).setCell ⟨g, 7, none⟩ z7).setCell ⟨g, 8, none⟩ z8).setCell ⟨g, 9, none⟩ z9).setCell ⟨g, 10, none⟩ z10).setCell ⟨g, 11, none⟩ z11).setCell ⟨g, 12, none⟩ z12).setCell ⟨g, 13, none⟩ z13).setCell ⟨g, 14, none⟩ z14).setCell ⟨g, 15, none⟩ z15).heap[g]? = some (.cells cs 26 (0, 0)) := by
 subst hcs
 have h0 := blk_put (cs' := #[z0, d1, d2, d3, d4, d5, d6, d7, d8, d9, d10, d11, d12, d13, d14, d15]) hb 0 z0 rfl
 have h1 := blk_put (cs' := #[z0, z1, d2, d3, d4, d5, d6, d7, d8, d9, d10, d11, d12, d13, d14, d15]) h0 1 z1 rfl
 have h2 := blk_put (cs' := #[z0, z1, z2, d3, d4, d5, d6, d7, d8, d9, d10, d11, d12, d13, d14, d15]) h1 2 z2 rfl
 have h3 := blk_put (cs' := #[z0, z1, z2, z3, d4, d5, d6, d7, d8, d9, d10, d11, d12, d13, d14, d15]) h2 3 z3 rfl
 have h4 := blk_put (cs' := #[z0, z1, z2, z3, z4, d5, d6, d7, d8, d9, d10, d11, d12, d13, d14, d15]) h3 4 z4 rfl
 have h5 := blk_put (cs' := #[z0, z1, z2, z3, z4, z5, d6, d7, d8, d9, d10, d11, d12, d13, d14, d15]) h4 5 z5 rfl
 have h6 := blk_put (cs' := #[z0, z1, z2, z3, z4, z5, z6, d7, d8, d9, d10, d11, d12, d13, d14, d15]) h5 6 z6 rfl
 have h7 := blk_put (cs' := #[z0, z1, z2, z3, z4, z5, z6, z7, d8, d9, d10, d11, d12, d13, d14, d15]) h6 7 z7 rfl
 have h8 := blk_put (cs' := #[z0, z1, z2, z3, z4, z5, z6, z7, z8, d9, d10, d11, d12, d13, d14, d15]) h7 8 z8 rfl
 have h9 := blk_put (cs' := #[z0, z1, z2, z3, z4, z5, z6, z7, z8, z9, d10, d11, d12, d13, d14, d15]) h8 9 z9 rfl
 have h10 := blk_put (cs' := #[z0, z1, z2, z3, z4, z5, z6, z7, z8, z9, z10, d11, d12, d13, d14, d15]) h9 10 z10 rfl
 have h11 := blk_put (cs' := #[z0, z1, z2, z3, z4, z5, z6, z7, z8, z9, z10, z11, d12, d13, d14, d15]) h10 11 z11 rfl
 have h12 := blk_put (cs' := #[z0, z1, z2, z3, z4, z5, z6, z7, z8, z9, z10, z11, z12, d13, d14, d15]) h11 12 z12 rfl
 have h13 := blk_put (cs' := #[z0, z1, z2, z3, z4, z5, z6, z7, z8, z9, z10, z11, z12, z13, d14, d15]) h12 13 z13 rfl
 have h14 := blk_put (cs' := #[z0, z1, z2, z3, z4, z5, z6, z7, z8, z9, z10, z11, z12, z13, z14, d15]) h13 14 z14 rfl
 have h15 := blk_put (cs' := #[z0, z1, z2, z3, z4, z5, z6, z7, z8, z9, z10, z11, z12, z13, z14, z15]) h14 15 z15 rfl
 exact h15
def sternpostlaw08_SegBack_tail.f (k : Nat) (s2 : Int) (s7 : ByteArray) (c0 c1 : Int) (c2 c3 c4 c5 c6 c7 c8 c9 c10 c11 c12 : Int) (c13 c14 c15 : Bool) (c16 : List S73) (c17 : ByteArray) : Option Bool :=
 (seg_Decode.f k c0 c1 s7).bind fun x => (sternpostbook_Among.f s2 (wrap64 (8 * (s7.size : Int)))).bind fun j0 => if 0 ≤ j0 ∧ j0 / 8 < (s7.size : Int) ∧ j0 < 9223372036854775807 then
  (seg_Decode.f k c0 c1 (flipS s7 (j0 / 8).toNat (j0 % 8).toNat)).bind fun g => (seg_Decode.f k (Go.bits .xor .i64 c0 (IntKind.i64.wrap (2 ^ (j0 % 32).toNat))) c1 s7).bind fun h => (seg_Decode.f k c1 c0 s7).bind fun y =>
  (seg_Same.f k x.1 x.2.1 x.2.2.1 x.2.2.2.1 x.2.2.2.2.1 x.2.2.2.2.2.1 x.2.2.2.2.2.2.1 x.2.2.2.2.2.2.2.1 x.2.2.2.2.2.2.2.2.1 x.2.2.2.2.2.2.2.2.2.1 x.2.2.2.2.2.2.2.2.2.2.1 x.2.2.2.2.2.2.2.2.2.2.2.1 x.2.2.2.2.2.2.2.2.2.2.2.2.1 x.2.2.2.2.2.2.2.2.2.2.2.2.2.1 x.2.2.2.2.2.2.2.2.2.2.2.2.2.2.1 x.2.2.2.2.2.2.2.2.2.2.2.2.2.2.2.1 c2 c3 c4 c5 c6 c7 c8 c9 c10 c11 c12 c13 c14 c15 c16 c17).bind fun s1 => (seg_Same.f k y.1 y.2.1 y.2.2.1 y.2.2.2.1 y.2.2.2.2.1 y.2.2.2.2.2.1 y.2.2.2.2.2.2.1 y.2.2.2.2.2.2.2.1 y.2.2.2.2.2.2.2.2.1 y.2.2.2.2.2.2.2.2.2.1 y.2.2.2.2.2.2.2.2.2.2.1 y.2.2.2.2.2.2.2.2.2.2.2.1 y.2.2.2.2.2.2.2.2.2.2.2.2.1 y.2.2.2.2.2.2.2.2.2.2.2.2.2.1 y.2.2.2.2.2.2.2.2.2.2.2.2.2.2.1 y.2.2.2.2.2.2.2.2.2.2.2.2.2.2.2.1 c2 c3 c4 c5 c6 c7 c8 c9 c10 c11 c12 c13 c14 c15 c16 c17).bind fun s2 => if x.2.2.2.2.2.2.2.2.2.2.2.2.2.2.2.2 = 0 ∧ s1 = true ∧ g.2.2.2.2.2.2.2.2.2.2.2.2.2.2.2.2 ≠ 0 ∧ h.2.2.2.2.2.2.2.2.2.2.2.2.2.2.2.2 = 20 ∧ y.2.2.2.2.2.2.2.2.2.2.2.2.2.2.2.2 = 0 ∧ s2 = true then some true else none
 else none
theorem sternpostlaw08_SegBack_tail.mono (s2 : Int) (s7 : ByteArray) (c0 c1 : Int) (c2 c3 c4 c5 c6 c7 c8 c9 c10 c11 c12 : Int) (c13 c14 c15 : Bool) (c16 : List S73) (c17 : ByteArray) (k : Nat) : LeO (sternpostlaw08_SegBack_tail.f k s2 s7 c0 c1 c2 c3 c4 c5 c6 c7 c8 c9 c10 c11 c12 c13 c14 c15 c16 c17) (sternpostlaw08_SegBack_tail.f (k + 1) s2 s7 c0 c1 c2 c3 c4 c5 c6 c7 c8 c9 c10 c11 c12 c13 c14 c15 c16 c17) := by
 unfold sternpostlaw08_SegBack_tail.f
 exact LeO.bind (seg_Decode.mono _ _ _ _) fun _ => LeO.bind (LeO.refl _) fun _ => LeO.ite (LeO.bind (seg_Decode.mono _ _ _ _) fun _ => LeO.bind (seg_Decode.mono _ _ _ _) fun _ => LeO.bind (seg_Decode.mono _ _ _ _) fun _ => LeO.bind (seg_Same.mono _ _ _ _ _ _ _ _ _ _ _ _ _ _ _ _ _ _ _ _ _ _ _ _ _ _ _ _ _ _ _ _ _ ) fun _ => LeO.bind (seg_Same.mono _ _ _ _ _ _ _ _ _ _ _ _ _ _ _ _ _ _ _ _ _ _ _ _ _ _ _ _ _ _ _ _ _ ) fun _ => LeO.refl _) (LeO.none _)

def sternpostlaw08_SegBack.f (k : Nat) (a0_0 : Int) (a0_1 : Int) (a1_0 : Int) (a1_1 : Int) (a1_2 : Int) (a1_3 : Int) (a1_4 : Int) (a1_5 : Int) (a1_6 : Int) (a1_7 : Int) (a1_8 : Int) (a1_9 : Int) (a1_10 : Int) (a1_11 : Bool) (a1_12 : Bool) (a1_13 : Bool) (l1_14 : List (S73)) (a1_15 : ByteArray) (a2 : Int) : Option (Bool) := (sternpostlaw08_works.f k).bind fun t236 => (if t236 = true then ((seg_Encode.f k a0_0 a0_1 a1_0 a1_1 a1_2 a1_3 a1_4 a1_5 a1_6 a1_7 a1_8 a1_9 a1_10 a1_11 a1_12 a1_13 l1_14 a1_15).bind fun bt237 => (if bt237.2 = 0 then (sternpostlaw08_SegBack_tail.f k a2 bt237.1 a0_0 a0_1 a1_0 a1_1 a1_2 a1_3 a1_4 a1_5 a1_6 a1_7 a1_8 a1_9 a1_10 a1_11 a1_12 a1_13 l1_14 a1_15) else (some (bt237.1.toList == ([] : List UInt8))))) else (some false))
theorem sternpostlaw08_SegBack.mono : ∀ a0 a1 a2 a3 a4 a5 a6 a7 a8 a9 a10 a11 a12 a13 a14 a15 a16 a17 a18 k, LeO (sternpostlaw08_SegBack.f k a0 a1 a2 a3 a4 a5 a6 a7 a8 a9 a10 a11 a12 a13 a14 a15 a16 a17 a18) (sternpostlaw08_SegBack.f (k + 1) a0 a1 a2 a3 a4 a5 a6 a7 a8 a9 a10 a11 a12 a13 a14 a15 a16 a17 a18) := by
 intro a0 a1 a2 a3 a4 a5 a6 a7 a8 a9 a10 a11 a12 a13 a14 a15 a16 a17 a18 k
 unfold sternpostlaw08_SegBack.f
 repeat' first
   | (with_reducible exact seg_Encode.mono _ _ _ _ _ _ _ _ _ _ _ _ _ _ _ _ _ _ _)
   | (with_reducible exact sternpostlaw08_SegBack_tail.mono _ _ _ _ _ _ _ _ _ _ _ _ _ _ _ _ _ _ _ _ _)
   | (with_reducible exact sternpostlaw08_works.mono _)
   | (with_reducible exact LeO.refl _)
   | (with_reducible exact LeO.none _)
   | (with_reducible refine LeO.ite ?_ ?_)
   | (with_reducible refine LeO.bind ?_ (fun _ => ?_))
   | exact seg_Encode.mono _ _ _ _ _ _ _ _ _ _ _ _ _ _ _ _ _ _ _
   | exact sternpostlaw08_SegBack_tail.mono _ _ _ _ _ _ _ _ _ _ _ _ _ _ _ _ _ _ _ _ _
   | exact sternpostlaw08_works.mono _
   | exact LeO.none _
   | refine LeO.ite ?_ ?_
   | refine LeO.bind ?_ (fun _ => ?_)
set_option maxHeartbeats 8000000 in
set_option maxRecDepth 100000 in
theorem sternpostlaw08_SegBack.calls (k : Nat) (a0_0 : Int) (a0_1 : Int) (a1_0 : Int) (a1_1 : Int) (a1_2 : Int) (a1_3 : Int) (a1_4 : Int) (a1_5 : Int) (a1_6 : Int) (a1_7 : Int) (a1_8 : Int) (a1_9 : Int) (a1_10 : Int) (a1_11 : Bool) (a1_12 : Bool) (a1_13 : Bool) (A1_14 : Option Addr) (c1_14 : Nat) (l1_14 : List (S73)) (a1_15 : ByteArray) (a2 : Int) (r : Bool) (w : World) (hr1_14 : Kd.C k73 w A1_14 l1_14.length l1_14) (hc1_14 : l1_14.length ≤ c1_14) (h : sternpostlaw08_SegBack.f k a0_0 a0_1 a1_0 a1_1 a1_2 a1_3 a1_4 a1_5 a1_6 a1_7 a1_8 a1_9 a1_10 a1_11 a1_12 a1_13 l1_14 a1_15 a2 = some r) (hrT_ : r = true) :
  Calls Try.prog 8 #[.agg #[.int .i64 a0_0, .int .i64 a0_1], .agg #[.int .i64 a1_0, .int .i64 a1_1, .int .i64 a1_2, .int .i64 a1_3, .int .i64 a1_4, .int .i64 a1_5, .int .i64 a1_6, .int .i64 a1_7, .int .i64 a1_8, .int .i64 a1_9, .int .i64 a1_10, .bool a1_11, .bool a1_12, .bool a1_13, .slice A1_14 l1_14.length c1_14, .string a1_15], .int .i64 a2] w fun e w' => e = .returned (.bool r) ∧ Below w.heap.size w w' := by
 have hu37 := Try.underlying37
 have hu26 := Try.underlying26
 have hcvB := fun (W : World) (s : ByteArray) => Go.Lib.run_convert_string_bytes (P := Try.prog) W 9 49 5 s Try.underlying9 Try.underlying49 Try.underlying5
 have HR1_14 := Aside0.mk hr1_14
 have HC1_14 := Aside0.mk hc1_14
 clear hr1_14 hc1_14
 have HB := Aside0.mk (Below.refl w.heap.size w)
 have H : ((sternpostlaw08_works.f k).bind fun t236 => (if t236 = true then ((seg_Encode.f k a0_0 a0_1 a1_0 a1_1 a1_2 a1_3 a1_4 a1_5 a1_6 a1_7 a1_8 a1_9 a1_10 a1_11 a1_12 a1_13 l1_14 a1_15).bind fun bt237 => (if bt237.2 = 0 then (sternpostlaw08_SegBack_tail.f k a2 bt237.1 a0_0 a0_1 a1_0 a1_1 a1_2 a1_3 a1_4 a1_5 a1_6 a1_7 a1_8 a1_9 a1_10 a1_11 a1_12 a1_13 l1_14 a1_15) else (some (bt237.1.toList == ([] : List UInt8))))) else (some false))) = some r := h
 clear h
 replace H := Option.bind_eq_some_iff.mp H
 obtain ⟨t236, A40, H⟩ := H
 replace H : (if t236 = true then ((seg_Encode.f k a0_0 a0_1 a1_0 a1_1 a1_2 a1_3 a1_4 a1_5 a1_6 a1_7 a1_8 a1_9 a1_10 a1_11 a1_12 a1_13 l1_14 a1_15).bind fun bt237 => (if bt237.2 = 0 then (sternpostlaw08_SegBack_tail.f k a2 bt237.1 a0_0 a0_1 a1_0 a1_1 a1_2 a1_3 a1_4 a1_5 a1_6 a1_7 a1_8 a1_9 a1_10 a1_11 a1_12 a1_13 l1_14 a1_15) else (some (bt237.1.toList == ([] : List UInt8))))) else (some false)) = some r := H
 have A4 := Aside0.mk A40
 clear A40
 by_cases c5 : t236 = true
 ·subst c5
  have H1 : ((seg_Encode.f k a0_0 a0_1 a1_0 a1_1 a1_2 a1_3 a1_4 a1_5 a1_6 a1_7 a1_8 a1_9 a1_10 a1_11 a1_12 a1_13 l1_14 a1_15).bind fun bt237 => (if bt237.2 = 0 then (sternpostlaw08_SegBack_tail.f k a2 bt237.1 a0_0 a0_1 a1_0 a1_1 a1_2 a1_3 a1_4 a1_5 a1_6 a1_7 a1_8 a1_9 a1_10 a1_11 a1_12 a1_13 l1_14 a1_15) else (some (bt237.1.toList == ([] : List UInt8))))) = some r := by rw [if_pos rfl] at H; exact H
  clear H
  have H := H1
  clear H1
  replace H := Option.bind_eq_some_iff.mp H
  obtain ⟨⟨t237, t238⟩, A60, H⟩ := H
  replace H : (if t238 = 0 then (sternpostlaw08_SegBack_tail.f k a2 t237 a0_0 a0_1 a1_0 a1_1 a1_2 a1_3 a1_4 a1_5 a1_6 a1_7 a1_8 a1_9 a1_10 a1_11 a1_12 a1_13 l1_14 a1_15) else (some (t237.toList == ([] : List UInt8)))) = some r := H
  have A6 := Aside0.mk A60
  clear A60
  by_cases c7 : t238 = 0
  ·rw [if_pos c7] at H
   have c7b0 : (t238 == 0) = true := beq_iff_eq.mpr c7
   have c7b1 : (t238 != 0) = false := bne_eq_false_iff_eq.mpr c7
   clear c7
   go_enter Try.func8, Try.ntmps8
   go_upto_region 6 with (first | ((with_reducible refine gate_dst (N := 3) rfl ?_); refine box_event ?hg (N := 3) ?hd (cs := #[.int .i64 a0_0, .int .i64 a0_1]) (t := 37) ?hr ?_; (case hd => rfl); (case hg => rfl); (case hr => first | (go_simp; done) | (go_simp; rfl)); intro gb234 hg w8 hbox hb; have n0_ := Aside0.mk (below_step (by repeat (first | (with_reducible first | exact HB.out | apply below_alloc | apply pw_below_drewN | apply below_drew1) | exact HB.out)) hb); have n1_ := Aside0.mk (hbox); have n2_ := Aside0.mk ((by rw [hg]; exact (below_size (by repeat (first | (with_reducible first | exact HB.out | apply below_alloc | apply pw_below_drewN | apply below_drew1) | exact HB.out))) : w.heap.size ≤ gb234)); have n3_ := Aside0.mk ((by rw [hg]; exact (below_size (by repeat (first | (with_reducible first | exact HB.out | apply below_alloc | apply pw_below_drewN | apply below_drew1) | exact HB.out))) : w.heap.size ≤ gb234)); clear HB; have HB := n0_; have BK234 := n1_; have GW234 := n2_; have GE234 := n3_; clear n0_ n1_ n2_ n3_; clear hb hbox hg) | ((with_reducible refine gate_dst (N := 4) rfl ?_); refine box_event ?hg (N := 4) ?hd (cs := #[.int .i64 a1_0, .int .i64 a1_1, .int .i64 a1_2, .int .i64 a1_3, .int .i64 a1_4, .int .i64 a1_5, .int .i64 a1_6, .int .i64 a1_7, .int .i64 a1_8, .int .i64 a1_9, .int .i64 a1_10, .bool a1_11, .bool a1_12, .bool a1_13, .slice A1_14 l1_14.length c1_14, .string a1_15]) (t := 26) ?hr ?_; (case hd => rfl); (case hg => rfl); (case hr => first | (go_simp; done) | (go_simp; rfl)); intro gb235 hg w9 hbox hb; have n0_ := Aside0.mk (blk_below (g := gb234) (o := .cells #[.int .i64 a0_0, .int .i64 a0_1] 37 (0, 0)) (by (with_reducible repeat (first | refine blk_drewN ?_ _ | refine blk_drew ?_ | refine blk_alloc ?_ _)); exact BK234.out) hb); have n1_ := Aside0.mk (below_step (by repeat (first | (with_reducible first | exact HB.out | apply below_alloc | apply pw_below_drewN | apply below_drew1 | refine below_set ?_ GE234.out) | exact HB.out)) hb); have n2_ := Aside0.mk (hbox); have n3_ := Aside0.mk ((by rw [hg]; exact (below_size (by repeat (first | (with_reducible first | exact HB.out | apply below_alloc | apply pw_below_drewN | apply below_drew1 | refine below_set ?_ GE234.out) | exact HB.out))) : w.heap.size ≤ gb235)); have n4_ := Aside0.mk ((by rw [hg]; exact (below_size (by repeat (first | (with_reducible first | exact HB.out | apply below_alloc | apply pw_below_drewN | apply below_drew1 | refine below_set ?_ GE234.out) | exact HB.out))) : w.heap.size ≤ gb235)); have n5_ := Aside0.mk ((by rw [hg]; exact Nat.ne_of_lt (blk_lt (g := gb234) (o := .cells #[.int .i64 a0_0, .int .i64 a0_1] 37 (0, 0)) (by (with_reducible repeat (first | refine blk_drewN ?_ _ | refine blk_drew ?_ | refine blk_alloc ?_ _)); exact BK234.out)) : gb234 ≠ gb235)); have n6_ := Aside0.mk ((by rw [hg]; exact Nat.ne_of_gt (blk_lt (g := gb234) (o := .cells #[.int .i64 a0_0, .int .i64 a0_1] 37 (0, 0)) (by (with_reducible repeat (first | refine blk_drewN ?_ _ | refine blk_drew ?_ | refine blk_alloc ?_ _)); exact BK234.out)) : gb235 ≠ gb234)); clear BK234; clear HB; have BK234 := n0_; have HB := n1_; have BK235 := n2_; have GW235 := n3_; have GE235 := n4_; have NB234_235 := n5_; have NB235_234 := n6_; clear n0_ n1_ n2_ n3_ n4_ n5_ n6_; clear hb hbox hg) | ((with_reducible refine gate_callee (f := 13) rfl ?_); refine goesL_ (some 18) rfl rfl Try.func13 (by kernel_rfl) rfl #[] rfl (by (try simp only [List.map_toArray, List.map_cons, List.map_nil]); first | done | rfl | (simp only [List.length_drop, List.length_take]; rfl)) ?_; (with_reducible refine (sternpostlaw08_works.calls k  true _ A4.out).mono ?_); rintro e w10 ⟨rfl, hb⟩; refine ⟨_, rfl, ?_⟩; have n0_ := Aside0.mk (blk_below (g := gb234) (o := .cells #[.int .i64 a0_0, .int .i64 a0_1] 37 (0, 0)) (by (with_reducible repeat (first | refine blk_drewN ?_ _ | refine blk_drew ?_ | refine blk_alloc ?_ _)); exact BK234.out) hb); have n1_ := Aside0.mk (blk_below (g := gb235) (o := .cells #[.int .i64 a1_0, .int .i64 a1_1, .int .i64 a1_2, .int .i64 a1_3, .int .i64 a1_4, .int .i64 a1_5, .int .i64 a1_6, .int .i64 a1_7, .int .i64 a1_8, .int .i64 a1_9, .int .i64 a1_10, .bool a1_11, .bool a1_12, .bool a1_13, .slice A1_14 l1_14.length c1_14, .string a1_15] 26 (0, 0)) (by (with_reducible repeat (first | refine blk_drewN ?_ _ | refine blk_drew ?_ | refine blk_alloc ?_ _)); exact BK235.out) hb); have n2_ := Aside0.mk (below_step (by repeat (first | (with_reducible first | exact HB.out | apply below_alloc | apply pw_below_drewN | apply below_drew1 | refine below_set ?_ GE234.out | refine below_set ?_ GE235.out) | exact HB.out)) hb); clear BK234; clear BK235; clear HB; have BK234 := n0_; have BK235 := n1_; have HB := n2_; clear n0_ n1_ n2_; (try clear hb); (try clear hb2); (try clear hk); (try clear hi); have hnb11 := NB234_235.out; have hnc11 := NB235_234.out; obtain ⟨hcz12_0, hcz12_1⟩ := blk_cells2 BK234.out; obtain ⟨hfz12_0, hfz12_1⟩ := blk_frozens2 BK234.out; obtain ⟨hcz13_0, hcz13_1, hcz13_2, hcz13_3, hcz13_4, hcz13_5, hcz13_6, hcz13_7, hcz13_8, hcz13_9, hcz13_10, hcz13_11, hcz13_12, hcz13_13, hcz13_14, hcz13_15⟩ := blk_cells16 BK235.out; obtain ⟨hfz13_0, hfz13_1, hfz13_2, hfz13_3, hfz13_4, hfz13_5, hfz13_6, hfz13_7, hfz13_8, hfz13_9, hfz13_10, hfz13_11, hfz13_12, hfz13_13, hfz13_14, hfz13_15⟩ := blk_frozens16 BK235.out) | ((with_reducible refine gate_callee (f := 17) rfl ?_); refine goesL_ (some 26) rfl rfl Try.func17 (by kernel_rfl) rfl #[.int .i64 a0_0, .int .i64 a0_1, .agg #[.int .i64 a1_0, .int .i64 a1_1, .int .i64 a1_2, .int .i64 a1_3, .int .i64 a1_4, .int .i64 a1_5, .int .i64 a1_6, .int .i64 a1_7, .int .i64 a1_8, .int .i64 a1_9, .int .i64 a1_10, .bool a1_11, .bool a1_12, .bool a1_13, .slice A1_14 l1_14.length c1_14, .string a1_15]] rfl (by (try simp only [List.map_toArray, List.map_cons, List.map_nil]); first | done | rfl | (simp only [List.length_drop, List.length_take]; rfl)) ?_; (with_reducible refine (seg_Encode.calls k a0_0 a0_1 a1_0 a1_1 a1_2 a1_3 a1_4 a1_5 a1_6 a1_7 a1_8 a1_9 a1_10 a1_11 a1_12 a1_13 _ _ l1_14 a1_15 t237 t238 _ ?side1 ?side2 A6.out).mono ?_); (case side1 => repeat (first | exact (Kd.C_below HR1_14.out HB.out) | (with_reducible refine Kd.C_alloc ?_ _) | (with_reducible refine Kd.C_drewN ?_ _) | (with_reducible refine Kd.C_drew ?_))); (case side2 => exact HC1_14.out); rintro e w14 ⟨rfl, hb⟩; refine ⟨_, rfl, ?_⟩; have n0_ := Aside0.mk (blk_below (g := gb234) (o := .cells #[.int .i64 a0_0, .int .i64 a0_1] 37 (0, 0)) (by (with_reducible repeat (first | refine blk_drewN ?_ _ | refine blk_drew ?_ | refine blk_alloc ?_ _)); exact BK234.out) hb); have n1_ := Aside0.mk (blk_below (g := gb235) (o := .cells #[.int .i64 a1_0, .int .i64 a1_1, .int .i64 a1_2, .int .i64 a1_3, .int .i64 a1_4, .int .i64 a1_5, .int .i64 a1_6, .int .i64 a1_7, .int .i64 a1_8, .int .i64 a1_9, .int .i64 a1_10, .bool a1_11, .bool a1_12, .bool a1_13, .slice A1_14 l1_14.length c1_14, .string a1_15] 26 (0, 0)) (by (with_reducible repeat (first | refine blk_drewN ?_ _ | refine blk_drew ?_ | refine blk_alloc ?_ _)); exact BK235.out) hb); have n2_ := Aside0.mk (below_step (by repeat (first | (with_reducible first | exact HB.out | apply below_alloc | apply pw_below_drewN | apply below_drew1 | refine below_set ?_ GE234.out | refine below_set ?_ GE235.out) | exact HB.out)) hb); clear BK234; clear BK235; clear HB; have BK234 := n0_; have BK235 := n1_; have HB := n2_; clear n0_ n1_ n2_; (try clear hb); (try clear hb2); (try clear hk); (try clear hi)))
   have HBt := Aside0.mk (show Below w.heap.size w _ from by repeat (first | (with_reducible first | exact HB.out | apply below_alloc | apply pw_below_drewN | apply below_drew1 | refine below_set ?_ GE234.out | refine below_set ?_ GE235.out) | exact HB.out))
   -- UPTO
   subst hrT_
   unfold sternpostlaw08_SegBack_tail.f at H
   obtain ⟨⟨x1, x2, x3, x4, x5, x6, x7, x8, x9, x10, x11, x12, x13, x14, x15, x16, x17⟩, hq_, H⟩ := Option.bind_eq_some_iff.mp H
   have AX := Aside0.mk hq_
   clear hq_
   try dsimp only at H
   obtain ⟨b, hq_, H⟩ := Option.bind_eq_some_iff.mp H
   have AB := Aside0.mk hq_
   clear hq_
   try dsimp only at H
   by_cases hcQ : 0 ≤ b ∧ b / 8 < (t237.size : Int) ∧ b < 9223372036854775807
   case neg => rw [if_neg hcQ] at H; cases H
   rw [if_pos hcQ] at H
   obtain ⟨hx0, hx1, hx2⟩ := hcQ
   obtain ⟨j, rfl⟩ := Int.eq_ofNat_of_zero_le hx0
   obtain ⟨q, hq⟩ : ∃ q, j / 8 = q := ⟨_, rfl⟩
   obtain ⟨rm, hr⟩ : ∃ r, j % 8 = r := ⟨_, rfl⟩
   have hqs : q < t237.size := by omega
   have hr8 : rm < 8 := by omega
   have hq0 : ((j : Int) / 8) = (q : Int) := by omega
   have hr0 : ((j : Int) % 8) = (rm : Int) := by omega
   have hqm : (q : Int) < 9223372036854775807 := by omega
   skip
   rw [hq0, hr0, Int.toNat_natCast, Int.toNat_natCast] at H
   have hq0_ := Aside0.mk hq0; have hr0_ := Aside0.mk hr0; have hqm_ := Aside0.mk hqm; have hr8_ := Aside0.mk hr8; have hqs_ := Aside0.mk hqs; have hj31_ := Aside0.mk (show 0 ≤ Int.tmod (j : Int) 32 ∧ Int.tmod (j : Int) 32 < 64 by rw [Int.tmod_eq_emod_of_nonneg (by omega)]; omega)
   clear hq hr hx1 hx0 hx2 hq0 hr0 hqm hr8 hqs
   obtain ⟨⟨g1, g2, g3, g4, g5, g6, g7, g8, g9, g10, g11, g12, g13, g14, g15, g16, g17⟩, hq_, H⟩ := Option.bind_eq_some_iff.mp H
   have AG := Aside0.mk hq_
   clear hq_
   try dsimp only at H
   obtain ⟨⟨h1, h2, h3, h4, h5, h6, h7, h8, h9, h10, h11, h12, h13, h14, h15, h16, h17⟩, hq_, H⟩ := Option.bind_eq_some_iff.mp H
   have AH := Aside0.mk hq_
   clear hq_
   try dsimp only at H
   obtain ⟨⟨y1, y2, y3, y4, y5, y6, y7, y8, y9, y10, y11, y12, y13, y14, y15, y16, y17⟩, hq_, H⟩ := Option.bind_eq_some_iff.mp H
   have AY := Aside0.mk hq_
   clear hq_
   try dsimp only at H
   obtain ⟨s1, hq_, H⟩ := Option.bind_eq_some_iff.mp H
   have AS1 := Aside0.mk hq_
   clear hq_
   try dsimp only at H
   obtain ⟨s2, hq_, H⟩ := Option.bind_eq_some_iff.mp H
   have AS2 := Aside0.mk hq_
   clear hq_
   try dsimp only at H
   by_cases hc : x17 = 0 ∧ s1 = true ∧ g17 ≠ 0 ∧ h17 = 20 ∧ y17 = 0 ∧ s2 = true
   case neg => rw [if_neg hc] at H; cases H
   clear H
   obtain ⟨e1, e2, e3, e4, e5, e6⟩ := hc
   subst e1 e2 e4 e5 e6
   have e3_ := Aside0.mk e3
   clear e3
   have BKP := BK234; have BKA := BK235; have HRA := Aside0.mk (Kd.C_below HR1_14.out HB.out); have HBN := HB
   have cz0_ := (blk_cell BKP.out 0).trans rfl; have cz1_ := (blk_cell BKP.out 1).trans rfl
   go_wp2_with fail
   refine (seg_Decode.calls k a0_0 a0_1 t237 x1 x2 x3 x4 x5 x6 x7 x8 x9 x10 x11 x12 x13 x14 x15 x16 0 _ AX.out).mono ?_
   rintro e W1 ⟨vx, rfl, hR, hb⟩
   try clear cz0_ cz1_
   obtain ⟨Ax, cx, hv, hl, hC⟩ := Kd.R_reads hR
   generalize hln : x15.length = nx at hv hl
   subst hv
   have HRx := Aside0.mk hC; have HLx := Aside0.mk hl; have LNx := Aside0.mk hln
   clear hC hl hln hR
   have n0_ := Aside0.mk (blk_below BKP.out hb); have n1_ := Aside0.mk (blk_below BKA.out hb); have n2_ := Aside0.mk (Kd.C_below HRA.out hb); have n3_ := Aside0.mk (below_step HBN.out hb); clear BKP BKA HRA HBN; have BKP := n0_; have BKA := n1_; have HRA := n2_; have HBN := n3_; clear n0_ n1_ n2_ n3_
   clear hb
   go_upto_region 7 with (first | ((with_reducible refine gate_dst (N := 9) rfl ?_); refine box_event ?hg (N := 9) ?hd (cs := #[.int .i64 0, .int .i64 0, .int .i64 0, .int .i64 0, .int .i64 0, .int .i64 0, .int .i64 0, .int .i64 0, .int .i64 0, .int .i64 0, .int .i64 0, .bool false, .bool false, .bool false, .slice none 0 0, .string (⟨#[]⟩ : ByteArray)]) (t := 26) ?hr ?_; (case hd => rfl); (case hg => rfl); (case hr => first | (go_simp; done) | (go_simp; rfl)); intro gx hg wx hbox hb; have HXx := Aside0.mk hb; have BXx := Aside0.mk hbox; have GXx := Aside0.mk (show W1.heap.size ≤ gx by rw [hg]; exact Nat.le_refl _); clear hbox hb hg) | ((with_reducible refine gate_store (t := 26) rfl ?_); refine store_big rfl 26 _ _ rfl _ _ rfl rfl 26 _ (BXx.out) (by kernel_rfl) (by rfl) (by rfl) _ (by simp only [World.setCells, Nat.reduceAdd]; rfl) ?_; simp only [Act.put, List.setIfInBounds_toArray, List.set_cons_zero, List.set_cons_succ]; generalize hq_ : World.setCell _ _ _ = W2))
   have hb3 : Below W1.heap.size W1 W2 := by rw [← hq_]; repeat (first | (with_reducible exact HXx.out) | (with_reducible refine below_set ?_ GXx.out))
   have BKx := Aside0.mk (show W2.heap[gx]? = some (.cells #[.int .i64 x1, .int .i64 x2, .int .i64 x3, .int .i64 x4, .int .i64 x5, .int .i64 x6, .int .i64 x7, .int .i64 x8, .int .i64 x9, .int .i64 x10, .int .i64 x11, .bool x12, .bool x13, .bool x14, .slice Ax nx cx, .string x16] 26 (0, 0)) from by rw [← hq_]; exact stored16 (by rfl) BXx.out)
   clear hq_ HXx BXx GXx
   have n0_ := Aside0.mk (blk_below BKP.out hb3); have n1_ := Aside0.mk (blk_below BKA.out hb3); have n2_ := Aside0.mk (Kd.C_below HRA.out hb3); have n3_ := Aside0.mk (below_step HBN.out hb3); have n4_ := Aside0.mk (Kd.C_below HRx.out hb3); clear BKP BKA HRA HBN HRx; have BKP := n0_; have BKA := n1_; have HRA := n2_; have HBN := n3_; have HRx := n4_; clear n0_ n1_ n2_ n3_ n4_
   clear hb3
   go_wp2_with fail
   refine (sternpostbook_Among.calls a2 (wrap64 (8 * (t237.size : Int))) (j : Int) _ AB.out).mono ?_
   rintro e w' ⟨rfl, nd, rfl⟩
   have hb : Below W2.heap.size W2 (W2.drewN nd) := pw_below_drewN (Below.refl _ _) nd
   generalize W2.drewN nd = W3 at hb ⊢
   have n0_ := Aside0.mk (blk_below BKP.out hb); have n1_ := Aside0.mk (blk_below BKA.out hb); have n2_ := Aside0.mk (Kd.C_below HRA.out hb); have n3_ := Aside0.mk (below_step HBN.out hb); have n4_ := Aside0.mk (Kd.C_below HRx.out hb); have n5_ := Aside0.mk (blk_below BKx.out hb); clear BKP BKA HRA HBN HRx BKx; have BKP := n0_; have BKA := n1_; have HRA := n2_; have HBN := n3_; have HRx := n4_; have BKx := n5_; clear n0_ n1_ n2_ n3_ n4_ n5_
   clear hb
   go_upto_region 9 with fail
   have hcb := Lib.bytesWorld_cell W3 5 t237 q hqs_.out
   have hfb := bytesWorld_free W3 5 t237 q hqs_.out
   have hca := Aside0.mk (Lib.bytesWorld_cell W3 5 t237)
   have hb01 := below_bytes t237 W3 5
   have hsz := Lib.bytesWorld_size W3 5 t237
   generalize Lib.bytesWorld W3 5 t237 = W4 at hcb hfb hsz hca hb01 ⊢
   have hqs := hqs_.out; have hr8 := hr8_.out; have hq0 := hq0_.out; have hr0 := hr0_.out; have hqm := hqm_.out
   go_region
   change Exit.then _ _ _ _ (World.drew (World.setCell ?W9 ⟨?gv, q, none⟩ ?xv))
   have hb : Below W3.heap.size W3 (World.drew (World.setCell ?W9 ⟨?gv, q, none⟩ ?xv)) := below_drew1 (Below.setCell (p := ⟨?gv, q, none⟩) (w := ?W9) ⟨hb01.os, hb01.tape, hb01.output, hb01.size, hb01.block⟩ (Nat.le_refl _) ?xv)
   have hc2 := Aside0.mk (show ∀ i, i < t237.size → (World.drew (World.setCell ?W9 ⟨?gv, q, none⟩ ?xv)).cell? ⟨?gv, 0 + i, none⟩ = some (.int .u8 ((flipL t237 q rm).getD i 0)) from flip_cells ?W9 ?gv t237 q rm hqs hca.out _ (by simp [List.getD, hqs]))
   clear hcb hfb hsz hca hb01
   generalize World.drew (World.setCell ?W9 ⟨?gv, q, none⟩ ?xv) = W5 at hb hc2 ⊢
   have hcv3 := fun cap => run_convert_bytes_arg (P := Try.prog) W5 49 5 Try.underlying49 Try.underlying5 W3.heap.size 0 t237.size cap (flipL t237 q rm) (flipL_len _ _ _) hc2.out 9 Try.underlying9
   clear hc2
   try clear hqm; try clear hr0; try clear hq0; try clear hr8; try clear hqs
   have n0_ := Aside0.mk (blk_below BKP.out hb); have n1_ := Aside0.mk (blk_below BKA.out hb); have n2_ := Aside0.mk (Kd.C_below HRA.out hb); have n3_ := Aside0.mk (below_step HBN.out hb); have n4_ := Aside0.mk (Kd.C_below HRx.out hb); have n5_ := Aside0.mk (blk_below BKx.out hb); clear BKP BKA HRA HBN HRx BKx; have BKP := n0_; have BKA := n1_; have HRA := n2_; have HBN := n3_; have HRx := n4_; have BKx := n5_; clear n0_ n1_ n2_ n3_ n4_ n5_
   clear hb
   have cz0_ := (blk_cell BKP.out 0).trans rfl; have cz1_ := (blk_cell BKP.out 1).trans rfl
   go_wp2_with fail
   refine (seg_Decode.calls k a0_0 a0_1 (flipS t237 q rm) g1 g2 g3 g4 g5 g6 g7 g8 g9 g10 g11 g12 g13 g14 g15 g16 g17 _ AG.out).mono ?_
   rintro e W6 ⟨vg, rfl, hR, hb⟩
   try clear cz0_ cz1_
   obtain ⟨Ag, cg, hv, hl, hC⟩ := Kd.R_reads hR
   generalize hln : g15.length = ng at hv hl
   subst hv
   have HRg := Aside0.mk hC; have HLg := Aside0.mk hl; have LNg := Aside0.mk hln
   clear hC hl hln hR
   have n0_ := Aside0.mk (blk_below BKP.out hb); have n1_ := Aside0.mk (blk_below BKA.out hb); have n2_ := Aside0.mk (Kd.C_below HRA.out hb); have n3_ := Aside0.mk (below_step HBN.out hb); have n4_ := Aside0.mk (Kd.C_below HRx.out hb); have n5_ := Aside0.mk (blk_below BKx.out hb); clear BKP BKA HRA HBN HRx BKx; have BKP := n0_; have BKA := n1_; have HRA := n2_; have HBN := n3_; have HRx := n4_; have BKx := n5_; clear n0_ n1_ n2_ n3_ n4_ n5_
   clear hb
   go_upto_region 11 with (first | ((with_reducible refine gate_dst (N := 12) rfl ?_); refine box_event ?hg (N := 12) ?hd (cs := #[.int .i64 0, .int .i64 0, .int .i64 0, .int .i64 0, .int .i64 0, .int .i64 0, .int .i64 0, .int .i64 0, .int .i64 0, .int .i64 0, .int .i64 0, .bool false, .bool false, .bool false, .slice none 0 0, .string (⟨#[]⟩ : ByteArray)]) (t := 26) ?hr ?_; (case hd => rfl); (case hg => rfl); (case hr => first | (go_simp; done) | (go_simp; rfl)); intro gg hg wg hbox hb; have HXg := Aside0.mk hb; have BXg := Aside0.mk hbox; have GXg := Aside0.mk (show W6.heap.size ≤ gg by rw [hg]; exact Nat.le_refl _); clear hbox hb hg) | ((with_reducible refine gate_store (t := 26) rfl ?_); refine store_big rfl 26 _ _ rfl _ _ rfl rfl 26 _ (BXg.out) (by kernel_rfl) (by rfl) (by rfl) _ (by simp only [World.setCells, Nat.reduceAdd]; rfl) ?_; simp only [Act.put, List.setIfInBounds_toArray, List.set_cons_zero, List.set_cons_succ]; generalize hq_ : World.setCell _ _ _ = W7))
   have hb3 : Below W6.heap.size W6 W7 := by rw [← hq_]; repeat (first | (with_reducible exact HXg.out) | (with_reducible refine below_set ?_ GXg.out))
   clear hq_ HXg BXg GXg
   clear HRg HLg LNg
   have n0_ := Aside0.mk (blk_below BKP.out hb3); have n1_ := Aside0.mk (blk_below BKA.out hb3); have n2_ := Aside0.mk (Kd.C_below HRA.out hb3); have n3_ := Aside0.mk (below_step HBN.out hb3); have n4_ := Aside0.mk (Kd.C_below HRx.out hb3); have n5_ := Aside0.mk (blk_below BKx.out hb3); clear BKP BKA HRA HBN HRx BKx; have BKP := n0_; have BKA := n1_; have HRA := n2_; have HBN := n3_; have HRx := n4_; have BKx := n5_; clear n0_ n1_ n2_ n3_ n4_ n5_
   clear hb3
   have same : ∀ (b : Bool) W', Below W7.heap.size W7 W' → Below W'.heap.size W' W' := fun _ W' _ => Below.refl _ _
   let RR : Bool → Nat → World → Value → Prop := fun b i W v => if i = 9 ∨ i = 10 then ∃ A n c, v = .tuple #[.agg #[.int .i64 h1, .int .i64 h2, .int .i64 h3, .int .i64 h4, .int .i64 h5, .int .i64 h6, .int .i64 h7, .int .i64 h8, .int .i64 h9, .int .i64 h10, .int .i64 h11, .bool h12, .bool h13, .bool h14, .slice A n c, .string h16], .int .i64 20] else if i = 11 then ∃ A n c, v = .agg #[.int .i64 h1, .int .i64 h2, .int .i64 h3, .int .i64 h4, .int .i64 h5, .int .i64 h6, .int .i64 h7, .int .i64 h8, .int .i64 h9, .int .i64 h10, .int .i64 h11, .bool h12, .bool h13, .bool h14, .slice A n c, .string h16] else if b = false then ∃ g, v = .pointer (some ⟨g, 0, none⟩) ∧ W7.heap.size ≤ g ∧ W.heap[g]? = some (.cells #[.int .i64 0, .int .i64 0, .int .i64 0, .int .i64 0, .int .i64 0, .int .i64 0, .int .i64 0, .int .i64 0, .int .i64 0, .int .i64 0, .int .i64 0, .bool false, .bool false, .bool false, .slice none 0 0, .string (⟨#[]⟩ : ByteArray)] 26 (0, 0)) else True
   have keep : ∀ (c b : Bool) (i : Nat) (W W' : World) (v : Value), (c = true → b = false ∧ i ≠ 14) → (if c = true then True else Below W.heap.size W W') → RR b i W v → RR (b || c) i W' v := by
    intro c b i W W' v _ hg h
    simp only [RR] at h ⊢
    by_cases h1 : i = 9 ∨ i = 10
    ·rw [if_pos h1] at h ⊢; exact h
    by_cases h2 : i = 11
    ·rw [if_neg h1, if_pos h2] at h ⊢; exact h
    rw [if_neg h1, if_neg h2] at h ⊢
    cases b <;> cases c <;> simp at h hg ⊢
    obtain ⟨g, e1, e2, e3⟩ := h
    exact ⟨g, e1, e2, blk_below e3 hg⟩
   refine AnyPhase.region_then 16 (e := 14) (C := fun _ W' => Below W7.heap.size W7 W') (G := fun c W W' => if c = true then True else Below W.heap.size W W') (T := [9, 10, 11, 13]) (R := RR) (vs := [(.pointer (some ⟨gb234, 0, none⟩)), (.int .i64 a0_0), (.int .i64 (j : Int)), (.int .i64 ((j : Int) % 32)), (.int .i64 (IntKind.i64.wrap (2 ^ ((j : Int) % 32).toNat))), (.int .i64 (Go.bits .xor .i64 a0_0 (IntKind.i64.wrap (2 ^ ((j : Int) % 32).toNat)))), (.pointer (some ⟨gb234, 1, none⟩)), (.int .i64 a0_1), (.string t237), undef, undef, undef, (.int .i64 20), undef, undef, (.int .i64 20)]) (by kernel_rfl) rfl (by kernel_rfl) (below_drew1 (Below.refl _ _)) (fun _ W' _ => by simp; exact Below.refl _ _) keep (by decide) (by decide) (fun x => ?obs) ?fin
   case obs =>
    refine AnyPhase.obs_cons (.pointer (some ⟨gb234, 0, none⟩)) rfl (AnyPhase.ob_plain (by decide) rfl rfl (fun _ W' _ => by simp; exact Below.refl _ _) rfl (fun b W' hW => by have hj31 := hj31_.out; go_simp)) ?_
    try simp only [Act.put, List.setIfInBounds_toArray, List.set_cons_zero, List.set_cons_succ]
    refine AnyPhase.obs_cons (.int .i64 a0_0) rfl (AnyPhase.ob_quiet (d := 71) (by decide) rfl (show (71 : Nat) < 115 by omega) rfl rfl (fun _ W' _ => by simp; exact Below.refl _ _) (fun _ => by first | exact ⟨_, rfl⟩ | exact ⟨pure _, rfl⟩) (fun b => ?_)) ?_
    ·refine ⟨_, fun W' hW => ?_, rfl⟩; have hcz := (blk_cell (blk_below BKP.out hW) 0).trans rfl; unfold Oper.quietAt; go_simp; first | done | rfl | exact ⟨rfl, rfl⟩
    try simp only [Act.put, List.setIfInBounds_toArray, List.set_cons_zero, List.set_cons_succ]
    refine AnyPhase.obs_cons (.int .i64 (j : Int)) rfl (AnyPhase.ob_plain (by decide) rfl rfl (fun _ W' _ => by simp; exact Below.refl _ _) rfl (fun b W' hW => by have hj31 := hj31_.out; go_simp)) ?_
    try simp only [Act.put, List.setIfInBounds_toArray, List.set_cons_zero, List.set_cons_succ]
    refine AnyPhase.obs_cons (.int .i64 ((j : Int) % 32)) rfl (AnyPhase.ob_plain (by decide) rfl rfl (fun _ W' _ => by simp; exact Below.refl _ _) rfl (fun b W' hW => by have hj31 := hj31_.out; go_simp)) ?_
    try simp only [Act.put, List.setIfInBounds_toArray, List.set_cons_zero, List.set_cons_succ]
    refine AnyPhase.obs_cons (.int .i64 (IntKind.i64.wrap (2 ^ ((j : Int) % 32).toNat))) rfl (AnyPhase.ob_plain (by decide) rfl rfl (fun _ W' _ => by simp; exact Below.refl _ _) rfl (fun b W' hW => by have hj31 := hj31_.out; go_simp)) ?_
    try simp only [Act.put, List.setIfInBounds_toArray, List.set_cons_zero, List.set_cons_succ]
    refine AnyPhase.obs_cons (.int .i64 (Go.bits .xor .i64 a0_0 (IntKind.i64.wrap (2 ^ ((j : Int) % 32).toNat)))) rfl (AnyPhase.ob_plain (by decide) rfl rfl (fun _ W' _ => by simp; exact Below.refl _ _) rfl (fun b W' hW => by have hj31 := hj31_.out; go_simp)) ?_
    try simp only [Act.put, List.setIfInBounds_toArray, List.set_cons_zero, List.set_cons_succ]
    refine AnyPhase.obs_cons (.pointer (some ⟨gb234, 1, none⟩)) rfl (AnyPhase.ob_plain (by decide) rfl rfl (fun _ W' _ => by simp; exact Below.refl _ _) rfl (fun b W' hW => by have hj31 := hj31_.out; go_simp)) ?_
    try simp only [Act.put, List.setIfInBounds_toArray, List.set_cons_zero, List.set_cons_succ]
    refine AnyPhase.obs_cons (.int .i64 a0_1) rfl (AnyPhase.ob_quiet (d := 77) (by decide) rfl (show (77 : Nat) < 115 by omega) rfl rfl (fun _ W' _ => by simp; exact Below.refl _ _) (fun _ => by first | exact ⟨_, rfl⟩ | exact ⟨pure _, rfl⟩) (fun b => ?_)) ?_
    ·refine ⟨_, fun W' hW => ?_, rfl⟩; have hcz := (blk_cell (blk_below BKP.out hW) 1).trans rfl; unfold Oper.quietAt; go_simp; first | done | rfl | exact ⟨rfl, rfl⟩
    try simp only [Act.put, List.setIfInBounds_toArray, List.set_cons_zero, List.set_cons_succ]
    refine AnyPhase.obs_cons (.string t237) rfl (AnyPhase.ob_plain (by decide) rfl rfl (fun _ W' _ => by simp; exact Below.refl _ _) rfl (fun b W' hW => by have hj31 := hj31_.out; go_simp)) ?_
    try simp only [Act.put, List.setIfInBounds_toArray, List.set_cons_zero, List.set_cons_succ]
    refine AnyPhase.obs_cons (x 9) rfl (AnyPhase.ob_calltok (by decide) rfl rfl 24 #[.int .i64 (Go.bits .xor .i64 a0_0 (IntKind.i64.wrap (2 ^ ((j : Int) % 32).toNat))), .int .i64 a0_1, .string t237] (fun b W' hW => ?_) (fun b W' hW => ?_)) ?_
    ·go_simp
    ·refine (seg_Decode.calls k (Go.bits .xor .i64 a0_0 (IntKind.i64.wrap (2 ^ ((j : Int) % 32).toNat))) a0_1 t237 h1 h2 h3 h4 h5 h6 h7 h8 h9 h10 h11 h12 h13 h14 h15 h16 20 W' AH.out).mono ?_
     rintro e W1 ⟨vh, rfl, hR, hb⟩
     obtain ⟨Ah, ch, hv, hl, hC⟩ := Kd.R_reads hR
     exact ⟨_, rfl, below_step hW hb, by simp; exact hb, by simp only [RR]; exact ⟨Ah, _, ch, by rw [hv]⟩⟩
    try simp only [Act.put, List.setIfInBounds_toArray, List.set_cons_zero, List.set_cons_succ]
    refine AnyPhase.obs_cons (x 10) rfl (AnyPhase.ob_via (by decide) rfl rfl (fun _ W' _ => by simp; exact Below.refl _ _) 9 _ _ rfl rfl rfl (by kernel_rfl) (fun b W' hW hR => ?_)) ?_
    ·simp only [RR] at hR ⊢; obtain ⟨A, n, c, hv⟩ := hR; refine ⟨_, ?run, ⟨A, n, c, rfl⟩⟩; (case run => simp only [execOp, Act.eval, hv, go_sem]; try rfl)
    try simp only [Act.put, List.setIfInBounds_toArray, List.set_cons_zero, List.set_cons_succ]
    refine AnyPhase.obs_cons (x 11) rfl (AnyPhase.ob_via (by decide) rfl rfl (fun _ W' _ => by simp; exact Below.refl _ _) 10 _ _ rfl rfl rfl (by kernel_rfl) (fun b W' hW hR => ?_)) ?_
    ·simp only [RR] at hR ⊢; obtain ⟨A, n, c, hv⟩ := hR; refine ⟨_, ?run, ⟨A, n, c, rfl⟩⟩; (case run => simp only [execOp, Act.eval, hv, go_sem]; try rfl)
    try simp only [Act.put, List.setIfInBounds_toArray, List.set_cons_zero, List.set_cons_succ]
    refine AnyPhase.obs_cons (.int .i64 20) rfl (AnyPhase.ob_det (by decide) rfl rfl rfl (fun _ W' _ => by simp; exact Below.refl _ _) 10 _ _ rfl rfl rfl (by kernel_rfl) (fun b W' hW hR => ?_)) ?_
    ·simp only [RR] at hR; obtain ⟨A, n, c, hv⟩ := hR; simp only [execOp, Act.eval, hv, go_sem]; try rfl
    try simp only [Act.put, List.setIfInBounds_toArray, List.set_cons_zero, List.set_cons_succ]
    refine AnyPhase.obs_cons (x 13) rfl (AnyPhase.ob_token (by decide) rfl rfl (fun b W' hW => ⟨.pointer (some ⟨W'.heap.size, 0, none⟩), W'.alloc (.cells #[.int .i64 0, .int .i64 0, .int .i64 0, .int .i64 0, .int .i64 0, .int .i64 0, .int .i64 0, .int .i64 0, .int .i64 0, .int .i64 0, .int .i64 0, .bool false, .bool false, .bool false, .slice none 0 0, .string (⟨#[]⟩ : ByteArray)] 26), ?run, below_alloc hW _, by simp; exact below_alloc (Below.refl _ _) _, ?tok⟩)) ?_
    case run => clear same keep; (first | (go_simp; done) | (go_simp; rfl) | (simp [execOp, Act.eval, go_sem]; done) | skip)
    case tok =>
     cases b
     ·show ∃ g, _ = _ ∧ _ ∧ _
      exact ⟨W'.heap.size, rfl, hW.size, heap_alloc_new W' _⟩
     ·exact trivial
    try simp only [Act.put, List.setIfInBounds_toArray, List.set_cons_zero, List.set_cons_succ]
    refine AnyPhase.obs_cons undef rfl (AnyPhase.ob_stev rfl rfl rfl 13 _ _ rfl rfl rfl (by kernel_rfl) 11 _ _ rfl rfl rfl (by kernel_rfl) (fun W' hW h1 h2 => ?_)) ?_
    ·simp only [RR] at h1 h2; simp at h1 h2; obtain ⟨g, hg, hge, hbx⟩ := h1; obtain ⟨A, n, c, hv⟩ := h2
     exact ⟨_, AnyPhase.run_store_own 26 (.tmp 14) (.tmp 80) rfl g [.int .i64 h1, .int .i64 h2, .int .i64 h3, .int .i64 h4, .int .i64 h5, .int .i64 h6, .int .i64 h7, .int .i64 h8, .int .i64 h9, .int .i64 h10, .int .i64 h11, .bool h12, .bool h13, .bool h14, .slice A n c, .string h16] hg hv 26 _ hbx (by kernel_rfl) rfl rfl, AnyPhase.below_setCells hge _ _ _ hW, by simp⟩
    try simp only [Act.put, List.setIfInBounds_toArray, List.set_cons_zero, List.set_cons_succ]
    refine AnyPhase.obs_cons (.int .i64 20) rfl (AnyPhase.ob_plain (by decide) rfl rfl (fun _ W' _ => by simp; exact Below.refl _ _) rfl (fun b W' hW => by have hj31 := hj31_.out; go_simp)) ?_
    try simp only [Act.put, List.setIfInBounds_toArray, List.set_cons_zero, List.set_cons_succ]
    trivial
   case fin =>
    intro x W8 hb _
    simp only [List.take_succ_cons, List.take_zero, List.drop_succ_cons, List.drop_zero]
    rw [AnyOrder.lexAt_cons (.pointer (some ⟨gb234, 0, none⟩)) rfl]
    try simp only [Act.put, List.setIfInBounds_toArray, List.set_cons_zero, List.set_cons_succ]
    rw [AnyOrder.lexAt_cons (.int .i64 a0_0) rfl]
    try simp only [Act.put, List.setIfInBounds_toArray, List.set_cons_zero, List.set_cons_succ]
    rw [AnyOrder.lexAt_cons (.int .i64 (j : Int)) rfl]
    try simp only [Act.put, List.setIfInBounds_toArray, List.set_cons_zero, List.set_cons_succ]
    rw [AnyOrder.lexAt_cons (.int .i64 ((j : Int) % 32)) rfl]
    try simp only [Act.put, List.setIfInBounds_toArray, List.set_cons_zero, List.set_cons_succ]
    rw [AnyOrder.lexAt_cons (.int .i64 (IntKind.i64.wrap (2 ^ ((j : Int) % 32).toNat))) rfl]
    try simp only [Act.put, List.setIfInBounds_toArray, List.set_cons_zero, List.set_cons_succ]
    rw [AnyOrder.lexAt_cons (.int .i64 (Go.bits .xor .i64 a0_0 (IntKind.i64.wrap (2 ^ ((j : Int) % 32).toNat)))) rfl]
    try simp only [Act.put, List.setIfInBounds_toArray, List.set_cons_zero, List.set_cons_succ]
    rw [AnyOrder.lexAt_cons (.pointer (some ⟨gb234, 1, none⟩)) rfl]
    try simp only [Act.put, List.setIfInBounds_toArray, List.set_cons_zero, List.set_cons_succ]
    rw [AnyOrder.lexAt_cons (.int .i64 a0_1) rfl]
    try simp only [Act.put, List.setIfInBounds_toArray, List.set_cons_zero, List.set_cons_succ]
    rw [AnyOrder.lexAt_cons (.string t237) rfl]
    try simp only [Act.put, List.setIfInBounds_toArray, List.set_cons_zero, List.set_cons_succ]
    rw [AnyOrder.lexAt_cons (x 9) rfl]
    try simp only [Act.put, List.setIfInBounds_toArray, List.set_cons_zero, List.set_cons_succ]
    rw [AnyOrder.lexAt_cons (x 10) rfl]
    try simp only [Act.put, List.setIfInBounds_toArray, List.set_cons_zero, List.set_cons_succ]
    rw [AnyOrder.lexAt_cons (x 11) rfl]
    try simp only [Act.put, List.setIfInBounds_toArray, List.set_cons_zero, List.set_cons_succ]
    rw [AnyOrder.lexAt_cons (.int .i64 20) rfl]
    try simp only [Act.put, List.setIfInBounds_toArray, List.set_cons_zero, List.set_cons_succ]
    rw [AnyOrder.lexAt_cons (x 13) rfl]
    try simp only [Act.put, List.setIfInBounds_toArray, List.set_cons_zero, List.set_cons_succ]
    rw [AnyOrder.lexAt_cons undef rfl]
    try simp only [Act.put, List.setIfInBounds_toArray, List.set_cons_zero, List.set_cons_succ]
    rw [AnyOrder.lexAt_cons (.int .i64 20) rfl]
    try simp only [Act.put, List.setIfInBounds_toArray, List.set_cons_zero, List.set_cons_succ]
    rw [AnyOrder.lexAt_nil]
    generalize x 9 = t9_; generalize x 10 = t10_; generalize x 11 = t11_; generalize x 13 = t13_
    clear same keep
    have n0_ := Aside0.mk (blk_below BKP.out hb); have n1_ := Aside0.mk (blk_below BKA.out hb); have n2_ := Aside0.mk (Kd.C_below HRA.out hb); have n3_ := Aside0.mk (below_step HBN.out hb); have n4_ := Aside0.mk (Kd.C_below HRx.out hb); have n5_ := Aside0.mk (blk_below BKx.out hb); clear BKP BKA HRA HBN HRx BKx; have BKP := n0_; have BKA := n1_; have HRA := n2_; have HBN := n3_; have HRx := n4_; have BKx := n5_; clear n0_ n1_ n2_ n3_ n4_ n5_
    clear hb
    have cz0_ := (blk_cell BKP.out 0).trans rfl; have cz1_ := (blk_cell BKP.out 1).trans rfl
    go_wp2_with fail
    refine (seg_Decode.calls k a0_1 a0_0 t237 y1 y2 y3 y4 y5 y6 y7 y8 y9 y10 y11 y12 y13 y14 y15 y16 0 _ AY.out).mono ?_
    rintro e W9 ⟨vy, rfl, hR, hb⟩
    try clear cz0_ cz1_
    obtain ⟨Ay, cy, hv, hl, hC⟩ := Kd.R_reads hR
    generalize hln : y15.length = ny at hv hl
    subst hv
    have HRy := Aside0.mk hC; have HLy := Aside0.mk hl; have LNy := Aside0.mk hln
    clear hC hl hln hR
    have n0_ := Aside0.mk (blk_below BKP.out hb); have n1_ := Aside0.mk (blk_below BKA.out hb); have n2_ := Aside0.mk (Kd.C_below HRA.out hb); have n3_ := Aside0.mk (below_step HBN.out hb); have n4_ := Aside0.mk (Kd.C_below HRx.out hb); have n5_ := Aside0.mk (blk_below BKx.out hb); clear BKP BKA HRA HBN HRx BKx; have BKP := n0_; have BKA := n1_; have HRA := n2_; have HBN := n3_; have HRx := n4_; have BKx := n5_; clear n0_ n1_ n2_ n3_ n4_ n5_
    clear hb
    go_upto_region 13 with (first | ((with_reducible refine gate_dst (N := 16) rfl ?_); refine box_event ?hg (N := 16) ?hd (cs := #[.int .i64 0, .int .i64 0, .int .i64 0, .int .i64 0, .int .i64 0, .int .i64 0, .int .i64 0, .int .i64 0, .int .i64 0, .int .i64 0, .int .i64 0, .bool false, .bool false, .bool false, .slice none 0 0, .string (⟨#[]⟩ : ByteArray)]) (t := 26) ?hr ?_; (case hd => rfl); (case hg => rfl); (case hr => first | (go_simp; done) | (go_simp; rfl)); intro gy hg wy hbox hb; have HXy := Aside0.mk hb; have BXy := Aside0.mk hbox; have GXy := Aside0.mk (show W9.heap.size ≤ gy by rw [hg]; exact Nat.le_refl _); clear hbox hb hg) | ((with_reducible refine gate_store (t := 26) rfl ?_); refine store_big rfl 26 _ _ rfl _ _ rfl rfl 26 _ (BXy.out) (by kernel_rfl) (by rfl) (by rfl) _ (by simp only [World.setCells, Nat.reduceAdd]; rfl) ?_; simp only [Act.put, List.setIfInBounds_toArray, List.set_cons_zero, List.set_cons_succ]; generalize hq_ : World.setCell _ _ _ = W10))
    have hb3 : Below W9.heap.size W9 W10 := by rw [← hq_]; repeat (first | (with_reducible exact HXy.out) | (with_reducible refine below_set ?_ GXy.out))
    have BKy := Aside0.mk (show W10.heap[gy]? = some (.cells #[.int .i64 y1, .int .i64 y2, .int .i64 y3, .int .i64 y4, .int .i64 y5, .int .i64 y6, .int .i64 y7, .int .i64 y8, .int .i64 y9, .int .i64 y10, .int .i64 y11, .bool y12, .bool y13, .bool y14, .slice Ay ny cy, .string y16] 26 (0, 0)) from by rw [← hq_]; exact stored16 (by rfl) BXy.out)
    clear hq_ HXy BXy GXy
    have n0_ := Aside0.mk (blk_below BKP.out hb3); have n1_ := Aside0.mk (blk_below BKA.out hb3); have n2_ := Aside0.mk (Kd.C_below HRA.out hb3); have n3_ := Aside0.mk (below_step HBN.out hb3); have n4_ := Aside0.mk (Kd.C_below HRx.out hb3); have n5_ := Aside0.mk (blk_below BKx.out hb3); have n6_ := Aside0.mk (Kd.C_below HRy.out hb3); clear BKP BKA HRA HBN HRx BKx HRy; have BKP := n0_; have BKA := n1_; have HRA := n2_; have HBN := n3_; have HRx := n4_; have BKx := n5_; have HRy := n6_; clear n0_ n1_ n2_ n3_ n4_ n5_ n6_
    clear hb3
    have e3 : (g17 != 0) = true := bne_iff_ne.mpr e3_.out
    go_wp2_with (first | ((with_reducible refine gate_load (t := 26) rfl ?_); refine gate_wanted ?hw (fun hw_ => ?_); (case hw => first | rfl | (go_simp; done)); refine load_big hw_ 26 _ rfl _ rfl 26 _ (0, 0) _ (BKx.out) Try.underlying26 rfl (by kernel_rfl) ?_; clear hw_; simp only [Act.put, List.setIfInBounds_toArray, List.set_cons_zero, List.set_cons_succ]) | ((with_reducible refine gate_load (t := 26) rfl ?_); refine gate_wanted ?hw (fun hw_ => ?_); (case hw => first | rfl | (go_simp; done)); refine load_big hw_ 26 _ rfl _ rfl 26 _ (0, 0) _ (BKA.out) Try.underlying26 rfl (by kernel_rfl) ?_; clear hw_; simp only [Act.put, List.setIfInBounds_toArray, List.set_cons_zero, List.set_cons_succ]))
    have hk := seg_Same.calls k x1 x2 x3 x4 x5 x6 x7 x8 x9 x10 x11 x12 x13 x14 _ _ x15 x16 a1_0 a1_1 a1_2 a1_3 a1_4 a1_5 a1_6 a1_7 a1_8 a1_9 a1_10 a1_11 a1_12 a1_13 _ _ l1_14 a1_15 true _ HRx.out (by rw [LNx.out]; exact HLx.out) HRA.out HC1_14.out AS1.out
    rw [LNx.out] at hk
    refine hk.mono ?_
    clear hk
    rintro e W11 ⟨rfl, hb⟩
    have n0_ := Aside0.mk (blk_below BKP.out hb); have n1_ := Aside0.mk (blk_below BKA.out hb); have n2_ := Aside0.mk (Kd.C_below HRA.out hb); have n3_ := Aside0.mk (below_step HBN.out hb); have n4_ := Aside0.mk (Kd.C_below HRx.out hb); have n5_ := Aside0.mk (blk_below BKx.out hb); have n6_ := Aside0.mk (Kd.C_below HRy.out hb); have n7_ := Aside0.mk (blk_below BKy.out hb); clear BKP BKA HRA HBN HRx BKx HRy BKy; have BKP := n0_; have BKA := n1_; have HRA := n2_; have HBN := n3_; have HRx := n4_; have BKx := n5_; have HRy := n6_; have BKy := n7_; clear n0_ n1_ n2_ n3_ n4_ n5_ n6_ n7_
    clear hb
    go_wp2_with (first | ((with_reducible refine gate_load (t := 26) rfl ?_); refine gate_wanted ?hw (fun hw_ => ?_); (case hw => first | rfl | (go_simp; done)); refine load_big hw_ 26 _ rfl _ rfl 26 _ (0, 0) _ (BKy.out) Try.underlying26 rfl (by kernel_rfl) ?_; clear hw_; simp only [Act.put, List.setIfInBounds_toArray, List.set_cons_zero, List.set_cons_succ]) | ((with_reducible refine gate_load (t := 26) rfl ?_); refine gate_wanted ?hw (fun hw_ => ?_); (case hw => first | rfl | (go_simp; done)); refine load_big hw_ 26 _ rfl _ rfl 26 _ (0, 0) _ (BKA.out) Try.underlying26 rfl (by kernel_rfl) ?_; clear hw_; simp only [Act.put, List.setIfInBounds_toArray, List.set_cons_zero, List.set_cons_succ]))
    have hk := seg_Same.calls k y1 y2 y3 y4 y5 y6 y7 y8 y9 y10 y11 y12 y13 y14 _ _ y15 y16 a1_0 a1_1 a1_2 a1_3 a1_4 a1_5 a1_6 a1_7 a1_8 a1_9 a1_10 a1_11 a1_12 a1_13 _ _ l1_14 a1_15 true _ HRy.out (by rw [LNy.out]; exact HLy.out) HRA.out HC1_14.out AS2.out
    rw [LNy.out] at hk
    refine hk.mono ?_
    clear hk
    rintro e W12 ⟨rfl, hb⟩
    have n0_ := Aside0.mk (blk_below BKP.out hb); have n1_ := Aside0.mk (blk_below BKA.out hb); have n2_ := Aside0.mk (Kd.C_below HRA.out hb); have n3_ := Aside0.mk (below_step HBN.out hb); have n4_ := Aside0.mk (Kd.C_below HRx.out hb); have n5_ := Aside0.mk (blk_below BKx.out hb); have n6_ := Aside0.mk (Kd.C_below HRy.out hb); have n7_ := Aside0.mk (blk_below BKy.out hb); clear BKP BKA HRA HBN HRx BKx HRy BKy; have BKP := n0_; have BKA := n1_; have HRA := n2_; have HBN := n3_; have HRx := n4_; have BKx := n5_; have HRy := n6_; have BKy := n7_; clear n0_ n1_ n2_ n3_ n4_ n5_ n6_ n7_
    clear hb
    go_wp2_with fail
    go_ret
    exact ⟨by first | rfl | (simp; done), by repeat (first | (with_reducible first | exact HBN.out | apply below_alloc | apply pw_below_drewN | apply below_drew1) | exact HBN.out)⟩
  ·rw [if_neg c7] at H
   have c7b0 : (t238 == 0) = false := beq_eq_false_iff_ne.mpr c7
   have c7b1 : (t238 != 0) = true := bne_iff_ne.mpr c7
   obtain rfl := Option.some.inj H
   go_enter Try.func8, Try.ntmps8
   go_wp2_with (first | ((with_reducible refine gate_dst (N := 3) rfl ?_); refine box_event ?hg (N := 3) ?hd (cs := #[.int .i64 a0_0, .int .i64 a0_1]) (t := 37) ?hr ?_; (case hd => rfl); (case hg => rfl); (case hr => first | (go_simp; done) | (go_simp; rfl)); intro gb234 hg w15 hbox hb; have n0_ := Aside0.mk (below_step (by repeat (first | (with_reducible first | exact HB.out | apply below_alloc | apply pw_below_drewN | apply below_drew1) | exact HB.out)) hb); have n1_ := Aside0.mk (hbox); have n2_ := Aside0.mk ((by rw [hg]; exact (below_size (by repeat (first | (with_reducible first | exact HB.out | apply below_alloc | apply pw_below_drewN | apply below_drew1) | exact HB.out))) : w.heap.size ≤ gb234)); have n3_ := Aside0.mk ((by rw [hg]; exact (below_size (by repeat (first | (with_reducible first | exact HB.out | apply below_alloc | apply pw_below_drewN | apply below_drew1) | exact HB.out))) : w.heap.size ≤ gb234)); clear HB; have HB := n0_; have BK234 := n1_; have GW234 := n2_; have GE234 := n3_; clear n0_ n1_ n2_ n3_; clear hb hbox hg) | ((with_reducible refine gate_dst (N := 4) rfl ?_); refine box_event ?hg (N := 4) ?hd (cs := #[.int .i64 a1_0, .int .i64 a1_1, .int .i64 a1_2, .int .i64 a1_3, .int .i64 a1_4, .int .i64 a1_5, .int .i64 a1_6, .int .i64 a1_7, .int .i64 a1_8, .int .i64 a1_9, .int .i64 a1_10, .bool a1_11, .bool a1_12, .bool a1_13, .slice A1_14 l1_14.length c1_14, .string a1_15]) (t := 26) ?hr ?_; (case hd => rfl); (case hg => rfl); (case hr => first | (go_simp; done) | (go_simp; rfl)); intro gb235 hg w16 hbox hb; have n0_ := Aside0.mk (blk_below (g := gb234) (o := .cells #[.int .i64 a0_0, .int .i64 a0_1] 37 (0, 0)) (by (with_reducible repeat (first | refine blk_drewN ?_ _ | refine blk_drew ?_ | refine blk_alloc ?_ _)); exact BK234.out) hb); have n1_ := Aside0.mk (below_step (by repeat (first | (with_reducible first | exact HB.out | apply below_alloc | apply pw_below_drewN | apply below_drew1 | refine below_set ?_ GE234.out) | exact HB.out)) hb); have n2_ := Aside0.mk (hbox); have n3_ := Aside0.mk ((by rw [hg]; exact (below_size (by repeat (first | (with_reducible first | exact HB.out | apply below_alloc | apply pw_below_drewN | apply below_drew1 | refine below_set ?_ GE234.out) | exact HB.out))) : w.heap.size ≤ gb235)); have n4_ := Aside0.mk ((by rw [hg]; exact (below_size (by repeat (first | (with_reducible first | exact HB.out | apply below_alloc | apply pw_below_drewN | apply below_drew1 | refine below_set ?_ GE234.out) | exact HB.out))) : w.heap.size ≤ gb235)); have n5_ := Aside0.mk ((by rw [hg]; exact Nat.ne_of_lt (blk_lt (g := gb234) (o := .cells #[.int .i64 a0_0, .int .i64 a0_1] 37 (0, 0)) (by (with_reducible repeat (first | refine blk_drewN ?_ _ | refine blk_drew ?_ | refine blk_alloc ?_ _)); exact BK234.out)) : gb234 ≠ gb235)); have n6_ := Aside0.mk ((by rw [hg]; exact Nat.ne_of_gt (blk_lt (g := gb234) (o := .cells #[.int .i64 a0_0, .int .i64 a0_1] 37 (0, 0)) (by (with_reducible repeat (first | refine blk_drewN ?_ _ | refine blk_drew ?_ | refine blk_alloc ?_ _)); exact BK234.out)) : gb235 ≠ gb234)); clear BK234; clear HB; have BK234 := n0_; have HB := n1_; have BK235 := n2_; have GW235 := n3_; have GE235 := n4_; have NB234_235 := n5_; have NB235_234 := n6_; clear n0_ n1_ n2_ n3_ n4_ n5_ n6_; clear hb hbox hg) | ((with_reducible refine gate_callee (f := 13) rfl ?_); refine goesL_ (some 18) rfl rfl Try.func13 (by kernel_rfl) rfl #[] rfl (by (try simp only [List.map_toArray, List.map_cons, List.map_nil]); first | done | rfl | (simp only [List.length_drop, List.length_take]; rfl)) ?_; (with_reducible refine (sternpostlaw08_works.calls k  true _ A4.out).mono ?_); rintro e w17 ⟨rfl, hb⟩; refine ⟨_, rfl, ?_⟩; have n0_ := Aside0.mk (blk_below (g := gb234) (o := .cells #[.int .i64 a0_0, .int .i64 a0_1] 37 (0, 0)) (by (with_reducible repeat (first | refine blk_drewN ?_ _ | refine blk_drew ?_ | refine blk_alloc ?_ _)); exact BK234.out) hb); have n1_ := Aside0.mk (blk_below (g := gb235) (o := .cells #[.int .i64 a1_0, .int .i64 a1_1, .int .i64 a1_2, .int .i64 a1_3, .int .i64 a1_4, .int .i64 a1_5, .int .i64 a1_6, .int .i64 a1_7, .int .i64 a1_8, .int .i64 a1_9, .int .i64 a1_10, .bool a1_11, .bool a1_12, .bool a1_13, .slice A1_14 l1_14.length c1_14, .string a1_15] 26 (0, 0)) (by (with_reducible repeat (first | refine blk_drewN ?_ _ | refine blk_drew ?_ | refine blk_alloc ?_ _)); exact BK235.out) hb); have n2_ := Aside0.mk (below_step (by repeat (first | (with_reducible first | exact HB.out | apply below_alloc | apply pw_below_drewN | apply below_drew1 | refine below_set ?_ GE234.out | refine below_set ?_ GE235.out) | exact HB.out)) hb); clear BK234; clear BK235; clear HB; have BK234 := n0_; have BK235 := n1_; have HB := n2_; clear n0_ n1_ n2_; (try clear hb); (try clear hb2); (try clear hk); (try clear hi); have hnb18 := NB234_235.out; have hnc18 := NB235_234.out; obtain ⟨hcz19_0, hcz19_1⟩ := blk_cells2 BK234.out; obtain ⟨hfz19_0, hfz19_1⟩ := blk_frozens2 BK234.out; obtain ⟨hcz20_0, hcz20_1, hcz20_2, hcz20_3, hcz20_4, hcz20_5, hcz20_6, hcz20_7, hcz20_8, hcz20_9, hcz20_10, hcz20_11, hcz20_12, hcz20_13, hcz20_14, hcz20_15⟩ := blk_cells16 BK235.out; obtain ⟨hfz20_0, hfz20_1, hfz20_2, hfz20_3, hfz20_4, hfz20_5, hfz20_6, hfz20_7, hfz20_8, hfz20_9, hfz20_10, hfz20_11, hfz20_12, hfz20_13, hfz20_14, hfz20_15⟩ := blk_frozens16 BK235.out) | ((with_reducible refine gate_callee (f := 17) rfl ?_); refine goesL_ (some 26) rfl rfl Try.func17 (by kernel_rfl) rfl #[.int .i64 a0_0, .int .i64 a0_1, .agg #[.int .i64 a1_0, .int .i64 a1_1, .int .i64 a1_2, .int .i64 a1_3, .int .i64 a1_4, .int .i64 a1_5, .int .i64 a1_6, .int .i64 a1_7, .int .i64 a1_8, .int .i64 a1_9, .int .i64 a1_10, .bool a1_11, .bool a1_12, .bool a1_13, .slice A1_14 l1_14.length c1_14, .string a1_15]] rfl (by (try simp only [List.map_toArray, List.map_cons, List.map_nil]); first | done | rfl | (simp only [List.length_drop, List.length_take]; rfl)) ?_; (with_reducible refine (seg_Encode.calls k a0_0 a0_1 a1_0 a1_1 a1_2 a1_3 a1_4 a1_5 a1_6 a1_7 a1_8 a1_9 a1_10 a1_11 a1_12 a1_13 _ _ l1_14 a1_15 t237 t238 _ ?side1 ?side2 A6.out).mono ?_); (case side1 => repeat (first | exact (Kd.C_below HR1_14.out HB.out) | (with_reducible refine Kd.C_alloc ?_ _) | (with_reducible refine Kd.C_drewN ?_ _) | (with_reducible refine Kd.C_drew ?_))); (case side2 => exact HC1_14.out); rintro e w21 ⟨rfl, hb⟩; refine ⟨_, rfl, ?_⟩; have n0_ := Aside0.mk (blk_below (g := gb234) (o := .cells #[.int .i64 a0_0, .int .i64 a0_1] 37 (0, 0)) (by (with_reducible repeat (first | refine blk_drewN ?_ _ | refine blk_drew ?_ | refine blk_alloc ?_ _)); exact BK234.out) hb); have n1_ := Aside0.mk (blk_below (g := gb235) (o := .cells #[.int .i64 a1_0, .int .i64 a1_1, .int .i64 a1_2, .int .i64 a1_3, .int .i64 a1_4, .int .i64 a1_5, .int .i64 a1_6, .int .i64 a1_7, .int .i64 a1_8, .int .i64 a1_9, .int .i64 a1_10, .bool a1_11, .bool a1_12, .bool a1_13, .slice A1_14 l1_14.length c1_14, .string a1_15] 26 (0, 0)) (by (with_reducible repeat (first | refine blk_drewN ?_ _ | refine blk_drew ?_ | refine blk_alloc ?_ _)); exact BK235.out) hb); have n2_ := Aside0.mk (below_step (by repeat (first | (with_reducible first | exact HB.out | apply below_alloc | apply pw_below_drewN | apply below_drew1 | refine below_set ?_ GE234.out | refine below_set ?_ GE235.out) | exact HB.out)) hb); clear BK234; clear BK235; clear HB; have BK234 := n0_; have BK235 := n1_; have HB := n2_; clear n0_ n1_ n2_; (try clear hb); (try clear hb2); (try clear hk); (try clear hi)))
   go_ret
   exact ⟨by first | rfl | (simp [errW_none, errW_some] <;> rfl) | (simp [*, errW_none, errW_some] <;> rfl), by repeat (first | (with_reducible first | exact HB.out | apply below_alloc | apply pw_below_drewN | apply below_drew1 | refine below_set ?_ GE234.out | refine below_set ?_ GE235.out) | exact HB.out)⟩
 ·replace c5 := Bool.eq_false_iff.mpr c5
  subst c5
  have H1 : (some false) = some r := by rw [if_neg (show ¬ (false = true) by decide)] at H; exact H
  clear H
  have H := H1
  clear H1
  exact absurd ((Option.some.inj H).trans hrT_) Bool.false_ne_true

/-- THE ONE PURE STATEMENT of sternpostlaw08_SegBack: yours. -/
def fit73 (x : S73) : Prop := ((Lit.int .i64 x.f0).wf = true) ∧ (Lit.int .i64 x.f1).wf = true
def fit37 (x : S37) : Prop := ((Lit.int .i64 x.f0).wf = true) ∧ (Lit.int .i64 x.f1).wf = true
def fit24 (x : S24) : Prop := ((Lit.int .i64 x.f0).wf = true) ∧ ((Lit.int .i64 x.f1).wf = true) ∧ ((Lit.int .i64 x.f2).wf = true) ∧ ((Lit.int .i64 x.f3).wf = true) ∧ (True) ∧ (True) ∧ (True) ∧ (x.f7.length * 16 ≤ 140737488351232 ∧ ∀ x_ ∈ x.f7, fit73 x_)
def fit26 (x : S26) : Prop := ((Lit.int .i64 x.f0).wf = true) ∧ ((Lit.int .i64 x.f1).wf = true) ∧ ((Lit.int .i64 x.f2).wf = true) ∧ ((Lit.int .i64 x.f3).wf = true) ∧ ((Lit.int .i64 x.f4).wf = true) ∧ ((Lit.int .i64 x.f5).wf = true) ∧ ((Lit.int .i64 x.f6).wf = true) ∧ (fit24 x.f7) ∧ x.f8.size ≤ 140737488351232
def sternpostlaw08_SegBack.Pure : Prop := ∀ (a0_0 : Int) (a0_1 : Int) (a1_0 : Int) (a1_1 : Int) (a1_2 : Int) (a1_3 : Int) (a1_4 : Int) (a1_5 : Int) (a1_6 : Int) (a1_7 : Int) (a1_8 : Int) (a1_9 : Int) (a1_10 : Int) (a1_11 : Bool) (a1_12 : Bool) (a1_13 : Bool) (l1_14 : List (S73)) (a1_15 : ByteArray) (a2 : Int), (Lit.int .i64 a0_0).wf = true → (Lit.int .i64 a0_1).wf = true → (Lit.int .i64 a1_0).wf = true → (Lit.int .i64 a1_1).wf = true → (Lit.int .i64 a1_2).wf = true → (Lit.int .i64 a1_3).wf = true → (Lit.int .i64 a1_4).wf = true → (Lit.int .i64 a1_5).wf = true → (Lit.int .i64 a1_6).wf = true → (Lit.int .i64 a1_7).wf = true → (Lit.int .i64 a1_8).wf = true → (Lit.int .i64 a1_9).wf = true → (Lit.int .i64 a1_10).wf = true → (l1_14.length * 16 ≤ 140737488351232 ∧ ∀ x_ ∈ l1_14, fit73 x_) → a1_15.size ≤ 140737488351232 → (Lit.int .i64 a2).wf = true → ∃ k, sternpostlaw08_SegBack.f k a0_0 a0_1 a1_0 a1_1 a1_2 a1_3 a1_4 a1_5 a1_6 a1_7 a1_8 a1_9 a1_10 a1_11 a1_12 a1_13 l1_14 a1_15 a2 = some true
theorem sternpostlaw08_SegBack.walk (P : sternpostlaw08_SegBack.Pure) (a0_0 : Int) (a0_1 : Int) (a1_0 : Int) (a1_1 : Int) (a1_2 : Int) (a1_3 : Int) (a1_4 : Int) (a1_5 : Int) (a1_6 : Int) (a1_7 : Int) (a1_8 : Int) (a1_9 : Int) (a1_10 : Int) (a1_11 : Bool) (a1_12 : Bool) (a1_13 : Bool) (A1_14 : Option Addr) (c1_14 : Nat) (l1_14 : List (S73)) (a1_15 : ByteArray) (a2 : Int) (w : World) (w0_0 : (Lit.int .i64 a0_0).wf = true) (w0_1 : (Lit.int .i64 a0_1).wf = true) (w1_0 : (Lit.int .i64 a1_0).wf = true) (w1_1 : (Lit.int .i64 a1_1).wf = true) (w1_2 : (Lit.int .i64 a1_2).wf = true) (w1_3 : (Lit.int .i64 a1_3).wf = true) (w1_4 : (Lit.int .i64 a1_4).wf = true) (w1_5 : (Lit.int .i64 a1_5).wf = true) (w1_6 : (Lit.int .i64 a1_6).wf = true) (w1_7 : (Lit.int .i64 a1_7).wf = true) (w1_8 : (Lit.int .i64 a1_8).wf = true) (w1_9 : (Lit.int .i64 a1_9).wf = true) (w1_10 : (Lit.int .i64 a1_10).wf = true) (hr1_14 : Kd.C k73 w A1_14 l1_14.length l1_14) (hc1_14 : l1_14.length ≤ c1_14) (w1_14 : (l1_14.length * 16 ≤ 140737488351232 ∧ ∀ x_ ∈ l1_14, fit73 x_)) (w1_15 : a1_15.size ≤ 140737488351232) (w2 : (Lit.int .i64 a2).wf = true) :
  Calls Try.prog 8 #[.agg #[.int .i64 a0_0, .int .i64 a0_1], .agg #[.int .i64 a1_0, .int .i64 a1_1, .int .i64 a1_2, .int .i64 a1_3, .int .i64 a1_4, .int .i64 a1_5, .int .i64 a1_6, .int .i64 a1_7, .int .i64 a1_8, .int .i64 a1_9, .int .i64 a1_10, .bool a1_11, .bool a1_12, .bool a1_13, .slice A1_14 l1_14.length c1_14, .string a1_15], .int .i64 a2] w fun e w' => e = .returned (.bool true) ∧ Below w.heap.size w w' := by
 obtain ⟨k, h⟩ := P a0_0 a0_1 a1_0 a1_1 a1_2 a1_3 a1_4 a1_5 a1_6 a1_7 a1_8 a1_9 a1_10 a1_11 a1_12 a1_13 l1_14 a1_15 a2 w0_0 w0_1 w1_0 w1_1 w1_2 w1_3 w1_4 w1_5 w1_6 w1_7 w1_8 w1_9 w1_10 w1_14 w1_15 w2
 refine (sternpostlaw08_SegBack.calls k a0_0 a0_1 a1_0 a1_1 a1_2 a1_3 a1_4 a1_5 a1_6 a1_7 a1_8 a1_9 a1_10 a1_11 a1_12 a1_13 _ _ l1_14 a1_15 a2 true w hr1_14 hc1_14 h rfl).mono ?_
 rintro e w' ⟨rfl, hd⟩
 exact ⟨rfl, hd⟩

end Go.Proofs.Ytakajeoeijnmhaa.PSegBack

-- Laid by this claim's own program over the print's words.
import Derived.Test.YtckgcjjehahkiaaPIcmpTellsx0
import Derived.Test.YtckgcjjehahkiaaPIcmpTellsx8
import Derived.Test.YtckgcjjehahkiaaPIcmpTellsx9
namespace Go.Proofs.Ytckgcjjehahkiaa.PIcmpTells
open Go.RowKit Go.Proofs.YtckgcjjehahkiaaW.PrintWords Go.Proofs.YtckgcjjehahkiaaW.PrintLast Go.Proofs.YtckgcjjehahkiaaW.PrintMore
attribute [local go_sem] max2_int min2_int max_two min_two max_three min_three max_four min_four extract_cut tmod_nat_lit   -- for this text's walks alone
set_option linter.unusedVariables false
set_option linter.unusedSimpArgs false

/-! ### sternpostref05_Bytes: function 32 -/
def sternpostref05_Bytes_l1 (n : Int) : List Int := [(wrap64 (64 + (wrap64 (Int.tdiv (wrap64 (20 + n)) 4)))) % 256, 0]
def sternpostref05_Bytes_l2 (c2 c3 : Int) : List Int := [c2 % 256, c3 % 256, 0, 0]
def sternpostref05_Bytes_RB (n c2 c3 : Int) (i : Nat) (w : World) (v : Value) : Prop := AnyOrder.RowAt (if i = 4 then sternpostref05_Bytes_l1 n else sternpostref05_Bytes_l2 c2 c3) w v
theorem sternpostref05_Bytes_RB_keep {n c2 c3 : Int} : ∀ (i : Nat) (w w' : World) (v : Value), Below w.heap.size w w' → sternpostref05_Bytes_RB n c2 c3 i w v → sternpostref05_Bytes_RB n c2 c3 i w' v := fun i w w' v hb h => h.keep hb
def sternpostref05_Bytes_tail.f (k : Nat) (x3 c0 c1 c2 c3 c4 c5 : Int) (c6 c7 : Bool) (c8 c9 : ByteArray) : Option ByteArray :=
 (sternpostref02_Text.f k (wrap64 (wrap64 (20 + (c8.size : Int)) + (c9.size : Int))) 2).bind fun t1 => (sternpostref02_Text.f k c4 2).bind fun t2 => (sternpostref02_Text.f k x3 2).bind fun t3 => (sternpostref02_Text.f k c0 4).bind fun t4 => (sternpostref02_Text.f k c1 4).bind fun t5 =>
 if (strOfNums (sternpostref05_Bytes_l1 (c8.size : Int))).size + t1.size + t2.size + t3.size + (strOfNums (sternpostref05_Bytes_l2 c2 c3)).size + t4.size + t5.size + c8.size ≤ 9223372036854775807 then (sternpostref02_Sealed.f k (strOfNums (sternpostref05_Bytes_l1 (c8.size : Int)) ++ t1 ++ t2 ++ t3 ++ strOfNums (sternpostref05_Bytes_l2 c2 c3) ++ t4 ++ t5 ++ c8) 10).bind fun s => if s.size + c9.size ≤ 9223372036854775807 then some (s ++ c9) else none else none
theorem sternpostref05_Bytes_tail.mono (x3 c0 c1 c2 c3 c4 c5 : Int) (c6 c7 : Bool) (c8 c9 : ByteArray) (k : Nat) : LeO (sternpostref05_Bytes_tail.f k x3 c0 c1 c2 c3 c4 c5 c6 c7 c8 c9) (sternpostref05_Bytes_tail.f (k + 1) x3 c0 c1 c2 c3 c4 c5 c6 c7 c8 c9) := by
 unfold sternpostref05_Bytes_tail.f
 exact LeO.bind (sternpostref02_Text.mono _ _ _) fun _ => LeO.bind (sternpostref02_Text.mono _ _ _) fun _ => LeO.bind (sternpostref02_Text.mono _ _ _) fun _ => LeO.bind (sternpostref02_Text.mono _ _ _) fun _ => LeO.bind (sternpostref02_Text.mono _ _ _) fun _ => LeO.ite (LeO.bind (sternpostref02_Sealed.mono _ _ _) fun _ => LeO.refl _) (LeO.none _)

mutual
def sternpostref05_Bytes.j0 : Nat → Int → Int → Int → Int → Int → Int → Int → Bool → Bool → ByteArray → ByteArray → Option (ByteArray)
 | 0, _, _, _, _, _, _, _, _, _, _, _ => none
 | k + 1, x3, x179000, x179001, x179002, x179003, x179004, x179005, x179006, x179007, x179008, x179009 => if x179006 = true then (sternpostref05_Bytes.j1 k (wrap64 (x3 + 8192)) x179000 x179001 x179002 x179003 x179004 x179005 x179006 x179007 x179008 x179009) else (sternpostref05_Bytes.j1 k x3 x179000 x179001 x179002 x179003 x179004 x179005 x179006 x179007 x179008 x179009)
def sternpostref05_Bytes.j1 : Nat → Int → Int → Int → Int → Int → Int → Int → Bool → Bool → ByteArray → ByteArray → Option (ByteArray)
 | 0, _, _, _, _, _, _, _, _, _, _, _ => none
 | k + 1, x3, x179000, x179001, x179002, x179003, x179004, x179005, x179006, x179007, x179008, x179009 => sternpostref05_Bytes_tail.f k x3 x179000 x179001 x179002 x179003 x179004 x179005 x179006 x179007 x179008 x179009
end
def sternpostref05_Bytes.f (k : Nat) (a0_0 : Int) (a0_1 : Int) (a0_2 : Int) (a0_3 : Int) (a0_4 : Int) (a0_5 : Int) (a0_6 : Bool) (a0_7 : Bool) (a0_8 : ByteArray) (a0_9 : ByteArray) : Option (ByteArray) := if a0_7 = true then (sternpostref05_Bytes.j0 k (wrap64 (a0_5 + 16384)) a0_0 a0_1 a0_2 a0_3 a0_4 a0_5 a0_6 a0_7 a0_8 a0_9) else (sternpostref05_Bytes.j0 k a0_5 a0_0 a0_1 a0_2 a0_3 a0_4 a0_5 a0_6 a0_7 a0_8 a0_9)
theorem sternpostref05_Bytes.mono_l : ∀ k, (∀ y0 y1 y2 y3 y4 y5 y6 y7 y8 y9 y10, LeO (sternpostref05_Bytes.j0 k y0 y1 y2 y3 y4 y5 y6 y7 y8 y9 y10) (sternpostref05_Bytes.j0 (k + 1) y0 y1 y2 y3 y4 y5 y6 y7 y8 y9 y10)) ∧ (∀ y0 y1 y2 y3 y4 y5 y6 y7 y8 y9 y10, LeO (sternpostref05_Bytes.j1 k y0 y1 y2 y3 y4 y5 y6 y7 y8 y9 y10) (sternpostref05_Bytes.j1 (k + 1) y0 y1 y2 y3 y4 y5 y6 y7 y8 y9 y10))
 | 0 => ⟨fun _ _ _ _ _ _ _ _ _ _ _ r h => by simp [sternpostref05_Bytes.j0] at h, fun _ _ _ _ _ _ _ _ _ _ _ r h => by simp [sternpostref05_Bytes.j1] at h⟩
 | k + 1 => by
  obtain ⟨ih0, ih1⟩ := sternpostref05_Bytes.mono_l k
  refine ⟨?_, ?_⟩
  ·intro y0 y1 y2 y3 y4 y5 y6 y7 y8 y9 y10
   unfold sternpostref05_Bytes.j0
   repeat' first
   | (with_reducible exact ih0 _ _ _ _ _ _ _ _ _ _ _)
   | (with_reducible exact ih1 _ _ _ _ _ _ _ _ _ _ _)
   | (with_reducible exact sternpostref05_Bytes_tail.mono _ _ _ _ _ _ _ _ _ _ _ _)
   | (with_reducible exact LeO.refl _)
   | (with_reducible exact LeO.none _)
   | (with_reducible refine LeO.ite ?_ ?_)
   | (with_reducible refine LeO.bind ?_ (fun _ => ?_))
   | exact ih0 _ _ _ _ _ _ _ _ _ _ _
   | exact ih1 _ _ _ _ _ _ _ _ _ _ _
   | exact sternpostref05_Bytes_tail.mono _ _ _ _ _ _ _ _ _ _ _ _
   | exact LeO.none _
   | refine LeO.ite ?_ ?_
   | refine LeO.bind ?_ (fun _ => ?_)
  ·intro y0 y1 y2 y3 y4 y5 y6 y7 y8 y9 y10
   unfold sternpostref05_Bytes.j1
   repeat' first
   | (with_reducible exact ih0 _ _ _ _ _ _ _ _ _ _ _)
   | (with_reducible exact ih1 _ _ _ _ _ _ _ _ _ _ _)
   | (with_reducible exact sternpostref05_Bytes_tail.mono _ _ _ _ _ _ _ _ _ _ _ _)
   | (with_reducible exact LeO.refl _)
   | (with_reducible exact LeO.none _)
   | (with_reducible refine LeO.ite ?_ ?_)
   | (with_reducible refine LeO.bind ?_ (fun _ => ?_))
   | exact ih0 _ _ _ _ _ _ _ _ _ _ _
   | exact ih1 _ _ _ _ _ _ _ _ _ _ _
   | exact sternpostref05_Bytes_tail.mono _ _ _ _ _ _ _ _ _ _ _ _
   | exact LeO.none _
   | refine LeO.ite ?_ ?_
   | refine LeO.bind ?_ (fun _ => ?_)
theorem sternpostref05_Bytes.mono : ∀ a0 a1 a2 a3 a4 a5 a6 a7 a8 a9 k, LeO (sternpostref05_Bytes.f k a0 a1 a2 a3 a4 a5 a6 a7 a8 a9) (sternpostref05_Bytes.f (k + 1) a0 a1 a2 a3 a4 a5 a6 a7 a8 a9) := by
 intro a0 a1 a2 a3 a4 a5 a6 a7 a8 a9 k
 obtain ⟨ih0, ih1⟩ := sternpostref05_Bytes.mono_l k
 unfold sternpostref05_Bytes.f
 repeat' first
   | (with_reducible exact ih0 _ _ _ _ _ _ _ _ _ _ _)
   | (with_reducible exact ih1 _ _ _ _ _ _ _ _ _ _ _)
   | (with_reducible exact sternpostref05_Bytes_tail.mono _ _ _ _ _ _ _ _ _ _ _ _)
   | (with_reducible exact LeO.refl _)
   | (with_reducible exact LeO.none _)
   | (with_reducible refine LeO.ite ?_ ?_)
   | (with_reducible refine LeO.bind ?_ (fun _ => ?_))
   | exact ih0 _ _ _ _ _ _ _ _ _ _ _
   | exact ih1 _ _ _ _ _ _ _ _ _ _ _
   | exact sternpostref05_Bytes_tail.mono _ _ _ _ _ _ _ _ _ _ _ _
   | exact LeO.none _
   | refine LeO.ite ?_ ?_
   | refine LeO.bind ?_ (fun _ => ?_)
set_option maxHeartbeats 8000000 in
set_option maxRecDepth 100000 in
theorem sternpostref05_Bytes.calls (k : Nat) (a0_0 : Int) (a0_1 : Int) (a0_2 : Int) (a0_3 : Int) (a0_4 : Int) (a0_5 : Int) (a0_6 : Bool) (a0_7 : Bool) (a0_8 : ByteArray) (a0_9 : ByteArray) (r : ByteArray) (w : World) (h : sternpostref05_Bytes.f k a0_0 a0_1 a0_2 a0_3 a0_4 a0_5 a0_6 a0_7 a0_8 a0_9 = some r) :
  Calls Try.prog 32 #[.agg #[.int .i64 a0_0, .int .i64 a0_1, .int .i64 a0_2, .int .i64 a0_3, .int .i64 a0_4, .int .i64 a0_5, .bool a0_6, .bool a0_7, .string a0_8, .string a0_9]] w fun e w' => e = .returned (.string r) ∧ Below w.heap.size w w' := by
 have hu39 := Try.underlying39
 have HB := Aside0.mk (Below.refl w.heap.size w)
 have H : (if a0_7 = true then (sternpostref05_Bytes.j0 k (wrap64 (a0_5 + 16384)) a0_0 a0_1 a0_2 a0_3 a0_4 a0_5 a0_6 a0_7 a0_8 a0_9) else (sternpostref05_Bytes.j0 k a0_5 a0_0 a0_1 a0_2 a0_3 a0_4 a0_5 a0_6 a0_7 a0_8 a0_9)) = some r := h
 clear h
 have HC2 := Aside0.mk H
 clear H
 go_enter Try.func32, Try.ntmps32
 go_upto_if 9 with (first | ((with_reducible refine gate_dst (N := 1) rfl ?_); refine box_event ?hg (N := 1) ?hd (cs := #[.int .i64 a0_0, .int .i64 a0_1, .int .i64 a0_2, .int .i64 a0_3, .int .i64 a0_4, .int .i64 a0_5, .bool a0_6, .bool a0_7, .string a0_8, .string a0_9]) (t := 39) ?hr ?_; (case hd => rfl); (case hg => rfl); (case hr => first | (go_simp; done) | (go_simp; rfl)); intro gb178 hg w3 hbox hb; have n0_ := Aside0.mk (below_step (by repeat (first | (with_reducible first | exact HB.out | apply below_alloc | apply pw_below_drewN | apply below_drew1) | exact HB.out)) hb); have n1_ := Aside0.mk (hbox); have n2_ := Aside0.mk ((by rw [hg]; exact (below_size (by repeat (first | (with_reducible first | exact HB.out | apply below_alloc | apply pw_below_drewN | apply below_drew1) | exact HB.out))) : w.heap.size ≤ gb178)); have n3_ := Aside0.mk ((by rw [hg]; exact (below_size (by repeat (first | (with_reducible first | exact HB.out | apply below_alloc | apply pw_below_drewN | apply below_drew1) | exact HB.out))) : w.heap.size ≤ gb178)); clear HB; have HB := n0_; have BK178 := n1_; have GW178 := n2_; have GE178 := n3_; clear n0_ n1_ n2_ n3_; clear hb hbox hg; have hcz4_0 : w3.cell? ⟨gb178, 0, none⟩ = some (.int .i64 a0_0) := (blk_cell BK178.out 0).trans rfl; have hcz4_1 : w3.cell? ⟨gb178, 1, none⟩ = some (.int .i64 a0_1) := (blk_cell BK178.out 1).trans rfl; have hcz4_2 : w3.cell? ⟨gb178, 2, none⟩ = some (.int .i64 a0_2) := (blk_cell BK178.out 2).trans rfl; have hcz4_3 : w3.cell? ⟨gb178, 3, none⟩ = some (.int .i64 a0_3) := (blk_cell BK178.out 3).trans rfl; have hcz4_4 : w3.cell? ⟨gb178, 4, none⟩ = some (.int .i64 a0_4) := (blk_cell BK178.out 4).trans rfl; have hcz4_5 : w3.cell? ⟨gb178, 5, none⟩ = some (.int .i64 a0_5) := (blk_cell BK178.out 5).trans rfl; have hcz4_6 : w3.cell? ⟨gb178, 6, none⟩ = some (.bool a0_6) := (blk_cell BK178.out 6).trans rfl; have hcz4_7 : w3.cell? ⟨gb178, 7, none⟩ = some (.bool a0_7) := (blk_cell BK178.out 7).trans rfl; have hcz4_8 : w3.cell? ⟨gb178, 8, none⟩ = some (.string a0_8) := (blk_cell BK178.out 8).trans rfl; have hcz4_9 : w3.cell? ⟨gb178, 9, none⟩ = some (.string a0_9) := (blk_cell BK178.out 9).trans rfl; have hfz4_0 := blk_frozen BK178.out 0; have hfz4_1 := blk_frozen BK178.out 1; have hfz4_2 := blk_frozen BK178.out 2; have hfz4_3 := blk_frozen BK178.out 3; have hfz4_4 := blk_frozen BK178.out 4; have hfz4_5 := blk_frozen BK178.out 5; have hfz4_6 := blk_frozen BK178.out 6; have hfz4_7 := blk_frozen BK178.out 7; have hfz4_8 := blk_frozen BK178.out 8; have hfz4_9 := blk_frozen BK178.out 9))
 (try simp only [Act.put, List.setIfInBounds_toArray, List.set_cons_zero, List.set_cons_succ])
 go_cut [3] (fun v3 wc => ∃ (kq : Nat) (x3_1 : Int), v3 = .int .i64 x3_1 ∧ Aside0 (sternpostref05_Bytes.j0 kq x3_1 a0_0 a0_1 a0_2 a0_3 a0_4 a0_5 a0_6 a0_7 a0_8 a0_9 = some r) ∧ Aside0 (kq ≤ k) ∧ Aside0 (wc.heap[gb178]? = some (.cells #[.int .i64 a0_0, .int .i64 a0_1, .int .i64 a0_2, .int .i64 a0_3, .int .i64 a0_4, .int .i64 a0_5, .bool a0_6, .bool a0_7, .string a0_8, .string a0_9] 39 (0, 0))) ∧ Aside0 (Below w.heap.size w wc))
 case first =>
  have H := HC2.out
  clear HC2
  by_cases c5 : a0_7 = true
  ·subst c5
   have H1 : (sternpostref05_Bytes.j0 k (wrap64 (a0_5 + 16384)) a0_0 a0_1 a0_2 a0_3 a0_4 a0_5 a0_6 true a0_8 a0_9) = some r := by rw [if_pos rfl] at H; exact H
   clear H
   have H := H1
   clear H1
   have H' := Aside0.mk H
   clear H
   go_wp2
   go_meet
   case rel => exact ⟨_, (wrap64 (a0_5 + 16384)), (by first | rfl | (simp; done) | (simp [*]; done)), H', ⟨by first | omega | exact Nat.le_refl _⟩, ⟨by (with_reducible repeat (first | refine blk_drewN ?_ _ | refine blk_drew ?_ | refine blk_alloc ?_ _)); exact BK178.out⟩, ⟨by repeat (first | (with_reducible first | exact HB.out | apply below_alloc | apply pw_below_drewN | apply below_drew1 | refine below_set ?_ GE178.out) | exact HB.out)⟩⟩
  ·replace c5 := Bool.eq_false_iff.mpr c5
   subst c5
   have H1 : (sternpostref05_Bytes.j0 k a0_5 a0_0 a0_1 a0_2 a0_3 a0_4 a0_5 a0_6 false a0_8 a0_9) = some r := by rw [if_neg (show ¬ (false = true) by decide)] at H; exact H
   clear H
   have H := H1
   clear H1
   have H' := Aside0.mk H
   clear H
   go_wp2
   go_meet
   case rel => exact ⟨_, (a0_5), (by first | rfl | (simp; done) | (simp [*]; done)), H', ⟨by first | omega | exact Nat.le_refl _⟩, ⟨by (with_reducible repeat (first | refine blk_drewN ?_ _ | refine blk_drew ?_ | refine blk_alloc ?_ _)); exact BK178.out⟩, ⟨by repeat (first | (with_reducible first | exact HB.out | apply below_alloc | apply pw_below_drewN | apply below_drew1 | refine below_set ?_ GE178.out) | exact HB.out)⟩⟩
 case rest =>
  clear HC2
  try clear p2; try clear c3; try clear c5; try clear hcz4_0; try clear hcz4_1; try clear hcz4_2; try clear hcz4_3; try clear hcz4_4; try clear hcz4_5; try clear hcz4_6; try clear hcz4_7; try clear hcz4_8; try clear hcz4_9; try clear hfz4_0; try clear hfz4_1; try clear hfz4_2; try clear hfz4_3; try clear hfz4_4; try clear hfz4_5; try clear hfz4_6; try clear hfz4_7; try clear hfz4_8; try clear hfz4_9
  obtain ⟨kq, x3_1, rfl, HA, HJ1, BK178, HB⟩ := hcut
  cases kq with
  | zero => exact absurd HA.out (by simp [sternpostref05_Bytes.j0])
  | succ kj1 =>
   have H := HA.out
   clear HA
   simp only [sternpostref05_Bytes.j0] at H
   have HC6 := Aside0.mk H
   clear H
   have hcz7_0 : wc.cell? ⟨gb178, 0, none⟩ = some (.int .i64 a0_0) := (blk_cell BK178.out 0).trans rfl
   have hcz7_1 : wc.cell? ⟨gb178, 1, none⟩ = some (.int .i64 a0_1) := (blk_cell BK178.out 1).trans rfl
   have hcz7_2 : wc.cell? ⟨gb178, 2, none⟩ = some (.int .i64 a0_2) := (blk_cell BK178.out 2).trans rfl
   have hcz7_3 : wc.cell? ⟨gb178, 3, none⟩ = some (.int .i64 a0_3) := (blk_cell BK178.out 3).trans rfl
   have hcz7_4 : wc.cell? ⟨gb178, 4, none⟩ = some (.int .i64 a0_4) := (blk_cell BK178.out 4).trans rfl
   have hcz7_5 : wc.cell? ⟨gb178, 5, none⟩ = some (.int .i64 a0_5) := (blk_cell BK178.out 5).trans rfl
   have hcz7_6 : wc.cell? ⟨gb178, 6, none⟩ = some (.bool a0_6) := (blk_cell BK178.out 6).trans rfl
   have hcz7_7 : wc.cell? ⟨gb178, 7, none⟩ = some (.bool a0_7) := (blk_cell BK178.out 7).trans rfl
   have hcz7_8 : wc.cell? ⟨gb178, 8, none⟩ = some (.string a0_8) := (blk_cell BK178.out 8).trans rfl
   have hcz7_9 : wc.cell? ⟨gb178, 9, none⟩ = some (.string a0_9) := (blk_cell BK178.out 9).trans rfl
   have hfz7_0 := blk_frozen BK178.out 0
   have hfz7_1 := blk_frozen BK178.out 1
   have hfz7_2 := blk_frozen BK178.out 2
   have hfz7_3 := blk_frozen BK178.out 3
   have hfz7_4 := blk_frozen BK178.out 4
   have hfz7_5 := blk_frozen BK178.out 5
   have hfz7_6 := blk_frozen BK178.out 6
   have hfz7_7 := blk_frozen BK178.out 7
   have hfz7_8 := blk_frozen BK178.out 8
   have hfz7_9 := blk_frozen BK178.out 9
   go_upto_if 13 with (fail)
   go_cut [3] (fun v3 wc => ∃ (kq : Nat) (x3_5 : Int), v3 = .int .i64 x3_5 ∧ Aside0 (sternpostref05_Bytes.j1 kq x3_5 a0_0 a0_1 a0_2 a0_3 a0_4 a0_5 a0_6 a0_7 a0_8 a0_9 = some r) ∧ Aside0 (kq ≤ kj1) ∧ Aside0 (wc.heap[gb178]? = some (.cells #[.int .i64 a0_0, .int .i64 a0_1, .int .i64 a0_2, .int .i64 a0_3, .int .i64 a0_4, .int .i64 a0_5, .bool a0_6, .bool a0_7, .string a0_8, .string a0_9] 39 (0, 0))) ∧ Aside0 (Below w.heap.size w wc))
   case first =>
    have H := HC6.out
    clear HC6
    by_cases c8 : a0_6 = true
    ·subst c8
     have H1 : (sternpostref05_Bytes.j1 kj1 (wrap64 (x3_1 + 8192)) a0_0 a0_1 a0_2 a0_3 a0_4 a0_5 true a0_7 a0_8 a0_9) = some r := by rw [if_pos rfl] at H; exact H
     clear H
     have H := H1
     clear H1
     have H' := Aside0.mk H
     clear H
     go_wp2
     go_meet
     case rel => exact ⟨_, (wrap64 (x3_1 + 8192)), (by first | rfl | (simp; done) | (simp [*]; done)), H', ⟨by have := HJ1.out; first | omega | exact Nat.le_refl _⟩, ⟨by (with_reducible repeat (first | refine blk_drewN ?_ _ | refine blk_drew ?_ | refine blk_alloc ?_ _)); exact BK178.out⟩, ⟨by repeat (first | (with_reducible first | exact HB.out | apply below_alloc | apply pw_below_drewN | apply below_drew1 | refine below_set ?_ GE178.out) | exact HB.out)⟩⟩
    ·replace c8 := Bool.eq_false_iff.mpr c8
     subst c8
     have H1 : (sternpostref05_Bytes.j1 kj1 x3_1 a0_0 a0_1 a0_2 a0_3 a0_4 a0_5 false a0_7 a0_8 a0_9) = some r := by rw [if_neg (show ¬ (false = true) by decide)] at H; exact H
     clear H
     have H := H1
     clear H1
     have H' := Aside0.mk H
     clear H
     go_wp2
     go_meet
     case rel => exact ⟨_, (x3_1), (by first | rfl | (simp; done) | (simp [*]; done)), H', ⟨by have := HJ1.out; first | omega | exact Nat.le_refl _⟩, ⟨by (with_reducible repeat (first | refine blk_drewN ?_ _ | refine blk_drew ?_ | refine blk_alloc ?_ _)); exact BK178.out⟩, ⟨by repeat (first | (with_reducible first | exact HB.out | apply below_alloc | apply pw_below_drewN | apply below_drew1 | refine below_set ?_ GE178.out) | exact HB.out)⟩⟩
   case rest =>
    clear HC6
    try clear p2; try clear c3; try clear c5; try clear p6; try clear c8; try clear hcz4_0; try clear hcz4_1; try clear hcz4_2; try clear hcz4_3; try clear hcz4_4; try clear hcz4_5; try clear hcz4_6; try clear hcz4_7; try clear hcz4_8; try clear hcz4_9; try clear hcz7_0; try clear hcz7_1; try clear hcz7_2; try clear hcz7_3; try clear hcz7_4; try clear hcz7_5; try clear hcz7_6; try clear hcz7_7; try clear hcz7_8; try clear hcz7_9; try clear hfz4_0; try clear hfz4_1; try clear hfz4_2; try clear hfz4_3; try clear hfz4_4; try clear hfz4_5; try clear hfz4_6; try clear hfz4_7; try clear hfz4_8; try clear hfz4_9; try clear hfz7_0; try clear hfz7_1; try clear hfz7_2; try clear hfz7_3; try clear hfz7_4; try clear hfz7_5; try clear hfz7_6; try clear hfz7_7; try clear hfz7_8; try clear hfz7_9; try clear p2
    obtain ⟨kq, x3_5, rfl, HA, HJ5, BK178, HB⟩ := hcut
    cases kq with
    | zero => exact absurd HA.out (by simp [sternpostref05_Bytes.j1])
    | succ kj5 =>
     have H := HA.out
     clear HA
     simp only [sternpostref05_Bytes.j1] at H
     have hcz9_0 : wc.cell? ⟨gb178, 0, none⟩ = some (.int .i64 a0_0) := (blk_cell BK178.out 0).trans rfl
     have hcz9_1 : wc.cell? ⟨gb178, 1, none⟩ = some (.int .i64 a0_1) := (blk_cell BK178.out 1).trans rfl
     have hcz9_2 : wc.cell? ⟨gb178, 2, none⟩ = some (.int .i64 a0_2) := (blk_cell BK178.out 2).trans rfl
     have hcz9_3 : wc.cell? ⟨gb178, 3, none⟩ = some (.int .i64 a0_3) := (blk_cell BK178.out 3).trans rfl
     have hcz9_4 : wc.cell? ⟨gb178, 4, none⟩ = some (.int .i64 a0_4) := (blk_cell BK178.out 4).trans rfl
     have hcz9_5 : wc.cell? ⟨gb178, 5, none⟩ = some (.int .i64 a0_5) := (blk_cell BK178.out 5).trans rfl
     have hcz9_6 : wc.cell? ⟨gb178, 6, none⟩ = some (.bool a0_6) := (blk_cell BK178.out 6).trans rfl
     have hcz9_7 : wc.cell? ⟨gb178, 7, none⟩ = some (.bool a0_7) := (blk_cell BK178.out 7).trans rfl
     have hcz9_8 : wc.cell? ⟨gb178, 8, none⟩ = some (.string a0_8) := (blk_cell BK178.out 8).trans rfl
     have hcz9_9 : wc.cell? ⟨gb178, 9, none⟩ = some (.string a0_9) := (blk_cell BK178.out 9).trans rfl
     have hfz9_0 := blk_frozen BK178.out 0
     have hfz9_1 := blk_frozen BK178.out 1
     have hfz9_2 := blk_frozen BK178.out 2
     have hfz9_3 := blk_frozen BK178.out 3
     have hfz9_4 := blk_frozen BK178.out 4
     have hfz9_5 := blk_frozen BK178.out 5
     have hfz9_6 := blk_frozen BK178.out 6
     have hfz9_7 := blk_frozen BK178.out 7
     have hfz9_8 := blk_frozen BK178.out 8
     have hfz9_9 := blk_frozen BK178.out 9
     go_wp2
     have HBt := Aside0.mk (show Below w.heap.size w _ from by repeat (first | (with_reducible first | exact HB.out | apply below_alloc | apply pw_below_drewN | apply below_drew1 | refine below_set ?_ GE178.out) | exact HB.out))
     unfold sternpostref05_Bytes_tail.f at H
     obtain ⟨t1, H1, H⟩ := Option.bind_eq_some_iff.mp H
     have A1 := Aside0.mk H1
     clear H1
     obtain ⟨t2, H2, H⟩ := Option.bind_eq_some_iff.mp H
     have A2 := Aside0.mk H2
     clear H2
     obtain ⟨t3, H3, H⟩ := Option.bind_eq_some_iff.mp H
     have A3 := Aside0.mk H3
     clear H3
     obtain ⟨t4, H4, H⟩ := Option.bind_eq_some_iff.mp H
     have A4 := Aside0.mk H4
     clear H4
     obtain ⟨t5, H5, H⟩ := Option.bind_eq_some_iff.mp H
     have A5 := Aside0.mk H5
     clear H5
     by_cases cz : (strOfNums (sternpostref05_Bytes_l1 (a0_8.size : Int))).size + t1.size + t2.size + t3.size + (strOfNums (sternpostref05_Bytes_l2 a0_2 a0_3)).size + t4.size + t5.size + a0_8.size ≤ 9223372036854775807
     case neg => rw [if_neg cz] at H; cases H
     case pos =>
      rw [if_pos cz] at H
      have HT := Aside0.mk H
      clear H
      have cz_ := Aside0.mk cz
      clear cz
      have same : ∀ W', Below wc.heap.size wc W' → Below W'.heap.size W' W' := fun W' _ => Below.refl _ _
      refine AnyOrder.region_each (C := fun W' => Below wc.heap.size wc W') (G := fun W1 W2 => Below W1.heap.size W1 W2) (T := [4, 26]) (R := sternpostref05_Bytes_RB (a0_8.size : Int) a0_2 a0_3) (vs := [(.int .i64 (wrap64 (20 + (a0_8.size : Int)))), (.int .i64 (wrap64 (Int.tdiv (wrap64 (20 + (a0_8.size : Int))) 4))), (.int .i64 (wrap64 (64 + (wrap64 (Int.tdiv (wrap64 (20 + (a0_8.size : Int))) 4))))), (.int .u8 ((wrap64 (64 + (wrap64 (Int.tdiv (wrap64 (20 + (a0_8.size : Int))) 4)))) % 256)), undef, (.string (strOfNums (sternpostref05_Bytes_l1 (a0_8.size : Int)))), (.int .i64 (wrap64 (20 + (a0_8.size : Int)))), (.pointer (some ⟨gb178, 9, none⟩)), (.string a0_9), (.int .i64 (a0_9.size : Int)), (.int .i64 (wrap64 ((wrap64 (20 + (a0_8.size : Int))) + (a0_9.size : Int)))), (.string t1), (.string (strOfNums (sternpostref05_Bytes_l1 (a0_8.size : Int)) ++ t1)), (.pointer (some ⟨gb178, 4, none⟩)), (.int .i64 a0_4), (.string t2), (.string (strOfNums (sternpostref05_Bytes_l1 (a0_8.size : Int)) ++ t1 ++ t2)), (.int .i64 x3_5), (.string t3), (.string (strOfNums (sternpostref05_Bytes_l1 (a0_8.size : Int)) ++ t1 ++ t2 ++ t3)), (.pointer (some ⟨gb178, 2, none⟩)), (.int .i64 a0_2), (.int .u8 (a0_2 % 256)), (.pointer (some ⟨gb178, 3, none⟩)), (.int .i64 a0_3), (.int .u8 (a0_3 % 256)), undef, (.string (strOfNums (sternpostref05_Bytes_l2 a0_2 a0_3))), (.string (strOfNums (sternpostref05_Bytes_l1 (a0_8.size : Int)) ++ t1 ++ t2 ++ t3 ++ strOfNums (sternpostref05_Bytes_l2 a0_2 a0_3))), (.pointer (some ⟨gb178, 0, none⟩)), (.int .i64 a0_0), (.string t4), (.string (strOfNums (sternpostref05_Bytes_l1 (a0_8.size : Int)) ++ t1 ++ t2 ++ t3 ++ strOfNums (sternpostref05_Bytes_l2 a0_2 a0_3) ++ t4)), (.pointer (some ⟨gb178, 1, none⟩)), (.int .i64 a0_1), (.string t5), (.string (strOfNums (sternpostref05_Bytes_l1 (a0_8.size : Int)) ++ t1 ++ t2 ++ t3 ++ strOfNums (sternpostref05_Bytes_l2 a0_2 a0_3) ++ t4 ++ t5)), (.pointer (some ⟨gb178, 8, none⟩)), (.string a0_8), (.string (strOfNums (sternpostref05_Bytes_l1 (a0_8.size : Int)) ++ t1 ++ t2 ++ t3 ++ strOfNums (sternpostref05_Bytes_l2 a0_2 a0_3) ++ t4 ++ t5 ++ a0_8)), (.string (strOfNums (sternpostref05_Bytes_l1 (a0_8.size : Int)) ++ t1 ++ t2 ++ t3 ++ strOfNums (sternpostref05_Bytes_l2 a0_2 a0_3) ++ t4 ++ t5 ++ a0_8))]) rfl (by kernel_rfl) (below_drew1 (Below.refl _ _)) same sternpostref05_Bytes_RB_keep (fun x => ?obs) ?fin
      case obs =>
       refine AnyOrder.obs_cons (.int .i64 (wrap64 (20 + (a0_8.size : Int)))) rfl (AnyOrder.ob_quiet (d := 20) rfl (show (20 : Nat) < 65 by omega) rfl rfl same (fun _ => ⟨pure _, rfl⟩) ?_) ?_
       ·go_big_quiet_op; first | rfl | exact ⟨_, fun _ _ => rfl, rfl⟩
       try simp only [Act.put, List.setIfInBounds_toArray, List.set_cons_zero, List.set_cons_succ]
       refine AnyOrder.obs_cons (.int .i64 (wrap64 (Int.tdiv (wrap64 (20 + (a0_8.size : Int))) 4))) rfl (AnyOrder.ob_quiet (d := 21) rfl (show (21 : Nat) < 65 by omega) rfl rfl same (fun _ => ⟨_, rfl⟩) ?_) ?_
       ·go_big_quiet_op; first | rfl | exact ⟨_, fun _ _ => rfl, rfl⟩
       try simp only [Act.put, List.setIfInBounds_toArray, List.set_cons_zero, List.set_cons_succ]
       refine AnyOrder.obs_cons (.int .i64 (wrap64 (64 + (wrap64 (Int.tdiv (wrap64 (20 + (a0_8.size : Int))) 4))))) rfl (AnyOrder.ob_quiet (d := 22) rfl (show (22 : Nat) < 65 by omega) rfl rfl same (fun _ => ⟨_, rfl⟩) ?_) ?_
       ·go_big_quiet_op; first | rfl | exact ⟨_, fun _ _ => rfl, rfl⟩
       try simp only [Act.put, List.setIfInBounds_toArray, List.set_cons_zero, List.set_cons_succ]
       refine AnyOrder.obs_cons (.int .u8 ((wrap64 (64 + (wrap64 (Int.tdiv (wrap64 (20 + (a0_8.size : Int))) 4)))) % 256)) rfl (AnyOrder.ob_quiet (d := 23) rfl (show (23 : Nat) < 65 by omega) rfl rfl same (fun _ => ⟨_, rfl⟩) ?_) ?_
       ·go_big_quiet_op; first | rfl | exact ⟨_, fun _ _ => rfl, rfl⟩
       try simp only [Act.put, List.setIfInBounds_toArray, List.set_cons_zero, List.set_cons_succ]
       refine AnyOrder.obs_cons (x 4) rfl (AnyOrder.ob_token rfl rfl (fun W' hW => ⟨.slice (some ⟨W'.heap.size, 0, none⟩) 2 2, W'.alloc (.cells #[(.int .u8 ((wrap64 (64 + (wrap64 (Int.tdiv (wrap64 (20 + (a0_8.size : Int))) 4)))) % 256)), .int .u8 0] 5), ?run, below_alloc hW _, below_alloc (Below.refl _ _) _, W'.heap.size, rfl, by (show W'.heap.size < (W'.heap.push _).size); rw [Array.size_push]; exact Nat.lt_succ_self _, fun j hj => ?cell⟩)) ?_
       case run => clear same cz_ HT; (first | (go_simp; done) | (go_simp; rfl) | (simp [execOp, Act.eval, go_sem]; done) | skip)
       case cell => exact AnyOrder.row_cell W' (sternpostref05_Bytes_l1 (a0_8.size : Int)) 5 j hj
       try simp only [Act.put, List.setIfInBounds_toArray, List.set_cons_zero, List.set_cons_succ]
       refine AnyOrder.obs_cons (.string (strOfNums (sternpostref05_Bytes_l1 (a0_8.size : Int)))) rfl (AnyOrder.ob_reads 4 _ _ rfl rfl rfl (by kernel_rfl) rfl rfl same rfl (fun W' hW hR => ?_)) ?_
       ·obtain ⟨g, hx, hl, hc⟩ := hR
        have hcv := run_convert_bytes_arg (P := Try.prog) W' 35 5 Try.underlying35 Try.underlying5 g 0 _ (sternpostref05_Bytes_l1 (a0_8.size : Int)).length (sternpostref05_Bytes_l1 (a0_8.size : Int)) rfl hc 9 Try.underlying9; exact AnyOrder.run_conv rfl hx hcv
       try simp only [Act.put, List.setIfInBounds_toArray, List.set_cons_zero, List.set_cons_succ]
       refine AnyOrder.obs_cons (.int .i64 (wrap64 (20 + (a0_8.size : Int)))) rfl (AnyOrder.ob_quiet (d := 26) rfl (show (26 : Nat) < 65 by omega) rfl rfl same (fun _ => ⟨pure _, rfl⟩) ?_) ?_
       ·go_big_quiet_op; first | rfl | exact ⟨_, fun _ _ => rfl, rfl⟩
       try simp only [Act.put, List.setIfInBounds_toArray, List.set_cons_zero, List.set_cons_succ]
       refine AnyOrder.obs_cons (.pointer (some ⟨gb178, 9, none⟩)) rfl (AnyOrder.ob_quiet (d := 27) rfl (show (27 : Nat) < 65 by omega) rfl rfl same (fun _ => ⟨_, rfl⟩) ?_) ?_
       ·go_big_quiet_op; first | rfl | exact ⟨_, fun _ _ => rfl, rfl⟩
       try simp only [Act.put, List.setIfInBounds_toArray, List.set_cons_zero, List.set_cons_succ]
       refine AnyOrder.obs_cons (.string a0_9) rfl (AnyOrder.ob_quiet (d := 28) rfl (show (28 : Nat) < 65 by omega) rfl rfl same (fun _ => ⟨_, rfl⟩) ?_) ?_
       ·refine ⟨_, fun W' hW => ?_, rfl⟩; have hcz := (blk_cell (blk_below BK178.out hW) 9).trans rfl; unfold Oper.quietAt; go_simp; first | done | rfl | exact ⟨rfl, rfl⟩
       try simp only [Act.put, List.setIfInBounds_toArray, List.set_cons_zero, List.set_cons_succ]
       refine AnyOrder.obs_cons (.int .i64 (a0_9.size : Int)) rfl (AnyOrder.ob_quiet (d := 29) rfl (show (29 : Nat) < 65 by omega) rfl rfl same (fun _ => ⟨_, rfl⟩) ?_) ?_
       ·go_big_quiet_op; first | rfl | exact ⟨_, fun _ _ => rfl, rfl⟩
       try simp only [Act.put, List.setIfInBounds_toArray, List.set_cons_zero, List.set_cons_succ]
       refine AnyOrder.obs_cons (.int .i64 (wrap64 ((wrap64 (20 + (a0_8.size : Int))) + (a0_9.size : Int)))) rfl (AnyOrder.ob_quiet (d := 30) rfl (show (30 : Nat) < 65 by omega) rfl rfl same (fun _ => ⟨_, rfl⟩) ?_) ?_
       ·go_big_quiet_op; first | rfl | exact ⟨_, fun _ _ => rfl, rfl⟩
       try simp only [Act.put, List.setIfInBounds_toArray, List.set_cons_zero, List.set_cons_succ]
       refine AnyOrder.obs_cons (.string t1) rfl (AnyOrder.ob_call rfl rfl rfl 38 #[.int .i64 (wrap64 ((wrap64 (20 + (a0_8.size : Int))) + (a0_9.size : Int))), .int .i64 2] (fun W' hW => ?_) (fun W' hW => ?_)) ?_
       ·go_simp
       ·exact (sternpostref02_Text.calls kj5 (wrap64 ((wrap64 (20 + (a0_8.size : Int))) + (a0_9.size : Int))) 2 t1 W' A1.out).mono fun e w2 h2 => ⟨h2.1, below_step hW h2.2, h2.2⟩
       try simp only [Act.put, List.setIfInBounds_toArray, List.set_cons_zero, List.set_cons_succ]
       refine AnyOrder.obs_cons (.string (strOfNums (sternpostref05_Bytes_l1 (a0_8.size : Int)) ++ t1)) rfl (AnyOrder.ob_quiet (d := 32) rfl (show (32 : Nat) < 65 by omega) rfl rfl same (fun _ => ⟨_, rfl⟩) ?_) ?_
       ·have cz := cz_.out; go_big_quiet_op; first | rfl | exact ⟨_, fun _ _ => rfl, rfl⟩
       try simp only [Act.put, List.setIfInBounds_toArray, List.set_cons_zero, List.set_cons_succ]
       refine AnyOrder.obs_cons (.pointer (some ⟨gb178, 4, none⟩)) rfl (AnyOrder.ob_quiet (d := 33) rfl (show (33 : Nat) < 65 by omega) rfl rfl same (fun _ => ⟨_, rfl⟩) ?_) ?_
       ·go_big_quiet_op; first | rfl | exact ⟨_, fun _ _ => rfl, rfl⟩
       try simp only [Act.put, List.setIfInBounds_toArray, List.set_cons_zero, List.set_cons_succ]
       refine AnyOrder.obs_cons (.int .i64 a0_4) rfl (AnyOrder.ob_quiet (d := 34) rfl (show (34 : Nat) < 65 by omega) rfl rfl same (fun _ => ⟨_, rfl⟩) ?_) ?_
       ·refine ⟨_, fun W' hW => ?_, rfl⟩; have hcz := (blk_cell (blk_below BK178.out hW) 4).trans rfl; unfold Oper.quietAt; go_simp; first | done | rfl | exact ⟨rfl, rfl⟩
       try simp only [Act.put, List.setIfInBounds_toArray, List.set_cons_zero, List.set_cons_succ]
       refine AnyOrder.obs_cons (.string t2) rfl (AnyOrder.ob_call rfl rfl rfl 38 #[.int .i64 a0_4, .int .i64 2] (fun W' hW => ?_) (fun W' hW => ?_)) ?_
       ·go_simp
       ·exact (sternpostref02_Text.calls kj5 a0_4 2 t2 W' A2.out).mono fun e w2 h2 => ⟨h2.1, below_step hW h2.2, h2.2⟩
       try simp only [Act.put, List.setIfInBounds_toArray, List.set_cons_zero, List.set_cons_succ]
       refine AnyOrder.obs_cons (.string (strOfNums (sternpostref05_Bytes_l1 (a0_8.size : Int)) ++ t1 ++ t2)) rfl (AnyOrder.ob_quiet (d := 36) rfl (show (36 : Nat) < 65 by omega) rfl rfl same (fun _ => ⟨_, rfl⟩) ?_) ?_
       ·have cz := cz_.out; go_big_quiet_op; first | rfl | exact ⟨_, fun _ _ => rfl, rfl⟩
       try simp only [Act.put, List.setIfInBounds_toArray, List.set_cons_zero, List.set_cons_succ]
       refine AnyOrder.obs_cons (.int .i64 x3_5) rfl (AnyOrder.ob_quiet (d := 37) rfl (show (37 : Nat) < 65 by omega) rfl rfl same (fun _ => ⟨pure _, rfl⟩) ?_) ?_
       ·go_big_quiet_op; first | rfl | exact ⟨_, fun _ _ => rfl, rfl⟩
       try simp only [Act.put, List.setIfInBounds_toArray, List.set_cons_zero, List.set_cons_succ]
       refine AnyOrder.obs_cons (.string t3) rfl (AnyOrder.ob_call rfl rfl rfl 38 #[.int .i64 x3_5, .int .i64 2] (fun W' hW => ?_) (fun W' hW => ?_)) ?_
       ·go_simp
       ·exact (sternpostref02_Text.calls kj5 x3_5 2 t3 W' A3.out).mono fun e w2 h2 => ⟨h2.1, below_step hW h2.2, h2.2⟩
       try simp only [Act.put, List.setIfInBounds_toArray, List.set_cons_zero, List.set_cons_succ]
       refine AnyOrder.obs_cons (.string (strOfNums (sternpostref05_Bytes_l1 (a0_8.size : Int)) ++ t1 ++ t2 ++ t3)) rfl (AnyOrder.ob_quiet (d := 39) rfl (show (39 : Nat) < 65 by omega) rfl rfl same (fun _ => ⟨_, rfl⟩) ?_) ?_
       ·have cz := cz_.out; go_big_quiet_op; first | rfl | exact ⟨_, fun _ _ => rfl, rfl⟩
       try simp only [Act.put, List.setIfInBounds_toArray, List.set_cons_zero, List.set_cons_succ]
       refine AnyOrder.obs_cons (.pointer (some ⟨gb178, 2, none⟩)) rfl (AnyOrder.ob_quiet (d := 40) rfl (show (40 : Nat) < 65 by omega) rfl rfl same (fun _ => ⟨_, rfl⟩) ?_) ?_
       ·go_big_quiet_op; first | rfl | exact ⟨_, fun _ _ => rfl, rfl⟩
       try simp only [Act.put, List.setIfInBounds_toArray, List.set_cons_zero, List.set_cons_succ]
       refine AnyOrder.obs_cons (.int .i64 a0_2) rfl (AnyOrder.ob_quiet (d := 41) rfl (show (41 : Nat) < 65 by omega) rfl rfl same (fun _ => ⟨_, rfl⟩) ?_) ?_
       ·refine ⟨_, fun W' hW => ?_, rfl⟩; have hcz := (blk_cell (blk_below BK178.out hW) 2).trans rfl; unfold Oper.quietAt; go_simp; first | done | rfl | exact ⟨rfl, rfl⟩
       try simp only [Act.put, List.setIfInBounds_toArray, List.set_cons_zero, List.set_cons_succ]
       refine AnyOrder.obs_cons (.int .u8 (a0_2 % 256)) rfl (AnyOrder.ob_quiet (d := 42) rfl (show (42 : Nat) < 65 by omega) rfl rfl same (fun _ => ⟨_, rfl⟩) ?_) ?_
       ·go_big_quiet_op; first | rfl | exact ⟨_, fun _ _ => rfl, rfl⟩
       try simp only [Act.put, List.setIfInBounds_toArray, List.set_cons_zero, List.set_cons_succ]
       refine AnyOrder.obs_cons (.pointer (some ⟨gb178, 3, none⟩)) rfl (AnyOrder.ob_quiet (d := 43) rfl (show (43 : Nat) < 65 by omega) rfl rfl same (fun _ => ⟨_, rfl⟩) ?_) ?_
       ·go_big_quiet_op; first | rfl | exact ⟨_, fun _ _ => rfl, rfl⟩
       try simp only [Act.put, List.setIfInBounds_toArray, List.set_cons_zero, List.set_cons_succ]
       refine AnyOrder.obs_cons (.int .i64 a0_3) rfl (AnyOrder.ob_quiet (d := 44) rfl (show (44 : Nat) < 65 by omega) rfl rfl same (fun _ => ⟨_, rfl⟩) ?_) ?_
       ·refine ⟨_, fun W' hW => ?_, rfl⟩; have hcz := (blk_cell (blk_below BK178.out hW) 3).trans rfl; unfold Oper.quietAt; go_simp; first | done | rfl | exact ⟨rfl, rfl⟩
       try simp only [Act.put, List.setIfInBounds_toArray, List.set_cons_zero, List.set_cons_succ]
       refine AnyOrder.obs_cons (.int .u8 (a0_3 % 256)) rfl (AnyOrder.ob_quiet (d := 45) rfl (show (45 : Nat) < 65 by omega) rfl rfl same (fun _ => ⟨_, rfl⟩) ?_) ?_
       ·go_big_quiet_op; first | rfl | exact ⟨_, fun _ _ => rfl, rfl⟩
       try simp only [Act.put, List.setIfInBounds_toArray, List.set_cons_zero, List.set_cons_succ]
       refine AnyOrder.obs_cons (x 26) rfl (AnyOrder.ob_token rfl rfl (fun W' hW => ⟨.slice (some ⟨W'.heap.size, 0, none⟩) 4 4, W'.alloc (.cells #[(.int .u8 (a0_2 % 256)), (.int .u8 (a0_3 % 256)), .int .u8 0, .int .u8 0] 5), ?run, below_alloc hW _, below_alloc (Below.refl _ _) _, W'.heap.size, rfl, by (show W'.heap.size < (W'.heap.push _).size); rw [Array.size_push]; exact Nat.lt_succ_self _, fun j hj => ?cell⟩)) ?_
       case run => clear same cz_ HT; (first | (go_simp; done) | (go_simp; rfl) | (simp [execOp, Act.eval, go_sem]; done) | skip)
       case cell => exact AnyOrder.row_cell W' (sternpostref05_Bytes_l2 a0_2 a0_3) 5 j hj
       try simp only [Act.put, List.setIfInBounds_toArray, List.set_cons_zero, List.set_cons_succ]
       refine AnyOrder.obs_cons (.string (strOfNums (sternpostref05_Bytes_l2 a0_2 a0_3))) rfl (AnyOrder.ob_reads 26 _ _ rfl rfl rfl (by kernel_rfl) rfl rfl same rfl (fun W' hW hR => ?_)) ?_
       ·obtain ⟨g, hx, hl, hc⟩ := hR
        have hcv := run_convert_bytes_arg (P := Try.prog) W' 35 5 Try.underlying35 Try.underlying5 g 0 _ (sternpostref05_Bytes_l2 a0_2 a0_3).length (sternpostref05_Bytes_l2 a0_2 a0_3) rfl hc 9 Try.underlying9; exact AnyOrder.run_conv rfl hx hcv
       try simp only [Act.put, List.setIfInBounds_toArray, List.set_cons_zero, List.set_cons_succ]
       refine AnyOrder.obs_cons (.string (strOfNums (sternpostref05_Bytes_l1 (a0_8.size : Int)) ++ t1 ++ t2 ++ t3 ++ strOfNums (sternpostref05_Bytes_l2 a0_2 a0_3))) rfl (AnyOrder.ob_quiet (d := 48) rfl (show (48 : Nat) < 65 by omega) rfl rfl same (fun _ => ⟨_, rfl⟩) ?_) ?_
       ·have cz := cz_.out; go_big_quiet_op; first | rfl | exact ⟨_, fun _ _ => rfl, rfl⟩
       try simp only [Act.put, List.setIfInBounds_toArray, List.set_cons_zero, List.set_cons_succ]
       refine AnyOrder.obs_cons (.pointer (some ⟨gb178, 0, none⟩)) rfl (AnyOrder.ob_quiet (d := 49) rfl (show (49 : Nat) < 65 by omega) rfl rfl same (fun _ => ⟨_, rfl⟩) ?_) ?_
       ·go_big_quiet_op; first | rfl | exact ⟨_, fun _ _ => rfl, rfl⟩
       try simp only [Act.put, List.setIfInBounds_toArray, List.set_cons_zero, List.set_cons_succ]
       refine AnyOrder.obs_cons (.int .i64 a0_0) rfl (AnyOrder.ob_quiet (d := 50) rfl (show (50 : Nat) < 65 by omega) rfl rfl same (fun _ => ⟨_, rfl⟩) ?_) ?_
       ·refine ⟨_, fun W' hW => ?_, rfl⟩; have hcz := (blk_cell (blk_below BK178.out hW) 0).trans rfl; unfold Oper.quietAt; go_simp; first | done | rfl | exact ⟨rfl, rfl⟩
       try simp only [Act.put, List.setIfInBounds_toArray, List.set_cons_zero, List.set_cons_succ]
       refine AnyOrder.obs_cons (.string t4) rfl (AnyOrder.ob_call rfl rfl rfl 38 #[.int .i64 a0_0, .int .i64 4] (fun W' hW => ?_) (fun W' hW => ?_)) ?_
       ·go_simp
       ·exact (sternpostref02_Text.calls kj5 a0_0 4 t4 W' A4.out).mono fun e w2 h2 => ⟨h2.1, below_step hW h2.2, h2.2⟩
       try simp only [Act.put, List.setIfInBounds_toArray, List.set_cons_zero, List.set_cons_succ]
       refine AnyOrder.obs_cons (.string (strOfNums (sternpostref05_Bytes_l1 (a0_8.size : Int)) ++ t1 ++ t2 ++ t3 ++ strOfNums (sternpostref05_Bytes_l2 a0_2 a0_3) ++ t4)) rfl (AnyOrder.ob_quiet (d := 52) rfl (show (52 : Nat) < 65 by omega) rfl rfl same (fun _ => ⟨_, rfl⟩) ?_) ?_
       ·have cz := cz_.out; go_big_quiet_op; first | rfl | exact ⟨_, fun _ _ => rfl, rfl⟩
       try simp only [Act.put, List.setIfInBounds_toArray, List.set_cons_zero, List.set_cons_succ]
       refine AnyOrder.obs_cons (.pointer (some ⟨gb178, 1, none⟩)) rfl (AnyOrder.ob_quiet (d := 53) rfl (show (53 : Nat) < 65 by omega) rfl rfl same (fun _ => ⟨_, rfl⟩) ?_) ?_
       ·go_big_quiet_op; first | rfl | exact ⟨_, fun _ _ => rfl, rfl⟩
       try simp only [Act.put, List.setIfInBounds_toArray, List.set_cons_zero, List.set_cons_succ]
       refine AnyOrder.obs_cons (.int .i64 a0_1) rfl (AnyOrder.ob_quiet (d := 54) rfl (show (54 : Nat) < 65 by omega) rfl rfl same (fun _ => ⟨_, rfl⟩) ?_) ?_
       ·refine ⟨_, fun W' hW => ?_, rfl⟩; have hcz := (blk_cell (blk_below BK178.out hW) 1).trans rfl; unfold Oper.quietAt; go_simp; first | done | rfl | exact ⟨rfl, rfl⟩
       try simp only [Act.put, List.setIfInBounds_toArray, List.set_cons_zero, List.set_cons_succ]
       refine AnyOrder.obs_cons (.string t5) rfl (AnyOrder.ob_call rfl rfl rfl 38 #[.int .i64 a0_1, .int .i64 4] (fun W' hW => ?_) (fun W' hW => ?_)) ?_
       ·go_simp
       ·exact (sternpostref02_Text.calls kj5 a0_1 4 t5 W' A5.out).mono fun e w2 h2 => ⟨h2.1, below_step hW h2.2, h2.2⟩
       try simp only [Act.put, List.setIfInBounds_toArray, List.set_cons_zero, List.set_cons_succ]
       refine AnyOrder.obs_cons (.string (strOfNums (sternpostref05_Bytes_l1 (a0_8.size : Int)) ++ t1 ++ t2 ++ t3 ++ strOfNums (sternpostref05_Bytes_l2 a0_2 a0_3) ++ t4 ++ t5)) rfl (AnyOrder.ob_quiet (d := 56) rfl (show (56 : Nat) < 65 by omega) rfl rfl same (fun _ => ⟨_, rfl⟩) ?_) ?_
       ·have cz := cz_.out; go_big_quiet_op; first | rfl | exact ⟨_, fun _ _ => rfl, rfl⟩
       try simp only [Act.put, List.setIfInBounds_toArray, List.set_cons_zero, List.set_cons_succ]
       refine AnyOrder.obs_cons (.pointer (some ⟨gb178, 8, none⟩)) rfl (AnyOrder.ob_quiet (d := 57) rfl (show (57 : Nat) < 65 by omega) rfl rfl same (fun _ => ⟨_, rfl⟩) ?_) ?_
       ·go_big_quiet_op; first | rfl | exact ⟨_, fun _ _ => rfl, rfl⟩
       try simp only [Act.put, List.setIfInBounds_toArray, List.set_cons_zero, List.set_cons_succ]
       refine AnyOrder.obs_cons (.string a0_8) rfl (AnyOrder.ob_quiet (d := 58) rfl (show (58 : Nat) < 65 by omega) rfl rfl same (fun _ => ⟨_, rfl⟩) ?_) ?_
       ·refine ⟨_, fun W' hW => ?_, rfl⟩; have hcz := (blk_cell (blk_below BK178.out hW) 8).trans rfl; unfold Oper.quietAt; go_simp; first | done | rfl | exact ⟨rfl, rfl⟩
       try simp only [Act.put, List.setIfInBounds_toArray, List.set_cons_zero, List.set_cons_succ]
       refine AnyOrder.obs_cons (.string (strOfNums (sternpostref05_Bytes_l1 (a0_8.size : Int)) ++ t1 ++ t2 ++ t3 ++ strOfNums (sternpostref05_Bytes_l2 a0_2 a0_3) ++ t4 ++ t5 ++ a0_8)) rfl (AnyOrder.ob_quiet (d := 59) rfl (show (59 : Nat) < 65 by omega) rfl rfl same (fun _ => ⟨_, rfl⟩) ?_) ?_
       ·have cz := cz_.out; go_big_quiet_op; first | rfl | exact ⟨_, fun _ _ => rfl, rfl⟩
       try simp only [Act.put, List.setIfInBounds_toArray, List.set_cons_zero, List.set_cons_succ]
       refine AnyOrder.obs_cons (.string (strOfNums (sternpostref05_Bytes_l1 (a0_8.size : Int)) ++ t1 ++ t2 ++ t3 ++ strOfNums (sternpostref05_Bytes_l2 a0_2 a0_3) ++ t4 ++ t5 ++ a0_8)) rfl (AnyOrder.ob_quiet (d := 5) rfl (show (5 : Nat) < 65 by omega) rfl rfl same (fun _ => ⟨pure _, rfl⟩) ?_) ?_
       ·go_big_quiet_op; first | rfl | exact ⟨_, fun _ _ => rfl, rfl⟩
       try simp only [Act.put, List.setIfInBounds_toArray, List.set_cons_zero, List.set_cons_succ]
       trivial
      case fin =>
       intro x W2 hW2 _
       rw [AnyOrder.lexAt_cons (.int .i64 (wrap64 (20 + (a0_8.size : Int)))) rfl]
       try simp only [Act.put, List.setIfInBounds_toArray, List.set_cons_zero, List.set_cons_succ]
       rw [AnyOrder.lexAt_cons (.int .i64 (wrap64 (Int.tdiv (wrap64 (20 + (a0_8.size : Int))) 4))) rfl]
       try simp only [Act.put, List.setIfInBounds_toArray, List.set_cons_zero, List.set_cons_succ]
       rw [AnyOrder.lexAt_cons (.int .i64 (wrap64 (64 + (wrap64 (Int.tdiv (wrap64 (20 + (a0_8.size : Int))) 4))))) rfl]
       try simp only [Act.put, List.setIfInBounds_toArray, List.set_cons_zero, List.set_cons_succ]
       rw [AnyOrder.lexAt_cons (.int .u8 ((wrap64 (64 + (wrap64 (Int.tdiv (wrap64 (20 + (a0_8.size : Int))) 4)))) % 256)) rfl]
       try simp only [Act.put, List.setIfInBounds_toArray, List.set_cons_zero, List.set_cons_succ]
       rw [AnyOrder.lexAt_cons (x 4) rfl]
       try simp only [Act.put, List.setIfInBounds_toArray, List.set_cons_zero, List.set_cons_succ]
       rw [AnyOrder.lexAt_cons (.string (strOfNums (sternpostref05_Bytes_l1 (a0_8.size : Int)))) rfl]
       try simp only [Act.put, List.setIfInBounds_toArray, List.set_cons_zero, List.set_cons_succ]
       rw [AnyOrder.lexAt_cons (.int .i64 (wrap64 (20 + (a0_8.size : Int)))) rfl]
       try simp only [Act.put, List.setIfInBounds_toArray, List.set_cons_zero, List.set_cons_succ]
       rw [AnyOrder.lexAt_cons (.pointer (some ⟨gb178, 9, none⟩)) rfl]
       try simp only [Act.put, List.setIfInBounds_toArray, List.set_cons_zero, List.set_cons_succ]
       rw [AnyOrder.lexAt_cons (.string a0_9) rfl]
       try simp only [Act.put, List.setIfInBounds_toArray, List.set_cons_zero, List.set_cons_succ]
       rw [AnyOrder.lexAt_cons (.int .i64 (a0_9.size : Int)) rfl]
       try simp only [Act.put, List.setIfInBounds_toArray, List.set_cons_zero, List.set_cons_succ]
       rw [AnyOrder.lexAt_cons (.int .i64 (wrap64 ((wrap64 (20 + (a0_8.size : Int))) + (a0_9.size : Int)))) rfl]
       try simp only [Act.put, List.setIfInBounds_toArray, List.set_cons_zero, List.set_cons_succ]
       rw [AnyOrder.lexAt_cons (.string t1) rfl]
       try simp only [Act.put, List.setIfInBounds_toArray, List.set_cons_zero, List.set_cons_succ]
       rw [AnyOrder.lexAt_cons (.string (strOfNums (sternpostref05_Bytes_l1 (a0_8.size : Int)) ++ t1)) rfl]
       try simp only [Act.put, List.setIfInBounds_toArray, List.set_cons_zero, List.set_cons_succ]
       rw [AnyOrder.lexAt_cons (.pointer (some ⟨gb178, 4, none⟩)) rfl]
       try simp only [Act.put, List.setIfInBounds_toArray, List.set_cons_zero, List.set_cons_succ]
       rw [AnyOrder.lexAt_cons (.int .i64 a0_4) rfl]
       try simp only [Act.put, List.setIfInBounds_toArray, List.set_cons_zero, List.set_cons_succ]
       rw [AnyOrder.lexAt_cons (.string t2) rfl]
       try simp only [Act.put, List.setIfInBounds_toArray, List.set_cons_zero, List.set_cons_succ]
       rw [AnyOrder.lexAt_cons (.string (strOfNums (sternpostref05_Bytes_l1 (a0_8.size : Int)) ++ t1 ++ t2)) rfl]
       try simp only [Act.put, List.setIfInBounds_toArray, List.set_cons_zero, List.set_cons_succ]
       rw [AnyOrder.lexAt_cons (.int .i64 x3_5) rfl]
       try simp only [Act.put, List.setIfInBounds_toArray, List.set_cons_zero, List.set_cons_succ]
       rw [AnyOrder.lexAt_cons (.string t3) rfl]
       try simp only [Act.put, List.setIfInBounds_toArray, List.set_cons_zero, List.set_cons_succ]
       rw [AnyOrder.lexAt_cons (.string (strOfNums (sternpostref05_Bytes_l1 (a0_8.size : Int)) ++ t1 ++ t2 ++ t3)) rfl]
       try simp only [Act.put, List.setIfInBounds_toArray, List.set_cons_zero, List.set_cons_succ]
       rw [AnyOrder.lexAt_cons (.pointer (some ⟨gb178, 2, none⟩)) rfl]
       try simp only [Act.put, List.setIfInBounds_toArray, List.set_cons_zero, List.set_cons_succ]
       rw [AnyOrder.lexAt_cons (.int .i64 a0_2) rfl]
       try simp only [Act.put, List.setIfInBounds_toArray, List.set_cons_zero, List.set_cons_succ]
       rw [AnyOrder.lexAt_cons (.int .u8 (a0_2 % 256)) rfl]
       try simp only [Act.put, List.setIfInBounds_toArray, List.set_cons_zero, List.set_cons_succ]
       rw [AnyOrder.lexAt_cons (.pointer (some ⟨gb178, 3, none⟩)) rfl]
       try simp only [Act.put, List.setIfInBounds_toArray, List.set_cons_zero, List.set_cons_succ]
       rw [AnyOrder.lexAt_cons (.int .i64 a0_3) rfl]
       try simp only [Act.put, List.setIfInBounds_toArray, List.set_cons_zero, List.set_cons_succ]
       rw [AnyOrder.lexAt_cons (.int .u8 (a0_3 % 256)) rfl]
       try simp only [Act.put, List.setIfInBounds_toArray, List.set_cons_zero, List.set_cons_succ]
       rw [AnyOrder.lexAt_cons (x 26) rfl]
       try simp only [Act.put, List.setIfInBounds_toArray, List.set_cons_zero, List.set_cons_succ]
       rw [AnyOrder.lexAt_cons (.string (strOfNums (sternpostref05_Bytes_l2 a0_2 a0_3))) rfl]
       try simp only [Act.put, List.setIfInBounds_toArray, List.set_cons_zero, List.set_cons_succ]
       rw [AnyOrder.lexAt_cons (.string (strOfNums (sternpostref05_Bytes_l1 (a0_8.size : Int)) ++ t1 ++ t2 ++ t3 ++ strOfNums (sternpostref05_Bytes_l2 a0_2 a0_3))) rfl]
       try simp only [Act.put, List.setIfInBounds_toArray, List.set_cons_zero, List.set_cons_succ]
       rw [AnyOrder.lexAt_cons (.pointer (some ⟨gb178, 0, none⟩)) rfl]
       try simp only [Act.put, List.setIfInBounds_toArray, List.set_cons_zero, List.set_cons_succ]
       rw [AnyOrder.lexAt_cons (.int .i64 a0_0) rfl]
       try simp only [Act.put, List.setIfInBounds_toArray, List.set_cons_zero, List.set_cons_succ]
       rw [AnyOrder.lexAt_cons (.string t4) rfl]
       try simp only [Act.put, List.setIfInBounds_toArray, List.set_cons_zero, List.set_cons_succ]
       rw [AnyOrder.lexAt_cons (.string (strOfNums (sternpostref05_Bytes_l1 (a0_8.size : Int)) ++ t1 ++ t2 ++ t3 ++ strOfNums (sternpostref05_Bytes_l2 a0_2 a0_3) ++ t4)) rfl]
       try simp only [Act.put, List.setIfInBounds_toArray, List.set_cons_zero, List.set_cons_succ]
       rw [AnyOrder.lexAt_cons (.pointer (some ⟨gb178, 1, none⟩)) rfl]
       try simp only [Act.put, List.setIfInBounds_toArray, List.set_cons_zero, List.set_cons_succ]
       rw [AnyOrder.lexAt_cons (.int .i64 a0_1) rfl]
       try simp only [Act.put, List.setIfInBounds_toArray, List.set_cons_zero, List.set_cons_succ]
       rw [AnyOrder.lexAt_cons (.string t5) rfl]
       try simp only [Act.put, List.setIfInBounds_toArray, List.set_cons_zero, List.set_cons_succ]
       rw [AnyOrder.lexAt_cons (.string (strOfNums (sternpostref05_Bytes_l1 (a0_8.size : Int)) ++ t1 ++ t2 ++ t3 ++ strOfNums (sternpostref05_Bytes_l2 a0_2 a0_3) ++ t4 ++ t5)) rfl]
       try simp only [Act.put, List.setIfInBounds_toArray, List.set_cons_zero, List.set_cons_succ]
       rw [AnyOrder.lexAt_cons (.pointer (some ⟨gb178, 8, none⟩)) rfl]
       try simp only [Act.put, List.setIfInBounds_toArray, List.set_cons_zero, List.set_cons_succ]
       rw [AnyOrder.lexAt_cons (.string a0_8) rfl]
       try simp only [Act.put, List.setIfInBounds_toArray, List.set_cons_zero, List.set_cons_succ]
       rw [AnyOrder.lexAt_cons (.string (strOfNums (sternpostref05_Bytes_l1 (a0_8.size : Int)) ++ t1 ++ t2 ++ t3 ++ strOfNums (sternpostref05_Bytes_l2 a0_2 a0_3) ++ t4 ++ t5 ++ a0_8)) rfl]
       try simp only [Act.put, List.setIfInBounds_toArray, List.set_cons_zero, List.set_cons_succ]
       rw [AnyOrder.lexAt_cons (.string (strOfNums (sternpostref05_Bytes_l1 (a0_8.size : Int)) ++ t1 ++ t2 ++ t3 ++ strOfNums (sternpostref05_Bytes_l2 a0_2 a0_3) ++ t4 ++ t5 ++ a0_8)) rfl]
       try simp only [Act.put, List.setIfInBounds_toArray, List.set_cons_zero, List.set_cons_succ]
       rw [AnyOrder.lexAt_nil]
       have HB2 := Aside0.mk (below_step HB.out hW2)
       have BK2 := Aside0.mk (blk_below BK178.out hW2)
       clear same cz_ hW2
       go_wp2
       obtain ⟨s1, HS, H⟩ := Option.bind_eq_some_iff.mp HT.out
       have A6 := Aside0.mk HS
       clear HS HT
       by_cases cz2 : s1.size + a0_9.size ≤ 9223372036854775807
       case neg => rw [if_neg cz2] at H; cases H
       case pos =>
        rw [if_pos cz2] at H
        obtain rfl := Option.some.inj H
        clear H
        have cz_ := Aside0.mk cz2
        clear cz2
        have same : ∀ W', Below W2.heap.size W2 W' → Below W'.heap.size W' W' := fun W' _ => Below.refl _ _
        refine AnyOrder.region_each (C := fun W' => Below W2.heap.size W2 W') (G := fun W1 W2 => Below W1.heap.size W1 W2) (T := []) (R := fun _ _ _ => True) (vs := [(.string (strOfNums (sternpostref05_Bytes_l1 (a0_8.size : Int)) ++ t1 ++ t2 ++ t3 ++ strOfNums (sternpostref05_Bytes_l2 a0_2 a0_3) ++ t4 ++ t5 ++ a0_8)), (.string s1), (.pointer (some ⟨gb178, 9, none⟩)), (.string a0_9), (.string (s1 ++ a0_9)), (.string (s1 ++ a0_9))]) rfl (by kernel_rfl) (below_drew1 (Below.refl _ _)) same (fun _ _ _ _ _ _ => trivial) (fun x => ?obs2) ?fin2
        case obs2 =>
         refine AnyOrder.obs_cons (.string (strOfNums (sternpostref05_Bytes_l1 (a0_8.size : Int)) ++ t1 ++ t2 ++ t3 ++ strOfNums (sternpostref05_Bytes_l2 a0_2 a0_3) ++ t4 ++ t5 ++ a0_8)) rfl (AnyOrder.ob_quiet (d := 60) rfl (show (60 : Nat) < 65 by omega) rfl rfl same (fun _ => ⟨pure _, rfl⟩) ?_) ?_
         ·go_big_quiet_op; first | rfl | exact ⟨_, fun _ _ => rfl, rfl⟩
         try simp only [Act.put, List.setIfInBounds_toArray, List.set_cons_zero, List.set_cons_succ]
         refine AnyOrder.obs_cons (.string s1) rfl (AnyOrder.ob_call rfl rfl rfl 37 #[.string (strOfNums (sternpostref05_Bytes_l1 (a0_8.size : Int)) ++ t1 ++ t2 ++ t3 ++ strOfNums (sternpostref05_Bytes_l2 a0_2 a0_3) ++ t4 ++ t5 ++ a0_8), .int .i64 10] (fun W' hW => ?_) (fun W' hW => ?_)) ?_
         ·go_simp
         ·exact (sternpostref02_Sealed.calls kj5 (strOfNums (sternpostref05_Bytes_l1 (a0_8.size : Int)) ++ t1 ++ t2 ++ t3 ++ strOfNums (sternpostref05_Bytes_l2 a0_2 a0_3) ++ t4 ++ t5 ++ a0_8) 10 s1 W' A6.out).mono fun e w2 h2 => ⟨h2.1, below_step hW h2.2, h2.2⟩
         try simp only [Act.put, List.setIfInBounds_toArray, List.set_cons_zero, List.set_cons_succ]
         refine AnyOrder.obs_cons (.pointer (some ⟨gb178, 9, none⟩)) rfl (AnyOrder.ob_quiet (d := 62) rfl (show (62 : Nat) < 65 by omega) rfl rfl same (fun _ => ⟨_, rfl⟩) ?_) ?_
         ·go_big_quiet_op; first | rfl | exact ⟨_, fun _ _ => rfl, rfl⟩
         try simp only [Act.put, List.setIfInBounds_toArray, List.set_cons_zero, List.set_cons_succ]
         refine AnyOrder.obs_cons (.string a0_9) rfl (AnyOrder.ob_quiet (d := 63) rfl (show (63 : Nat) < 65 by omega) rfl rfl same (fun _ => ⟨_, rfl⟩) ?_) ?_
         ·refine ⟨_, fun W' hW => ?_, rfl⟩; have hcz := (blk_cell (blk_below BK2.out hW) 9).trans rfl; unfold Oper.quietAt; go_simp; first | done | rfl | exact ⟨rfl, rfl⟩
         try simp only [Act.put, List.setIfInBounds_toArray, List.set_cons_zero, List.set_cons_succ]
         refine AnyOrder.obs_cons (.string (s1 ++ a0_9)) rfl (AnyOrder.ob_quiet (d := 64) rfl (show (64 : Nat) < 65 by omega) rfl rfl same (fun _ => ⟨_, rfl⟩) ?_) ?_
         ·have cz := cz_.out; go_big_quiet_op; first | rfl | exact ⟨_, fun _ _ => rfl, rfl⟩
         try simp only [Act.put, List.setIfInBounds_toArray, List.set_cons_zero, List.set_cons_succ]
         refine AnyOrder.obs_cons (.string (s1 ++ a0_9)) rfl (AnyOrder.ob_quiet (d := 2) rfl (show (2 : Nat) < 65 by omega) rfl rfl same (fun _ => ⟨pure _, rfl⟩) ?_) ?_
         ·go_big_quiet_op; first | rfl | exact ⟨_, fun _ _ => rfl, rfl⟩
         try simp only [Act.put, List.setIfInBounds_toArray, List.set_cons_zero, List.set_cons_succ]
         trivial
        case fin2 =>
         intro x2 W3 hW3 _
         rw [AnyOrder.lexAt_cons (.string (strOfNums (sternpostref05_Bytes_l1 (a0_8.size : Int)) ++ t1 ++ t2 ++ t3 ++ strOfNums (sternpostref05_Bytes_l2 a0_2 a0_3) ++ t4 ++ t5 ++ a0_8)) rfl]
         try simp only [Act.put, List.setIfInBounds_toArray, List.set_cons_zero, List.set_cons_succ]
         rw [AnyOrder.lexAt_cons (.string s1) rfl]
         try simp only [Act.put, List.setIfInBounds_toArray, List.set_cons_zero, List.set_cons_succ]
         rw [AnyOrder.lexAt_cons (.pointer (some ⟨gb178, 9, none⟩)) rfl]
         try simp only [Act.put, List.setIfInBounds_toArray, List.set_cons_zero, List.set_cons_succ]
         rw [AnyOrder.lexAt_cons (.string a0_9) rfl]
         try simp only [Act.put, List.setIfInBounds_toArray, List.set_cons_zero, List.set_cons_succ]
         rw [AnyOrder.lexAt_cons (.string (s1 ++ a0_9)) rfl]
         try simp only [Act.put, List.setIfInBounds_toArray, List.set_cons_zero, List.set_cons_succ]
         rw [AnyOrder.lexAt_cons (.string (s1 ++ a0_9)) rfl]
         try simp only [Act.put, List.setIfInBounds_toArray, List.set_cons_zero, List.set_cons_succ]
         rw [AnyOrder.lexAt_nil]
         have HB3 := Aside0.mk (below_step HB2.out hW3)
         clear same cz_ hW3
         go_wp2
         go_ret
         exact ⟨by first | rfl | simp, HB3.out⟩

/-! ### sternpostref06_About: function 20 -/
def sternpostref06_About.j0 : Nat → Int → Int → Bool → Int → Int → Int → Int → Int → Int → Bool → Bool → ByteArray → ByteArray → Option (Int × Int × Int × Int × ByteArray × Int)
 | 0, _, _, _, _, _, _, _, _, _, _, _, _, _ => none
 | k + 1, x0, x1, x24, x180000, x180001, x180002, x180003, x180004, x180005, x180006, x180007, x180008, x180009 => if x24 = true then (some (0, 0, 0, 0, (⟨#[]⟩ : ByteArray), 1)) else ((sternpostref05_Check.f k x180000 x180001 x180002 x180003 x180004 x180005 x180006 x180007 x180008 x180009).bind fun t181 => (if t181 = 0 then ((sternpostref05_Bytes.f k x180000 x180001 x180002 x180003 x180004 x180005 x180006 x180007 x180008 x180009).bind fun t182 => (if 0 ≤ (mn (t182.size : Int) (wrap64 ((wrap64 (20 + (x180008.size : Int))) + 8))) then (if (mn (t182.size : Int) (wrap64 ((wrap64 (20 + (x180008.size : Int))) + 8))) ≤ (t182.size : Int) then (some (x0, x1, 0, 0, cutS t182 0 ((mn (t182.size : Int) (wrap64 ((wrap64 (20 + (x180008.size : Int))) + 8))) : Int).toNat, 0)) else (none)) else (none))) else (some (0, 0, 0, 0, (⟨#[]⟩ : ByteArray), t181))))
def sternpostref06_About.f (k : Nat) (a0 : Int) (a1 : Int) (a2_0 : Int) (a2_1 : Int) (a2_2 : Int) (a2_3 : Int) (a2_4 : Int) (a2_5 : Int) (a2_6 : Bool) (a2_7 : Bool) (a2_8 : ByteArray) (a2_9 : ByteArray) : Option (Int × Int × Int × Int × ByteArray × Int) := if a0 = 3 then (if a1 < 0 then (sternpostref06_About.j0 k a0 a1 true a2_0 a2_1 a2_2 a2_3 a2_4 a2_5 a2_6 a2_7 a2_8 a2_9) else (sternpostref06_About.j0 k a0 a1 (decide (a1 > 15)) a2_0 a2_1 a2_2 a2_3 a2_4 a2_5 a2_6 a2_7 a2_8 a2_9)) else (if a0 = 11 then (if a1 < 0 then (sternpostref06_About.j0 k a0 a1 true a2_0 a2_1 a2_2 a2_3 a2_4 a2_5 a2_6 a2_7 a2_8 a2_9) else (sternpostref06_About.j0 k a0 a1 (decide (a1 > 15)) a2_0 a2_1 a2_2 a2_3 a2_4 a2_5 a2_6 a2_7 a2_8 a2_9)) else (sternpostref06_About.j0 k a0 a1 true a2_0 a2_1 a2_2 a2_3 a2_4 a2_5 a2_6 a2_7 a2_8 a2_9))
theorem sternpostref06_About.mono_l : ∀ k, (∀ y0 y1 y2 y3 y4 y5 y6 y7 y8 y9 y10 y11 y12, LeO (sternpostref06_About.j0 k y0 y1 y2 y3 y4 y5 y6 y7 y8 y9 y10 y11 y12) (sternpostref06_About.j0 (k + 1) y0 y1 y2 y3 y4 y5 y6 y7 y8 y9 y10 y11 y12))
 | 0 => fun _ _ _ _ _ _ _ _ _ _ _ _ _ r h => by simp [sternpostref06_About.j0] at h
 | k + 1 => by
  have ih0 := sternpostref06_About.mono_l k
  ·intro y0 y1 y2 y3 y4 y5 y6 y7 y8 y9 y10 y11 y12
   unfold sternpostref06_About.j0
   repeat' first
   | (with_reducible exact ih0 _ _ _ _ _ _ _ _ _ _ _ _ _)
   | (with_reducible exact sternpostref05_Bytes.mono _ _ _ _ _ _ _ _ _ _ _)
   | (with_reducible exact sternpostref05_Check.mono _ _ _ _ _ _ _ _ _ _ _)
   | (with_reducible exact LeO.refl _)
   | (with_reducible exact LeO.none _)
   | (with_reducible refine LeO.ite ?_ ?_)
   | (with_reducible refine LeO.bind ?_ (fun _ => ?_))
   | exact ih0 _ _ _ _ _ _ _ _ _ _ _ _ _
   | exact sternpostref05_Bytes.mono _ _ _ _ _ _ _ _ _ _ _
   | exact sternpostref05_Check.mono _ _ _ _ _ _ _ _ _ _ _
   | exact LeO.none _
   | refine LeO.ite ?_ ?_
   | refine LeO.bind ?_ (fun _ => ?_)
theorem sternpostref06_About.mono : ∀ a0 a1 a2 a3 a4 a5 a6 a7 a8 a9 a10 a11 k, LeO (sternpostref06_About.f k a0 a1 a2 a3 a4 a5 a6 a7 a8 a9 a10 a11) (sternpostref06_About.f (k + 1) a0 a1 a2 a3 a4 a5 a6 a7 a8 a9 a10 a11) := by
 intro a0 a1 a2 a3 a4 a5 a6 a7 a8 a9 a10 a11 k
 have ih0 := sternpostref06_About.mono_l k
 unfold sternpostref06_About.f
 repeat' first
   | (with_reducible exact ih0 _ _ _ _ _ _ _ _ _ _ _ _ _)
   | (with_reducible exact sternpostref05_Bytes.mono _ _ _ _ _ _ _ _ _ _ _)
   | (with_reducible exact sternpostref05_Check.mono _ _ _ _ _ _ _ _ _ _ _)
   | (with_reducible exact LeO.refl _)
   | (with_reducible exact LeO.none _)
   | (with_reducible refine LeO.ite ?_ ?_)
   | (with_reducible refine LeO.bind ?_ (fun _ => ?_))
   | exact ih0 _ _ _ _ _ _ _ _ _ _ _ _ _
   | exact sternpostref05_Bytes.mono _ _ _ _ _ _ _ _ _ _ _
   | exact sternpostref05_Check.mono _ _ _ _ _ _ _ _ _ _ _
   | exact LeO.none _
   | refine LeO.ite ?_ ?_
   | refine LeO.bind ?_ (fun _ => ?_)
set_option maxHeartbeats 8000000 in
set_option maxRecDepth 100000 in
theorem sternpostref06_About.calls (k : Nat) (a0 : Int) (a1 : Int) (a2_0 : Int) (a2_1 : Int) (a2_2 : Int) (a2_3 : Int) (a2_4 : Int) (a2_5 : Int) (a2_6 : Bool) (a2_7 : Bool) (a2_8 : ByteArray) (a2_9 : ByteArray) (r1 : Int) (r2 : Int) (r3 : Int) (r4 : Int) (r5 : ByteArray) (r6 : Int) (w : World) (h : sternpostref06_About.f k a0 a1 a2_0 a2_1 a2_2 a2_3 a2_4 a2_5 a2_6 a2_7 a2_8 a2_9 = some (r1, r2, r3, r4, r5, r6)) :
  Calls Try.prog 20 #[.int .i64 a0, .int .i64 a1, .agg #[.int .i64 a2_0, .int .i64 a2_1, .int .i64 a2_2, .int .i64 a2_3, .int .i64 a2_4, .int .i64 a2_5, .bool a2_6, .bool a2_7, .string a2_8, .string a2_9]] w fun e w' => e = .returned (.tuple #[.agg #[.int .i64 r1, .int .i64 r2, .int .i64 r3, .int .i64 r4, .string r5], .int .i64 r6]) ∧ Below w.heap.size w w' := by
 have hu39 := Try.underlying39
 have hu23 := Try.underlying23
 have HB := Aside0.mk (Below.refl w.heap.size w)
 have H : (if a0 = 3 then (if a1 < 0 then (sternpostref06_About.j0 k a0 a1 true a2_0 a2_1 a2_2 a2_3 a2_4 a2_5 a2_6 a2_7 a2_8 a2_9) else (sternpostref06_About.j0 k a0 a1 (decide (a1 > 15)) a2_0 a2_1 a2_2 a2_3 a2_4 a2_5 a2_6 a2_7 a2_8 a2_9)) else (if a0 = 11 then (if a1 < 0 then (sternpostref06_About.j0 k a0 a1 true a2_0 a2_1 a2_2 a2_3 a2_4 a2_5 a2_6 a2_7 a2_8 a2_9) else (sternpostref06_About.j0 k a0 a1 (decide (a1 > 15)) a2_0 a2_1 a2_2 a2_3 a2_4 a2_5 a2_6 a2_7 a2_8 a2_9)) else (sternpostref06_About.j0 k a0 a1 true a2_0 a2_1 a2_2 a2_3 a2_4 a2_5 a2_6 a2_7 a2_8 a2_9))) = some (r1, r2, r3, r4, r5, r6) := h
 clear h
 have HC4 := Aside0.mk H
 clear H
 go_enter Try.func20, Try.ntmps20
 go_upto_region 1 with (first | ((with_reducible refine gate_dst (N := 5) rfl ?_); refine box_event ?hg (N := 5) ?hd (cs := #[.int .i64 a2_0, .int .i64 a2_1, .int .i64 a2_2, .int .i64 a2_3, .int .i64 a2_4, .int .i64 a2_5, .bool a2_6, .bool a2_7, .string a2_8, .string a2_9]) (t := 39) ?hr ?_; (case hd => rfl); (case hg => rfl); (case hr => first | (go_simp; done) | (go_simp; rfl)); intro gb179 hg w5 hbox hb; have n0_ := Aside0.mk (below_step (by repeat (first | (with_reducible first | exact HB.out | apply below_alloc | apply pw_below_drewN | apply below_drew1) | exact HB.out)) hb); have n1_ := Aside0.mk (hbox); have n2_ := Aside0.mk ((by rw [hg]; exact (below_size (by repeat (first | (with_reducible first | exact HB.out | apply below_alloc | apply pw_below_drewN | apply below_drew1) | exact HB.out))) : w.heap.size ≤ gb179)); have n3_ := Aside0.mk ((by rw [hg]; exact (below_size (by repeat (first | (with_reducible first | exact HB.out | apply below_alloc | apply pw_below_drewN | apply below_drew1) | exact HB.out))) : w.heap.size ≤ gb179)); clear HB; have HB := n0_; have BK179 := n1_; have GW179 := n2_; have GE179 := n3_; clear n0_ n1_ n2_ n3_; clear hb hbox hg) | ((with_reducible refine gate_dst (N := 6) rfl ?_); refine box_event ?hg (N := 6) ?hd (cs := #[.int .i64 0, .int .i64 0, .int .i64 0, .int .i64 0, .string (⟨#[]⟩ : ByteArray)]) (t := 23) ?hr ?_; (case hd => rfl); (case hg => rfl); (case hr => first | (go_simp; done) | (go_simp; rfl)); intro gb180 hg w6 hbox hb; have n0_ := Aside0.mk (blk_below (g := gb179) (o := .cells #[.int .i64 a2_0, .int .i64 a2_1, .int .i64 a2_2, .int .i64 a2_3, .int .i64 a2_4, .int .i64 a2_5, .bool a2_6, .bool a2_7, .string a2_8, .string a2_9] 39 (0, 0)) (by (with_reducible repeat (first | refine blk_drewN ?_ _ | refine blk_drew ?_ | refine blk_alloc ?_ _)); exact BK179.out) hb); have n1_ := Aside0.mk (below_step (by repeat (first | (with_reducible first | exact HB.out | apply below_alloc | apply pw_below_drewN | apply below_drew1 | refine below_set ?_ GE179.out) | exact HB.out)) hb); have n2_ := Aside0.mk (hbox); have n3_ := Aside0.mk ((by rw [hg]; exact (below_size (by repeat (first | (with_reducible first | exact HB.out | apply below_alloc | apply pw_below_drewN | apply below_drew1 | refine below_set ?_ GE179.out) | exact HB.out))) : w.heap.size ≤ gb180)); have n4_ := Aside0.mk ((by rw [hg]; exact (below_size (by repeat (first | (with_reducible first | exact HB.out | apply below_alloc | apply pw_below_drewN | apply below_drew1 | refine below_set ?_ GE179.out) | exact HB.out))) : w.heap.size ≤ gb180)); have n5_ := Aside0.mk ((by rw [hg]; exact Nat.ne_of_lt (blk_lt (g := gb179) (o := .cells #[.int .i64 a2_0, .int .i64 a2_1, .int .i64 a2_2, .int .i64 a2_3, .int .i64 a2_4, .int .i64 a2_5, .bool a2_6, .bool a2_7, .string a2_8, .string a2_9] 39 (0, 0)) (by (with_reducible repeat (first | refine blk_drewN ?_ _ | refine blk_drew ?_ | refine blk_alloc ?_ _)); exact BK179.out)) : gb179 ≠ gb180)); have n6_ := Aside0.mk ((by rw [hg]; exact Nat.ne_of_gt (blk_lt (g := gb179) (o := .cells #[.int .i64 a2_0, .int .i64 a2_1, .int .i64 a2_2, .int .i64 a2_3, .int .i64 a2_4, .int .i64 a2_5, .bool a2_6, .bool a2_7, .string a2_8, .string a2_9] 39 (0, 0)) (by (with_reducible repeat (first | refine blk_drewN ?_ _ | refine blk_drew ?_ | refine blk_alloc ?_ _)); exact BK179.out)) : gb180 ≠ gb179)); clear BK179; clear HB; have BK179 := n0_; have HB := n1_; have BK180 := n2_; have GW180 := n3_; have GE180 := n4_; have NB179_180 := n5_; have NB180_179 := n6_; clear n0_ n1_ n2_ n3_ n4_ n5_ n6_; clear hb hbox hg))
 (try simp only [Act.put, List.setIfInBounds_toArray, List.set_cons_zero, List.set_cons_succ])
 go_cut [24] (fun v24 wc => ∃ (kq : Nat) (x24_3 : Bool), v24 = .bool x24_3 ∧ Aside0 (sternpostref06_About.j0 kq a0 a1 x24_3 a2_0 a2_1 a2_2 a2_3 a2_4 a2_5 a2_6 a2_7 a2_8 a2_9 = some (r1, r2, r3, r4, r5, r6)) ∧ Aside0 (kq ≤ k) ∧ Aside0 (wc.heap[gb179]? = some (.cells #[.int .i64 a2_0, .int .i64 a2_1, .int .i64 a2_2, .int .i64 a2_3, .int .i64 a2_4, .int .i64 a2_5, .bool a2_6, .bool a2_7, .string a2_8, .string a2_9] 39 (0, 0))) ∧ Aside0 (wc.heap[gb180]? = some (.cells #[.int .i64 0, .int .i64 0, .int .i64 0, .int .i64 0, .string (⟨#[]⟩ : ByteArray)] 23 (0, 0))) ∧ Aside0 (Below w.heap.size w wc))
 case first =>
  have H := HC4.out
  clear HC4
  by_cases c7 : a0 = 3
  ·rw [if_pos c7] at H
   have c7b0 : (a0 == 3) = true := beq_iff_eq.mpr c7
   have c7b1 : (a0 != 3) = false := bne_eq_false_iff_eq.mpr c7
   clear c7
   (first | rw [c7b0] | (simp only [i64_w, i32_w]; rw [c7b0]) | skip)
   by_cases c8 : a1 < 0
   ·rw [if_pos c8] at H
    have c8b0 : decide (a1 < 0) = true := decide_eq_true c8
    clear c8
    have H' := Aside0.mk H
    clear H
    go_wp2
    go_meet
    case rel => exact ⟨_, (true), (by first | rfl | (simp; done) | (simp [*]; done)), H', ⟨by first | omega | exact Nat.le_refl _⟩, ⟨by (with_reducible repeat (first | refine blk_drewN ?_ _ | refine blk_drew ?_ | refine blk_alloc ?_ _)); exact BK179.out⟩, ⟨by (with_reducible repeat (first | refine blk_drewN ?_ _ | refine blk_drew ?_ | refine blk_alloc ?_ _)); exact BK180.out⟩, ⟨by repeat (first | (with_reducible first | exact HB.out | apply below_alloc | apply pw_below_drewN | apply below_drew1 | refine below_set ?_ GE179.out | refine below_set ?_ GE180.out) | exact HB.out)⟩⟩
   ·rw [if_neg c8] at H
    have c8b0 : decide (a1 < 0) = false := decide_eq_false c8
    clear c8
    have H' := Aside0.mk H
    clear H
    go_wp2
    go_meet
    case rel => exact ⟨_, (decide (a1 > 15)), (by first | rfl | (simp; done) | (simp [*]; done)), H', ⟨by first | omega | exact Nat.le_refl _⟩, ⟨by (with_reducible repeat (first | refine blk_drewN ?_ _ | refine blk_drew ?_ | refine blk_alloc ?_ _)); exact BK179.out⟩, ⟨by (with_reducible repeat (first | refine blk_drewN ?_ _ | refine blk_drew ?_ | refine blk_alloc ?_ _)); exact BK180.out⟩, ⟨by repeat (first | (with_reducible first | exact HB.out | apply below_alloc | apply pw_below_drewN | apply below_drew1 | refine below_set ?_ GE179.out | refine below_set ?_ GE180.out) | exact HB.out)⟩⟩
  ·rw [if_neg c7] at H
   have c7b0 : (a0 == 3) = false := beq_eq_false_iff_ne.mpr c7
   have c7b1 : (a0 != 3) = true := bne_iff_ne.mpr c7
   (first | rw [c7b0] | (simp only [i64_w, i32_w]; rw [c7b0]) | skip)
   by_cases c9 : a0 = 11
   ·rw [if_pos c9] at H
    have c9b0 : (a0 == 11) = true := beq_iff_eq.mpr c9
    have c9b1 : (a0 != 11) = false := bne_eq_false_iff_eq.mpr c9
    clear c9
    by_cases c10 : a1 < 0
    ·rw [if_pos c10] at H
     have c10b0 : decide (a1 < 0) = true := decide_eq_true c10
     clear c10
     have H' := Aside0.mk H
     clear H
     go_wp2
     go_meet
     case rel => exact ⟨_, (true), (by first | rfl | (simp; done) | (simp [*]; done)), H', ⟨by first | omega | exact Nat.le_refl _⟩, ⟨by (with_reducible repeat (first | refine blk_drewN ?_ _ | refine blk_drew ?_ | refine blk_alloc ?_ _)); exact BK179.out⟩, ⟨by (with_reducible repeat (first | refine blk_drewN ?_ _ | refine blk_drew ?_ | refine blk_alloc ?_ _)); exact BK180.out⟩, ⟨by repeat (first | (with_reducible first | exact HB.out | apply below_alloc | apply pw_below_drewN | apply below_drew1 | refine below_set ?_ GE179.out | refine below_set ?_ GE180.out) | exact HB.out)⟩⟩
    ·rw [if_neg c10] at H
     have c10b0 : decide (a1 < 0) = false := decide_eq_false c10
     clear c10
     have H' := Aside0.mk H
     clear H
     go_wp2
     go_meet
     case rel => exact ⟨_, (decide (a1 > 15)), (by first | rfl | (simp; done) | (simp [*]; done)), H', ⟨by first | omega | exact Nat.le_refl _⟩, ⟨by (with_reducible repeat (first | refine blk_drewN ?_ _ | refine blk_drew ?_ | refine blk_alloc ?_ _)); exact BK179.out⟩, ⟨by (with_reducible repeat (first | refine blk_drewN ?_ _ | refine blk_drew ?_ | refine blk_alloc ?_ _)); exact BK180.out⟩, ⟨by repeat (first | (with_reducible first | exact HB.out | apply below_alloc | apply pw_below_drewN | apply below_drew1 | refine below_set ?_ GE179.out | refine below_set ?_ GE180.out) | exact HB.out)⟩⟩
   ·rw [if_neg c9] at H
    have c9b0 : (a0 == 11) = false := beq_eq_false_iff_ne.mpr c9
    have c9b1 : (a0 != 11) = true := bne_iff_ne.mpr c9
    have H' := Aside0.mk H
    clear H
    go_wp2
    go_meet
    case rel => exact ⟨_, (true), (by first | rfl | (simp; done) | (simp [*]; done)), H', ⟨by first | omega | exact Nat.le_refl _⟩, ⟨by (with_reducible repeat (first | refine blk_drewN ?_ _ | refine blk_drew ?_ | refine blk_alloc ?_ _)); exact BK179.out⟩, ⟨by (with_reducible repeat (first | refine blk_drewN ?_ _ | refine blk_drew ?_ | refine blk_alloc ?_ _)); exact BK180.out⟩, ⟨by repeat (first | (with_reducible first | exact HB.out | apply below_alloc | apply pw_below_drewN | apply below_drew1 | refine below_set ?_ GE179.out | refine below_set ?_ GE180.out) | exact HB.out)⟩⟩
 case rest =>
  clear HC4
  try clear c1; try clear c2; try clear p2; try clear c7; try clear c7b0; try clear c7b1; try clear c8; try clear c8b0; try clear c9; try clear c9b0; try clear c9b1; try clear c10; try clear c10b0
  obtain ⟨kq, x24_3, rfl, HA, HJ3, BK179, BK180, HB⟩ := hcut
  cases kq with
  | zero => exact absurd HA.out (by simp [sternpostref06_About.j0])
  | succ kj3 =>
   have H := HA.out
   clear HA
   simp only [sternpostref06_About.j0] at H
   by_cases c11 : x24_3 = true
   ·subst c11
    have H1 : (some (0, 0, 0, 0, (⟨#[]⟩ : ByteArray), 1)) = some (r1, r2, r3, r4, r5, r6) := by rw [if_pos rfl] at H; exact H
    clear H
    have H := H1
    clear H1
    simp only [Option.some.injEq, Prod.mk.injEq] at H
    obtain ⟨rfl, rfl, rfl, rfl, rfl, rfl⟩ := H
    have hnb12 := NB180_179.out
    have hnc12 := NB179_180.out
    have hcz13_0 : wc.cell? ⟨gb180, 0, none⟩ = some (.int .i64 0) := (blk_cell BK180.out 0).trans rfl
    have hcz13_1 : wc.cell? ⟨gb180, 1, none⟩ = some (.int .i64 0) := (blk_cell BK180.out 1).trans rfl
    have hcz13_2 : wc.cell? ⟨gb180, 2, none⟩ = some (.int .i64 0) := (blk_cell BK180.out 2).trans rfl
    have hcz13_3 : wc.cell? ⟨gb180, 3, none⟩ = some (.int .i64 0) := (blk_cell BK180.out 3).trans rfl
    have hcz13_4 : wc.cell? ⟨gb180, 4, none⟩ = some (.string (⟨#[]⟩ : ByteArray)) := (blk_cell BK180.out 4).trans rfl
    have hfz13_0 := blk_frozen BK180.out 0
    have hfz13_1 := blk_frozen BK180.out 1
    have hfz13_2 := blk_frozen BK180.out 2
    have hfz13_3 := blk_frozen BK180.out 3
    have hfz13_4 := blk_frozen BK180.out 4
    go_wp2
    refine bodyPost_ret (results_ct rfl _ _ gb180 23 #[.int .i64 0, .int .i64 0, .int .i64 0, .int .i64 0, .string (⟨#[]⟩ : ByteArray)] (0, 0) _ rfl (by (with_reducible repeat (first | refine blk_drewN ?_ _ | refine blk_drew ?_ | refine blk_alloc ?_ _)); refine blk_put (cs := #[.int .i64 0, .int .i64 0, .int .i64 0, .int .i64 0, .string (⟨#[]⟩ : ByteArray)]) ?_ 4 _ rfl; refine blk_put (cs := #[.int .i64 0, .int .i64 0, .int .i64 0, .int .i64 0, .string (⟨#[]⟩ : ByteArray)]) ?_ 3 _ rfl; refine blk_put (cs := #[.int .i64 0, .int .i64 0, .int .i64 0, .int .i64 0, .string (⟨#[]⟩ : ByteArray)]) ?_ 2 _ rfl; refine blk_put (cs := #[.int .i64 0, .int .i64 0, .int .i64 0, .int .i64 0, .string (⟨#[]⟩ : ByteArray)]) ?_ 1 _ rfl; refine blk_put (cs := #[.int .i64 0, .int .i64 0, .int .i64 0, .int .i64 0, .string (⟨#[]⟩ : ByteArray)]) ?_ 0 _ rfl; (with_reducible repeat (first | refine blk_drewN ?_ _ | refine blk_drew ?_ | refine blk_alloc ?_ _)); exact BK180.out) Try.underlying23 rfl (by kernel_rfl)) rfl ?_
    exact ⟨by first | rfl | (simp [errW_none, errW_some] <;> rfl) | (simp [*, errW_none, errW_some] <;> rfl), by repeat (first | (with_reducible first | exact HB.out | apply below_alloc | apply pw_below_drewN | apply below_drew1 | refine below_set ?_ GE179.out | refine below_set ?_ GE180.out) | exact HB.out)⟩
   ·replace c11 := Bool.eq_false_iff.mpr c11
    subst c11
    have H1 : ((sternpostref05_Check.f kj3 a2_0 a2_1 a2_2 a2_3 a2_4 a2_5 a2_6 a2_7 a2_8 a2_9).bind fun t181 => (if t181 = 0 then ((sternpostref05_Bytes.f kj3 a2_0 a2_1 a2_2 a2_3 a2_4 a2_5 a2_6 a2_7 a2_8 a2_9).bind fun t182 => (if 0 ≤ (mn (t182.size : Int) (wrap64 ((wrap64 (20 + (a2_8.size : Int))) + 8))) then (if (mn (t182.size : Int) (wrap64 ((wrap64 (20 + (a2_8.size : Int))) + 8))) ≤ (t182.size : Int) then (some (a0, a1, 0, 0, cutS t182 0 ((mn (t182.size : Int) (wrap64 ((wrap64 (20 + (a2_8.size : Int))) + 8))) : Int).toNat, 0)) else (none)) else (none))) else (some (0, 0, 0, 0, (⟨#[]⟩ : ByteArray), t181)))) = some (r1, r2, r3, r4, r5, r6) := by rw [if_neg (show ¬ (false = true) by decide)] at H; exact H
    clear H
    have H := H1
    clear H1
    replace H := Option.bind_eq_some_iff.mp H
    obtain ⟨t181, A140, H⟩ := H
    replace H : (if t181 = 0 then ((sternpostref05_Bytes.f kj3 a2_0 a2_1 a2_2 a2_3 a2_4 a2_5 a2_6 a2_7 a2_8 a2_9).bind fun t182 => (if 0 ≤ (mn (t182.size : Int) (wrap64 ((wrap64 (20 + (a2_8.size : Int))) + 8))) then (if (mn (t182.size : Int) (wrap64 ((wrap64 (20 + (a2_8.size : Int))) + 8))) ≤ (t182.size : Int) then (some (a0, a1, 0, 0, cutS t182 0 ((mn (t182.size : Int) (wrap64 ((wrap64 (20 + (a2_8.size : Int))) + 8))) : Int).toNat, 0)) else (none)) else (none))) else (some (0, 0, 0, 0, (⟨#[]⟩ : ByteArray), t181))) = some (r1, r2, r3, r4, r5, r6) := H
    have A14 := Aside0.mk A140
    clear A140
    by_cases c15 : t181 = 0
    ·rw [if_pos c15] at H
     have c15b0 : (t181 == 0) = true := beq_iff_eq.mpr c15
     have c15b1 : (t181 != 0) = false := bne_eq_false_iff_eq.mpr c15
     clear c15
     replace H := Option.bind_eq_some_iff.mp H
     obtain ⟨t182, A160, H⟩ := H
     replace H : (if 0 ≤ (mn (t182.size : Int) (wrap64 ((wrap64 (20 + (a2_8.size : Int))) + 8))) then (if (mn (t182.size : Int) (wrap64 ((wrap64 (20 + (a2_8.size : Int))) + 8))) ≤ (t182.size : Int) then (some (a0, a1, 0, 0, cutS t182 0 ((mn (t182.size : Int) (wrap64 ((wrap64 (20 + (a2_8.size : Int))) + 8))) : Int).toNat, 0)) else (none)) else (none)) = some (r1, r2, r3, r4, r5, r6) := H
     have A16 := Aside0.mk A160
     clear A160
     obtain ⟨ji17, hji17⟩ : ∃ j_ : Int, (mn (t182.size : Int) (wrap64 ((wrap64 (20 + (a2_8.size : Int))) + 8))) = j_ := ⟨_, rfl⟩
     replace H : (if 0 ≤ (ji17) then (if (ji17) ≤ (t182.size : Int) then (some (a0, a1, 0, 0, cutS t182 0 ((ji17) : Int).toNat, 0)) else (none)) else (none)) = some (r1, r2, r3, r4, r5, r6) := by first | (rw [hji17] at H; exact H) | (simp only [hji17] at H ⊢; exact H)
     (try rw [hji17] at A14)
     (try rw [hji17] at A16)
     have hji17_ : (if (wrap64 ((wrap64 (20 + (a2_8.size : Int))) + 8)) < (t182.size : Int) then (wrap64 ((wrap64 (20 + (a2_8.size : Int))) + 8)) else (t182.size : Int)) = ji17 := hji17
     by_cases c18 : 0 ≤ (ji17)
     ·rw [if_pos c18] at H
      have c18b0 := eq_true c18
      have c18b1 : decide (0 ≤ (ji17)) = true := decide_eq_true c18
      clear c18
      by_cases c19 : (ji17) ≤ (t182.size : Int)
      ·rw [if_pos c19] at H
       have c19b0 := eq_true c19
       have c19b1 : decide ((ji17) ≤ (t182.size : Int)) = true := decide_eq_true c19
       clear c19
       simp only [Option.some.injEq, Prod.mk.injEq] at H
       obtain ⟨rfl, rfl, rfl, rfl, rfl, rfl⟩ := H
       have hnb20 := NB179_180.out
       have hnc20 := NB180_179.out
       have hcz21_0 : wc.cell? ⟨gb179, 0, none⟩ = some (.int .i64 a2_0) := (blk_cell BK179.out 0).trans rfl
       have hcz21_1 : wc.cell? ⟨gb179, 1, none⟩ = some (.int .i64 a2_1) := (blk_cell BK179.out 1).trans rfl
       have hcz21_2 : wc.cell? ⟨gb179, 2, none⟩ = some (.int .i64 a2_2) := (blk_cell BK179.out 2).trans rfl
       have hcz21_3 : wc.cell? ⟨gb179, 3, none⟩ = some (.int .i64 a2_3) := (blk_cell BK179.out 3).trans rfl
       have hcz21_4 : wc.cell? ⟨gb179, 4, none⟩ = some (.int .i64 a2_4) := (blk_cell BK179.out 4).trans rfl
       have hcz21_5 : wc.cell? ⟨gb179, 5, none⟩ = some (.int .i64 a2_5) := (blk_cell BK179.out 5).trans rfl
       have hcz21_6 : wc.cell? ⟨gb179, 6, none⟩ = some (.bool a2_6) := (blk_cell BK179.out 6).trans rfl
       have hcz21_7 : wc.cell? ⟨gb179, 7, none⟩ = some (.bool a2_7) := (blk_cell BK179.out 7).trans rfl
       have hcz21_8 : wc.cell? ⟨gb179, 8, none⟩ = some (.string a2_8) := (blk_cell BK179.out 8).trans rfl
       have hcz21_9 : wc.cell? ⟨gb179, 9, none⟩ = some (.string a2_9) := (blk_cell BK179.out 9).trans rfl
       have hfz21_0 := blk_frozen BK179.out 0
       have hfz21_1 := blk_frozen BK179.out 1
       have hfz21_2 := blk_frozen BK179.out 2
       have hfz21_3 := blk_frozen BK179.out 3
       have hfz21_4 := blk_frozen BK179.out 4
       have hfz21_5 := blk_frozen BK179.out 5
       have hfz21_6 := blk_frozen BK179.out 6
       have hfz21_7 := blk_frozen BK179.out 7
       have hfz21_8 := blk_frozen BK179.out 8
       have hfz21_9 := blk_frozen BK179.out 9
       go_wp2_with (first | ((with_reducible refine gate_callee (f := 31) rfl ?_); refine goesL_ (some 27) rfl rfl Try.func31 (by kernel_rfl) rfl #[.agg #[.int .i64 a2_0, .int .i64 a2_1, .int .i64 a2_2, .int .i64 a2_3, .int .i64 a2_4, .int .i64 a2_5, .bool a2_6, .bool a2_7, .string a2_8, .string a2_9]] rfl (by (try simp only [List.map_toArray, List.map_cons, List.map_nil]); first | done | rfl | (simp only [List.length_drop, List.length_take]; rfl)) ?_; (with_reducible refine (sternpostref05_Check.calls kj3 a2_0 a2_1 a2_2 a2_3 a2_4 a2_5 a2_6 a2_7 a2_8 a2_9 t181 _ A14.out).mono ?_); rintro e w22 ⟨rfl, hb⟩; refine ⟨_, rfl, ?_⟩; have n0_ := Aside0.mk (blk_below (g := gb179) (o := .cells #[.int .i64 a2_0, .int .i64 a2_1, .int .i64 a2_2, .int .i64 a2_3, .int .i64 a2_4, .int .i64 a2_5, .bool a2_6, .bool a2_7, .string a2_8, .string a2_9] 39 (0, 0)) (by (with_reducible repeat (first | refine blk_drewN ?_ _ | refine blk_drew ?_ | refine blk_alloc ?_ _)); exact BK179.out) hb); have n1_ := Aside0.mk (blk_below (g := gb180) (o := .cells #[.int .i64 0, .int .i64 0, .int .i64 0, .int .i64 0, .string (⟨#[]⟩ : ByteArray)] 23 (0, 0)) (by (with_reducible repeat (first | refine blk_drewN ?_ _ | refine blk_drew ?_ | refine blk_alloc ?_ _)); exact BK180.out) hb); have n2_ := Aside0.mk (below_step (by repeat (first | (with_reducible first | exact HB.out | apply below_alloc | apply pw_below_drewN | apply below_drew1 | refine below_set ?_ GE179.out | refine below_set ?_ GE180.out) | exact HB.out)) hb); clear BK179; clear BK180; clear HB; have BK179 := n0_; have BK180 := n1_; have HB := n2_; clear n0_ n1_ n2_; (try clear hb); (try clear hb2); (try clear hk); (try clear hi); have hcz23_0 : w22.cell? ⟨gb179, 0, none⟩ = some (.int .i64 a2_0) := (blk_cell BK179.out 0).trans rfl; have hcz23_1 : w22.cell? ⟨gb179, 1, none⟩ = some (.int .i64 a2_1) := (blk_cell BK179.out 1).trans rfl; have hcz23_2 : w22.cell? ⟨gb179, 2, none⟩ = some (.int .i64 a2_2) := (blk_cell BK179.out 2).trans rfl; have hcz23_3 : w22.cell? ⟨gb179, 3, none⟩ = some (.int .i64 a2_3) := (blk_cell BK179.out 3).trans rfl; have hcz23_4 : w22.cell? ⟨gb179, 4, none⟩ = some (.int .i64 a2_4) := (blk_cell BK179.out 4).trans rfl; have hcz23_5 : w22.cell? ⟨gb179, 5, none⟩ = some (.int .i64 a2_5) := (blk_cell BK179.out 5).trans rfl; have hcz23_6 : w22.cell? ⟨gb179, 6, none⟩ = some (.bool a2_6) := (blk_cell BK179.out 6).trans rfl; have hcz23_7 : w22.cell? ⟨gb179, 7, none⟩ = some (.bool a2_7) := (blk_cell BK179.out 7).trans rfl; have hcz23_8 : w22.cell? ⟨gb179, 8, none⟩ = some (.string a2_8) := (blk_cell BK179.out 8).trans rfl; have hcz23_9 : w22.cell? ⟨gb179, 9, none⟩ = some (.string a2_9) := (blk_cell BK179.out 9).trans rfl; have hfz23_0 := blk_frozen BK179.out 0; have hfz23_1 := blk_frozen BK179.out 1; have hfz23_2 := blk_frozen BK179.out 2; have hfz23_3 := blk_frozen BK179.out 3; have hfz23_4 := blk_frozen BK179.out 4; have hfz23_5 := blk_frozen BK179.out 5; have hfz23_6 := blk_frozen BK179.out 6; have hfz23_7 := blk_frozen BK179.out 7; have hfz23_8 := blk_frozen BK179.out 8; have hfz23_9 := blk_frozen BK179.out 9) | ((with_reducible refine gate_callee (f := 32) rfl ?_); refine goesL_ (some 37) rfl rfl Try.func32 (by kernel_rfl) rfl #[.agg #[.int .i64 a2_0, .int .i64 a2_1, .int .i64 a2_2, .int .i64 a2_3, .int .i64 a2_4, .int .i64 a2_5, .bool a2_6, .bool a2_7, .string a2_8, .string a2_9]] rfl (by (try simp only [List.map_toArray, List.map_cons, List.map_nil]); first | done | rfl | (simp only [List.length_drop, List.length_take]; rfl)) ?_; (with_reducible refine (sternpostref05_Bytes.calls kj3 a2_0 a2_1 a2_2 a2_3 a2_4 a2_5 a2_6 a2_7 a2_8 a2_9 t182 _ A16.out).mono ?_); rintro e w24 ⟨rfl, hb⟩; refine ⟨_, rfl, ?_⟩; have n0_ := Aside0.mk (blk_below (g := gb179) (o := .cells #[.int .i64 a2_0, .int .i64 a2_1, .int .i64 a2_2, .int .i64 a2_3, .int .i64 a2_4, .int .i64 a2_5, .bool a2_6, .bool a2_7, .string a2_8, .string a2_9] 39 (0, 0)) (by (with_reducible repeat (first | refine blk_drewN ?_ _ | refine blk_drew ?_ | refine blk_alloc ?_ _)); exact BK179.out) hb); have n1_ := Aside0.mk (blk_below (g := gb180) (o := .cells #[.int .i64 0, .int .i64 0, .int .i64 0, .int .i64 0, .string (⟨#[]⟩ : ByteArray)] 23 (0, 0)) (by (with_reducible repeat (first | refine blk_drewN ?_ _ | refine blk_drew ?_ | refine blk_alloc ?_ _)); exact BK180.out) hb); have n2_ := Aside0.mk (below_step (by repeat (first | (with_reducible first | exact HB.out | apply below_alloc | apply pw_below_drewN | apply below_drew1 | refine below_set ?_ GE179.out | refine below_set ?_ GE180.out) | exact HB.out)) hb); clear BK179; clear BK180; clear HB; have BK179 := n0_; have BK180 := n1_; have HB := n2_; clear n0_ n1_ n2_; (try clear hb); (try clear hb2); (try clear hk); (try clear hi); have hcz25_0 : w24.cell? ⟨gb180, 0, none⟩ = some (.int .i64 0) := (blk_cell BK180.out 0).trans rfl; have hcz25_1 : w24.cell? ⟨gb180, 1, none⟩ = some (.int .i64 0) := (blk_cell BK180.out 1).trans rfl; have hcz25_2 : w24.cell? ⟨gb180, 2, none⟩ = some (.int .i64 0) := (blk_cell BK180.out 2).trans rfl; have hcz25_3 : w24.cell? ⟨gb180, 3, none⟩ = some (.int .i64 0) := (blk_cell BK180.out 3).trans rfl; have hcz25_4 : w24.cell? ⟨gb180, 4, none⟩ = some (.string (⟨#[]⟩ : ByteArray)) := (blk_cell BK180.out 4).trans rfl; have hfz25_0 := blk_frozen BK180.out 0; have hfz25_1 := blk_frozen BK180.out 1; have hfz25_2 := blk_frozen BK180.out 2; have hfz25_3 := blk_frozen BK180.out 3; have hfz25_4 := blk_frozen BK180.out 4))
       refine bodyPost_ret (results_ct rfl _ _ gb180 23 #[.int .i64 a0, .int .i64 a1, .int .i64 0, .int .i64 0, .string (cutS t182 0 ((ji17) : Int).toNat)] (0, 0) _ rfl (by (with_reducible repeat (first | refine blk_drewN ?_ _ | refine blk_drew ?_ | refine blk_alloc ?_ _)); refine blk_put (cs := #[.int .i64 a0, .int .i64 a1, .int .i64 0, .int .i64 0, .string (⟨#[]⟩ : ByteArray)]) ?_ 4 _ rfl; refine blk_put (cs := #[.int .i64 a0, .int .i64 a1, .int .i64 0, .int .i64 0, .string (⟨#[]⟩ : ByteArray)]) ?_ 3 _ rfl; refine blk_put (cs := #[.int .i64 a0, .int .i64 a1, .int .i64 0, .int .i64 0, .string (⟨#[]⟩ : ByteArray)]) ?_ 2 _ rfl; refine blk_put (cs := #[.int .i64 a0, .int .i64 0, .int .i64 0, .int .i64 0, .string (⟨#[]⟩ : ByteArray)]) ?_ 1 _ rfl; refine blk_put (cs := #[.int .i64 0, .int .i64 0, .int .i64 0, .int .i64 0, .string (⟨#[]⟩ : ByteArray)]) ?_ 0 _ rfl; (with_reducible repeat (first | refine blk_drewN ?_ _ | refine blk_drew ?_ | refine blk_alloc ?_ _)); exact BK180.out) Try.underlying23 rfl (by kernel_rfl)) rfl ?_
       exact ⟨by first | rfl | (simp [errW_none, errW_some] <;> rfl) | (simp only [← hji17]; first | rfl | (simp [errW_none, errW_some] <;> rfl)) | (simp [*, errW_none, errW_some] <;> rfl), by repeat (first | (with_reducible first | exact HB.out | apply below_alloc | apply pw_below_drewN | apply below_drew1 | refine below_set ?_ GE179.out | refine below_set ?_ GE180.out) | exact HB.out)⟩
      ·rw [if_neg c19] at H
       exact absurd H (by simp)
     ·rw [if_neg c18] at H
      exact absurd H (by simp)
    ·rw [if_neg c15] at H
     have c15b0 : (t181 == 0) = false := beq_eq_false_iff_ne.mpr c15
     have c15b1 : (t181 != 0) = true := bne_iff_ne.mpr c15
     simp only [Option.some.injEq, Prod.mk.injEq] at H
     obtain ⟨rfl, rfl, rfl, rfl, rfl, rfl⟩ := H
     have hnb26 := NB179_180.out
     have hnc26 := NB180_179.out
     have hcz27_0 : wc.cell? ⟨gb179, 0, none⟩ = some (.int .i64 a2_0) := (blk_cell BK179.out 0).trans rfl
     have hcz27_1 : wc.cell? ⟨gb179, 1, none⟩ = some (.int .i64 a2_1) := (blk_cell BK179.out 1).trans rfl
     have hcz27_2 : wc.cell? ⟨gb179, 2, none⟩ = some (.int .i64 a2_2) := (blk_cell BK179.out 2).trans rfl
     have hcz27_3 : wc.cell? ⟨gb179, 3, none⟩ = some (.int .i64 a2_3) := (blk_cell BK179.out 3).trans rfl
     have hcz27_4 : wc.cell? ⟨gb179, 4, none⟩ = some (.int .i64 a2_4) := (blk_cell BK179.out 4).trans rfl
     have hcz27_5 : wc.cell? ⟨gb179, 5, none⟩ = some (.int .i64 a2_5) := (blk_cell BK179.out 5).trans rfl
     have hcz27_6 : wc.cell? ⟨gb179, 6, none⟩ = some (.bool a2_6) := (blk_cell BK179.out 6).trans rfl
     have hcz27_7 : wc.cell? ⟨gb179, 7, none⟩ = some (.bool a2_7) := (blk_cell BK179.out 7).trans rfl
     have hcz27_8 : wc.cell? ⟨gb179, 8, none⟩ = some (.string a2_8) := (blk_cell BK179.out 8).trans rfl
     have hcz27_9 : wc.cell? ⟨gb179, 9, none⟩ = some (.string a2_9) := (blk_cell BK179.out 9).trans rfl
     have hfz27_0 := blk_frozen BK179.out 0
     have hfz27_1 := blk_frozen BK179.out 1
     have hfz27_2 := blk_frozen BK179.out 2
     have hfz27_3 := blk_frozen BK179.out 3
     have hfz27_4 := blk_frozen BK179.out 4
     have hfz27_5 := blk_frozen BK179.out 5
     have hfz27_6 := blk_frozen BK179.out 6
     have hfz27_7 := blk_frozen BK179.out 7
     have hfz27_8 := blk_frozen BK179.out 8
     have hfz27_9 := blk_frozen BK179.out 9
     go_wp2_with (first | ((with_reducible refine gate_callee (f := 31) rfl ?_); refine goesL_ (some 27) rfl rfl Try.func31 (by kernel_rfl) rfl #[.agg #[.int .i64 a2_0, .int .i64 a2_1, .int .i64 a2_2, .int .i64 a2_3, .int .i64 a2_4, .int .i64 a2_5, .bool a2_6, .bool a2_7, .string a2_8, .string a2_9]] rfl (by (try simp only [List.map_toArray, List.map_cons, List.map_nil]); first | done | rfl | (simp only [List.length_drop, List.length_take]; rfl)) ?_; (with_reducible refine (sternpostref05_Check.calls kj3 a2_0 a2_1 a2_2 a2_3 a2_4 a2_5 a2_6 a2_7 a2_8 a2_9 t181 _ A14.out).mono ?_); rintro e w28 ⟨rfl, hb⟩; refine ⟨_, rfl, ?_⟩; have n0_ := Aside0.mk (blk_below (g := gb179) (o := .cells #[.int .i64 a2_0, .int .i64 a2_1, .int .i64 a2_2, .int .i64 a2_3, .int .i64 a2_4, .int .i64 a2_5, .bool a2_6, .bool a2_7, .string a2_8, .string a2_9] 39 (0, 0)) (by (with_reducible repeat (first | refine blk_drewN ?_ _ | refine blk_drew ?_ | refine blk_alloc ?_ _)); exact BK179.out) hb); have n1_ := Aside0.mk (blk_below (g := gb180) (o := .cells #[.int .i64 0, .int .i64 0, .int .i64 0, .int .i64 0, .string (⟨#[]⟩ : ByteArray)] 23 (0, 0)) (by (with_reducible repeat (first | refine blk_drewN ?_ _ | refine blk_drew ?_ | refine blk_alloc ?_ _)); exact BK180.out) hb); have n2_ := Aside0.mk (below_step (by repeat (first | (with_reducible first | exact HB.out | apply below_alloc | apply pw_below_drewN | apply below_drew1 | refine below_set ?_ GE179.out | refine below_set ?_ GE180.out) | exact HB.out)) hb); clear BK179; clear BK180; clear HB; have BK179 := n0_; have BK180 := n1_; have HB := n2_; clear n0_ n1_ n2_; (try clear hb); (try clear hb2); (try clear hk); (try clear hi); have hcz29_0 : w28.cell? ⟨gb180, 0, none⟩ = some (.int .i64 0) := (blk_cell BK180.out 0).trans rfl; have hcz29_1 : w28.cell? ⟨gb180, 1, none⟩ = some (.int .i64 0) := (blk_cell BK180.out 1).trans rfl; have hcz29_2 : w28.cell? ⟨gb180, 2, none⟩ = some (.int .i64 0) := (blk_cell BK180.out 2).trans rfl; have hcz29_3 : w28.cell? ⟨gb180, 3, none⟩ = some (.int .i64 0) := (blk_cell BK180.out 3).trans rfl; have hcz29_4 : w28.cell? ⟨gb180, 4, none⟩ = some (.string (⟨#[]⟩ : ByteArray)) := (blk_cell BK180.out 4).trans rfl; have hfz29_0 := blk_frozen BK180.out 0; have hfz29_1 := blk_frozen BK180.out 1; have hfz29_2 := blk_frozen BK180.out 2; have hfz29_3 := blk_frozen BK180.out 3; have hfz29_4 := blk_frozen BK180.out 4))
     refine bodyPost_ret (results_ct rfl _ _ gb180 23 #[.int .i64 0, .int .i64 0, .int .i64 0, .int .i64 0, .string (⟨#[]⟩ : ByteArray)] (0, 0) _ rfl (by (with_reducible repeat (first | refine blk_drewN ?_ _ | refine blk_drew ?_ | refine blk_alloc ?_ _)); refine blk_put (cs := #[.int .i64 0, .int .i64 0, .int .i64 0, .int .i64 0, .string (⟨#[]⟩ : ByteArray)]) ?_ 4 _ rfl; refine blk_put (cs := #[.int .i64 0, .int .i64 0, .int .i64 0, .int .i64 0, .string (⟨#[]⟩ : ByteArray)]) ?_ 3 _ rfl; refine blk_put (cs := #[.int .i64 0, .int .i64 0, .int .i64 0, .int .i64 0, .string (⟨#[]⟩ : ByteArray)]) ?_ 2 _ rfl; refine blk_put (cs := #[.int .i64 0, .int .i64 0, .int .i64 0, .int .i64 0, .string (⟨#[]⟩ : ByteArray)]) ?_ 1 _ rfl; refine blk_put (cs := #[.int .i64 0, .int .i64 0, .int .i64 0, .int .i64 0, .string (⟨#[]⟩ : ByteArray)]) ?_ 0 _ rfl; (with_reducible repeat (first | refine blk_drewN ?_ _ | refine blk_drew ?_ | refine blk_alloc ?_ _)); exact BK180.out) Try.underlying23 rfl (by kernel_rfl)) rfl ?_
     exact ⟨by first | rfl | (simp [errW_none, errW_some] <;> rfl) | (simp [*, errW_none, errW_some] <;> rfl), by repeat (first | (with_reducible first | exact HB.out | apply below_alloc | apply pw_below_drewN | apply below_drew1 | refine below_set ?_ GE179.out | refine below_set ?_ GE180.out) | exact HB.out)⟩

end Go.Proofs.Ytckgcjjehahkiaa.PIcmpTells

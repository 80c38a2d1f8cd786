-- Laid by this claim's own program over the print's words.
import Derived.Test.YtckgcjjehahkiaaPIcmpBackx0
import Derived.Test.YtckgcjjehahkiaaPIcmpBackx2
namespace Go.Proofs.Ytckgcjjehahkiaa.PIcmpBack
open Go.RowKit Go.Proofs.YtckgcjjehahkiaaW.PrintWords Go.Proofs.YtckgcjjehahkiaaW.PrintLast Go.Proofs.YtckgcjjehahkiaaW.PrintMore
attribute [local go_sem] max2_int min2_int max_two min_two max_three min_three max_four min_four extract_cut tmod_nat_lit   -- for this text's walks alone
set_option linter.unusedVariables false
set_option linter.unusedSimpArgs false

/-! ### icmp_Decode: function 16 -/
def icmp_Decode.j0 : Nat → ByteArray → Bool → Option (Int × Int × Int × Int × ByteArray × Int)
 | 0, _, _ => none
 | k + 1, x0, x5 => if x5 = true then (some (0, 0, 0, 0, (⟨#[]⟩ : ByteArray), 60)) else ((sum_Whole.f k x0).bind fun t135 => (if t135 = true then (if 0 < (x0.size : Int) then (if 1 < (x0.size : Int) then (if 8 ≤ (x0.size : Int) then ((sum_Get.f x0 4 2).bind fun bt137 => ((sum_Get.f x0 6 2).bind fun bt139 => (some (wrap64 (bt x0 0), wrap64 (bt x0 1), bt137.1, bt139.1, cutS x0 8 x0.size, 0)))) else (none)) else (none)) else (none)) else (some (0, 0, 0, 0, (⟨#[]⟩ : ByteArray), 20))))
def icmp_Decode.f (k : Nat) (a0 : ByteArray) : Option (Int × Int × Int × Int × ByteArray × Int) := if (a0.size : Int) < 8 then (icmp_Decode.j0 k a0 true) else (icmp_Decode.j0 k a0 (decide ((a0.size : Int) > 65508)))
theorem icmp_Decode.mono_l : ∀ k, (∀ y0 y1, LeO (icmp_Decode.j0 k y0 y1) (icmp_Decode.j0 (k + 1) y0 y1))
 | 0 => fun _ _ r h => by simp [icmp_Decode.j0] at h
 | k + 1 => by
  have ih0 := icmp_Decode.mono_l k
  ·intro y0 y1
   unfold icmp_Decode.j0
   repeat' first
   | (with_reducible exact ih0 _ _)
   | (with_reducible exact sum_Whole.mono _ _)
   | (with_reducible exact LeO.refl _)
   | (with_reducible exact LeO.none _)
   | (with_reducible refine LeO.ite ?_ ?_)
   | (with_reducible refine LeO.bind ?_ (fun _ => ?_))
   | exact ih0 _ _
   | exact sum_Whole.mono _ _
   | exact LeO.none _
   | refine LeO.ite ?_ ?_
   | refine LeO.bind ?_ (fun _ => ?_)
theorem icmp_Decode.mono : ∀ a0 k, LeO (icmp_Decode.f k a0) (icmp_Decode.f (k + 1) a0) := by
 intro a0 k
 have ih0 := icmp_Decode.mono_l k
 unfold icmp_Decode.f
 repeat' first
   | (with_reducible exact ih0 _ _)
   | (with_reducible exact sum_Whole.mono _ _)
   | (with_reducible exact LeO.refl _)
   | (with_reducible exact LeO.none _)
   | (with_reducible refine LeO.ite ?_ ?_)
   | (with_reducible refine LeO.bind ?_ (fun _ => ?_))
   | exact ih0 _ _
   | exact sum_Whole.mono _ _
   | exact LeO.none _
   | refine LeO.ite ?_ ?_
   | refine LeO.bind ?_ (fun _ => ?_)
def icmp_Decode.T5 : Bool × List (List Nat × List Nat) := (true, [([], []), ([0], [0]), ([1], [1]), ([], []), ([3], [3]), ([4], [4]), ([], []), ([6], [6]), ([2, 5, 7], [2, 5, 7]), ([], []), ([9, 8, 0, 1, 2, 3, 4, 5, 6, 7, 8, 9], [8, 9])])
def icmp_Decode.B5 : List Nat := [0, 1, 3, 0, 8, 24, 0, 64, 255, 0, 1023]
theorem icmp_Decode.tab5 : rtab .any (opsOf Try.f16 5) = icmp_Decode.T5 := by kernel_rfl
theorem icmp_Decode.bits5 : waitsOk icmp_Decode.T5.2 icmp_Decode.B5 = true := by kernel_rfl
set_option maxHeartbeats 8000000 in
set_option maxRecDepth 100000 in
theorem icmp_Decode.calls (k : Nat) (a0 : ByteArray) (r1 : Int) (r2 : Int) (r3 : Int) (r4 : Int) (r5 : ByteArray) (r6 : Int) (w : World) (h : icmp_Decode.f k a0 = some (r1, r2, r3, r4, r5, r6)) :
  Calls Try.prog 16 #[.string a0] w fun e w' => e = .returned (.tuple #[.agg #[.int .i64 r1, .int .i64 r2, .int .i64 r3, .int .i64 r4, .string r5], .int .i64 r6]) ∧ Below w.heap.size w w' := by
 have hu23 := Try.underlying23
 have HB := Aside0.mk (Below.refl w.heap.size w)
 have H : (if (a0.size : Int) < 8 then (icmp_Decode.j0 k a0 true) else (icmp_Decode.j0 k a0 (decide ((a0.size : Int) > 65508)))) = some (r1, r2, r3, r4, r5, r6) := h
 clear h
 have HC2 := Aside0.mk H
 clear H
 go_enter Try.func16, Try.ntmps16
 go_upto_region 1 with (first | ((with_reducible refine gate_dst (N := 2) rfl ?_); (try (refine gate_guard (by rfl) ?_; dsimp only)); refine box_event ?hg (N := 2) ?hd (cs := #[.int .i64 0, .int .i64 0, .int .i64 0, .int .i64 0, .string (⟨#[]⟩ : ByteArray)]) (t := 23) ?hr ?_; (case hd => rfl); (case hg => rfl); (case hr => first | (go_simp; done) | (go_simp; rfl)); intro gb134 hg w3 hbox hb; have n0_ := Aside0.mk (below_step (by repeat (first | (with_reducible first | exact HB.out | apply below_alloc | apply pw_below_drewN | apply below_drew1) | exact HB.out)) hb); have n1_ := Aside0.mk (hbox); have n2_ := Aside0.mk ((by rw [hg]; exact (below_size (by repeat (first | (with_reducible first | exact HB.out | apply below_alloc | apply pw_below_drewN | apply below_drew1) | exact HB.out))) : w.heap.size ≤ gb134)); have n3_ := Aside0.mk ((by rw [hg]; exact (below_size (by repeat (first | (with_reducible first | exact HB.out | apply below_alloc | apply pw_below_drewN | apply below_drew1) | exact HB.out))) : w.heap.size ≤ gb134)); clear HB; have HB := n0_; have BK134 := n1_; have GW134 := n2_; have GE134 := n3_; clear n0_ n1_ n2_ n3_; clear hb hbox hg))
 (try simp only [Act.put, List.setIfInBounds_toArray, List.set_cons_zero, List.set_cons_succ])
 go_cut [5] (fun v5 wc => ∃ (kq : Nat) (x5_1 : Bool), v5 = .bool x5_1 ∧ Aside0 (icmp_Decode.j0 kq a0 x5_1 = some (r1, r2, r3, r4, r5, r6)) ∧ Aside0 (kq ≤ k) ∧ Aside0 (wc.heap[gb134]? = some (.cells #[.int .i64 0, .int .i64 0, .int .i64 0, .int .i64 0, .string (⟨#[]⟩ : ByteArray)] 23 (0, 0))) ∧ Aside0 (Below w.heap.size w wc))
 case first =>
  have H := HC2.out
  clear HC2
  by_cases c4 : (a0.size : Int) < 8
  ·rw [if_pos c4] at H
   have c4b0 : decide ((a0.size : Int) < 8) = true := decide_eq_true c4
   have c4b1 : decide (a0.size < 8) = true := decide_eq_true (by omega)
   clear c4
   (first | rw [c4b0] | (simp only [i64_w, i32_w]; rw [c4b0]) | skip)
   have H' := Aside0.mk H
   clear H
   go_wp2
   go_meet
   case rel => exact ⟨_, (true), (by first | rfl | (simp; done) | (simp [*]; done)), H', ⟨by first | omega | exact Nat.le_refl _⟩, ⟨by (with_reducible repeat (first | refine blk_drewN ?_ _ | refine blk_drew ?_ | refine blk_alloc ?_ _)); exact BK134.out⟩, ⟨by repeat (first | (with_reducible first | exact HB.out | apply below_alloc | apply pw_below_drewN | apply below_drew1 | refine below_set ?_ GE134.out) | exact HB.out)⟩⟩
  ·rw [if_neg c4] at H
   have c4b0 : decide ((a0.size : Int) < 8) = false := decide_eq_false c4
   have c4b1 : decide (a0.size < 8) = false := decide_eq_false (by omega)
   clear c4
   (first | rw [c4b0] | (simp only [i64_w, i32_w]; rw [c4b0]) | skip)
   have H' := Aside0.mk H
   clear H
   go_wp2
   go_meet
   case rel => exact ⟨_, (decide ((a0.size : Int) > 65508)), (by first | rfl | (simp; done) | (simp [*]; done)), H', ⟨by first | omega | exact Nat.le_refl _⟩, ⟨by (with_reducible repeat (first | refine blk_drewN ?_ _ | refine blk_drew ?_ | refine blk_alloc ?_ _)); exact BK134.out⟩, ⟨by repeat (first | (with_reducible first | exact HB.out | apply below_alloc | apply pw_below_drewN | apply below_drew1 | refine below_set ?_ GE134.out) | exact HB.out)⟩⟩
 case rest =>
  clear HC2
  try clear c1; try clear p2; try clear c4; try clear c4b0; try clear c4b1
  obtain ⟨kq, x5_1, rfl, HA, HJ1, BK134, HB⟩ := hcut
  cases kq with
  | zero => exact absurd HA.out (by simp [icmp_Decode.j0])
  | succ kj1 =>
   have H := HA.out
   clear HA
   simp only [icmp_Decode.j0] at H
   by_cases c5 : x5_1 = true
   ·subst c5
    have H1 : (some (0, 0, 0, 0, (⟨#[]⟩ : ByteArray), 60)) = some (r1, r2, r3, r4, r5, r6) := by rw [if_pos rfl] at H; exact H
    clear H
    have H := H1
    clear H1
    simp only [Option.some.injEq, Prod.mk.injEq] at H
    obtain ⟨rfl, rfl, rfl, rfl, rfl, rfl⟩ := H
    have hcz6_0 : wc.cell? ⟨gb134, 0, none⟩ = some (.int .i64 0) := (blk_cell BK134.out 0).trans rfl
    have hcz6_1 : wc.cell? ⟨gb134, 1, none⟩ = some (.int .i64 0) := (blk_cell BK134.out 1).trans rfl
    have hcz6_2 : wc.cell? ⟨gb134, 2, none⟩ = some (.int .i64 0) := (blk_cell BK134.out 2).trans rfl
    have hcz6_3 : wc.cell? ⟨gb134, 3, none⟩ = some (.int .i64 0) := (blk_cell BK134.out 3).trans rfl
    have hcz6_4 : wc.cell? ⟨gb134, 4, none⟩ = some (.string (⟨#[]⟩ : ByteArray)) := (blk_cell BK134.out 4).trans rfl
    have hfz6_0 := blk_frozen BK134.out 0
    have hfz6_1 := blk_frozen BK134.out 1
    have hfz6_2 := blk_frozen BK134.out 2
    have hfz6_3 := blk_frozen BK134.out 3
    have hfz6_4 := blk_frozen BK134.out 4
    go_wp2
    refine bodyPost_ret (results_ct rfl _ _ gb134 23 #[.int .i64 0, .int .i64 0, .int .i64 0, .int .i64 0, .string (⟨#[]⟩ : ByteArray)] (0, 0) _ rfl (by (with_reducible repeat (first | refine blk_drewN ?_ _ | refine blk_drew ?_ | refine blk_alloc ?_ _)); refine blk_put (cs := #[.int .i64 0, .int .i64 0, .int .i64 0, .int .i64 0, .string (⟨#[]⟩ : ByteArray)]) ?_ 4 _ rfl; refine blk_put (cs := #[.int .i64 0, .int .i64 0, .int .i64 0, .int .i64 0, .string (⟨#[]⟩ : ByteArray)]) ?_ 3 _ rfl; refine blk_put (cs := #[.int .i64 0, .int .i64 0, .int .i64 0, .int .i64 0, .string (⟨#[]⟩ : ByteArray)]) ?_ 2 _ rfl; refine blk_put (cs := #[.int .i64 0, .int .i64 0, .int .i64 0, .int .i64 0, .string (⟨#[]⟩ : ByteArray)]) ?_ 1 _ rfl; refine blk_put (cs := #[.int .i64 0, .int .i64 0, .int .i64 0, .int .i64 0, .string (⟨#[]⟩ : ByteArray)]) ?_ 0 _ rfl; (with_reducible repeat (first | refine blk_drewN ?_ _ | refine blk_drew ?_ | refine blk_alloc ?_ _)); exact BK134.out) Try.underlying23 rfl (by kernel_rfl)) rfl ?_
    exact ⟨by first | rfl | (simp [errW_none, errW_some] <;> rfl) | (simp [*, errW_none, errW_some] <;> rfl), by repeat (first | (with_reducible first | exact HB.out | apply below_alloc | apply pw_below_drewN | apply below_drew1 | refine below_set ?_ GE134.out) | exact HB.out)⟩
   ·replace c5 := Bool.eq_false_iff.mpr c5
    subst c5
    have H1 : ((sum_Whole.f kj1 a0).bind fun t135 => (if t135 = true then (if 0 < (a0.size : Int) then (if 1 < (a0.size : Int) then (if 8 ≤ (a0.size : Int) then ((sum_Get.f a0 4 2).bind fun bt137 => ((sum_Get.f a0 6 2).bind fun bt139 => (some (wrap64 (bt a0 0), wrap64 (bt a0 1), bt137.1, bt139.1, cutS a0 8 a0.size, 0)))) else (none)) else (none)) else (none)) else (some (0, 0, 0, 0, (⟨#[]⟩ : ByteArray), 20)))) = some (r1, r2, r3, r4, r5, r6) := by rw [if_neg (show ¬ (false = true) by decide)] at H; exact H
    clear H
    have H := H1
    clear H1
    replace H := Option.bind_eq_some_iff.mp H
    obtain ⟨t135, A70, H⟩ := H
    replace H : (if t135 = true then (if 0 < (a0.size : Int) then (if 1 < (a0.size : Int) then (if 8 ≤ (a0.size : Int) then ((sum_Get.f a0 4 2).bind fun bt137 => ((sum_Get.f a0 6 2).bind fun bt139 => (some (wrap64 (bt a0 0), wrap64 (bt a0 1), bt137.1, bt139.1, cutS a0 8 a0.size, 0)))) else (none)) else (none)) else (none)) else (some (0, 0, 0, 0, (⟨#[]⟩ : ByteArray), 20))) = some (r1, r2, r3, r4, r5, r6) := H
    have A7 := Aside0.mk A70
    clear A70
    by_cases c8 : t135 = true
    ·subst c8
     have H1 : (if 0 < (a0.size : Int) then (if 1 < (a0.size : Int) then (if 8 ≤ (a0.size : Int) then ((sum_Get.f a0 4 2).bind fun bt137 => ((sum_Get.f a0 6 2).bind fun bt139 => (some (wrap64 (bt a0 0), wrap64 (bt a0 1), bt137.1, bt139.1, cutS a0 8 a0.size, 0)))) else (none)) else (none)) else (none)) = some (r1, r2, r3, r4, r5, r6) := by rw [if_pos rfl] at H; exact H
     clear H
     have H := H1
     clear H1
     by_cases c9 : 0 < (a0.size : Int)
     ·rw [if_pos c9] at H
      have c9b0 : decide (0 < (a0.size : Int)) = true := decide_eq_true c9
      have c9b1 : decide (0 < a0.size) = true := decide_eq_true (by omega)
      clear c9
      by_cases c11 : 1 < (a0.size : Int)
      ·rw [if_pos c11] at H
       have c11b0 : decide (1 < (a0.size : Int)) = true := decide_eq_true c11
       have c11b1 : decide (1 < a0.size) = true := decide_eq_true (by omega)
       clear c11
       by_cases c13 : 8 ≤ (a0.size : Int)
       ·rw [if_pos c13] at H
        have c13b0 := eq_true c13
        have c13b1 : decide (8 ≤ (a0.size : Int)) = true := decide_eq_true c13
        clear c13
        replace H := Option.bind_eq_some_iff.mp H
        obtain ⟨⟨t137, t138⟩, A140, H⟩ := H
        replace H : ((sum_Get.f a0 6 2).bind fun bt139 => (some (wrap64 (bt a0 0), wrap64 (bt a0 1), t137, bt139.1, cutS a0 8 a0.size, 0))) = some (r1, r2, r3, r4, r5, r6) := H
        have A14 := Aside0.mk A140
        clear A140
        replace H := Option.bind_eq_some_iff.mp H
        obtain ⟨⟨t139, t140⟩, A150, H⟩ := H
        replace H : (some (wrap64 (bt a0 0), wrap64 (bt a0 1), t137, t139, cutS a0 8 a0.size, 0)) = some (r1, r2, r3, r4, r5, r6) := H
        have A15 := Aside0.mk A150
        clear A150
        simp only [Option.some.injEq, Prod.mk.injEq] at H
        obtain ⟨rfl, rfl, rfl, rfl, rfl, rfl⟩ := H
        try go_wp2_with (first | ((with_reducible refine gate_callee (f := 27) rfl ?_); refine goesL_ (some 17) rfl rfl Try.func27 (by kernel_rfl) rfl #[.string a0] rfl (by (try simp only [List.map_toArray, List.map_cons, List.map_nil]); first | done | rfl | (simp only [List.length_drop, List.length_take]; rfl)) ?_; (with_reducible refine (sum_Whole.calls kj1 a0 true _ A7.out).mono ?_); rintro e w16 ⟨rfl, hb⟩; refine ⟨_, rfl, ?_⟩; have n0_ := Aside0.mk (blk_below (g := gb134) (o := .cells #[.int .i64 0, .int .i64 0, .int .i64 0, .int .i64 0, .string (⟨#[]⟩ : ByteArray)] 23 (0, 0)) (by (with_reducible repeat (first | refine blk_drewN ?_ _ | refine blk_drew ?_ | refine blk_alloc ?_ _)); exact BK134.out) hb); have n1_ := Aside0.mk (below_step (by repeat (first | (with_reducible first | exact HB.out | apply below_alloc | apply pw_below_drewN | apply below_drew1 | refine below_set ?_ GE134.out) | exact HB.out)) hb); clear BK134; clear HB; have BK134 := n0_; have HB := n1_; clear n0_ n1_; (try clear hb); (try clear hb2); (try clear hk); (try clear hi)))
        have n0_ := Aside0.mk (blk_drew BK134.out)
        have n1_ := Aside0.mk (below_drew1 HB.out)
        clear BK134
        clear HB
        have BK134 := n0_
        have HB := n1_
        clear n0_ n1_
        have p10 : 0 ≤ (0 : Int) := (by omega)
        have q10 : 0 < a0.size := (by have : (0 : Int) < (a0.size : Int) := of_decide_eq_true (by first | (with_reducible assumption) | assumption); omega)
        have hx10 : ∀ h : 0 < a0.size, ((a0[0]'h).toNat : Int) = bt a0 0 := bt_at a0 0
        clear p10
        have qi10 : (0 < (a0.size : Int)) = True := eq_true (of_decide_eq_true (by first | (with_reducible assumption) | assumption))
        replace q10 := eq_true q10
        have p12 : 0 ≤ (1 : Int) := (by omega)
        have q12 : 1 < a0.size := (by have : (1 : Int) < (a0.size : Int) := of_decide_eq_true (by first | (with_reducible assumption) | assumption); omega)
        have hx12 : ∀ h : 1 < a0.size, ((a0[1]'h).toNat : Int) = bt a0 1 := bt_at a0 1
        clear p12
        have qi12 : (1 < (a0.size : Int)) = True := eq_true (of_decide_eq_true (by first | (with_reducible assumption) | assumption))
        replace q12 := eq_true q12
        refine start_ (n := 11) (S := fun w' => True) (ds := []) #[false, false, false, false, false, false, false, false, false, false, false] (by kernel_rfl) rfl rfl trivial (fun hHeld => ?_); refine with_tabW icmp_Decode.tab5 icmp_Decode.bits5 (fun HT_ HW_ => ?_)
        generalize w16.drew = w17 at BK134 HB hHeld ⊢
        refine pure_ (i := 0) (N := some 20) (v := ?_) (a' := ?_) #[true, false, false, false, false, false, false, false, false, false, false] rfl rfl (any_of HT_.out (by kernel_rfl)) (fun _ _ _ h => h) (Or.inl ⟨by rfl, ?_⟩) ?_ ?_
        rotate_left
        ·intro w'
         go_simp
         with_reducible rfl
        rotate_left
        ·simp only [Act.put, List.setIfInBounds_toArray, List.set_cons_zero, List.set_cons_succ, i64_w, i32_w]
         rfl
        refine pure_ (i := 3) (N := some 23) (v := ?_) (a' := ?_) #[true, false, false, true, false, false, false, false, false, false, false] rfl rfl (any_of HT_.out (by kernel_rfl)) (fun _ _ _ h => h) (Or.inl ⟨by rfl, ?_⟩) ?_ ?_
        rotate_left
        ·intro w'
         go_simp
         with_reducible rfl
        rotate_left
        ·simp only [Act.put, List.setIfInBounds_toArray, List.set_cons_zero, List.set_cons_succ, i64_w, i32_w]
         rfl
        refine pure_ (i := 6) (N := some 26) (v := ?_) (a' := ?_) #[true, false, false, true, false, false, true, false, false, false, false] rfl rfl (any_of HT_.out (by kernel_rfl)) (fun _ _ _ h => h) (Or.inl ⟨by rfl, ?_⟩) ?_ ?_
        rotate_left
        ·intro w'
         go_simp
         with_reducible rfl
        rotate_left
        ·simp only [Act.put, List.setIfInBounds_toArray, List.set_cons_zero, List.set_cons_succ, i64_w, i32_w]
         rfl
        refine pure_ (i := 7) (N := some 27) (v := ?_) (a' := ?_) #[true, false, false, true, false, false, true, true, false, false, false] rfl rfl (any_of HT_.out (by kernel_rfl)) (fun _ _ _ h => h) (Or.inl ⟨by rfl, ?_⟩) ?_ ?_
        rotate_left
        ·intro w'
         go_simp
         first | (with_reducible rfl) | ((repeat (first | rw [if_pos (by simp only [ByteArray.size_extract, ByteArray.size_append, eq_iff_iff, iff_true, iff_false, Nat.not_lt] at *; first | omega | (simp only [ByteArray.size, List.size_toArray, List.length_cons, List.length_nil] at *; omega))] | rw [if_neg (by simp only [ByteArray.size_extract, ByteArray.size_append, eq_iff_iff, iff_true, iff_false, Nat.not_lt] at *; first | omega | (simp only [ByteArray.size, List.size_toArray, List.length_cons, List.length_nil] at *; omega))])); try with_reducible rfl)
        rotate_left
        ·simp only [Act.put, List.setIfInBounds_toArray, List.set_cons_zero, List.set_cons_succ, i64_w, i32_w]
         rfl
        refine take_ (i := 1) (N := some 21) (v := ?_) (a' := ?_) #[true, true, false, true, false, false, true, true, false, false, false] rfl rfl (take_ofW HT_.out HW_.out (by kernel_rfl)) (fun _ _ _ h => h) (Or.inl ⟨by rfl, ?_⟩) hHeld ?_ ?_
        rotate_left
        ·intro w' _
         go_simp
         with_reducible rfl
        rotate_left
        ·simp only [Act.put, List.setIfInBounds_toArray, List.set_cons_zero, List.set_cons_succ, i64_w, i32_w]
         rfl
        refine pure_ (i := 2) (N := some 22) (v := ?_) (a' := ?_) #[true, true, true, true, false, false, true, true, false, false, false] rfl rfl (any_of HT_.out (by kernel_rfl)) (fun _ _ _ h => h) (Or.inl ⟨by rfl, ?_⟩) ?_ ?_
        rotate_left
        ·intro w'
         go_simp
         with_reducible rfl
        rotate_left
        ·simp only [Act.put, List.setIfInBounds_toArray, List.set_cons_zero, List.set_cons_succ, i64_w, i32_w]
         rfl
        refine take_ (i := 4) (N := some 24) (v := ?_) (a' := ?_) #[true, true, true, true, true, false, true, true, false, false, false] rfl rfl (take_ofW HT_.out HW_.out (by kernel_rfl)) (fun _ _ _ h => h) (Or.inl ⟨by rfl, ?_⟩) hHeld ?_ ?_
        rotate_left
        ·intro w' _
         go_simp
         with_reducible rfl
        rotate_left
        ·simp only [Act.put, List.setIfInBounds_toArray, List.set_cons_zero, List.set_cons_succ, i64_w, i32_w]
         rfl
        refine pure_ (i := 5) (N := some 25) (v := ?_) (a' := ?_) #[true, true, true, true, true, true, true, true, false, false, false] rfl rfl (any_of HT_.out (by kernel_rfl)) (fun _ _ _ h => h) (Or.inl ⟨by rfl, ?_⟩) ?_ ?_
        rotate_left
        ·intro w'
         go_simp
         with_reducible rfl
        rotate_left
        ·simp only [Act.put, List.setIfInBounds_toArray, List.set_cons_zero, List.set_cons_succ, i64_w, i32_w]
         rfl
        refine pure_ (i := 8) (N := some 28) (v := ?_) (a' := ?_) #[true, true, true, true, true, true, true, true, true, false, false] rfl rfl (any_of HT_.out (by kernel_rfl)) (fun _ _ _ h => h) (Or.inl ⟨by rfl, ?_⟩) ?_ ?_
        rotate_left
        ·intro w'
         go_simp
         with_reducible rfl
        rotate_left
        ·simp only [Act.put, List.setIfInBounds_toArray, List.set_cons_zero, List.set_cons_succ, i64_w, i32_w]
         rfl
        refine one_ (i := 9) (N := some 4) #[true, true, true, true, true, true, true, true, true, true, false] rfl rfl (one_of HT_.out (by kernel_rfl)) (by decide) (fun K hK => ?_)
        refine box_step ?hg (N := 4) ?hd (cs := #[.int .i64 0, .int .i64 0, .int .i64 0, .int .i64 0, .string (⟨#[]⟩ : ByteArray)]) (t := 23) ?hr ?_; (case hd => rfl); (case hg => rfl); (case hr => first | (go_simp; done) | (go_simp; rfl))
        intro gb136 hg w18 hbox hb
        have n0_ := Aside0.mk (blk_below (g := gb134) (o := .cells #[.int .i64 0, .int .i64 0, .int .i64 0, .int .i64 0, .string (⟨#[]⟩ : ByteArray)] 23 (0, 0)) (by (with_reducible repeat (first | refine blk_drewN ?_ _ | refine blk_drew ?_ | refine blk_alloc ?_ _)); exact BK134.out) hb)
        have n1_ := Aside0.mk (below_step (by repeat (first | (with_reducible first | exact HB.out | apply below_alloc | apply pw_below_drewN | apply below_drew1 | refine below_set ?_ GE134.out) | exact HB.out)) hb)
        have n2_ := Aside0.mk (hbox)
        have n3_ := Aside0.mk ((by rw [hg]; exact (below_size (by repeat (first | (with_reducible first | exact HB.out | apply below_alloc | apply pw_below_drewN | apply below_drew1 | refine below_set ?_ GE134.out) | exact HB.out))) : w.heap.size ≤ gb136))
        have n4_ := Aside0.mk ((by rw [hg]; exact (below_size (by repeat (first | (with_reducible first | exact HB.out | apply below_alloc | apply pw_below_drewN | apply below_drew1 | refine below_set ?_ GE134.out) | exact HB.out))) : w.heap.size ≤ gb136))
        have n5_ := Aside0.mk ((by rw [hg]; exact Nat.ne_of_lt (blk_lt (g := gb134) (o := .cells #[.int .i64 0, .int .i64 0, .int .i64 0, .int .i64 0, .string (⟨#[]⟩ : ByteArray)] 23 (0, 0)) (by (with_reducible repeat (first | refine blk_drewN ?_ _ | refine blk_drew ?_ | refine blk_alloc ?_ _)); exact BK134.out)) : gb134 ≠ gb136))
        have n6_ := Aside0.mk ((by rw [hg]; exact Nat.ne_of_gt (blk_lt (g := gb134) (o := .cells #[.int .i64 0, .int .i64 0, .int .i64 0, .int .i64 0, .string (⟨#[]⟩ : ByteArray)] 23 (0, 0)) (by (with_reducible repeat (first | refine blk_drewN ?_ _ | refine blk_drew ?_ | refine blk_alloc ?_ _)); exact BK134.out)) : gb136 ≠ gb134))
        clear BK134
        clear HB
        have BK134 := n0_
        have HB := n1_
        have BK136 := n2_
        have GW136 := n3_
        have GE136 := n4_
        have NB134_136 := n5_
        have NB136_134 := n6_
        clear n0_ n1_ n2_ n3_ n4_ n5_ n6_
        clear hb hbox hg
        refine hK.out _ _ trivial (fun hHeld => ?_)
        clear hK K
        refine norm_ (a' := ?_) ?_ ?_
        rotate_left
        ·show Act.put _ (some 4) _ = _
         simp only [Act.put, List.setIfInBounds_toArray, List.set_cons_zero, List.set_cons_succ, i64_w, i32_w]
         rfl
        refine one_ (i := 10) (N := none) #[true, true, true, true, true, true, true, true, true, true, true] rfl rfl (one_of HT_.out (by kernel_rfl)) (by decide) (fun K hK => ?_)
        have hs19 : w18.cell? ⟨gb136, 0, none⟩ = some (.int .i64 0) := (blk_cell BK136.out 0).trans rfl
        have hfs19 := blk_frozen BK136.out 0
        have hns19_0 := NB134_136.out
        have hms19_0 := NB136_134.out
        have hs20 : w18.cell? ⟨gb136, 1, none⟩ = some (.int .i64 0) := (blk_cell BK136.out 1).trans rfl
        have hfs20 := blk_frozen BK136.out 1
        have hns20_0 := NB134_136.out
        have hms20_0 := NB136_134.out
        have hs21 : w18.cell? ⟨gb136, 2, none⟩ = some (.int .i64 0) := (blk_cell BK136.out 2).trans rfl
        have hfs21 := blk_frozen BK136.out 2
        have hns21_0 := NB134_136.out
        have hms21_0 := NB136_134.out
        have hs22 : w18.cell? ⟨gb136, 3, none⟩ = some (.int .i64 0) := (blk_cell BK136.out 3).trans rfl
        have hfs22 := blk_frozen BK136.out 3
        have hns22_0 := NB134_136.out
        have hms22_0 := NB136_134.out
        have hs23 : w18.cell? ⟨gb136, 4, none⟩ = some (.string (⟨#[]⟩ : ByteArray)) := (blk_cell BK136.out 4).trans rfl
        have hfs23 := blk_frozen BK136.out 4
        have hns23_0 := NB134_136.out
        have hms23_0 := NB136_134.out
        refine skip_ (w1 := ?_) (by rfl) rfl ?_ ?_
        rotate_left
        ·go_simp
         rfl
        refine hK.out _ _ trivial (fun hHeld => ?_)
        clear hK K
        refine done_ (done_of HT_.out (by kernel_rfl)) ?_
        try go_wp2_with (first | ((with_reducible refine gate_callee (f := 28) rfl ?_); refine goesL_ (some 31) rfl rfl Try.func28 (by kernel_rfl) rfl #[.string a0, .int .i64 4, .int .i64 2] rfl (by (try simp only [List.map_toArray, List.map_cons, List.map_nil]); first | done | rfl | (simp only [List.length_drop, List.length_take]; rfl)) ?_; (with_reducible refine (sum_Get.calls a0 4 2 t137 t138 _ A14.out).mono ?_); rintro e w24 ⟨rfl, hb⟩; refine ⟨_, rfl, ?_⟩; have n0_ := Aside0.mk (blk_below (g := gb134) (o := .cells #[.int .i64 0, .int .i64 0, .int .i64 0, .int .i64 0, .string (⟨#[]⟩ : ByteArray)] 23 (0, 0)) (by (with_reducible repeat (first | refine blk_drewN ?_ _ | refine blk_drew ?_ | refine blk_alloc ?_ _)); refine blk_far ?_ NB134_136.out _; (with_reducible repeat (first | refine blk_drewN ?_ _ | refine blk_drew ?_ | refine blk_alloc ?_ _)); refine blk_far ?_ NB134_136.out _; (with_reducible repeat (first | refine blk_drewN ?_ _ | refine blk_drew ?_ | refine blk_alloc ?_ _)); refine blk_far ?_ NB134_136.out _; (with_reducible repeat (first | refine blk_drewN ?_ _ | refine blk_drew ?_ | refine blk_alloc ?_ _)); refine blk_far ?_ NB134_136.out _; (with_reducible repeat (first | refine blk_drewN ?_ _ | refine blk_drew ?_ | refine blk_alloc ?_ _)); refine blk_far ?_ NB134_136.out _; (with_reducible repeat (first | refine blk_drewN ?_ _ | refine blk_drew ?_ | refine blk_alloc ?_ _)); exact BK134.out) hb); have n1_ := Aside0.mk (blk_below (g := gb136) (o := .cells #[.int .i64 (wrap64 (bt a0 0)), .int .i64 (wrap64 (bt a0 1)), .int .i64 0, .int .i64 0, .string (cutS a0 8 a0.size)] 23 (0, 0)) (by (with_reducible repeat (first | refine blk_drewN ?_ _ | refine blk_drew ?_ | refine blk_alloc ?_ _)); refine blk_put (cs := #[.int .i64 (wrap64 (bt a0 0)), .int .i64 (wrap64 (bt a0 1)), .int .i64 0, .int .i64 0, .string (⟨#[]⟩ : ByteArray)]) ?_ 4 _ rfl; refine blk_put (cs := #[.int .i64 (wrap64 (bt a0 0)), .int .i64 (wrap64 (bt a0 1)), .int .i64 0, .int .i64 0, .string (⟨#[]⟩ : ByteArray)]) ?_ 3 _ rfl; refine blk_put (cs := #[.int .i64 (wrap64 (bt a0 0)), .int .i64 (wrap64 (bt a0 1)), .int .i64 0, .int .i64 0, .string (⟨#[]⟩ : ByteArray)]) ?_ 2 _ rfl; refine blk_put (cs := #[.int .i64 (wrap64 (bt a0 0)), .int .i64 0, .int .i64 0, .int .i64 0, .string (⟨#[]⟩ : ByteArray)]) ?_ 1 _ rfl; refine blk_put (cs := #[.int .i64 0, .int .i64 0, .int .i64 0, .int .i64 0, .string (⟨#[]⟩ : ByteArray)]) ?_ 0 _ rfl; (with_reducible repeat (first | refine blk_drewN ?_ _ | refine blk_drew ?_ | refine blk_alloc ?_ _)); exact BK136.out) hb); have n2_ := Aside0.mk (below_step (by repeat (first | (with_reducible first | exact HB.out | apply below_alloc | apply pw_below_drewN | apply below_drew1 | refine below_set ?_ GE134.out | refine below_set ?_ GE136.out) | exact HB.out)) hb); clear BK134; clear BK136; clear HB; have BK134 := n0_; have BK136 := n1_; have HB := n2_; clear n0_ n1_ n2_; (try clear hb); (try clear hb2); (try clear hk); (try clear hi); have hnb25 := NB136_134.out; have hnc25 := NB134_136.out; have hcz26_0 : w24.cell? ⟨gb136, 0, none⟩ = some (.int .i64 (wrap64 (bt a0 0))) := (blk_cell BK136.out 0).trans rfl; have hcz26_1 : w24.cell? ⟨gb136, 1, none⟩ = some (.int .i64 (wrap64 (bt a0 1))) := (blk_cell BK136.out 1).trans rfl; have hcz26_2 : w24.cell? ⟨gb136, 2, none⟩ = some (.int .i64 0) := (blk_cell BK136.out 2).trans rfl; have hcz26_3 : w24.cell? ⟨gb136, 3, none⟩ = some (.int .i64 0) := (blk_cell BK136.out 3).trans rfl; have hcz26_4 : w24.cell? ⟨gb136, 4, none⟩ = some (.string (cutS a0 8 a0.size)) := (blk_cell BK136.out 4).trans rfl; have hfz26_0 := blk_frozen BK136.out 0; have hfz26_1 := blk_frozen BK136.out 1; have hfz26_2 := blk_frozen BK136.out 2; have hfz26_3 := blk_frozen BK136.out 3; have hfz26_4 := blk_frozen BK136.out 4) | ((with_reducible refine gate_callee (f := 28) rfl ?_); refine goesL_ (some 37) rfl rfl Try.func28 (by kernel_rfl) rfl #[.string a0, .int .i64 6, .int .i64 2] rfl (by (try simp only [List.map_toArray, List.map_cons, List.map_nil]); first | done | rfl | (simp only [List.length_drop, List.length_take]; rfl)) ?_; (with_reducible refine (sum_Get.calls a0 6 2 t139 t140 _ A15.out).mono ?_); rintro e w27 ⟨rfl, hb⟩; refine ⟨_, rfl, ?_⟩; have n0_ := Aside0.mk (blk_below (g := gb134) (o := .cells #[.int .i64 0, .int .i64 0, .int .i64 0, .int .i64 0, .string (⟨#[]⟩ : ByteArray)] 23 (0, 0)) (by (with_reducible repeat (first | refine blk_drewN ?_ _ | refine blk_drew ?_ | refine blk_alloc ?_ _)); refine blk_far ?_ NB134_136.out _; (with_reducible repeat (first | refine blk_drewN ?_ _ | refine blk_drew ?_ | refine blk_alloc ?_ _)); exact BK134.out) hb); have n1_ := Aside0.mk (blk_below (g := gb136) (o := .cells #[.int .i64 (wrap64 (bt a0 0)), .int .i64 (wrap64 (bt a0 1)), .int .i64 t137, .int .i64 0, .string (cutS a0 8 a0.size)] 23 (0, 0)) (by (with_reducible repeat (first | refine blk_drewN ?_ _ | refine blk_drew ?_ | refine blk_alloc ?_ _)); refine blk_put (cs := #[.int .i64 (wrap64 (bt a0 0)), .int .i64 (wrap64 (bt a0 1)), .int .i64 0, .int .i64 0, .string (cutS a0 8 a0.size)]) ?_ 2 _ rfl; (with_reducible repeat (first | refine blk_drewN ?_ _ | refine blk_drew ?_ | refine blk_alloc ?_ _)); exact BK136.out) hb); have n2_ := Aside0.mk (below_step (by repeat (first | (with_reducible first | exact HB.out | apply below_alloc | apply pw_below_drewN | apply below_drew1 | refine below_set ?_ GE134.out | refine below_set ?_ GE136.out) | exact HB.out)) hb); clear BK134; clear BK136; clear HB; have BK134 := n0_; have BK136 := n1_; have HB := n2_; clear n0_ n1_ n2_; (try clear hb); (try clear hb2); (try clear hk); (try clear hi); have hcz28_0 : w27.cell? ⟨gb136, 0, none⟩ = some (.int .i64 (wrap64 (bt a0 0))) := (blk_cell BK136.out 0).trans rfl; have hcz28_1 : w27.cell? ⟨gb136, 1, none⟩ = some (.int .i64 (wrap64 (bt a0 1))) := (blk_cell BK136.out 1).trans rfl; have hcz28_2 : w27.cell? ⟨gb136, 2, none⟩ = some (.int .i64 t137) := (blk_cell BK136.out 2).trans rfl; have hcz28_3 : w27.cell? ⟨gb136, 3, none⟩ = some (.int .i64 0) := (blk_cell BK136.out 3).trans rfl; have hcz28_4 : w27.cell? ⟨gb136, 4, none⟩ = some (.string (cutS a0 8 a0.size)) := (blk_cell BK136.out 4).trans rfl; have hfz28_0 := blk_frozen BK136.out 0; have hfz28_1 := blk_frozen BK136.out 1; have hfz28_2 := blk_frozen BK136.out 2; have hfz28_3 := blk_frozen BK136.out 3; have hfz28_4 := blk_frozen BK136.out 4; have hcz29_0 : w27.cell? ⟨gb134, 0, none⟩ = some (.int .i64 0) := (blk_cell BK134.out 0).trans rfl; have hcz29_1 : w27.cell? ⟨gb134, 1, none⟩ = some (.int .i64 0) := (blk_cell BK134.out 1).trans rfl; have hcz29_2 : w27.cell? ⟨gb134, 2, none⟩ = some (.int .i64 0) := (blk_cell BK134.out 2).trans rfl; have hcz29_3 : w27.cell? ⟨gb134, 3, none⟩ = some (.int .i64 0) := (blk_cell BK134.out 3).trans rfl; have hcz29_4 : w27.cell? ⟨gb134, 4, none⟩ = some (.string (⟨#[]⟩ : ByteArray)) := (blk_cell BK134.out 4).trans rfl; have hfz29_0 := blk_frozen BK134.out 0; have hfz29_1 := blk_frozen BK134.out 1; have hfz29_2 := blk_frozen BK134.out 2; have hfz29_3 := blk_frozen BK134.out 3; have hfz29_4 := blk_frozen BK134.out 4))
        refine bodyPost_ret (results_ct rfl _ _ gb134 23 #[.int .i64 (wrap64 (bt a0 0)), .int .i64 (wrap64 (bt a0 1)), .int .i64 t137, .int .i64 t139, .string (cutS a0 8 a0.size)] (0, 0) _ rfl (by (with_reducible repeat (first | refine blk_drewN ?_ _ | refine blk_drew ?_ | refine blk_alloc ?_ _)); refine blk_put (cs := #[.int .i64 (wrap64 (bt a0 0)), .int .i64 (wrap64 (bt a0 1)), .int .i64 t137, .int .i64 t139, .string (⟨#[]⟩ : ByteArray)]) ?_ 4 _ rfl; refine blk_put (cs := #[.int .i64 (wrap64 (bt a0 0)), .int .i64 (wrap64 (bt a0 1)), .int .i64 t137, .int .i64 0, .string (⟨#[]⟩ : ByteArray)]) ?_ 3 _ rfl; refine blk_put (cs := #[.int .i64 (wrap64 (bt a0 0)), .int .i64 (wrap64 (bt a0 1)), .int .i64 0, .int .i64 0, .string (⟨#[]⟩ : ByteArray)]) ?_ 2 _ rfl; refine blk_put (cs := #[.int .i64 (wrap64 (bt a0 0)), .int .i64 0, .int .i64 0, .int .i64 0, .string (⟨#[]⟩ : ByteArray)]) ?_ 1 _ rfl; refine blk_put (cs := #[.int .i64 0, .int .i64 0, .int .i64 0, .int .i64 0, .string (⟨#[]⟩ : ByteArray)]) ?_ 0 _ rfl; (with_reducible repeat (first | refine blk_drewN ?_ _ | refine blk_drew ?_ | refine blk_alloc ?_ _)); refine blk_far ?_ NB134_136.out _; (with_reducible repeat (first | refine blk_drewN ?_ _ | refine blk_drew ?_ | refine blk_alloc ?_ _)); exact BK134.out) Try.underlying23 rfl (by kernel_rfl)) rfl ?_
        exact ⟨by first | rfl | (simp [errW_none, errW_some] <;> rfl) | (simp [*, errW_none, errW_some] <;> rfl), by repeat (first | (with_reducible first | exact HB.out | apply below_alloc | apply pw_below_drewN | apply below_drew1 | refine below_set ?_ GE134.out | refine below_set ?_ GE136.out) | exact HB.out)⟩
       ·rw [if_neg c13] at H
        exact absurd H (by simp)
      ·rw [if_neg c11] at H
       exact absurd H (by simp)
     ·rw [if_neg c9] at H
      exact absurd H (by simp)
    ·replace c8 := Bool.eq_false_iff.mpr c8
     subst c8
     have H1 : (some (0, 0, 0, 0, (⟨#[]⟩ : ByteArray), 20)) = some (r1, r2, r3, r4, r5, r6) := by rw [if_neg (show ¬ (false = true) by decide)] at H; exact H
     clear H
     have H := H1
     clear H1
     simp only [Option.some.injEq, Prod.mk.injEq] at H
     obtain ⟨rfl, rfl, rfl, rfl, rfl, rfl⟩ := H
     go_wp2_with (first | ((with_reducible refine gate_callee (f := 27) rfl ?_); refine goesL_ (some 17) rfl rfl Try.func27 (by kernel_rfl) rfl #[.string a0] rfl (by (try simp only [List.map_toArray, List.map_cons, List.map_nil]); first | done | rfl | (simp only [List.length_drop, List.length_take]; rfl)) ?_; (with_reducible refine (sum_Whole.calls kj1 a0 false _ A7.out).mono ?_); rintro e w30 ⟨rfl, hb⟩; refine ⟨_, rfl, ?_⟩; have n0_ := Aside0.mk (blk_below (g := gb134) (o := .cells #[.int .i64 0, .int .i64 0, .int .i64 0, .int .i64 0, .string (⟨#[]⟩ : ByteArray)] 23 (0, 0)) (by (with_reducible repeat (first | refine blk_drewN ?_ _ | refine blk_drew ?_ | refine blk_alloc ?_ _)); exact BK134.out) hb); have n1_ := Aside0.mk (below_step (by repeat (first | (with_reducible first | exact HB.out | apply below_alloc | apply pw_below_drewN | apply below_drew1 | refine below_set ?_ GE134.out) | exact HB.out)) hb); clear BK134; clear HB; have BK134 := n0_; have HB := n1_; clear n0_ n1_; (try clear hb); (try clear hb2); (try clear hk); (try clear hi); have hcz31_0 : w30.cell? ⟨gb134, 0, none⟩ = some (.int .i64 0) := (blk_cell BK134.out 0).trans rfl; have hcz31_1 : w30.cell? ⟨gb134, 1, none⟩ = some (.int .i64 0) := (blk_cell BK134.out 1).trans rfl; have hcz31_2 : w30.cell? ⟨gb134, 2, none⟩ = some (.int .i64 0) := (blk_cell BK134.out 2).trans rfl; have hcz31_3 : w30.cell? ⟨gb134, 3, none⟩ = some (.int .i64 0) := (blk_cell BK134.out 3).trans rfl; have hcz31_4 : w30.cell? ⟨gb134, 4, none⟩ = some (.string (⟨#[]⟩ : ByteArray)) := (blk_cell BK134.out 4).trans rfl; have hfz31_0 := blk_frozen BK134.out 0; have hfz31_1 := blk_frozen BK134.out 1; have hfz31_2 := blk_frozen BK134.out 2; have hfz31_3 := blk_frozen BK134.out 3; have hfz31_4 := blk_frozen BK134.out 4))
     refine bodyPost_ret (results_ct rfl _ _ gb134 23 #[.int .i64 0, .int .i64 0, .int .i64 0, .int .i64 0, .string (⟨#[]⟩ : ByteArray)] (0, 0) _ rfl (by (with_reducible repeat (first | refine blk_drewN ?_ _ | refine blk_drew ?_ | refine blk_alloc ?_ _)); refine blk_put (cs := #[.int .i64 0, .int .i64 0, .int .i64 0, .int .i64 0, .string (⟨#[]⟩ : ByteArray)]) ?_ 4 _ rfl; refine blk_put (cs := #[.int .i64 0, .int .i64 0, .int .i64 0, .int .i64 0, .string (⟨#[]⟩ : ByteArray)]) ?_ 3 _ rfl; refine blk_put (cs := #[.int .i64 0, .int .i64 0, .int .i64 0, .int .i64 0, .string (⟨#[]⟩ : ByteArray)]) ?_ 2 _ rfl; refine blk_put (cs := #[.int .i64 0, .int .i64 0, .int .i64 0, .int .i64 0, .string (⟨#[]⟩ : ByteArray)]) ?_ 1 _ rfl; refine blk_put (cs := #[.int .i64 0, .int .i64 0, .int .i64 0, .int .i64 0, .string (⟨#[]⟩ : ByteArray)]) ?_ 0 _ rfl; (with_reducible repeat (first | refine blk_drewN ?_ _ | refine blk_drew ?_ | refine blk_alloc ?_ _)); exact BK134.out) Try.underlying23 rfl (by kernel_rfl)) rfl ?_
     exact ⟨by first | rfl | (simp [errW_none, errW_some] <;> rfl) | (simp [*, errW_none, errW_some] <;> rfl), by repeat (first | (with_reducible first | exact HB.out | apply below_alloc | apply pw_below_drewN | apply below_drew1 | refine below_set ?_ GE134.out) | exact HB.out)⟩

/-! ### sternpostbook_Among: function 18 -/
def sternpostbook_Among.f (a0 : Int) (a1 : Int) : Option (Int) := if a1 = 0 then (none) else (some (Int.tmod (wrap64 ((Int.tmod a0 a1) + a1)) a1))
set_option maxHeartbeats 8000000 in
set_option maxRecDepth 100000 in
theorem sternpostbook_Among.calls (a0 : Int) (a1 : Int) (r : Int) (w : World) (h : sternpostbook_Among.f a0 a1 = some r) :
  Calls Try.prog 18 #[.int .i64 a0, .int .i64 a1] w fun e w' => e = .returned (.int .i64 r) ∧ Drawn0 w w' := by
 have H : (if a1 = 0 then (none) else (some (Int.tmod (wrap64 ((Int.tmod a0 a1) + a1)) a1))) = some r := h
 clear h
 by_cases c3 : a1 = 0
 ·rw [if_pos c3] at H
  exact absurd H (by simp)
 ·rw [if_neg c3] at H
  have c3b0 : (a1 == 0) = false := beq_eq_false_iff_ne.mpr c3
  have c3b1 : (a1 != 0) = true := bne_iff_ne.mpr c3
  obtain rfl := Option.some.inj H
  go_enter Try.func18, Try.ntmps18
  go_wp2
  go_ret
  exact ⟨by first | rfl | (simp; done) | (simp [*]; done), by repeat (first | exact Drawn0.refl _ | apply Drawn0.step)⟩

/-! ### sternpostlaw06_IcmpBack: function 6 -/
def sternpostlaw06_IcmpBack_tail.f (k : Nat) (x5 : ByteArray) (x1 x8 c0 c1 c2 c3 : Int) (c4 : ByteArray) (c5 c6 c7 c8 : Int) (c9 : ByteArray) : Option Bool :=
 if x8 = 0 ∧ c5 = c0 ∧ c6 = c1 ∧ c7 = c2 ∧ c8 = c3 ∧ c9 = c4 then (sternpostbook_Among.f x1 (wrap64 (8 * (x5.size : Int)))).bind fun b =>
  if 0 ≤ b ∧ b / 8 < (x5.size : Int) ∧ b < 9223372036854775807 then (icmp_Decode.f k (flipS x5 (b / 8).toNat (b % 8).toNat)).bind fun g => if g.2.2.2.2.2 = 20 then
   (icmp_Answer.f c0 c1 c2 c3 c4).bind fun a => if a.2.2.2.2.2 = 0 then (icmp_Answer.f a.1 a.2.1 a.2.2.1 a.2.2.2.1 a.2.2.2.2.1).bind fun z => if a.1 = 0 ∧ a.2.2.1 = c2 ∧ a.2.2.2.1 = c3 ∧ a.2.2.2.2.1 = c4 ∧ z.2.2.2.2.2 = 60 then some true else none
    else if a.1 = 0 ∧ a.2.1 = 0 ∧ a.2.2.1 = 0 ∧ a.2.2.2.1 = 0 ∧ a.2.2.2.2.1 = ⟨#[]⟩ then some true else none
   else none else none else none
theorem sternpostlaw06_IcmpBack_tail.mono (x5 : ByteArray) (x1 x8 c0 c1 c2 c3 : Int) (c4 : ByteArray) (c5 c6 c7 c8 : Int) (c9 : ByteArray) (k : Nat) : LeO (sternpostlaw06_IcmpBack_tail.f k x5 x1 x8 c0 c1 c2 c3 c4 c5 c6 c7 c8 c9) (sternpostlaw06_IcmpBack_tail.f (k + 1) x5 x1 x8 c0 c1 c2 c3 c4 c5 c6 c7 c8 c9) := by
 unfold sternpostlaw06_IcmpBack_tail.f
 exact LeO.ite (LeO.bind (LeO.refl _) fun _ => LeO.ite (LeO.bind (icmp_Decode.mono _ _) fun _ => LeO.refl _) (LeO.none _)) (LeO.none _)

def sternpostlaw06_IcmpBack.f (k : Nat) (a0_0 : Int) (a0_1 : Int) (a0_2 : Int) (a0_3 : Int) (a0_4 : ByteArray) (a1 : Int) : Option (Bool) := (sternpostlaw06_works.f k).bind fun t142 => (if t142 = true then ((icmp_Encode.f k a0_0 a0_1 a0_2 a0_3 a0_4).bind fun bt143 => (if bt143.2 = 0 then ((icmp_Decode.f k bt143.1).bind fun bt145 => (sternpostlaw06_IcmpBack_tail.f k bt143.1 a1 bt145.2.2.2.2.2 a0_0 a0_1 a0_2 a0_3 a0_4 bt145.1 bt145.2.1 bt145.2.2.1 bt145.2.2.2.1 bt145.2.2.2.2.1)) else (some (bt143.1.toList == ([] : List UInt8))))) else (some false))
theorem sternpostlaw06_IcmpBack.mono : ∀ a0 a1 a2 a3 a4 a5 k, LeO (sternpostlaw06_IcmpBack.f k a0 a1 a2 a3 a4 a5) (sternpostlaw06_IcmpBack.f (k + 1) a0 a1 a2 a3 a4 a5) := by
 intro a0 a1 a2 a3 a4 a5 k
 unfold sternpostlaw06_IcmpBack.f
 repeat' first
   | (with_reducible exact icmp_Decode.mono _ _)
   | (with_reducible exact icmp_Encode.mono _ _ _ _ _ _)
   | (with_reducible exact sternpostlaw06_IcmpBack_tail.mono _ _ _ _ _ _ _ _ _ _ _ _ _ _)
   | (with_reducible exact sternpostlaw06_works.mono _)
   | (with_reducible exact LeO.refl _)
   | (with_reducible exact LeO.none _)
   | (with_reducible refine LeO.ite ?_ ?_)
   | (with_reducible refine LeO.bind ?_ (fun _ => ?_))
   | exact icmp_Decode.mono _ _
   | exact icmp_Encode.mono _ _ _ _ _ _
   | exact sternpostlaw06_IcmpBack_tail.mono _ _ _ _ _ _ _ _ _ _ _ _ _ _
   | exact sternpostlaw06_works.mono _
   | exact LeO.none _
   | refine LeO.ite ?_ ?_
   | refine LeO.bind ?_ (fun _ => ?_)
set_option maxHeartbeats 8000000 in
set_option maxRecDepth 100000 in
theorem sternpostlaw06_IcmpBack.calls (k : Nat) (a0_0 : Int) (a0_1 : Int) (a0_2 : Int) (a0_3 : Int) (a0_4 : ByteArray) (a1 : Int) (r : Bool) (w : World) (h : sternpostlaw06_IcmpBack.f k a0_0 a0_1 a0_2 a0_3 a0_4 a1 = some r) (hrT_ : r = true) :
  Calls Try.prog 6 #[.agg #[.int .i64 a0_0, .int .i64 a0_1, .int .i64 a0_2, .int .i64 a0_3, .string a0_4], .int .i64 a1] w fun e w' => e = .returned (.bool r) ∧ Below w.heap.size w w' := by
 have hu23 := Try.underlying23
 have hcvB := fun (W : World) (s : ByteArray) => Go.Lib.run_convert_string_bytes (P := Try.prog) W 9 35 5 s Try.underlying9 Try.underlying35 Try.underlying5
 have HB := Aside0.mk (Below.refl w.heap.size w)
 have H : ((sternpostlaw06_works.f k).bind fun t142 => (if t142 = true then ((icmp_Encode.f k a0_0 a0_1 a0_2 a0_3 a0_4).bind fun bt143 => (if bt143.2 = 0 then ((icmp_Decode.f k bt143.1).bind fun bt145 => (sternpostlaw06_IcmpBack_tail.f k bt143.1 a1 bt145.2.2.2.2.2 a0_0 a0_1 a0_2 a0_3 a0_4 bt145.1 bt145.2.1 bt145.2.2.1 bt145.2.2.2.1 bt145.2.2.2.2.1)) else (some (bt143.1.toList == ([] : List UInt8))))) else (some false))) = some r := h
 clear h
 replace H := Option.bind_eq_some_iff.mp H
 obtain ⟨t142, A30, H⟩ := H
 replace H : (if t142 = true then ((icmp_Encode.f k a0_0 a0_1 a0_2 a0_3 a0_4).bind fun bt143 => (if bt143.2 = 0 then ((icmp_Decode.f k bt143.1).bind fun bt145 => (sternpostlaw06_IcmpBack_tail.f k bt143.1 a1 bt145.2.2.2.2.2 a0_0 a0_1 a0_2 a0_3 a0_4 bt145.1 bt145.2.1 bt145.2.2.1 bt145.2.2.2.1 bt145.2.2.2.2.1)) else (some (bt143.1.toList == ([] : List UInt8))))) else (some false)) = some r := H
 have A3 := Aside0.mk A30
 clear A30
 by_cases c4 : t142 = true
 ·subst c4
  have H1 : ((icmp_Encode.f k a0_0 a0_1 a0_2 a0_3 a0_4).bind fun bt143 => (if bt143.2 = 0 then ((icmp_Decode.f k bt143.1).bind fun bt145 => (sternpostlaw06_IcmpBack_tail.f k bt143.1 a1 bt145.2.2.2.2.2 a0_0 a0_1 a0_2 a0_3 a0_4 bt145.1 bt145.2.1 bt145.2.2.1 bt145.2.2.2.1 bt145.2.2.2.2.1)) else (some (bt143.1.toList == ([] : List UInt8))))) = some r := by rw [if_pos rfl] at H; exact H
  clear H
  have H := H1
  clear H1
  replace H := Option.bind_eq_some_iff.mp H
  obtain ⟨⟨t143, t144⟩, A50, H⟩ := H
  replace H : (if t144 = 0 then ((icmp_Decode.f k t143).bind fun bt145 => (sternpostlaw06_IcmpBack_tail.f k t143 a1 bt145.2.2.2.2.2 a0_0 a0_1 a0_2 a0_3 a0_4 bt145.1 bt145.2.1 bt145.2.2.1 bt145.2.2.2.1 bt145.2.2.2.2.1)) else (some (t143.toList == ([] : List UInt8)))) = some r := H
  have A5 := Aside0.mk A50
  clear A50
  by_cases c6 : t144 = 0
  ·rw [if_pos c6] at H
   have c6b0 : (t144 == 0) = true := beq_iff_eq.mpr c6
   have c6b1 : (t144 != 0) = false := bne_eq_false_iff_eq.mpr c6
   clear c6
   replace H := Option.bind_eq_some_iff.mp H
   obtain ⟨⟨t145, t146, t147, t148, t149, t150⟩, A70, H⟩ := H
   replace H : (sternpostlaw06_IcmpBack_tail.f k t143 a1 t150 a0_0 a0_1 a0_2 a0_3 a0_4 t145 t146 t147 t148 t149) = some r := H
   have A7 := Aside0.mk A70
   clear A70
   go_enter Try.func6, Try.ntmps6
   go_wp2_with (first | ((with_reducible refine gate_dst (N := 2) rfl ?_); refine box_event ?hg (N := 2) ?hd (cs := #[.int .i64 a0_0, .int .i64 a0_1, .int .i64 a0_2, .int .i64 a0_3, .string a0_4]) (t := 23) ?hr ?_; (case hd => rfl); (case hg => rfl); (case hr => first | (go_simp; done) | (go_simp; rfl)); intro gb141 hg w8 hbox hb; have n0_ := Aside0.mk (below_step (by repeat (first | (with_reducible first | exact HB.out | apply below_alloc | apply pw_below_drewN | apply below_drew1) | exact HB.out)) hb); have n1_ := Aside0.mk (hbox); have n2_ := Aside0.mk ((by rw [hg]; exact (below_size (by repeat (first | (with_reducible first | exact HB.out | apply below_alloc | apply pw_below_drewN | apply below_drew1) | exact HB.out))) : w.heap.size ≤ gb141)); have n3_ := Aside0.mk ((by rw [hg]; exact (below_size (by repeat (first | (with_reducible first | exact HB.out | apply below_alloc | apply pw_below_drewN | apply below_drew1) | exact HB.out))) : w.heap.size ≤ gb141)); clear HB; have HB := n0_; have BK141 := n1_; have GW141 := n2_; have GE141 := n3_; clear n0_ n1_ n2_ n3_; clear hb hbox hg) | ((with_reducible refine gate_callee (f := 15) rfl ?_); refine goesL_ (some 16) rfl rfl Try.func15 (by kernel_rfl) rfl #[] rfl (by (try simp only [List.map_toArray, List.map_cons, List.map_nil]); first | done | rfl | (simp only [List.length_drop, List.length_take]; rfl)) ?_; (with_reducible refine (sternpostlaw06_works.calls k  true _ A3.out).mono ?_); rintro e w9 ⟨rfl, hb⟩; refine ⟨_, rfl, ?_⟩; have n0_ := Aside0.mk (blk_below (g := gb141) (o := .cells #[.int .i64 a0_0, .int .i64 a0_1, .int .i64 a0_2, .int .i64 a0_3, .string a0_4] 23 (0, 0)) (by (with_reducible repeat (first | refine blk_drewN ?_ _ | refine blk_drew ?_ | refine blk_alloc ?_ _)); exact BK141.out) hb); have n1_ := Aside0.mk (below_step (by repeat (first | (with_reducible first | exact HB.out | apply below_alloc | apply pw_below_drewN | apply below_drew1 | refine below_set ?_ GE141.out) | exact HB.out)) hb); clear BK141; clear HB; have BK141 := n0_; have HB := n1_; clear n0_ n1_; (try clear hb); (try clear hb2); (try clear hk); (try clear hi); have hcz10_0 : w9.cell? ⟨gb141, 0, none⟩ = some (.int .i64 a0_0) := (blk_cell BK141.out 0).trans rfl; have hcz10_1 : w9.cell? ⟨gb141, 1, none⟩ = some (.int .i64 a0_1) := (blk_cell BK141.out 1).trans rfl; have hcz10_2 : w9.cell? ⟨gb141, 2, none⟩ = some (.int .i64 a0_2) := (blk_cell BK141.out 2).trans rfl; have hcz10_3 : w9.cell? ⟨gb141, 3, none⟩ = some (.int .i64 a0_3) := (blk_cell BK141.out 3).trans rfl; have hcz10_4 : w9.cell? ⟨gb141, 4, none⟩ = some (.string a0_4) := (blk_cell BK141.out 4).trans rfl; have hfz10_0 := blk_frozen BK141.out 0; have hfz10_1 := blk_frozen BK141.out 1; have hfz10_2 := blk_frozen BK141.out 2; have hfz10_3 := blk_frozen BK141.out 3; have hfz10_4 := blk_frozen BK141.out 4) | ((with_reducible refine gate_callee (f := 9) rfl ?_); refine goesL_ (some 20) rfl rfl Try.func9 (by kernel_rfl) rfl #[.agg #[.int .i64 a0_0, .int .i64 a0_1, .int .i64 a0_2, .int .i64 a0_3, .string a0_4]] rfl (by (try simp only [List.map_toArray, List.map_cons, List.map_nil]); first | done | rfl | (simp only [List.length_drop, List.length_take]; rfl)) ?_; (with_reducible refine (icmp_Encode.calls k a0_0 a0_1 a0_2 a0_3 a0_4 t143 t144 _ A5.out).mono ?_); rintro e w11 ⟨rfl, hb⟩; refine ⟨_, rfl, ?_⟩; have n0_ := Aside0.mk (blk_below (g := gb141) (o := .cells #[.int .i64 a0_0, .int .i64 a0_1, .int .i64 a0_2, .int .i64 a0_3, .string a0_4] 23 (0, 0)) (by (with_reducible repeat (first | refine blk_drewN ?_ _ | refine blk_drew ?_ | refine blk_alloc ?_ _)); exact BK141.out) hb); have n1_ := Aside0.mk (below_step (by repeat (first | (with_reducible first | exact HB.out | apply below_alloc | apply pw_below_drewN | apply below_drew1 | refine below_set ?_ GE141.out) | exact HB.out)) hb); clear BK141; clear HB; have BK141 := n0_; have HB := n1_; clear n0_ n1_; (try clear hb); (try clear hb2); (try clear hk); (try clear hi)) | ((with_reducible refine gate_callee (f := 16) rfl ?_); refine goesL_ (some 29) rfl rfl Try.func16 (by kernel_rfl) rfl #[.string t143] rfl (by (try simp only [List.map_toArray, List.map_cons, List.map_nil]); first | done | rfl | (simp only [List.length_drop, List.length_take]; rfl)) ?_; (with_reducible refine (icmp_Decode.calls k t143 t145 t146 t147 t148 t149 t150 _ A7.out).mono ?_); rintro e w12 ⟨rfl, hb⟩; refine ⟨_, rfl, ?_⟩; have n0_ := Aside0.mk (blk_below (g := gb141) (o := .cells #[.int .i64 a0_0, .int .i64 a0_1, .int .i64 a0_2, .int .i64 a0_3, .string a0_4] 23 (0, 0)) (by (with_reducible repeat (first | refine blk_drewN ?_ _ | refine blk_drew ?_ | refine blk_alloc ?_ _)); exact BK141.out) hb); have n1_ := Aside0.mk (below_step (by repeat (first | (with_reducible first | exact HB.out | apply below_alloc | apply pw_below_drewN | apply below_drew1 | refine below_set ?_ GE141.out) | exact HB.out)) hb); clear BK141; clear HB; have BK141 := n0_; have HB := n1_; clear n0_ n1_; (try clear hb); (try clear hb2); (try clear hk); (try clear hi)) | ((with_reducible refine gate_dst (N := 7) rfl ?_); refine box_event ?hg (N := 7) ?hd (cs := #[.int .i64 0, .int .i64 0, .int .i64 0, .int .i64 0, .string (⟨#[]⟩ : ByteArray)]) (t := 23) ?hr ?_; (case hd => rfl); (case hg => rfl); (case hr => first | (go_simp; done) | (go_simp; rfl)); intro gb151 hg w13 hbox hb; have n0_ := Aside0.mk (blk_below (g := gb141) (o := .cells #[.int .i64 a0_0, .int .i64 a0_1, .int .i64 a0_2, .int .i64 a0_3, .string a0_4] 23 (0, 0)) (by (with_reducible repeat (first | refine blk_drewN ?_ _ | refine blk_drew ?_ | refine blk_alloc ?_ _)); exact BK141.out) hb); have n1_ := Aside0.mk (below_step (by repeat (first | (with_reducible first | exact HB.out | apply below_alloc | apply pw_below_drewN | apply below_drew1 | refine below_set ?_ GE141.out) | exact HB.out)) hb); have n2_ := Aside0.mk (hbox); have n3_ := Aside0.mk ((by rw [hg]; exact (below_size (by repeat (first | (with_reducible first | exact HB.out | apply below_alloc | apply pw_below_drewN | apply below_drew1 | refine below_set ?_ GE141.out) | exact HB.out))) : w.heap.size ≤ gb151)); have n4_ := Aside0.mk ((by rw [hg]; exact (below_size (by repeat (first | (with_reducible first | exact HB.out | apply below_alloc | apply pw_below_drewN | apply below_drew1 | refine below_set ?_ GE141.out) | exact HB.out))) : w.heap.size ≤ gb151)); have n5_ := Aside0.mk ((by rw [hg]; exact Nat.ne_of_lt (blk_lt (g := gb141) (o := .cells #[.int .i64 a0_0, .int .i64 a0_1, .int .i64 a0_2, .int .i64 a0_3, .string a0_4] 23 (0, 0)) (by (with_reducible repeat (first | refine blk_drewN ?_ _ | refine blk_drew ?_ | refine blk_alloc ?_ _)); exact BK141.out)) : gb141 ≠ gb151)); have n6_ := Aside0.mk ((by rw [hg]; exact Nat.ne_of_gt (blk_lt (g := gb141) (o := .cells #[.int .i64 a0_0, .int .i64 a0_1, .int .i64 a0_2, .int .i64 a0_3, .string a0_4] 23 (0, 0)) (by (with_reducible repeat (first | refine blk_drewN ?_ _ | refine blk_drew ?_ | refine blk_alloc ?_ _)); exact BK141.out)) : gb151 ≠ gb141)); clear BK141; clear HB; have BK141 := n0_; have HB := n1_; have BK151 := n2_; have GW151 := n3_; have GE151 := n4_; have NB141_151 := n5_; have NB151_141 := n6_; clear n0_ n1_ n2_ n3_ n4_ n5_ n6_; clear hb hbox hg; have hnb14 := NB151_141.out; have hnc14 := NB141_151.out; have hcz15_0 : w13.cell? ⟨gb151, 0, none⟩ = some (.int .i64 0) := (blk_cell BK151.out 0).trans rfl; have hcz15_1 : w13.cell? ⟨gb151, 1, none⟩ = some (.int .i64 0) := (blk_cell BK151.out 1).trans rfl; have hcz15_2 : w13.cell? ⟨gb151, 2, none⟩ = some (.int .i64 0) := (blk_cell BK151.out 2).trans rfl; have hcz15_3 : w13.cell? ⟨gb151, 3, none⟩ = some (.int .i64 0) := (blk_cell BK151.out 3).trans rfl; have hcz15_4 : w13.cell? ⟨gb151, 4, none⟩ = some (.string (⟨#[]⟩ : ByteArray)) := (blk_cell BK151.out 4).trans rfl; have hfz15_0 := blk_frozen BK151.out 0; have hfz15_1 := blk_frozen BK151.out 1; have hfz15_2 := blk_frozen BK151.out 2; have hfz15_3 := blk_frozen BK151.out 3; have hfz15_4 := blk_frozen BK151.out 4))
   have HBt := Aside0.mk (show Below w.heap.size w _ from by repeat (first | (with_reducible first | exact HB.out | apply below_alloc | apply pw_below_drewN | apply below_drew1 | refine below_set ?_ GE141.out | refine below_set ?_ GE151.out) | exact HB.out))
   subst hrT_
   unfold sternpostlaw06_IcmpBack_tail.f at H
   by_cases hcT : t150 = 0 ∧ t145 = a0_0 ∧ t146 = a0_1 ∧ t147 = a0_2 ∧ t148 = a0_3 ∧ t149 = a0_4
   case neg => rw [if_neg hcT] at H; cases H
   rw [if_pos hcT] at H
   obtain ⟨h8_, h5_, h6_, h7_, h9_, h10_⟩ := hcT
   obtain ⟨b, hA, H⟩ := Option.bind_eq_some_iff.mp H
   have HA := Aside0.mk hA
   clear hA
   by_cases hcQ : 0 ≤ b ∧ b / 8 < (t143.size : Int) ∧ b < 9223372036854775807
   case neg => rw [if_neg hcQ] at H; cases H
   rw [if_pos hcQ] at H
   obtain ⟨hx0, hx1, hx2⟩ := hcQ
   obtain ⟨j, rfl⟩ := Int.eq_ofNat_of_zero_le hx0
   obtain ⟨q, hq⟩ : ∃ q, j / 8 = q := ⟨_, rfl⟩
   obtain ⟨rm, hr⟩ : ∃ r, j % 8 = r := ⟨_, rfl⟩
   have hqs : q < t143.size := by omega
   have hr8 : rm < 8 := by omega
   have hq0 : ((j : Int) / 8) = (q : Int) := by omega
   have hr0 : ((j : Int) % 8) = (rm : Int) := by omega
   have hqm : (q : Int) < 9223372036854775807 := by omega
   rw [hq0, hr0, Int.toNat_natCast, Int.toNat_natCast] at H
   clear hq hr hx1 hx0 hx2
   obtain ⟨⟨g1, g2, g3, g4, g5, g6⟩, hD, H⟩ := Option.bind_eq_some_iff.mp H
   have HD := Aside0.mk hD
   clear hD
   by_cases hg : g6 = 20
   rotate_left
   ·exact absurd H (by show (if g6 = 20 then _ else none) ≠ _; rw [if_neg hg]; simp)
   subst hg
   obtain ⟨⟨n1, n2, n3, n4, n5, n6⟩, hN, H⟩ := Option.bind_eq_some_iff.mp (show ((icmp_Answer.f a0_0 a0_1 a0_2 a0_3 a0_4).bind fun a => _) = some true from H)
   have HN := Aside0.mk hN
   clear hN
   have HT := Aside0.mk H
   clear H
   generalize hq_ : World.setCell _ _ _ = W0
   have BX := Aside0.mk (show W0.heap[gb151]? = some (.cells #[.int .i64 t145, .int .i64 t146, .int .i64 t147, .int .i64 t148, .string t149] 23 (0, 0)) from by rw [← hq_]; refine blk_put (cs := #[.int .i64 t145, .int .i64 t146, .int .i64 t147, .int .i64 t148, .string (⟨#[]⟩ : ByteArray)]) ?_ 4 _ rfl; refine blk_put (cs := #[.int .i64 t145, .int .i64 t146, .int .i64 t147, .int .i64 0, .string (⟨#[]⟩ : ByteArray)]) ?_ 3 _ rfl; refine blk_put (cs := #[.int .i64 t145, .int .i64 t146, .int .i64 0, .int .i64 0, .string (⟨#[]⟩ : ByteArray)]) ?_ 2 _ rfl; refine blk_put (cs := #[.int .i64 t145, .int .i64 0, .int .i64 0, .int .i64 0, .string (⟨#[]⟩ : ByteArray)]) ?_ 1 _ rfl; refine blk_put (cs := #[.int .i64 0, .int .i64 0, .int .i64 0, .int .i64 0, .string (⟨#[]⟩ : ByteArray)]) ?_ 0 _ rfl; exact BK151.out)
   have BM := Aside0.mk (show W0.heap[gb141]? = some (.cells #[.int .i64 a0_0, .int .i64 a0_1, .int .i64 a0_2, .int .i64 a0_3, .string a0_4] 23 (0, 0)) from by rw [← hq_]; repeat (first | (with_reducible exact BK141.out) | refine (Below.heap_setCell _ _ _ _ NB141_151.out).trans ?_ | refine (Below.heap_setCell _ _ _ _ NB151_141.out).trans ?_))
   have HB0 := Aside0.mk (show Below w.heap.size w W0 from by rw [← hq_]; repeat (first | (with_reducible first | exact HBt.out | refine below_set ?_ GE151.out)))
   have hs0 := congrArg (fun W : World => W.heap.size) hq_
   simp at hs0
   rw [hs0]
   clear hs0
   clear hq_ HBt BK141 BK151
   have hcb := Lib.bytesWorld_cell W0 5 t143 q hqs
   have hfb := bytesWorld_free W0 5 t143 q hqs
   have hca := Aside0.mk (Lib.bytesWorld_cell W0 5 t143)
   have hb01 := below_bytes t143 W0 5
   have hsz := Lib.bytesWorld_size W0 5 t143
   generalize Lib.bytesWorld W0 5 t143 = W1 at hcb hfb hsz hca hb01 ⊢
   refine (sternpostbook_Among.calls a1 (wrap64 (8 * (t143.size : Int))) (j : Int) _ HA.out).mono ?_
   rintro e w' ⟨rfl, nd, rfl⟩
   go_wp2
   go_region
   change Exit.then _ _ _ _ (World.setCell ?W9 ⟨?gv, q, none⟩ ?xv)
   have hb12 : Below W0.heap.size W0 (World.setCell ?W9 ⟨?gv, q, none⟩ ?xv) := Below.setCell (p := ⟨?gv, q, none⟩) (w := ?W9) ⟨hb01.os, hb01.tape, hb01.output, hb01.size, hb01.block⟩ (Nat.le_refl _) ?xv
   have hc2 := Aside0.mk (show ∀ i, i < t143.size → (World.setCell ?W9 ⟨?gv, q, none⟩ ?xv).cell? ⟨?gv, 0 + i, none⟩ = some (.int .u8 ((flipL t143 q rm).getD i 0)) from flip_cells ?W9 ?gv t143 q rm hqs hca.out _ (by simp [List.getD, hqs]))
   clear hcb hfb hsz hca hb01
   generalize World.setCell ?W9 ⟨?gv, q, none⟩ ?xv = W2 at hb12 hc2 ⊢
   have hcv3 := fun cap => run_convert_bytes_arg (P := Try.prog) W2 35 5 Try.underlying35 Try.underlying5 W0.heap.size 0 t143.size cap (flipL t143 q rm) (flipL_len _ _ _) hc2.out 9 Try.underlying9
   clear hc2
   go_wp2_with fail
   refine (icmp_Decode.calls k (flipS t143 q rm) g1 g2 g3 g4 g5 20 _ HD.out).mono ?_
   rintro e W3 ⟨rfl, hb3⟩
   have hb03 := below_step hb12 hb3
   have HB3 := Aside0.mk (below_step HB0.out hb03)
   have BX3 := Aside0.mk (blk_below BX.out hb03)
   have BM3 := Aside0.mk (blk_below BM.out hb03)
   clear hb12 hb3 hb03 hcv3 BX BM HB0
   subst h8_
   replace h5_ := h5_.symm
   subst h5_
   replace h6_ := h6_.symm
   subst h6_
   replace h7_ := h7_.symm
   subst h7_
   replace h9_ := h9_.symm
   subst h9_
   replace h10_ := h10_.symm
   subst h10_
   go_wp2_with (first | ((with_reducible refine gate_dst (N := 10) rfl ?_); refine box_event ?hg (N := 10) ?hd (cs := #[.int .i64 0, .int .i64 0, .int .i64 0, .int .i64 0, .string (⟨#[]⟩ : ByteArray)]) (t := 23) ?hr ?_; (case hd => rfl); (case hg => rfl); (case hr => first | (go_simp; done) | (go_simp; rfl)); intro gp hg W4 hbox hb; have HB4 := Aside0.mk (below_step HB3.out hb); have BX4 := Aside0.mk (blk_below BX3.out hb); have BM4 := Aside0.mk (blk_below BM3.out hb); have BG4 := Aside0.mk hbox; have GP := Aside0.mk ((by rw [hg]; exact below_size HB3.out) : w.heap.size ≤ gp); have NPM := Aside0.mk ((by rw [hg]; exact Nat.ne_of_lt (blk_lt BM3.out)) : gb141 ≠ gp); have NPX := Aside0.mk ((by rw [hg]; exact Nat.ne_of_lt (blk_lt BX3.out)) : gb151 ≠ gp); have u1 := NPM.out; have u2 := Ne.symm NPM.out; have u3 := NPX.out; have u4 := Ne.symm NPX.out; clear hb hbox hg; have hgc0 : W4.cell? ⟨gp, 0, none⟩ = some (.int .i64 0) := (blk_cell BG4.out 0).trans rfl; have hgf0 := blk_frozen BG4.out 0; have hgc1 : W4.cell? ⟨gp, 1, none⟩ = some (.int .i64 0) := (blk_cell BG4.out 1).trans rfl; have hgf1 := blk_frozen BG4.out 1; have hgc2 : W4.cell? ⟨gp, 2, none⟩ = some (.int .i64 0) := (blk_cell BG4.out 2).trans rfl; have hgf2 := blk_frozen BG4.out 2; have hgc3 : W4.cell? ⟨gp, 3, none⟩ = some (.int .i64 0) := (blk_cell BG4.out 3).trans rfl; have hgf3 := blk_frozen BG4.out 3; have hgc4 : W4.cell? ⟨gp, 4, none⟩ = some (.string (⟨#[]⟩ : ByteArray)) := (blk_cell BG4.out 4).trans rfl; have hgf4 := blk_frozen BG4.out 4; have hxc0 : W4.cell? ⟨gb151, 0, none⟩ = some (.int .i64 a0_0) := (blk_cell BX4.out 0).trans rfl; have hxf0 := blk_frozen BX4.out 0; have hxc1 : W4.cell? ⟨gb151, 1, none⟩ = some (.int .i64 a0_1) := (blk_cell BX4.out 1).trans rfl; have hxf1 := blk_frozen BX4.out 1; have hxc2 : W4.cell? ⟨gb151, 2, none⟩ = some (.int .i64 a0_2) := (blk_cell BX4.out 2).trans rfl; have hxf2 := blk_frozen BX4.out 2; have hxc3 : W4.cell? ⟨gb151, 3, none⟩ = some (.int .i64 a0_3) := (blk_cell BX4.out 3).trans rfl; have hxf3 := blk_frozen BX4.out 3; have hxc4 : W4.cell? ⟨gb151, 4, none⟩ = some (.string a0_4) := (blk_cell BX4.out 4).trans rfl; have hxf4 := blk_frozen BX4.out 4; have hmc0 : W4.cell? ⟨gb141, 0, none⟩ = some (.int .i64 a0_0) := (blk_cell BM4.out 0).trans rfl; have hmf0 := blk_frozen BM4.out 0; have hmc1 : W4.cell? ⟨gb141, 1, none⟩ = some (.int .i64 a0_1) := (blk_cell BM4.out 1).trans rfl; have hmf1 := blk_frozen BM4.out 1; have hmc2 : W4.cell? ⟨gb141, 2, none⟩ = some (.int .i64 a0_2) := (blk_cell BM4.out 2).trans rfl; have hmf2 := blk_frozen BM4.out 2; have hmc3 : W4.cell? ⟨gb141, 3, none⟩ = some (.int .i64 a0_3) := (blk_cell BM4.out 3).trans rfl; have hmf3 := blk_frozen BM4.out 3; have hmc4 : W4.cell? ⟨gb141, 4, none⟩ = some (.string a0_4) := (blk_cell BM4.out 4).trans rfl; have hmf4 := blk_frozen BM4.out 4))
   refine (icmp_Answer.calls a0_0 a0_1 a0_2 a0_3 a0_4 n1 n2 n3 n4 n5 n6 _ HN.out).mono ?_
   rintro e W5 ⟨rfl, hb5⟩
   have HB5 := Aside0.mk (below_step (show Below w.heap.size w _ from by repeat (first | (with_reducible first | exact HB4.out | refine below_set ?_ GP.out))) hb5)
   have BM5 := Aside0.mk (blk_below (g := gb141) (o := .cells #[.int .i64 a0_0, .int .i64 a0_1, .int .i64 a0_2, .int .i64 a0_3, .string a0_4] 23 (0, 0)) (by repeat (first | (with_reducible exact BM4.out) | refine (Below.heap_setCell _ _ _ _ NPM.out).trans ?_)) hb5)
   clear hb5
   have H := HT.out
   clear HT
   by_cases hn : n6 = 0
   case pos =>
    subst hn
    rw [if_pos rfl] at H
    obtain ⟨⟨z1, z2, z3, z4, z5, z6⟩, hz, H⟩ := Option.bind_eq_some_iff.mp H
    have HZ := Aside0.mk hz
    clear hz
    by_cases hf : n1 = 0 ∧ n3 = a0_2 ∧ n4 = a0_3 ∧ n5 = a0_4 ∧ z6 = 60
    rotate_left
    ·exact absurd H (by show (if n1 = 0 ∧ n3 = a0_2 ∧ n4 = a0_3 ∧ n5 = a0_4 ∧ z6 = 60 then some true else none) ≠ _; rw [if_neg hf]; simp)
    clear H
    obtain ⟨f1, f3, f4, f5, f6⟩ := hf
    replace f1 := f1.symm
    subst f1
    replace f3 := f3.symm
    subst f3
    replace f4 := f4.symm
    subst f4
    replace f5 := f5.symm
    subst f5
    replace f6 := f6.symm
    subst f6
    go_wp2_with (first | ((with_reducible refine gate_dst (N := 12) rfl ?_); refine box_event ?hg (N := 12) ?hd (cs := #[.int .i64 0, .int .i64 0, .int .i64 0, .int .i64 0, .string (⟨#[]⟩ : ByteArray)]) (t := 23) ?hr ?_; (case hd => rfl); (case hg => rfl); (case hr => first | (go_simp; done) | (go_simp; rfl)); intro ga hg W6 hbox hb; have aB := Aside0.mk (below_step HB5.out hb); have aM := Aside0.mk (blk_below BM5.out hb); have aG := Aside0.mk hbox; have aP := Aside0.mk ((by rw [hg]; exact below_size HB5.out) : w.heap.size ≤ ga); have aN := Aside0.mk ((by rw [hg]; exact Nat.ne_of_lt (blk_lt BM5.out)) : gb141 ≠ ga); have au := aN.out; have av := Ne.symm aN.out; clear hb hbox hg; have hagc0 : W6.cell? ⟨ga, 0, none⟩ = some (.int .i64 0) := (blk_cell aG.out 0).trans rfl; have hagf0 := blk_frozen aG.out 0; have hagc1 : W6.cell? ⟨ga, 1, none⟩ = some (.int .i64 0) := (blk_cell aG.out 1).trans rfl; have hagf1 := blk_frozen aG.out 1; have hagc2 : W6.cell? ⟨ga, 2, none⟩ = some (.int .i64 0) := (blk_cell aG.out 2).trans rfl; have hagf2 := blk_frozen aG.out 2; have hagc3 : W6.cell? ⟨ga, 3, none⟩ = some (.int .i64 0) := (blk_cell aG.out 3).trans rfl; have hagf3 := blk_frozen aG.out 3; have hagc4 : W6.cell? ⟨ga, 4, none⟩ = some (.string (⟨#[]⟩ : ByteArray)) := (blk_cell aG.out 4).trans rfl; have hagf4 := blk_frozen aG.out 4; have hamc0 : W6.cell? ⟨gb141, 0, none⟩ = some (.int .i64 a0_0) := (blk_cell aM.out 0).trans rfl; have hamf0 := blk_frozen aM.out 0; have hamc1 : W6.cell? ⟨gb141, 1, none⟩ = some (.int .i64 a0_1) := (blk_cell aM.out 1).trans rfl; have hamf1 := blk_frozen aM.out 1; have hamc2 : W6.cell? ⟨gb141, 2, none⟩ = some (.int .i64 a0_2) := (blk_cell aM.out 2).trans rfl; have hamf2 := blk_frozen aM.out 2; have hamc3 : W6.cell? ⟨gb141, 3, none⟩ = some (.int .i64 a0_3) := (blk_cell aM.out 3).trans rfl; have hamf3 := blk_frozen aM.out 3; have hamc4 : W6.cell? ⟨gb141, 4, none⟩ = some (.string a0_4) := (blk_cell aM.out 4).trans rfl; have hamf4 := blk_frozen aM.out 4))
    refine (icmp_Answer.calls 0 n2 a0_2 a0_3 a0_4 z1 z2 z3 z4 z5 60 _ HZ.out).mono ?_
    rintro e W7 ⟨rfl, hb7⟩
    have HB7 := Aside0.mk (below_step (show Below w.heap.size w _ from by repeat (first | (with_reducible first | exact aB.out | refine below_set ?_ aP.out))) hb7)
    have BM7 := Aside0.mk (blk_below (g := gb141) (o := .cells #[.int .i64 a0_0, .int .i64 a0_1, .int .i64 a0_2, .int .i64 a0_3, .string a0_4] 23 (0, 0)) (by repeat (first | (with_reducible exact aM.out) | refine (Below.heap_setCell _ _ _ _ aN.out).trans ?_)) hb7)
    have BA7 := Aside0.mk (blk_below (g := ga) (o := .cells #[.int .i64 0, .int .i64 n2, .int .i64 a0_2, .int .i64 a0_3, .string a0_4] 23 (0, 0)) (by refine blk_put (cs := #[.int .i64 0, .int .i64 n2, .int .i64 a0_2, .int .i64 a0_3, .string (⟨#[]⟩ : ByteArray)]) ?_ 4 _ rfl; refine blk_put (cs := #[.int .i64 0, .int .i64 n2, .int .i64 a0_2, .int .i64 0, .string (⟨#[]⟩ : ByteArray)]) ?_ 3 _ rfl; refine blk_put (cs := #[.int .i64 0, .int .i64 n2, .int .i64 0, .int .i64 0, .string (⟨#[]⟩ : ByteArray)]) ?_ 2 _ rfl; refine blk_put (cs := #[.int .i64 0, .int .i64 0, .int .i64 0, .int .i64 0, .string (⟨#[]⟩ : ByteArray)]) ?_ 1 _ rfl; refine blk_put (cs := #[.int .i64 0, .int .i64 0, .int .i64 0, .int .i64 0, .string (⟨#[]⟩ : ByteArray)]) ?_ 0 _ rfl; exact aG.out) hb7)
    clear hb7
    go_wp2_with (first | ((with_reducible refine gate_dst (N := 14) rfl ?_); refine box_event ?hg (N := 14) ?hd (cs := #[.int .i64 0, .int .i64 0, .int .i64 0, .int .i64 0, .string (⟨#[]⟩ : ByteArray)]) (t := 23) ?hr ?_; (case hd => rfl); (case hg => rfl); (case hr => first | (go_simp; done) | (go_simp; rfl)); intro gz hg W8 hbox hb; have zB := Aside0.mk (below_step HB7.out hb); have zM := Aside0.mk (blk_below BM7.out hb); have zG := Aside0.mk hbox; have zP := Aside0.mk ((by rw [hg]; exact below_size HB7.out) : w.heap.size ≤ gz); have zN := Aside0.mk ((by rw [hg]; exact Nat.ne_of_lt (blk_lt BM7.out)) : gb141 ≠ gz); have zu := zN.out; have zv := Ne.symm zN.out; have BA8 := Aside0.mk (blk_below BA7.out hb); have zq := Nat.ne_of_lt (Nat.lt_of_lt_of_eq (blk_lt BA7.out) hg.symm); have zr := Ne.symm zq; have hzac0 : W8.cell? ⟨ga, 0, none⟩ = some (.int .i64 0) := (blk_cell BA8.out 0).trans rfl; have hzaf0 := blk_frozen BA8.out 0; have hzac1 : W8.cell? ⟨ga, 1, none⟩ = some (.int .i64 n2) := (blk_cell BA8.out 1).trans rfl; have hzaf1 := blk_frozen BA8.out 1; have hzac2 : W8.cell? ⟨ga, 2, none⟩ = some (.int .i64 a0_2) := (blk_cell BA8.out 2).trans rfl; have hzaf2 := blk_frozen BA8.out 2; have hzac3 : W8.cell? ⟨ga, 3, none⟩ = some (.int .i64 a0_3) := (blk_cell BA8.out 3).trans rfl; have hzaf3 := blk_frozen BA8.out 3; have hzac4 : W8.cell? ⟨ga, 4, none⟩ = some (.string a0_4) := (blk_cell BA8.out 4).trans rfl; have hzaf4 := blk_frozen BA8.out 4; clear hb hbox hg; have hzgc0 : W8.cell? ⟨gz, 0, none⟩ = some (.int .i64 0) := (blk_cell zG.out 0).trans rfl; have hzgf0 := blk_frozen zG.out 0; have hzgc1 : W8.cell? ⟨gz, 1, none⟩ = some (.int .i64 0) := (blk_cell zG.out 1).trans rfl; have hzgf1 := blk_frozen zG.out 1; have hzgc2 : W8.cell? ⟨gz, 2, none⟩ = some (.int .i64 0) := (blk_cell zG.out 2).trans rfl; have hzgf2 := blk_frozen zG.out 2; have hzgc3 : W8.cell? ⟨gz, 3, none⟩ = some (.int .i64 0) := (blk_cell zG.out 3).trans rfl; have hzgf3 := blk_frozen zG.out 3; have hzgc4 : W8.cell? ⟨gz, 4, none⟩ = some (.string (⟨#[]⟩ : ByteArray)) := (blk_cell zG.out 4).trans rfl; have hzgf4 := blk_frozen zG.out 4; have hzmc0 : W8.cell? ⟨gb141, 0, none⟩ = some (.int .i64 a0_0) := (blk_cell zM.out 0).trans rfl; have hzmf0 := blk_frozen zM.out 0; have hzmc1 : W8.cell? ⟨gb141, 1, none⟩ = some (.int .i64 a0_1) := (blk_cell zM.out 1).trans rfl; have hzmf1 := blk_frozen zM.out 1; have hzmc2 : W8.cell? ⟨gb141, 2, none⟩ = some (.int .i64 a0_2) := (blk_cell zM.out 2).trans rfl; have hzmf2 := blk_frozen zM.out 2; have hzmc3 : W8.cell? ⟨gb141, 3, none⟩ = some (.int .i64 a0_3) := (blk_cell zM.out 3).trans rfl; have hzmf3 := blk_frozen zM.out 3; have hzmc4 : W8.cell? ⟨gb141, 4, none⟩ = some (.string a0_4) := (blk_cell zM.out 4).trans rfl; have hzmf4 := blk_frozen zM.out 4))
    go_ret
    exact ⟨by first | rfl | simp, by repeat (first | (with_reducible first | exact zB.out | refine below_set ?_ zP.out) | exact zB.out)⟩
   rw [if_neg hn] at H
   by_cases hf : n1 = 0 ∧ n2 = 0 ∧ n3 = 0 ∧ n4 = 0 ∧ n5 = ⟨#[]⟩
   rotate_left
   ·exact absurd H (by show (if n1 = 0 ∧ n2 = 0 ∧ n3 = 0 ∧ n4 = 0 ∧ n5 = ⟨#[]⟩ then some true else none) ≠ _; rw [if_neg hf]; simp)
   clear H
   obtain ⟨f1, f2, f3, f4, f5⟩ := hf
   subst f1
   subst f2
   subst f3
   subst f4
   subst f5
   have dn : (n6 != 0) = true := bne_iff_ne.mpr hn
   go_wp2_with (first | ((with_reducible refine gate_dst (N := 12) rfl ?_); refine box_event ?hg (N := 12) ?hd (cs := #[.int .i64 0, .int .i64 0, .int .i64 0, .int .i64 0, .string (⟨#[]⟩ : ByteArray)]) (t := 23) ?hr ?_; (case hd => rfl); (case hg => rfl); (case hr => first | (go_simp; done) | (go_simp; rfl)); intro ga hg W6 hbox hb; have aB := Aside0.mk (below_step HB5.out hb); have aM := Aside0.mk (blk_below BM5.out hb); have aG := Aside0.mk hbox; have aP := Aside0.mk ((by rw [hg]; exact below_size HB5.out) : w.heap.size ≤ ga); have aN := Aside0.mk ((by rw [hg]; exact Nat.ne_of_lt (blk_lt BM5.out)) : gb141 ≠ ga); have au := aN.out; have av := Ne.symm aN.out; clear hb hbox hg; have hagc0 : W6.cell? ⟨ga, 0, none⟩ = some (.int .i64 0) := (blk_cell aG.out 0).trans rfl; have hagf0 := blk_frozen aG.out 0; have hagc1 : W6.cell? ⟨ga, 1, none⟩ = some (.int .i64 0) := (blk_cell aG.out 1).trans rfl; have hagf1 := blk_frozen aG.out 1; have hagc2 : W6.cell? ⟨ga, 2, none⟩ = some (.int .i64 0) := (blk_cell aG.out 2).trans rfl; have hagf2 := blk_frozen aG.out 2; have hagc3 : W6.cell? ⟨ga, 3, none⟩ = some (.int .i64 0) := (blk_cell aG.out 3).trans rfl; have hagf3 := blk_frozen aG.out 3; have hagc4 : W6.cell? ⟨ga, 4, none⟩ = some (.string (⟨#[]⟩ : ByteArray)) := (blk_cell aG.out 4).trans rfl; have hagf4 := blk_frozen aG.out 4; have hamc0 : W6.cell? ⟨gb141, 0, none⟩ = some (.int .i64 a0_0) := (blk_cell aM.out 0).trans rfl; have hamf0 := blk_frozen aM.out 0; have hamc1 : W6.cell? ⟨gb141, 1, none⟩ = some (.int .i64 a0_1) := (blk_cell aM.out 1).trans rfl; have hamf1 := blk_frozen aM.out 1; have hamc2 : W6.cell? ⟨gb141, 2, none⟩ = some (.int .i64 a0_2) := (blk_cell aM.out 2).trans rfl; have hamf2 := blk_frozen aM.out 2; have hamc3 : W6.cell? ⟨gb141, 3, none⟩ = some (.int .i64 a0_3) := (blk_cell aM.out 3).trans rfl; have hamf3 := blk_frozen aM.out 3; have hamc4 : W6.cell? ⟨gb141, 4, none⟩ = some (.string a0_4) := (blk_cell aM.out 4).trans rfl; have hamf4 := blk_frozen aM.out 4))
   go_ret
   exact ⟨by first | rfl | simp, by repeat (first | (with_reducible first | exact aB.out | refine below_set ?_ aP.out) | exact aB.out)⟩
  ·rw [if_neg c6] at H
   have c6b0 : (t144 == 0) = false := beq_eq_false_iff_ne.mpr c6
   have c6b1 : (t144 != 0) = true := bne_iff_ne.mpr c6
   obtain rfl := Option.some.inj H
   go_enter Try.func6, Try.ntmps6
   go_wp2_with (first | ((with_reducible refine gate_dst (N := 2) rfl ?_); refine box_event ?hg (N := 2) ?hd (cs := #[.int .i64 a0_0, .int .i64 a0_1, .int .i64 a0_2, .int .i64 a0_3, .string a0_4]) (t := 23) ?hr ?_; (case hd => rfl); (case hg => rfl); (case hr => first | (go_simp; done) | (go_simp; rfl)); intro gb141 hg w16 hbox hb; have n0_ := Aside0.mk (below_step (by repeat (first | (with_reducible first | exact HB.out | apply below_alloc | apply pw_below_drewN | apply below_drew1) | exact HB.out)) hb); have n1_ := Aside0.mk (hbox); have n2_ := Aside0.mk ((by rw [hg]; exact (below_size (by repeat (first | (with_reducible first | exact HB.out | apply below_alloc | apply pw_below_drewN | apply below_drew1) | exact HB.out))) : w.heap.size ≤ gb141)); have n3_ := Aside0.mk ((by rw [hg]; exact (below_size (by repeat (first | (with_reducible first | exact HB.out | apply below_alloc | apply pw_below_drewN | apply below_drew1) | exact HB.out))) : w.heap.size ≤ gb141)); clear HB; have HB := n0_; have BK141 := n1_; have GW141 := n2_; have GE141 := n3_; clear n0_ n1_ n2_ n3_; clear hb hbox hg) | ((with_reducible refine gate_callee (f := 15) rfl ?_); refine goesL_ (some 16) rfl rfl Try.func15 (by kernel_rfl) rfl #[] rfl (by (try simp only [List.map_toArray, List.map_cons, List.map_nil]); first | done | rfl | (simp only [List.length_drop, List.length_take]; rfl)) ?_; (with_reducible refine (sternpostlaw06_works.calls k  true _ A3.out).mono ?_); rintro e w17 ⟨rfl, hb⟩; refine ⟨_, rfl, ?_⟩; have n0_ := Aside0.mk (blk_below (g := gb141) (o := .cells #[.int .i64 a0_0, .int .i64 a0_1, .int .i64 a0_2, .int .i64 a0_3, .string a0_4] 23 (0, 0)) (by (with_reducible repeat (first | refine blk_drewN ?_ _ | refine blk_drew ?_ | refine blk_alloc ?_ _)); exact BK141.out) hb); have n1_ := Aside0.mk (below_step (by repeat (first | (with_reducible first | exact HB.out | apply below_alloc | apply pw_below_drewN | apply below_drew1 | refine below_set ?_ GE141.out) | exact HB.out)) hb); clear BK141; clear HB; have BK141 := n0_; have HB := n1_; clear n0_ n1_; (try clear hb); (try clear hb2); (try clear hk); (try clear hi); have hcz18_0 : w17.cell? ⟨gb141, 0, none⟩ = some (.int .i64 a0_0) := (blk_cell BK141.out 0).trans rfl; have hcz18_1 : w17.cell? ⟨gb141, 1, none⟩ = some (.int .i64 a0_1) := (blk_cell BK141.out 1).trans rfl; have hcz18_2 : w17.cell? ⟨gb141, 2, none⟩ = some (.int .i64 a0_2) := (blk_cell BK141.out 2).trans rfl; have hcz18_3 : w17.cell? ⟨gb141, 3, none⟩ = some (.int .i64 a0_3) := (blk_cell BK141.out 3).trans rfl; have hcz18_4 : w17.cell? ⟨gb141, 4, none⟩ = some (.string a0_4) := (blk_cell BK141.out 4).trans rfl; have hfz18_0 := blk_frozen BK141.out 0; have hfz18_1 := blk_frozen BK141.out 1; have hfz18_2 := blk_frozen BK141.out 2; have hfz18_3 := blk_frozen BK141.out 3; have hfz18_4 := blk_frozen BK141.out 4) | ((with_reducible refine gate_callee (f := 9) rfl ?_); refine goesL_ (some 20) rfl rfl Try.func9 (by kernel_rfl) rfl #[.agg #[.int .i64 a0_0, .int .i64 a0_1, .int .i64 a0_2, .int .i64 a0_3, .string a0_4]] rfl (by (try simp only [List.map_toArray, List.map_cons, List.map_nil]); first | done | rfl | (simp only [List.length_drop, List.length_take]; rfl)) ?_; (with_reducible refine (icmp_Encode.calls k a0_0 a0_1 a0_2 a0_3 a0_4 t143 t144 _ A5.out).mono ?_); rintro e w19 ⟨rfl, hb⟩; refine ⟨_, rfl, ?_⟩; have n0_ := Aside0.mk (blk_below (g := gb141) (o := .cells #[.int .i64 a0_0, .int .i64 a0_1, .int .i64 a0_2, .int .i64 a0_3, .string a0_4] 23 (0, 0)) (by (with_reducible repeat (first | refine blk_drewN ?_ _ | refine blk_drew ?_ | refine blk_alloc ?_ _)); exact BK141.out) hb); have n1_ := Aside0.mk (below_step (by repeat (first | (with_reducible first | exact HB.out | apply below_alloc | apply pw_below_drewN | apply below_drew1 | refine below_set ?_ GE141.out) | exact HB.out)) hb); clear BK141; clear HB; have BK141 := n0_; have HB := n1_; clear n0_ n1_; (try clear hb); (try clear hb2); (try clear hk); (try clear hi)))
   go_ret
   exact ⟨by first | rfl | (simp [errW_none, errW_some] <;> rfl) | (simp [*, errW_none, errW_some] <;> rfl), by repeat (first | (with_reducible first | exact HB.out | apply below_alloc | apply pw_below_drewN | apply below_drew1 | refine below_set ?_ GE141.out) | exact HB.out)⟩
 ·replace c4 := Bool.eq_false_iff.mpr c4
  subst c4
  have H1 : (some false) = some r := by rw [if_neg (show ¬ (false = true) by decide)] at H; exact H
  clear H
  have H := H1
  clear H1
  exact absurd ((Option.some.inj H).trans hrT_) Bool.false_ne_true

/-- THE ONE PURE STATEMENT of sternpostlaw06_IcmpBack: yours. -/
def fit23 (x : S23) : Prop := ((Lit.int .i64 x.f0).wf = true) ∧ ((Lit.int .i64 x.f1).wf = true) ∧ ((Lit.int .i64 x.f2).wf = true) ∧ ((Lit.int .i64 x.f3).wf = true) ∧ x.f4.size ≤ 140737488351232
def sternpostlaw06_IcmpBack.Pure : Prop := ∀ (a0_0 : Int) (a0_1 : Int) (a0_2 : Int) (a0_3 : Int) (a0_4 : ByteArray) (a1 : Int), (Lit.int .i64 a0_0).wf = true → (Lit.int .i64 a0_1).wf = true → (Lit.int .i64 a0_2).wf = true → (Lit.int .i64 a0_3).wf = true → a0_4.size ≤ 140737488351232 → (Lit.int .i64 a1).wf = true → ∃ k, sternpostlaw06_IcmpBack.f k a0_0 a0_1 a0_2 a0_3 a0_4 a1 = some true
theorem sternpostlaw06_IcmpBack.walk (P : sternpostlaw06_IcmpBack.Pure) (a0_0 : Int) (a0_1 : Int) (a0_2 : Int) (a0_3 : Int) (a0_4 : ByteArray) (a1 : Int) (w : World) (w0_0 : (Lit.int .i64 a0_0).wf = true) (w0_1 : (Lit.int .i64 a0_1).wf = true) (w0_2 : (Lit.int .i64 a0_2).wf = true) (w0_3 : (Lit.int .i64 a0_3).wf = true) (w0_4 : a0_4.size ≤ 140737488351232) (w1 : (Lit.int .i64 a1).wf = true) :
  Calls Try.prog 6 #[.agg #[.int .i64 a0_0, .int .i64 a0_1, .int .i64 a0_2, .int .i64 a0_3, .string a0_4], .int .i64 a1] w fun e w' => e = .returned (.bool true) ∧ Below w.heap.size w w' := by
 obtain ⟨k, h⟩ := P a0_0 a0_1 a0_2 a0_3 a0_4 a1 w0_0 w0_1 w0_2 w0_3 w0_4 w1
 refine (sternpostlaw06_IcmpBack.calls k a0_0 a0_1 a0_2 a0_3 a0_4 a1 true w  h rfl).mono ?_
 rintro e w' ⟨rfl, hd⟩
 exact ⟨rfl, hd⟩

end Go.Proofs.Ytckgcjjehahkiaa.PIcmpBack

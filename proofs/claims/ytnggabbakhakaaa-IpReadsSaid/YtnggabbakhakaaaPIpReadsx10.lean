-- Laid by this claim's own program over the print's words.
import Derived.Test.YtnggabbakhakaaaPIpReadsx0
import Derived.Test.YtnggabbakhakaaaPIpReadsx8
import Derived.Test.YtnggabbakhakaaaPIpReadsx9
namespace Go.Proofs.Ytnggabbakhakaaa.PIpReads
open Go.RowKit Go.Proofs.YtnggabbakhakaaaW.PrintWords Go.Proofs.YtnggabbakhakaaaW.PrintLast Go.Proofs.YtnggabbakhakaaaW.PrintMore
attribute [local go_sem] max2_int min2_int max_two min_two max_three min_three max_four min_four extract_cut tmod_nat_lit   -- for this text's walks alone
set_option linter.unusedVariables false
set_option linter.unusedSimpArgs false

/-! ### sternpostref05_Decode: function 19 -/
mutual
def sternpostref05_Decode.j0 : Nat → ByteArray → Bool → Option (Int × Int × Int × Int × Int × Int × Bool × Bool × ByteArray × ByteArray × Int)
 | 0, _, _ => none
 | k + 1, x0, x16 => if x16 = true then (some (0, 0, 0, 0, 0, 0, false, false, (⟨#[]⟩ : ByteArray), (⟨#[]⟩ : ByteArray), 50)) else (if 0 < (x0.size : Int) then (if 2 ≤ 4 then (if 4 ≤ (x0.size : Int) then ((sternpostref02_Num.f k (cutS x0 2 4)).bind fun t163 => (if (wrap64 ((wrap64 (Int.tmod (bt x0 0) 16)) * 4)) < 20 then (sternpostref05_Decode.j1 k x0 (wrap64 ((wrap64 (Int.tmod (bt x0 0) 16)) * 4)) t163 true) else (if (wrap64 ((wrap64 (Int.tmod (bt x0 0) 16)) * 4)) > (x0.size : Int) then (sternpostref05_Decode.j1 k x0 (wrap64 ((wrap64 (Int.tmod (bt x0 0) 16)) * 4)) t163 true) else (if t163 < (wrap64 ((wrap64 (Int.tmod (bt x0 0) 16)) * 4)) then (sternpostref05_Decode.j1 k x0 (wrap64 ((wrap64 (Int.tmod (bt x0 0) 16)) * 4)) t163 true) else (sternpostref05_Decode.j1 k x0 (wrap64 ((wrap64 (Int.tmod (bt x0 0) 16)) * 4)) t163 (decide (t163 > (x0.size : Int)))))))) else (none)) else (none)) else (none))
def sternpostref05_Decode.j1 : Nat → ByteArray → Int → Int → Bool → Option (Int × Int × Int × Int × Int × Int × Bool × Bool × ByteArray × ByteArray × Int)
 | 0, _, _, _, _ => none
 | k + 1, x0, x4, x5, x44 => if x44 = true then (some (0, 0, 0, 0, 0, 0, false, false, (⟨#[]⟩ : ByteArray), (⟨#[]⟩ : ByteArray), 50)) else (if 0 ≤ x4 then (if x4 ≤ (x0.size : Int) then ((sternpostref02_Whole.f k (cutS x0 0 (x4 : Int).toNat)).bind fun t164 => (if t164 = true then (if 6 ≤ 8 then (if 8 ≤ (x0.size : Int) then ((sternpostref02_Num.f k (cutS x0 6 8)).bind fun t165 => (if 12 ≤ 16 then (if 16 ≤ (x0.size : Int) then ((sternpostref02_Num.f k (cutS x0 12 16)).bind fun t166 => (if 16 ≤ 20 then (if 20 ≤ (x0.size : Int) then ((sternpostref02_Num.f k (cutS x0 16 20)).bind fun t167 => (if 8 < (x0.size : Int) then (if 9 < (x0.size : Int) then (if 4 ≤ 6 then (if 6 ≤ (x0.size : Int) then ((sternpostref02_Num.f k (cutS x0 4 6)).bind fun t168 => (if 20 ≤ x4 then (if x4 ≤ x5 then (if x5 ≤ (x0.size : Int) then (if 1 < (x0.size : Int) then (if (bt x0 1) = 0 then (if t165 ≥ 32768 then (sternpostref05_Decode.j2 k true t166 t167 (wrap64 (bt x0 8)) (wrap64 (bt x0 9)) t168 (Int.tmod t165 8192) ((Int.tmod (wrap64 (Int.tdiv t165 8192)) 2) == 1) ((Int.tmod (wrap64 (Int.tdiv t165 16384)) 2) == 1) (cutS x0 20 (x4 : Int).toNat) (cutS x0 (x4 : Int).toNat (x5 : Int).toNat)) else ((sternpostref05_Check.f k t166 t167 (wrap64 (bt x0 8)) (wrap64 (bt x0 9)) t168 (Int.tmod t165 8192) ((Int.tmod (wrap64 (Int.tdiv t165 8192)) 2) == 1) ((Int.tmod (wrap64 (Int.tdiv t165 16384)) 2) == 1) (cutS x0 20 (x4 : Int).toNat) (cutS x0 (x4 : Int).toNat (x5 : Int).toNat)).bind fun t170 => (sternpostref05_Decode.j2 k (t170 != 0) t166 t167 (wrap64 (bt x0 8)) (wrap64 (bt x0 9)) t168 (Int.tmod t165 8192) ((Int.tmod (wrap64 (Int.tdiv t165 8192)) 2) == 1) ((Int.tmod (wrap64 (Int.tdiv t165 16384)) 2) == 1) (cutS x0 20 (x4 : Int).toNat) (cutS x0 (x4 : Int).toNat (x5 : Int).toNat)))) else (sternpostref05_Decode.j2 k true t166 t167 (wrap64 (bt x0 8)) (wrap64 (bt x0 9)) t168 (Int.tmod t165 8192) ((Int.tmod (wrap64 (Int.tdiv t165 8192)) 2) == 1) ((Int.tmod (wrap64 (Int.tdiv t165 16384)) 2) == 1) (cutS x0 20 (x4 : Int).toNat) (cutS x0 (x4 : Int).toNat (x5 : Int).toNat))) else (none)) else (none)) else (none)) else (none))) else (none)) else (none)) else (none)) else (none))) else (none)) else (none))) else (none)) else (none))) else (none)) else (none)) else (some (0, 0, 0, 0, 0, 0, false, false, (⟨#[]⟩ : ByteArray), (⟨#[]⟩ : ByteArray), 20)))) else (none)) else (none))
def sternpostref05_Decode.j2 : Nat → Bool → Int → Int → Int → Int → Int → Int → Bool → Bool → ByteArray → ByteArray → Option (Int × Int × Int × Int × Int × Int × Bool × Bool × ByteArray × ByteArray × Int)
 | 0, _, _, _, _, _, _, _, _, _, _, _ => none
 | k + 1, x99, x170000, x170001, x170002, x170003, x170004, x170005, x170006, x170007, x170008, x170009 => if x99 = true then (some (0, 0, 0, 0, 0, 0, false, false, (⟨#[]⟩ : ByteArray), (⟨#[]⟩ : ByteArray), 50)) else (some (x170000, x170001, x170002, x170003, x170004, x170005, x170006, x170007, x170008, x170009, 0))
end
def sternpostref05_Decode.f (k : Nat) (a0 : ByteArray) : Option (Int × Int × Int × Int × Int × Int × Bool × Bool × ByteArray × ByteArray × Int) := if (a0.size : Int) < 20 then (sternpostref05_Decode.j0 k a0 true) else (if 0 < (a0.size : Int) then (sternpostref05_Decode.j0 k a0 (((Int.tdiv (bt a0 0) 16) % 256) != 4)) else (none))
theorem sternpostref05_Decode.mono_l : ∀ k, (∀ y0 y1, LeO (sternpostref05_Decode.j0 k y0 y1) (sternpostref05_Decode.j0 (k + 1) y0 y1)) ∧ (∀ y0 y1 y2 y3, LeO (sternpostref05_Decode.j1 k y0 y1 y2 y3) (sternpostref05_Decode.j1 (k + 1) y0 y1 y2 y3)) ∧ (∀ y0 y1 y2 y3 y4 y5 y6 y7 y8 y9 y10, LeO (sternpostref05_Decode.j2 k y0 y1 y2 y3 y4 y5 y6 y7 y8 y9 y10) (sternpostref05_Decode.j2 (k + 1) y0 y1 y2 y3 y4 y5 y6 y7 y8 y9 y10))
 | 0 => ⟨fun _ _ r h => by simp [sternpostref05_Decode.j0] at h, fun _ _ _ _ r h => by simp [sternpostref05_Decode.j1] at h, fun _ _ _ _ _ _ _ _ _ _ _ r h => by simp [sternpostref05_Decode.j2] at h⟩
 | k + 1 => by
  obtain ⟨ih0, ih1, ih2⟩ := sternpostref05_Decode.mono_l k
  refine ⟨?_, ?_, ?_⟩
  ·intro y0 y1
   unfold sternpostref05_Decode.j0
   repeat' first
   | (with_reducible exact ih0 _ _)
   | (with_reducible exact ih1 _ _ _ _)
   | (with_reducible exact ih2 _ _ _ _ _ _ _ _ _ _ _)
   | (with_reducible exact sternpostref02_Num.mono _ _)
   | (with_reducible exact sternpostref02_Whole.mono _ _)
   | (with_reducible exact sternpostref05_Check.mono _ _ _ _ _ _ _ _ _ _ _)
   | (with_reducible exact LeO.refl _)
   | (with_reducible exact LeO.none _)
   | (with_reducible refine LeO.ite ?_ ?_)
   | (with_reducible refine LeO.bind ?_ (fun _ => ?_))
   | exact ih0 _ _
   | exact ih1 _ _ _ _
   | exact ih2 _ _ _ _ _ _ _ _ _ _ _
   | exact sternpostref02_Num.mono _ _
   | exact sternpostref02_Whole.mono _ _
   | exact sternpostref05_Check.mono _ _ _ _ _ _ _ _ _ _ _
   | exact LeO.none _
   | refine LeO.ite ?_ ?_
   | refine LeO.bind ?_ (fun _ => ?_)
  ·intro y0 y1 y2 y3
   unfold sternpostref05_Decode.j1
   repeat' first
   | (with_reducible exact ih0 _ _)
   | (with_reducible exact ih1 _ _ _ _)
   | (with_reducible exact ih2 _ _ _ _ _ _ _ _ _ _ _)
   | (with_reducible exact sternpostref02_Num.mono _ _)
   | (with_reducible exact sternpostref02_Whole.mono _ _)
   | (with_reducible exact sternpostref05_Check.mono _ _ _ _ _ _ _ _ _ _ _)
   | (with_reducible exact LeO.refl _)
   | (with_reducible exact LeO.none _)
   | (with_reducible refine LeO.ite ?_ ?_)
   | (with_reducible refine LeO.bind ?_ (fun _ => ?_))
   | exact ih0 _ _
   | exact ih1 _ _ _ _
   | exact ih2 _ _ _ _ _ _ _ _ _ _ _
   | exact sternpostref02_Num.mono _ _
   | exact sternpostref02_Whole.mono _ _
   | exact sternpostref05_Check.mono _ _ _ _ _ _ _ _ _ _ _
   | exact LeO.none _
   | refine LeO.ite ?_ ?_
   | refine LeO.bind ?_ (fun _ => ?_)
  ·intro y0 y1 y2 y3 y4 y5 y6 y7 y8 y9 y10
   unfold sternpostref05_Decode.j2
   repeat' first
   | (with_reducible exact ih0 _ _)
   | (with_reducible exact ih1 _ _ _ _)
   | (with_reducible exact ih2 _ _ _ _ _ _ _ _ _ _ _)
   | (with_reducible exact sternpostref02_Num.mono _ _)
   | (with_reducible exact sternpostref02_Whole.mono _ _)
   | (with_reducible exact sternpostref05_Check.mono _ _ _ _ _ _ _ _ _ _ _)
   | (with_reducible exact LeO.refl _)
   | (with_reducible exact LeO.none _)
   | (with_reducible refine LeO.ite ?_ ?_)
   | (with_reducible refine LeO.bind ?_ (fun _ => ?_))
   | exact ih0 _ _
   | exact ih1 _ _ _ _
   | exact ih2 _ _ _ _ _ _ _ _ _ _ _
   | exact sternpostref02_Num.mono _ _
   | exact sternpostref02_Whole.mono _ _
   | exact sternpostref05_Check.mono _ _ _ _ _ _ _ _ _ _ _
   | exact LeO.none _
   | refine LeO.ite ?_ ?_
   | refine LeO.bind ?_ (fun _ => ?_)
theorem sternpostref05_Decode.mono : ∀ a0 k, LeO (sternpostref05_Decode.f k a0) (sternpostref05_Decode.f (k + 1) a0) := by
 intro a0 k
 obtain ⟨ih0, ih1, ih2⟩ := sternpostref05_Decode.mono_l k
 unfold sternpostref05_Decode.f
 repeat' first
   | (with_reducible exact ih0 _ _)
   | (with_reducible exact ih1 _ _ _ _)
   | (with_reducible exact ih2 _ _ _ _ _ _ _ _ _ _ _)
   | (with_reducible exact sternpostref02_Num.mono _ _)
   | (with_reducible exact sternpostref02_Whole.mono _ _)
   | (with_reducible exact sternpostref05_Check.mono _ _ _ _ _ _ _ _ _ _ _)
   | (with_reducible exact LeO.refl _)
   | (with_reducible exact LeO.none _)
   | (with_reducible refine LeO.ite ?_ ?_)
   | (with_reducible refine LeO.bind ?_ (fun _ => ?_))
   | exact ih0 _ _
   | exact ih1 _ _ _ _
   | exact ih2 _ _ _ _ _ _ _ _ _ _ _
   | exact sternpostref02_Num.mono _ _
   | exact sternpostref02_Whole.mono _ _
   | exact sternpostref05_Check.mono _ _ _ _ _ _ _ _ _ _ _
   | exact LeO.none _
   | refine LeO.ite ?_ ?_
   | refine LeO.bind ?_ (fun _ => ?_)
def sternpostref05_Decode.T10 : Bool × List (List Nat × List Nat) := (true, [([], []), ([0], [0]), ([1], [1]), ([], []), ([3], [3]), ([4, 2], [4]), ([], []), ([6], [6]), ([7], [7]), ([], []), ([9], [9]), ([10], [10]), ([], []), ([12], [12]), ([13, 5], [13]), ([], []), ([15], [15]), ([], []), ([17], [17]), ([18], [18]), ([19], [19]), ([], []), ([21], [21]), ([22], [22]), ([23], [23]), ([], []), ([], []), ([25, 26], [25, 26]), ([], []), ([], []), ([], []), ([28, 29, 30], [28, 29, 30]), ([2, 5, 8, 11, 14, 16, 20, 24, 27, 31], [2, 5, 8, 11, 14, 16, 20, 24, 27, 31]), ([], []), ([33, 32, 14, 0, 1, 2, 3, 4, 5, 6, 7, 8, 9, 10, 11, 12, 13, 14, 15, 16, 17, 18, 19, 20, 21, 22, 23, 24, 25, 26, 27, 28, 29, 30, 31, 32, 33], [32, 33])])
def sternpostref05_Decode.B10 : List Nat := [0, 1, 3, 0, 8, 31, 0, 64, 192, 0, 512, 1536, 0, 4096, 12351, 0, 32768, 0, 131072, 393216, 917504, 0, 2097152, 6291456, 14680064, 0, 0, 100663296, 0, 0, 0, 1879048192, 4294967295, 0, 17179869183]
theorem sternpostref05_Decode.tab10 : rtab .any (opsOf Try.f19 10) = sternpostref05_Decode.T10 := by kernel_rfl
theorem sternpostref05_Decode.bits10 : waitsOk sternpostref05_Decode.T10.2 sternpostref05_Decode.B10 = true := by kernel_rfl
set_option maxHeartbeats 8000000 in
set_option maxRecDepth 100000 in
theorem sternpostref05_Decode.calls (k : Nat) (a0 : ByteArray) (r1 : Int) (r2 : Int) (r3 : Int) (r4 : Int) (r5 : Int) (r6 : Int) (r7 : Bool) (r8 : Bool) (r9 : ByteArray) (r10 : ByteArray) (r11 : Int) (w : World) (h : sternpostref05_Decode.f k a0 = some (r1, r2, r3, r4, r5, r6, r7, r8, r9, r10, r11)) :
  Calls Try.prog 19 #[.string a0] w fun e w' => e = .returned (.tuple #[.agg #[.int .i64 r1, .int .i64 r2, .int .i64 r3, .int .i64 r4, .int .i64 r5, .int .i64 r6, .bool r7, .bool r8, .string r9, .string r10], .int .i64 r11]) ∧ Below w.heap.size w w' := by
 have hu23 := Try.underlying23
 have HB := Aside0.mk (Below.refl w.heap.size w)
 have H : (if (a0.size : Int) < 20 then (sternpostref05_Decode.j0 k a0 true) else (if 0 < (a0.size : Int) then (sternpostref05_Decode.j0 k a0 (((Int.tdiv (bt a0 0) 16) % 256) != 4)) else (none))) = some (r1, r2, r3, r4, r5, r6, r7, r8, r9, r10, r11) := h
 clear h
 have HC2 := Aside0.mk H
 clear H
 go_enter Try.func19, Try.ntmps19
 go_upto_region 1 with (first | ((with_reducible refine gate_dst (N := 2) rfl ?_); (try (refine gate_guard (by rfl) ?_; dsimp only)); refine box_event ?hg (N := 2) ?hd (cs := #[.int .i64 0, .int .i64 0, .int .i64 0, .int .i64 0, .int .i64 0, .int .i64 0, .bool false, .bool false, .string (⟨#[]⟩ : ByteArray), .string (⟨#[]⟩ : ByteArray)]) (t := 23) ?hr ?_; (case hd => rfl); (case hg => rfl); (case hr => first | (go_simp; done) | (go_simp; rfl)); intro gb162 hg w3 hbox hb; have n0_ := Aside0.mk (below_step (by repeat (first | (with_reducible first | exact HB.out | apply below_alloc | apply pw_below_drewN | apply below_drew1) | exact HB.out)) hb); have n1_ := Aside0.mk (hbox); have n2_ := Aside0.mk ((by rw [hg]; exact (below_size (by repeat (first | (with_reducible first | exact HB.out | apply below_alloc | apply pw_below_drewN | apply below_drew1) | exact HB.out))) : w.heap.size ≤ gb162)); have n3_ := Aside0.mk ((by rw [hg]; exact (below_size (by repeat (first | (with_reducible first | exact HB.out | apply below_alloc | apply pw_below_drewN | apply below_drew1) | exact HB.out))) : w.heap.size ≤ gb162)); clear HB; have HB := n0_; have BK162 := n1_; have GW162 := n2_; have GE162 := n3_; clear n0_ n1_ n2_ n3_; clear hb hbox hg))
 (try simp only [Act.put, List.setIfInBounds_toArray, List.set_cons_zero, List.set_cons_succ])
 go_cut [16] (fun v16 wc => ∃ (kq : Nat) (x16_1 : Bool), v16 = .bool x16_1 ∧ Aside0 (sternpostref05_Decode.j0 kq a0 x16_1 = some (r1, r2, r3, r4, r5, r6, r7, r8, r9, r10, r11)) ∧ Aside0 (kq ≤ k) ∧ Aside0 (wc.heap[gb162]? = some (.cells #[.int .i64 0, .int .i64 0, .int .i64 0, .int .i64 0, .int .i64 0, .int .i64 0, .bool false, .bool false, .string (⟨#[]⟩ : ByteArray), .string (⟨#[]⟩ : ByteArray)] 23 (0, 0))) ∧ Aside0 (Below w.heap.size w wc))
 case first =>
  have H := HC2.out
  clear HC2
  by_cases c4 : (a0.size : Int) < 20
  ·rw [if_pos c4] at H
   have c4b0 : decide ((a0.size : Int) < 20) = true := decide_eq_true c4
   have c4b1 : decide (a0.size < 20) = true := decide_eq_true (by omega)
   clear c4
   (first | rw [c4b0] | (simp only [i64_w, i32_w]; rw [c4b0]) | skip)
   have H' := Aside0.mk H
   clear H
   go_wp2
   go_meet
   case rel => exact ⟨_, (true), (by first | rfl | (simp; done) | (simp [*]; done)), H', ⟨by first | omega | exact Nat.le_refl _⟩, ⟨by (with_reducible repeat (first | refine blk_drewN ?_ _ | refine blk_drew ?_ | refine blk_alloc ?_ _)); exact BK162.out⟩, ⟨by repeat (first | (with_reducible first | exact HB.out | apply below_alloc | apply pw_below_drewN | apply below_drew1 | refine below_set ?_ GE162.out) | exact HB.out)⟩⟩
  ·rw [if_neg c4] at H
   have c4b0 : decide ((a0.size : Int) < 20) = false := decide_eq_false c4
   have c4b1 : decide (a0.size < 20) = false := decide_eq_false (by omega)
   clear c4
   (first | rw [c4b0] | (simp only [i64_w, i32_w]; rw [c4b0]) | skip)
   by_cases c5 : 0 < (a0.size : Int)
   ·rw [if_pos c5] at H
    have c5b0 : decide (0 < (a0.size : Int)) = true := decide_eq_true c5
    have c5b1 : decide (0 < a0.size) = true := decide_eq_true (by omega)
    clear c5
    have H' := Aside0.mk H
    clear H
    have p6 : 0 ≤ (0 : Int) := (by omega)
    have q6 : 0 < a0.size := (by have : (0 : Int) < (a0.size : Int) := of_decide_eq_true (by first | (with_reducible assumption) | assumption); omega)
    have hx6 : ∀ h : 0 < a0.size, ((a0[0]'h).toNat : Int) = bt a0 0 := bt_at a0 0
    clear p6
    have qi6 : (0 < (a0.size : Int)) = True := eq_true (of_decide_eq_true (by first | (with_reducible assumption) | assumption))
    replace q6 := eq_true q6
    go_wp2
    go_meet
    case rel => exact ⟨_, ((((Int.tdiv (bt a0 0) 16) % 256) != 4)), (by first | rfl | (simp; done) | (simp [*]; done)), H', ⟨by first | omega | exact Nat.le_refl _⟩, ⟨by (with_reducible repeat (first | refine blk_drewN ?_ _ | refine blk_drew ?_ | refine blk_alloc ?_ _)); exact BK162.out⟩, ⟨by repeat (first | (with_reducible first | exact HB.out | apply below_alloc | apply pw_below_drewN | apply below_drew1 | refine below_set ?_ GE162.out) | exact HB.out)⟩⟩
   ·rw [if_neg c5] at H
    exact absurd H (by simp)
 case rest =>
  clear HC2
  try clear c1; try clear p2; try clear c4; try clear c4b0; try clear c4b1; try clear c5; try clear c5b0; try clear c5b1; try clear p6; try clear q6; try clear hx6; try clear qi6; try clear p6; try clear q6
  obtain ⟨kq, x16_1, rfl, HA, HJ1, BK162, HB⟩ := hcut
  cases kq with
  | zero => exact absurd HA.out (by simp [sternpostref05_Decode.j0])
  | succ kj1 =>
   have H := HA.out
   clear HA
   simp only [sternpostref05_Decode.j0] at H
   by_cases c7 : x16_1 = true
   ·subst c7
    have H1 : (some (0, 0, 0, 0, 0, 0, false, false, (⟨#[]⟩ : ByteArray), (⟨#[]⟩ : ByteArray), 50)) = some (r1, r2, r3, r4, r5, r6, r7, r8, r9, r10, r11) := by rw [if_pos rfl] at H; exact H
    clear H
    have H := H1
    clear H1
    simp only [Option.some.injEq, Prod.mk.injEq] at H
    obtain ⟨rfl, rfl, rfl, rfl, rfl, rfl, rfl, rfl, rfl, rfl, rfl⟩ := H
    have hcz8_0 : wc.cell? ⟨gb162, 0, none⟩ = some (.int .i64 0) := (blk_cell BK162.out 0).trans rfl
    have hcz8_1 : wc.cell? ⟨gb162, 1, none⟩ = some (.int .i64 0) := (blk_cell BK162.out 1).trans rfl
    have hcz8_2 : wc.cell? ⟨gb162, 2, none⟩ = some (.int .i64 0) := (blk_cell BK162.out 2).trans rfl
    have hcz8_3 : wc.cell? ⟨gb162, 3, none⟩ = some (.int .i64 0) := (blk_cell BK162.out 3).trans rfl
    have hcz8_4 : wc.cell? ⟨gb162, 4, none⟩ = some (.int .i64 0) := (blk_cell BK162.out 4).trans rfl
    have hcz8_5 : wc.cell? ⟨gb162, 5, none⟩ = some (.int .i64 0) := (blk_cell BK162.out 5).trans rfl
    have hcz8_6 : wc.cell? ⟨gb162, 6, none⟩ = some (.bool false) := (blk_cell BK162.out 6).trans rfl
    have hcz8_7 : wc.cell? ⟨gb162, 7, none⟩ = some (.bool false) := (blk_cell BK162.out 7).trans rfl
    have hcz8_8 : wc.cell? ⟨gb162, 8, none⟩ = some (.string (⟨#[]⟩ : ByteArray)) := (blk_cell BK162.out 8).trans rfl
    have hcz8_9 : wc.cell? ⟨gb162, 9, none⟩ = some (.string (⟨#[]⟩ : ByteArray)) := (blk_cell BK162.out 9).trans rfl
    have hfz8_0 := blk_frozen BK162.out 0
    have hfz8_1 := blk_frozen BK162.out 1
    have hfz8_2 := blk_frozen BK162.out 2
    have hfz8_3 := blk_frozen BK162.out 3
    have hfz8_4 := blk_frozen BK162.out 4
    have hfz8_5 := blk_frozen BK162.out 5
    have hfz8_6 := blk_frozen BK162.out 6
    have hfz8_7 := blk_frozen BK162.out 7
    have hfz8_8 := blk_frozen BK162.out 8
    have hfz8_9 := blk_frozen BK162.out 9
    go_wp2
    refine bodyPost_ret (results_ct rfl _ _ gb162 23 #[.int .i64 0, .int .i64 0, .int .i64 0, .int .i64 0, .int .i64 0, .int .i64 0, .bool false, .bool false, .string (⟨#[]⟩ : ByteArray), .string (⟨#[]⟩ : ByteArray)] (0, 0) _ rfl (by (with_reducible repeat (first | refine blk_drewN ?_ _ | refine blk_drew ?_ | refine blk_alloc ?_ _)); refine blk_put (cs := #[.int .i64 0, .int .i64 0, .int .i64 0, .int .i64 0, .int .i64 0, .int .i64 0, .bool false, .bool false, .string (⟨#[]⟩ : ByteArray), .string (⟨#[]⟩ : ByteArray)]) ?_ 9 _ rfl; refine blk_put (cs := #[.int .i64 0, .int .i64 0, .int .i64 0, .int .i64 0, .int .i64 0, .int .i64 0, .bool false, .bool false, .string (⟨#[]⟩ : ByteArray), .string (⟨#[]⟩ : ByteArray)]) ?_ 8 _ rfl; refine blk_put (cs := #[.int .i64 0, .int .i64 0, .int .i64 0, .int .i64 0, .int .i64 0, .int .i64 0, .bool false, .bool false, .string (⟨#[]⟩ : ByteArray), .string (⟨#[]⟩ : ByteArray)]) ?_ 7 _ rfl; refine blk_put (cs := #[.int .i64 0, .int .i64 0, .int .i64 0, .int .i64 0, .int .i64 0, .int .i64 0, .bool false, .bool false, .string (⟨#[]⟩ : ByteArray), .string (⟨#[]⟩ : ByteArray)]) ?_ 6 _ rfl; refine blk_put (cs := #[.int .i64 0, .int .i64 0, .int .i64 0, .int .i64 0, .int .i64 0, .int .i64 0, .bool false, .bool false, .string (⟨#[]⟩ : ByteArray), .string (⟨#[]⟩ : ByteArray)]) ?_ 5 _ rfl; refine blk_put (cs := #[.int .i64 0, .int .i64 0, .int .i64 0, .int .i64 0, .int .i64 0, .int .i64 0, .bool false, .bool false, .string (⟨#[]⟩ : ByteArray), .string (⟨#[]⟩ : ByteArray)]) ?_ 4 _ rfl; refine blk_put (cs := #[.int .i64 0, .int .i64 0, .int .i64 0, .int .i64 0, .int .i64 0, .int .i64 0, .bool false, .bool false, .string (⟨#[]⟩ : ByteArray), .string (⟨#[]⟩ : ByteArray)]) ?_ 3 _ rfl; refine blk_put (cs := #[.int .i64 0, .int .i64 0, .int .i64 0, .int .i64 0, .int .i64 0, .int .i64 0, .bool false, .bool false, .string (⟨#[]⟩ : ByteArray), .string (⟨#[]⟩ : ByteArray)]) ?_ 2 _ rfl; refine blk_put (cs := #[.int .i64 0, .int .i64 0, .int .i64 0, .int .i64 0, .int .i64 0, .int .i64 0, .bool false, .bool false, .string (⟨#[]⟩ : ByteArray), .string (⟨#[]⟩ : ByteArray)]) ?_ 1 _ rfl; refine blk_put (cs := #[.int .i64 0, .int .i64 0, .int .i64 0, .int .i64 0, .int .i64 0, .int .i64 0, .bool false, .bool false, .string (⟨#[]⟩ : ByteArray), .string (⟨#[]⟩ : ByteArray)]) ?_ 0 _ rfl; (with_reducible repeat (first | refine blk_drewN ?_ _ | refine blk_drew ?_ | refine blk_alloc ?_ _)); exact BK162.out) Try.underlying23 rfl (by kernel_rfl)) rfl ?_
    exact ⟨by first | rfl | (simp [errW_none, errW_some] <;> rfl) | (simp [*, errW_none, errW_some] <;> rfl), by repeat (first | (with_reducible first | exact HB.out | apply below_alloc | apply pw_below_drewN | apply below_drew1 | refine below_set ?_ GE162.out) | exact HB.out)⟩
   ·replace c7 := Bool.eq_false_iff.mpr c7
    subst c7
    have H1 : (if 0 < (a0.size : Int) then (if 2 ≤ 4 then (if 4 ≤ (a0.size : Int) then ((sternpostref02_Num.f kj1 (cutS a0 2 4)).bind fun t163 => (if (wrap64 ((wrap64 (Int.tmod (bt a0 0) 16)) * 4)) < 20 then (sternpostref05_Decode.j1 kj1 a0 (wrap64 ((wrap64 (Int.tmod (bt a0 0) 16)) * 4)) t163 true) else (if (wrap64 ((wrap64 (Int.tmod (bt a0 0) 16)) * 4)) > (a0.size : Int) then (sternpostref05_Decode.j1 kj1 a0 (wrap64 ((wrap64 (Int.tmod (bt a0 0) 16)) * 4)) t163 true) else (if t163 < (wrap64 ((wrap64 (Int.tmod (bt a0 0) 16)) * 4)) then (sternpostref05_Decode.j1 kj1 a0 (wrap64 ((wrap64 (Int.tmod (bt a0 0) 16)) * 4)) t163 true) else (sternpostref05_Decode.j1 kj1 a0 (wrap64 ((wrap64 (Int.tmod (bt a0 0) 16)) * 4)) t163 (decide (t163 > (a0.size : Int)))))))) else (none)) else (none)) else (none)) = some (r1, r2, r3, r4, r5, r6, r7, r8, r9, r10, r11) := by rw [if_neg (show ¬ (false = true) by decide)] at H; exact H
    clear H
    have H := H1
    clear H1
    by_cases c9 : 0 < (a0.size : Int)
    ·rw [if_pos c9] at H
     have c9b0 : decide (0 < (a0.size : Int)) = true := decide_eq_true c9
     have c9b1 : decide (0 < a0.size) = true := decide_eq_true (by omega)
     clear c9
     by_cases c11 : 2 ≤ 4
     ·rw [if_pos c11] at H
      have c11b0 := eq_true c11
      have c11b1 : decide (2 ≤ 4) = true := decide_eq_true c11
      clear c11
      by_cases c12 : 4 ≤ (a0.size : Int)
      ·rw [if_pos c12] at H
       have c12b0 := eq_true c12
       have c12b1 : decide (4 ≤ (a0.size : Int)) = true := decide_eq_true c12
       clear c12
       replace H := Option.bind_eq_some_iff.mp H
       obtain ⟨t163, A130, H⟩ := H
       replace H : (if (wrap64 ((wrap64 (Int.tmod (bt a0 0) 16)) * 4)) < 20 then (sternpostref05_Decode.j1 kj1 a0 (wrap64 ((wrap64 (Int.tmod (bt a0 0) 16)) * 4)) t163 true) else (if (wrap64 ((wrap64 (Int.tmod (bt a0 0) 16)) * 4)) > (a0.size : Int) then (sternpostref05_Decode.j1 kj1 a0 (wrap64 ((wrap64 (Int.tmod (bt a0 0) 16)) * 4)) t163 true) else (if t163 < (wrap64 ((wrap64 (Int.tmod (bt a0 0) 16)) * 4)) then (sternpostref05_Decode.j1 kj1 a0 (wrap64 ((wrap64 (Int.tmod (bt a0 0) 16)) * 4)) t163 true) else (sternpostref05_Decode.j1 kj1 a0 (wrap64 ((wrap64 (Int.tmod (bt a0 0) 16)) * 4)) t163 (decide (t163 > (a0.size : Int))))))) = some (r1, r2, r3, r4, r5, r6, r7, r8, r9, r10, r11) := H
       have A13 := Aside0.mk A130
       clear A130
       have HC14 := Aside0.mk H
       clear H
       have p10 : 0 ≤ (0 : Int) := (by omega)
       have q10 : 0 < a0.size := (by have : (0 : Int) < (a0.size : Int) := of_decide_eq_true (by first | (with_reducible assumption) | assumption); omega)
       have hx10 : ∀ h : 0 < a0.size, ((a0[0]'h).toNat : Int) = bt a0 0 := bt_at a0 0
       clear p10
       have qi10 : (0 < (a0.size : Int)) = True := eq_true (of_decide_eq_true (by first | (with_reducible assumption) | assumption))
       replace q10 := eq_true q10
       go_upto_region 5 with (first | ((with_reducible refine gate_callee (f := 32) rfl ?_); refine goesL_ (some 25) rfl rfl Try.func32 (by kernel_rfl) rfl #[.string (cutS a0 2 4)] rfl (by (try simp only [List.map_toArray, List.map_cons, List.map_nil]); first | done | rfl | (simp only [List.length_drop, List.length_take]; rfl)) ?_; (with_reducible refine (sternpostref02_Num.calls kj1 (cutS a0 2 4) t163 _ A13.out).mono ?_); rintro e w' ⟨rfl, ⟨nd, rfl⟩⟩; refine ⟨_, rfl, ?_⟩))
       (try simp only [Act.put, List.setIfInBounds_toArray, List.set_cons_zero, List.set_cons_succ])
       go_cut [44] (fun v44 wc => ∃ (kq : Nat) (x44_13 : Bool), v44 = .bool x44_13 ∧ Aside0 (sternpostref05_Decode.j1 kq a0 (wrap64 ((wrap64 (Int.tmod (bt a0 0) 16)) * 4)) t163 x44_13 = some (r1, r2, r3, r4, r5, r6, r7, r8, r9, r10, r11)) ∧ Aside0 (kq ≤ kj1) ∧ Aside0 (wc.heap[gb162]? = some (.cells #[.int .i64 0, .int .i64 0, .int .i64 0, .int .i64 0, .int .i64 0, .int .i64 0, .bool false, .bool false, .string (⟨#[]⟩ : ByteArray), .string (⟨#[]⟩ : ByteArray)] 23 (0, 0))) ∧ Aside0 (Below w.heap.size w wc))
       case first =>
        have H := HC14.out
        clear HC14
        by_cases c15 : (wrap64 ((wrap64 (Int.tmod (bt a0 0) 16)) * 4)) < 20
        ·rw [if_pos c15] at H
         have c15b0 : decide ((wrap64 ((wrap64 (Int.tmod (bt a0 0) 16)) * 4)) < 20) = true := decide_eq_true c15
         clear c15
         (first | rw [c15b0] | (simp only [i64_w, i32_w]; rw [c15b0]) | skip)
         have H' := Aside0.mk H
         clear H
         go_wp2
         go_meet
         case rel => exact ⟨_, (true), (by first | rfl | (simp; done) | (simp [*]; done)), H', ⟨by have := HJ1.out; first | omega | exact Nat.le_refl _⟩, ⟨by (with_reducible repeat (first | refine blk_drewN ?_ _ | refine blk_drew ?_ | refine blk_alloc ?_ _)); exact BK162.out⟩, ⟨by repeat (first | (with_reducible first | exact HB.out | apply below_alloc | apply pw_below_drewN | apply below_drew1 | refine below_set ?_ GE162.out) | exact HB.out)⟩⟩
        ·rw [if_neg c15] at H
         have c15b0 : decide ((wrap64 ((wrap64 (Int.tmod (bt a0 0) 16)) * 4)) < 20) = false := decide_eq_false c15
         clear c15
         (first | rw [c15b0] | (simp only [i64_w, i32_w]; rw [c15b0]) | skip)
         by_cases c16 : (wrap64 ((wrap64 (Int.tmod (bt a0 0) 16)) * 4)) > (a0.size : Int)
         ·rw [if_pos c16] at H
          have c16b0 : decide ((a0.size : Int) < (wrap64 ((wrap64 (Int.tmod (bt a0 0) 16)) * 4))) = true := decide_eq_true c16
          clear c16
          have H' := Aside0.mk H
          clear H
          go_wp2
          go_meet
          case rel => exact ⟨_, (true), (by first | rfl | (simp; done) | (simp [*]; done)), H', ⟨by have := HJ1.out; first | omega | exact Nat.le_refl _⟩, ⟨by (with_reducible repeat (first | refine blk_drewN ?_ _ | refine blk_drew ?_ | refine blk_alloc ?_ _)); exact BK162.out⟩, ⟨by repeat (first | (with_reducible first | exact HB.out | apply below_alloc | apply pw_below_drewN | apply below_drew1 | refine below_set ?_ GE162.out) | exact HB.out)⟩⟩
         ·rw [if_neg c16] at H
          have c16b0 : decide ((a0.size : Int) < (wrap64 ((wrap64 (Int.tmod (bt a0 0) 16)) * 4))) = false := decide_eq_false c16
          clear c16
          by_cases c17 : t163 < (wrap64 ((wrap64 (Int.tmod (bt a0 0) 16)) * 4))
          ·rw [if_pos c17] at H
           have c17b0 : decide (t163 < (wrap64 ((wrap64 (Int.tmod (bt a0 0) 16)) * 4))) = true := decide_eq_true c17
           clear c17
           have H' := Aside0.mk H
           clear H
           go_wp2
           go_meet
           case rel => exact ⟨_, (true), (by first | rfl | (simp; done) | (simp [*]; done)), H', ⟨by have := HJ1.out; first | omega | exact Nat.le_refl _⟩, ⟨by (with_reducible repeat (first | refine blk_drewN ?_ _ | refine blk_drew ?_ | refine blk_alloc ?_ _)); exact BK162.out⟩, ⟨by repeat (first | (with_reducible first | exact HB.out | apply below_alloc | apply pw_below_drewN | apply below_drew1 | refine below_set ?_ GE162.out) | exact HB.out)⟩⟩
          ·rw [if_neg c17] at H
           have c17b0 : decide (t163 < (wrap64 ((wrap64 (Int.tmod (bt a0 0) 16)) * 4))) = false := decide_eq_false c17
           clear c17
           have H' := Aside0.mk H
           clear H
           go_wp2
           go_meet
           case rel => exact ⟨_, (decide (t163 > (a0.size : Int))), (by first | rfl | (simp; done) | (simp [*]; done)), H', ⟨by have := HJ1.out; first | omega | exact Nat.le_refl _⟩, ⟨by (with_reducible repeat (first | refine blk_drewN ?_ _ | refine blk_drew ?_ | refine blk_alloc ?_ _)); exact BK162.out⟩, ⟨by repeat (first | (with_reducible first | exact HB.out | apply below_alloc | apply pw_below_drewN | apply below_drew1 | refine below_set ?_ GE162.out) | exact HB.out)⟩⟩
       case rest =>
        clear HC14
        try clear c1; try clear p1; try clear q1; try clear hx1; try clear qi1; try clear p2; try clear c3; try clear c4; try clear c4b0; try clear c4b1; try clear c5; try clear c5b0; try clear c5b1; try clear p6; try clear q6; try clear hx6; try clear qi6; try clear c7; try clear c9; try clear c9b0; try clear c9b1; try clear p10; try clear q10; try clear hx10; try clear qi10; try clear c11; try clear c11b0; try clear c11b1; try clear c12; try clear c12b0; try clear c12b1; try clear c15; try clear c15b0; try clear c16; try clear c16b0; try clear c17; try clear c17b0; try clear hcz8_0; try clear hcz8_1; try clear hcz8_2; try clear hcz8_3; try clear hcz8_4; try clear hcz8_5; try clear hcz8_6; try clear hcz8_7; try clear hcz8_8; try clear hcz8_9; try clear hfz8_0; try clear hfz8_1; try clear hfz8_2; try clear hfz8_3; try clear hfz8_4; try clear hfz8_5; try clear hfz8_6; try clear hfz8_7; try clear hfz8_8; try clear hfz8_9; try clear p10; try clear p2; try clear p6; try clear q10; try clear q6
        obtain ⟨kq, x44_13, rfl, HA, HJ13, BK162, HB⟩ := hcut
        cases kq with
        | zero => exact absurd HA.out (by simp [sternpostref05_Decode.j1])
        | succ kj13 =>
         have H := HA.out
         clear HA
         simp only [sternpostref05_Decode.j1] at H
         by_cases c18 : x44_13 = true
         ·subst c18
          have H1 : (some (0, 0, 0, 0, 0, 0, false, false, (⟨#[]⟩ : ByteArray), (⟨#[]⟩ : ByteArray), 50)) = some (r1, r2, r3, r4, r5, r6, r7, r8, r9, r10, r11) := by rw [if_pos rfl] at H; exact H
          clear H
          have H := H1
          clear H1
          simp only [Option.some.injEq, Prod.mk.injEq] at H
          obtain ⟨rfl, rfl, rfl, rfl, rfl, rfl, rfl, rfl, rfl, rfl, rfl⟩ := H
          have hcz19_0 : wc.cell? ⟨gb162, 0, none⟩ = some (.int .i64 0) := (blk_cell BK162.out 0).trans rfl
          have hcz19_1 : wc.cell? ⟨gb162, 1, none⟩ = some (.int .i64 0) := (blk_cell BK162.out 1).trans rfl
          have hcz19_2 : wc.cell? ⟨gb162, 2, none⟩ = some (.int .i64 0) := (blk_cell BK162.out 2).trans rfl
          have hcz19_3 : wc.cell? ⟨gb162, 3, none⟩ = some (.int .i64 0) := (blk_cell BK162.out 3).trans rfl
          have hcz19_4 : wc.cell? ⟨gb162, 4, none⟩ = some (.int .i64 0) := (blk_cell BK162.out 4).trans rfl
          have hcz19_5 : wc.cell? ⟨gb162, 5, none⟩ = some (.int .i64 0) := (blk_cell BK162.out 5).trans rfl
          have hcz19_6 : wc.cell? ⟨gb162, 6, none⟩ = some (.bool false) := (blk_cell BK162.out 6).trans rfl
          have hcz19_7 : wc.cell? ⟨gb162, 7, none⟩ = some (.bool false) := (blk_cell BK162.out 7).trans rfl
          have hcz19_8 : wc.cell? ⟨gb162, 8, none⟩ = some (.string (⟨#[]⟩ : ByteArray)) := (blk_cell BK162.out 8).trans rfl
          have hcz19_9 : wc.cell? ⟨gb162, 9, none⟩ = some (.string (⟨#[]⟩ : ByteArray)) := (blk_cell BK162.out 9).trans rfl
          have hfz19_0 := blk_frozen BK162.out 0
          have hfz19_1 := blk_frozen BK162.out 1
          have hfz19_2 := blk_frozen BK162.out 2
          have hfz19_3 := blk_frozen BK162.out 3
          have hfz19_4 := blk_frozen BK162.out 4
          have hfz19_5 := blk_frozen BK162.out 5
          have hfz19_6 := blk_frozen BK162.out 6
          have hfz19_7 := blk_frozen BK162.out 7
          have hfz19_8 := blk_frozen BK162.out 8
          have hfz19_9 := blk_frozen BK162.out 9
          go_wp2
          refine bodyPost_ret (results_ct rfl _ _ gb162 23 #[.int .i64 0, .int .i64 0, .int .i64 0, .int .i64 0, .int .i64 0, .int .i64 0, .bool false, .bool false, .string (⟨#[]⟩ : ByteArray), .string (⟨#[]⟩ : ByteArray)] (0, 0) _ rfl (by (with_reducible repeat (first | refine blk_drewN ?_ _ | refine blk_drew ?_ | refine blk_alloc ?_ _)); refine blk_put (cs := #[.int .i64 0, .int .i64 0, .int .i64 0, .int .i64 0, .int .i64 0, .int .i64 0, .bool false, .bool false, .string (⟨#[]⟩ : ByteArray), .string (⟨#[]⟩ : ByteArray)]) ?_ 9 _ rfl; refine blk_put (cs := #[.int .i64 0, .int .i64 0, .int .i64 0, .int .i64 0, .int .i64 0, .int .i64 0, .bool false, .bool false, .string (⟨#[]⟩ : ByteArray), .string (⟨#[]⟩ : ByteArray)]) ?_ 8 _ rfl; refine blk_put (cs := #[.int .i64 0, .int .i64 0, .int .i64 0, .int .i64 0, .int .i64 0, .int .i64 0, .bool false, .bool false, .string (⟨#[]⟩ : ByteArray), .string (⟨#[]⟩ : ByteArray)]) ?_ 7 _ rfl; refine blk_put (cs := #[.int .i64 0, .int .i64 0, .int .i64 0, .int .i64 0, .int .i64 0, .int .i64 0, .bool false, .bool false, .string (⟨#[]⟩ : ByteArray), .string (⟨#[]⟩ : ByteArray)]) ?_ 6 _ rfl; refine blk_put (cs := #[.int .i64 0, .int .i64 0, .int .i64 0, .int .i64 0, .int .i64 0, .int .i64 0, .bool false, .bool false, .string (⟨#[]⟩ : ByteArray), .string (⟨#[]⟩ : ByteArray)]) ?_ 5 _ rfl; refine blk_put (cs := #[.int .i64 0, .int .i64 0, .int .i64 0, .int .i64 0, .int .i64 0, .int .i64 0, .bool false, .bool false, .string (⟨#[]⟩ : ByteArray), .string (⟨#[]⟩ : ByteArray)]) ?_ 4 _ rfl; refine blk_put (cs := #[.int .i64 0, .int .i64 0, .int .i64 0, .int .i64 0, .int .i64 0, .int .i64 0, .bool false, .bool false, .string (⟨#[]⟩ : ByteArray), .string (⟨#[]⟩ : ByteArray)]) ?_ 3 _ rfl; refine blk_put (cs := #[.int .i64 0, .int .i64 0, .int .i64 0, .int .i64 0, .int .i64 0, .int .i64 0, .bool false, .bool false, .string (⟨#[]⟩ : ByteArray), .string (⟨#[]⟩ : ByteArray)]) ?_ 2 _ rfl; refine blk_put (cs := #[.int .i64 0, .int .i64 0, .int .i64 0, .int .i64 0, .int .i64 0, .int .i64 0, .bool false, .bool false, .string (⟨#[]⟩ : ByteArray), .string (⟨#[]⟩ : ByteArray)]) ?_ 1 _ rfl; refine blk_put (cs := #[.int .i64 0, .int .i64 0, .int .i64 0, .int .i64 0, .int .i64 0, .int .i64 0, .bool false, .bool false, .string (⟨#[]⟩ : ByteArray), .string (⟨#[]⟩ : ByteArray)]) ?_ 0 _ rfl; (with_reducible repeat (first | refine blk_drewN ?_ _ | refine blk_drew ?_ | refine blk_alloc ?_ _)); exact BK162.out) Try.underlying23 rfl (by kernel_rfl)) rfl ?_
          exact ⟨by first | rfl | (simp [errW_none, errW_some] <;> rfl) | (simp [*, errW_none, errW_some] <;> rfl), by repeat (first | (with_reducible first | exact HB.out | apply below_alloc | apply pw_below_drewN | apply below_drew1 | refine below_set ?_ GE162.out) | exact HB.out)⟩
         ·replace c18 := Bool.eq_false_iff.mpr c18
          subst c18
          have H1 : (if 0 ≤ (wrap64 ((wrap64 (Int.tmod (bt a0 0) 16)) * 4)) then (if (wrap64 ((wrap64 (Int.tmod (bt a0 0) 16)) * 4)) ≤ (a0.size : Int) then ((sternpostref02_Whole.f kj13 (cutS a0 0 ((wrap64 ((wrap64 (Int.tmod (bt a0 0) 16)) * 4)) : Int).toNat)).bind fun t164 => (if t164 = true then (if 6 ≤ 8 then (if 8 ≤ (a0.size : Int) then ((sternpostref02_Num.f kj13 (cutS a0 6 8)).bind fun t165 => (if 12 ≤ 16 then (if 16 ≤ (a0.size : Int) then ((sternpostref02_Num.f kj13 (cutS a0 12 16)).bind fun t166 => (if 16 ≤ 20 then (if 20 ≤ (a0.size : Int) then ((sternpostref02_Num.f kj13 (cutS a0 16 20)).bind fun t167 => (if 8 < (a0.size : Int) then (if 9 < (a0.size : Int) then (if 4 ≤ 6 then (if 6 ≤ (a0.size : Int) then ((sternpostref02_Num.f kj13 (cutS a0 4 6)).bind fun t168 => (if 20 ≤ (wrap64 ((wrap64 (Int.tmod (bt a0 0) 16)) * 4)) then (if (wrap64 ((wrap64 (Int.tmod (bt a0 0) 16)) * 4)) ≤ t163 then (if t163 ≤ (a0.size : Int) then (if 1 < (a0.size : Int) then (if (bt a0 1) = 0 then (if t165 ≥ 32768 then (sternpostref05_Decode.j2 kj13 true t166 t167 (wrap64 (bt a0 8)) (wrap64 (bt a0 9)) t168 (Int.tmod t165 8192) ((Int.tmod (wrap64 (Int.tdiv t165 8192)) 2) == 1) ((Int.tmod (wrap64 (Int.tdiv t165 16384)) 2) == 1) (cutS a0 20 ((wrap64 ((wrap64 (Int.tmod (bt a0 0) 16)) * 4)) : Int).toNat) (cutS a0 ((wrap64 ((wrap64 (Int.tmod (bt a0 0) 16)) * 4)) : Int).toNat (t163 : Int).toNat)) else ((sternpostref05_Check.f kj13 t166 t167 (wrap64 (bt a0 8)) (wrap64 (bt a0 9)) t168 (Int.tmod t165 8192) ((Int.tmod (wrap64 (Int.tdiv t165 8192)) 2) == 1) ((Int.tmod (wrap64 (Int.tdiv t165 16384)) 2) == 1) (cutS a0 20 ((wrap64 ((wrap64 (Int.tmod (bt a0 0) 16)) * 4)) : Int).toNat) (cutS a0 ((wrap64 ((wrap64 (Int.tmod (bt a0 0) 16)) * 4)) : Int).toNat (t163 : Int).toNat)).bind fun t170 => (sternpostref05_Decode.j2 kj13 (t170 != 0) t166 t167 (wrap64 (bt a0 8)) (wrap64 (bt a0 9)) t168 (Int.tmod t165 8192) ((Int.tmod (wrap64 (Int.tdiv t165 8192)) 2) == 1) ((Int.tmod (wrap64 (Int.tdiv t165 16384)) 2) == 1) (cutS a0 20 ((wrap64 ((wrap64 (Int.tmod (bt a0 0) 16)) * 4)) : Int).toNat) (cutS a0 ((wrap64 ((wrap64 (Int.tmod (bt a0 0) 16)) * 4)) : Int).toNat (t163 : Int).toNat)))) else (sternpostref05_Decode.j2 kj13 true t166 t167 (wrap64 (bt a0 8)) (wrap64 (bt a0 9)) t168 (Int.tmod t165 8192) ((Int.tmod (wrap64 (Int.tdiv t165 8192)) 2) == 1) ((Int.tmod (wrap64 (Int.tdiv t165 16384)) 2) == 1) (cutS a0 20 ((wrap64 ((wrap64 (Int.tmod (bt a0 0) 16)) * 4)) : Int).toNat) (cutS a0 ((wrap64 ((wrap64 (Int.tmod (bt a0 0) 16)) * 4)) : Int).toNat (t163 : Int).toNat))) else (none)) else (none)) else (none)) else (none))) else (none)) else (none)) else (none)) else (none))) else (none)) else (none))) else (none)) else (none))) else (none)) else (none)) else (some (0, 0, 0, 0, 0, 0, false, false, (⟨#[]⟩ : ByteArray), (⟨#[]⟩ : ByteArray), 20)))) else (none)) else (none)) = some (r1, r2, r3, r4, r5, r6, r7, r8, r9, r10, r11) := by rw [if_neg (show ¬ (false = true) by decide)] at H; exact H
          clear H
          have H := H1
          clear H1
          obtain ⟨ji20, hji20⟩ : ∃ j_ : Int, (wrap64 ((wrap64 (Int.tmod (bt a0 0) 16)) * 4)) = j_ := ⟨_, rfl⟩
          replace H : (if 0 ≤ (ji20) then (if (ji20) ≤ (a0.size : Int) then ((sternpostref02_Whole.f kj13 (cutS a0 0 ((ji20) : Int).toNat)).bind fun t164 => (if t164 = true then (if 6 ≤ 8 then (if 8 ≤ (a0.size : Int) then ((sternpostref02_Num.f kj13 (cutS a0 6 8)).bind fun t165 => (if 12 ≤ 16 then (if 16 ≤ (a0.size : Int) then ((sternpostref02_Num.f kj13 (cutS a0 12 16)).bind fun t166 => (if 16 ≤ 20 then (if 20 ≤ (a0.size : Int) then ((sternpostref02_Num.f kj13 (cutS a0 16 20)).bind fun t167 => (if 8 < (a0.size : Int) then (if 9 < (a0.size : Int) then (if 4 ≤ 6 then (if 6 ≤ (a0.size : Int) then ((sternpostref02_Num.f kj13 (cutS a0 4 6)).bind fun t168 => (if 20 ≤ (ji20) then (if (ji20) ≤ t163 then (if t163 ≤ (a0.size : Int) then (if 1 < (a0.size : Int) then (if (bt a0 1) = 0 then (if t165 ≥ 32768 then (sternpostref05_Decode.j2 kj13 true t166 t167 (wrap64 (bt a0 8)) (wrap64 (bt a0 9)) t168 (Int.tmod t165 8192) ((Int.tmod (wrap64 (Int.tdiv t165 8192)) 2) == 1) ((Int.tmod (wrap64 (Int.tdiv t165 16384)) 2) == 1) (cutS a0 20 ((ji20) : Int).toNat) (cutS a0 ((ji20) : Int).toNat (t163 : Int).toNat)) else ((sternpostref05_Check.f kj13 t166 t167 (wrap64 (bt a0 8)) (wrap64 (bt a0 9)) t168 (Int.tmod t165 8192) ((Int.tmod (wrap64 (Int.tdiv t165 8192)) 2) == 1) ((Int.tmod (wrap64 (Int.tdiv t165 16384)) 2) == 1) (cutS a0 20 ((ji20) : Int).toNat) (cutS a0 ((ji20) : Int).toNat (t163 : Int).toNat)).bind fun t170 => (sternpostref05_Decode.j2 kj13 (t170 != 0) t166 t167 (wrap64 (bt a0 8)) (wrap64 (bt a0 9)) t168 (Int.tmod t165 8192) ((Int.tmod (wrap64 (Int.tdiv t165 8192)) 2) == 1) ((Int.tmod (wrap64 (Int.tdiv t165 16384)) 2) == 1) (cutS a0 20 ((ji20) : Int).toNat) (cutS a0 ((ji20) : Int).toNat (t163 : Int).toNat)))) else (sternpostref05_Decode.j2 kj13 true t166 t167 (wrap64 (bt a0 8)) (wrap64 (bt a0 9)) t168 (Int.tmod t165 8192) ((Int.tmod (wrap64 (Int.tdiv t165 8192)) 2) == 1) ((Int.tmod (wrap64 (Int.tdiv t165 16384)) 2) == 1) (cutS a0 20 ((ji20) : Int).toNat) (cutS a0 ((ji20) : Int).toNat (t163 : Int).toNat))) else (none)) else (none)) else (none)) else (none))) else (none)) else (none)) else (none)) else (none))) else (none)) else (none))) else (none)) else (none))) else (none)) else (none)) else (some (0, 0, 0, 0, 0, 0, false, false, (⟨#[]⟩ : ByteArray), (⟨#[]⟩ : ByteArray), 20)))) else (none)) else (none)) = some (r1, r2, r3, r4, r5, r6, r7, r8, r9, r10, r11) := by first | (rw [hji20] at H; exact H) | (simp only [hji20] at H ⊢; exact H)
          have hji20w : (IntKind.i64.wrap ((wrap64 (Int.tmod (bt a0 0) 16)) * 4)) = ji20 := (i64_w _).trans hji20
          by_cases c21 : 0 ≤ (ji20)
          ·rw [if_pos c21] at H
           have c21b0 := eq_true c21
           have c21b1 : decide (0 ≤ (ji20)) = true := decide_eq_true c21
           clear c21
           by_cases c22 : (ji20) ≤ (a0.size : Int)
           ·rw [if_pos c22] at H
            have c22b0 := eq_true c22
            have c22b1 : decide ((ji20) ≤ (a0.size : Int)) = true := decide_eq_true c22
            clear c22
            replace H := Option.bind_eq_some_iff.mp H
            obtain ⟨t164, A230, H⟩ := H
            replace H : (if t164 = true then (if 6 ≤ 8 then (if 8 ≤ (a0.size : Int) then ((sternpostref02_Num.f kj13 (cutS a0 6 8)).bind fun t165 => (if 12 ≤ 16 then (if 16 ≤ (a0.size : Int) then ((sternpostref02_Num.f kj13 (cutS a0 12 16)).bind fun t166 => (if 16 ≤ 20 then (if 20 ≤ (a0.size : Int) then ((sternpostref02_Num.f kj13 (cutS a0 16 20)).bind fun t167 => (if 8 < (a0.size : Int) then (if 9 < (a0.size : Int) then (if 4 ≤ 6 then (if 6 ≤ (a0.size : Int) then ((sternpostref02_Num.f kj13 (cutS a0 4 6)).bind fun t168 => (if 20 ≤ (ji20) then (if (ji20) ≤ t163 then (if t163 ≤ (a0.size : Int) then (if 1 < (a0.size : Int) then (if (bt a0 1) = 0 then (if t165 ≥ 32768 then (sternpostref05_Decode.j2 kj13 true t166 t167 (wrap64 (bt a0 8)) (wrap64 (bt a0 9)) t168 (Int.tmod t165 8192) ((Int.tmod (wrap64 (Int.tdiv t165 8192)) 2) == 1) ((Int.tmod (wrap64 (Int.tdiv t165 16384)) 2) == 1) (cutS a0 20 ((ji20) : Int).toNat) (cutS a0 ((ji20) : Int).toNat (t163 : Int).toNat)) else ((sternpostref05_Check.f kj13 t166 t167 (wrap64 (bt a0 8)) (wrap64 (bt a0 9)) t168 (Int.tmod t165 8192) ((Int.tmod (wrap64 (Int.tdiv t165 8192)) 2) == 1) ((Int.tmod (wrap64 (Int.tdiv t165 16384)) 2) == 1) (cutS a0 20 ((ji20) : Int).toNat) (cutS a0 ((ji20) : Int).toNat (t163 : Int).toNat)).bind fun t170 => (sternpostref05_Decode.j2 kj13 (t170 != 0) t166 t167 (wrap64 (bt a0 8)) (wrap64 (bt a0 9)) t168 (Int.tmod t165 8192) ((Int.tmod (wrap64 (Int.tdiv t165 8192)) 2) == 1) ((Int.tmod (wrap64 (Int.tdiv t165 16384)) 2) == 1) (cutS a0 20 ((ji20) : Int).toNat) (cutS a0 ((ji20) : Int).toNat (t163 : Int).toNat)))) else (sternpostref05_Decode.j2 kj13 true t166 t167 (wrap64 (bt a0 8)) (wrap64 (bt a0 9)) t168 (Int.tmod t165 8192) ((Int.tmod (wrap64 (Int.tdiv t165 8192)) 2) == 1) ((Int.tmod (wrap64 (Int.tdiv t165 16384)) 2) == 1) (cutS a0 20 ((ji20) : Int).toNat) (cutS a0 ((ji20) : Int).toNat (t163 : Int).toNat))) else (none)) else (none)) else (none)) else (none))) else (none)) else (none)) else (none)) else (none))) else (none)) else (none))) else (none)) else (none))) else (none)) else (none)) else (some (0, 0, 0, 0, 0, 0, false, false, (⟨#[]⟩ : ByteArray), (⟨#[]⟩ : ByteArray), 20))) = some (r1, r2, r3, r4, r5, r6, r7, r8, r9, r10, r11) := H
            have A23 := Aside0.mk A230
            clear A230
            by_cases c24 : t164 = true
            ·subst c24
             have H1 : (if 6 ≤ 8 then (if 8 ≤ (a0.size : Int) then ((sternpostref02_Num.f kj13 (cutS a0 6 8)).bind fun t165 => (if 12 ≤ 16 then (if 16 ≤ (a0.size : Int) then ((sternpostref02_Num.f kj13 (cutS a0 12 16)).bind fun t166 => (if 16 ≤ 20 then (if 20 ≤ (a0.size : Int) then ((sternpostref02_Num.f kj13 (cutS a0 16 20)).bind fun t167 => (if 8 < (a0.size : Int) then (if 9 < (a0.size : Int) then (if 4 ≤ 6 then (if 6 ≤ (a0.size : Int) then ((sternpostref02_Num.f kj13 (cutS a0 4 6)).bind fun t168 => (if 20 ≤ (ji20) then (if (ji20) ≤ t163 then (if t163 ≤ (a0.size : Int) then (if 1 < (a0.size : Int) then (if (bt a0 1) = 0 then (if t165 ≥ 32768 then (sternpostref05_Decode.j2 kj13 true t166 t167 (wrap64 (bt a0 8)) (wrap64 (bt a0 9)) t168 (Int.tmod t165 8192) ((Int.tmod (wrap64 (Int.tdiv t165 8192)) 2) == 1) ((Int.tmod (wrap64 (Int.tdiv t165 16384)) 2) == 1) (cutS a0 20 ((ji20) : Int).toNat) (cutS a0 ((ji20) : Int).toNat (t163 : Int).toNat)) else ((sternpostref05_Check.f kj13 t166 t167 (wrap64 (bt a0 8)) (wrap64 (bt a0 9)) t168 (Int.tmod t165 8192) ((Int.tmod (wrap64 (Int.tdiv t165 8192)) 2) == 1) ((Int.tmod (wrap64 (Int.tdiv t165 16384)) 2) == 1) (cutS a0 20 ((ji20) : Int).toNat) (cutS a0 ((ji20) : Int).toNat (t163 : Int).toNat)).bind fun t170 => (sternpostref05_Decode.j2 kj13 (t170 != 0) t166 t167 (wrap64 (bt a0 8)) (wrap64 (bt a0 9)) t168 (Int.tmod t165 8192) ((Int.tmod (wrap64 (Int.tdiv t165 8192)) 2) == 1) ((Int.tmod (wrap64 (Int.tdiv t165 16384)) 2) == 1) (cutS a0 20 ((ji20) : Int).toNat) (cutS a0 ((ji20) : Int).toNat (t163 : Int).toNat)))) else (sternpostref05_Decode.j2 kj13 true t166 t167 (wrap64 (bt a0 8)) (wrap64 (bt a0 9)) t168 (Int.tmod t165 8192) ((Int.tmod (wrap64 (Int.tdiv t165 8192)) 2) == 1) ((Int.tmod (wrap64 (Int.tdiv t165 16384)) 2) == 1) (cutS a0 20 ((ji20) : Int).toNat) (cutS a0 ((ji20) : Int).toNat (t163 : Int).toNat))) else (none)) else (none)) else (none)) else (none))) else (none)) else (none)) else (none)) else (none))) else (none)) else (none))) else (none)) else (none))) else (none)) else (none)) = some (r1, r2, r3, r4, r5, r6, r7, r8, r9, r10, r11) := by rw [if_pos rfl] at H; exact H
             clear H
             have H := H1
             clear H1
             by_cases c25 : 6 ≤ 8
             ·rw [if_pos c25] at H
              have c25b0 := eq_true c25
              have c25b1 : decide (6 ≤ 8) = true := decide_eq_true c25
              clear c25
              by_cases c26 : 8 ≤ (a0.size : Int)
              ·rw [if_pos c26] at H
               have c26b0 := eq_true c26
               have c26b1 : decide (8 ≤ (a0.size : Int)) = true := decide_eq_true c26
               clear c26
               replace H := Option.bind_eq_some_iff.mp H
               obtain ⟨t165, A270, H⟩ := H
               replace H : (if 12 ≤ 16 then (if 16 ≤ (a0.size : Int) then ((sternpostref02_Num.f kj13 (cutS a0 12 16)).bind fun t166 => (if 16 ≤ 20 then (if 20 ≤ (a0.size : Int) then ((sternpostref02_Num.f kj13 (cutS a0 16 20)).bind fun t167 => (if 8 < (a0.size : Int) then (if 9 < (a0.size : Int) then (if 4 ≤ 6 then (if 6 ≤ (a0.size : Int) then ((sternpostref02_Num.f kj13 (cutS a0 4 6)).bind fun t168 => (if 20 ≤ (ji20) then (if (ji20) ≤ t163 then (if t163 ≤ (a0.size : Int) then (if 1 < (a0.size : Int) then (if (bt a0 1) = 0 then (if t165 ≥ 32768 then (sternpostref05_Decode.j2 kj13 true t166 t167 (wrap64 (bt a0 8)) (wrap64 (bt a0 9)) t168 (Int.tmod t165 8192) ((Int.tmod (wrap64 (Int.tdiv t165 8192)) 2) == 1) ((Int.tmod (wrap64 (Int.tdiv t165 16384)) 2) == 1) (cutS a0 20 ((ji20) : Int).toNat) (cutS a0 ((ji20) : Int).toNat (t163 : Int).toNat)) else ((sternpostref05_Check.f kj13 t166 t167 (wrap64 (bt a0 8)) (wrap64 (bt a0 9)) t168 (Int.tmod t165 8192) ((Int.tmod (wrap64 (Int.tdiv t165 8192)) 2) == 1) ((Int.tmod (wrap64 (Int.tdiv t165 16384)) 2) == 1) (cutS a0 20 ((ji20) : Int).toNat) (cutS a0 ((ji20) : Int).toNat (t163 : Int).toNat)).bind fun t170 => (sternpostref05_Decode.j2 kj13 (t170 != 0) t166 t167 (wrap64 (bt a0 8)) (wrap64 (bt a0 9)) t168 (Int.tmod t165 8192) ((Int.tmod (wrap64 (Int.tdiv t165 8192)) 2) == 1) ((Int.tmod (wrap64 (Int.tdiv t165 16384)) 2) == 1) (cutS a0 20 ((ji20) : Int).toNat) (cutS a0 ((ji20) : Int).toNat (t163 : Int).toNat)))) else (sternpostref05_Decode.j2 kj13 true t166 t167 (wrap64 (bt a0 8)) (wrap64 (bt a0 9)) t168 (Int.tmod t165 8192) ((Int.tmod (wrap64 (Int.tdiv t165 8192)) 2) == 1) ((Int.tmod (wrap64 (Int.tdiv t165 16384)) 2) == 1) (cutS a0 20 ((ji20) : Int).toNat) (cutS a0 ((ji20) : Int).toNat (t163 : Int).toNat))) else (none)) else (none)) else (none)) else (none))) else (none)) else (none)) else (none)) else (none))) else (none)) else (none))) else (none)) else (none)) = some (r1, r2, r3, r4, r5, r6, r7, r8, r9, r10, r11) := H
               have A27 := Aside0.mk A270
               clear A270
               by_cases c28 : 12 ≤ 16
               ·rw [if_pos c28] at H
                have c28b0 := eq_true c28
                have c28b1 : decide (12 ≤ 16) = true := decide_eq_true c28
                clear c28
                by_cases c29 : 16 ≤ (a0.size : Int)
                ·rw [if_pos c29] at H
                 have c29b0 := eq_true c29
                 have c29b1 : decide (16 ≤ (a0.size : Int)) = true := decide_eq_true c29
                 clear c29
                 replace H := Option.bind_eq_some_iff.mp H
                 obtain ⟨t166, A300, H⟩ := H
                 replace H : (if 16 ≤ 20 then (if 20 ≤ (a0.size : Int) then ((sternpostref02_Num.f kj13 (cutS a0 16 20)).bind fun t167 => (if 8 < (a0.size : Int) then (if 9 < (a0.size : Int) then (if 4 ≤ 6 then (if 6 ≤ (a0.size : Int) then ((sternpostref02_Num.f kj13 (cutS a0 4 6)).bind fun t168 => (if 20 ≤ (ji20) then (if (ji20) ≤ t163 then (if t163 ≤ (a0.size : Int) then (if 1 < (a0.size : Int) then (if (bt a0 1) = 0 then (if t165 ≥ 32768 then (sternpostref05_Decode.j2 kj13 true t166 t167 (wrap64 (bt a0 8)) (wrap64 (bt a0 9)) t168 (Int.tmod t165 8192) ((Int.tmod (wrap64 (Int.tdiv t165 8192)) 2) == 1) ((Int.tmod (wrap64 (Int.tdiv t165 16384)) 2) == 1) (cutS a0 20 ((ji20) : Int).toNat) (cutS a0 ((ji20) : Int).toNat (t163 : Int).toNat)) else ((sternpostref05_Check.f kj13 t166 t167 (wrap64 (bt a0 8)) (wrap64 (bt a0 9)) t168 (Int.tmod t165 8192) ((Int.tmod (wrap64 (Int.tdiv t165 8192)) 2) == 1) ((Int.tmod (wrap64 (Int.tdiv t165 16384)) 2) == 1) (cutS a0 20 ((ji20) : Int).toNat) (cutS a0 ((ji20) : Int).toNat (t163 : Int).toNat)).bind fun t170 => (sternpostref05_Decode.j2 kj13 (t170 != 0) t166 t167 (wrap64 (bt a0 8)) (wrap64 (bt a0 9)) t168 (Int.tmod t165 8192) ((Int.tmod (wrap64 (Int.tdiv t165 8192)) 2) == 1) ((Int.tmod (wrap64 (Int.tdiv t165 16384)) 2) == 1) (cutS a0 20 ((ji20) : Int).toNat) (cutS a0 ((ji20) : Int).toNat (t163 : Int).toNat)))) else (sternpostref05_Decode.j2 kj13 true t166 t167 (wrap64 (bt a0 8)) (wrap64 (bt a0 9)) t168 (Int.tmod t165 8192) ((Int.tmod (wrap64 (Int.tdiv t165 8192)) 2) == 1) ((Int.tmod (wrap64 (Int.tdiv t165 16384)) 2) == 1) (cutS a0 20 ((ji20) : Int).toNat) (cutS a0 ((ji20) : Int).toNat (t163 : Int).toNat))) else (none)) else (none)) else (none)) else (none))) else (none)) else (none)) else (none)) else (none))) else (none)) else (none)) = some (r1, r2, r3, r4, r5, r6, r7, r8, r9, r10, r11) := H
                 have A30 := Aside0.mk A300
                 clear A300
                 by_cases c31 : 16 ≤ 20
                 ·rw [if_pos c31] at H
                  have c31b0 := eq_true c31
                  have c31b1 : decide (16 ≤ 20) = true := decide_eq_true c31
                  clear c31
                  by_cases c32 : 20 ≤ (a0.size : Int)
                  ·rw [if_pos c32] at H
                   have c32b0 := eq_true c32
                   have c32b1 : decide (20 ≤ (a0.size : Int)) = true := decide_eq_true c32
                   clear c32
                   replace H := Option.bind_eq_some_iff.mp H
                   obtain ⟨t167, A330, H⟩ := H
                   replace H : (if 8 < (a0.size : Int) then (if 9 < (a0.size : Int) then (if 4 ≤ 6 then (if 6 ≤ (a0.size : Int) then ((sternpostref02_Num.f kj13 (cutS a0 4 6)).bind fun t168 => (if 20 ≤ (ji20) then (if (ji20) ≤ t163 then (if t163 ≤ (a0.size : Int) then (if 1 < (a0.size : Int) then (if (bt a0 1) = 0 then (if t165 ≥ 32768 then (sternpostref05_Decode.j2 kj13 true t166 t167 (wrap64 (bt a0 8)) (wrap64 (bt a0 9)) t168 (Int.tmod t165 8192) ((Int.tmod (wrap64 (Int.tdiv t165 8192)) 2) == 1) ((Int.tmod (wrap64 (Int.tdiv t165 16384)) 2) == 1) (cutS a0 20 ((ji20) : Int).toNat) (cutS a0 ((ji20) : Int).toNat (t163 : Int).toNat)) else ((sternpostref05_Check.f kj13 t166 t167 (wrap64 (bt a0 8)) (wrap64 (bt a0 9)) t168 (Int.tmod t165 8192) ((Int.tmod (wrap64 (Int.tdiv t165 8192)) 2) == 1) ((Int.tmod (wrap64 (Int.tdiv t165 16384)) 2) == 1) (cutS a0 20 ((ji20) : Int).toNat) (cutS a0 ((ji20) : Int).toNat (t163 : Int).toNat)).bind fun t170 => (sternpostref05_Decode.j2 kj13 (t170 != 0) t166 t167 (wrap64 (bt a0 8)) (wrap64 (bt a0 9)) t168 (Int.tmod t165 8192) ((Int.tmod (wrap64 (Int.tdiv t165 8192)) 2) == 1) ((Int.tmod (wrap64 (Int.tdiv t165 16384)) 2) == 1) (cutS a0 20 ((ji20) : Int).toNat) (cutS a0 ((ji20) : Int).toNat (t163 : Int).toNat)))) else (sternpostref05_Decode.j2 kj13 true t166 t167 (wrap64 (bt a0 8)) (wrap64 (bt a0 9)) t168 (Int.tmod t165 8192) ((Int.tmod (wrap64 (Int.tdiv t165 8192)) 2) == 1) ((Int.tmod (wrap64 (Int.tdiv t165 16384)) 2) == 1) (cutS a0 20 ((ji20) : Int).toNat) (cutS a0 ((ji20) : Int).toNat (t163 : Int).toNat))) else (none)) else (none)) else (none)) else (none))) else (none)) else (none)) else (none)) else (none)) = some (r1, r2, r3, r4, r5, r6, r7, r8, r9, r10, r11) := H
                   have A33 := Aside0.mk A330
                   clear A330
                   by_cases c34 : 8 < (a0.size : Int)
                   ·rw [if_pos c34] at H
                    have c34b0 : decide (8 < (a0.size : Int)) = true := decide_eq_true c34
                    have c34b1 : decide (8 < a0.size) = true := decide_eq_true (by omega)
                    clear c34
                    by_cases c36 : 9 < (a0.size : Int)
                    ·rw [if_pos c36] at H
                     have c36b0 : decide (9 < (a0.size : Int)) = true := decide_eq_true c36
                     have c36b1 : decide (9 < a0.size) = true := decide_eq_true (by omega)
                     clear c36
                     by_cases c38 : 4 ≤ 6
                     ·rw [if_pos c38] at H
                      have c38b0 := eq_true c38
                      have c38b1 : decide (4 ≤ 6) = true := decide_eq_true c38
                      clear c38
                      by_cases c39 : 6 ≤ (a0.size : Int)
                      ·rw [if_pos c39] at H
                       have c39b0 := eq_true c39
                       have c39b1 : decide (6 ≤ (a0.size : Int)) = true := decide_eq_true c39
                       clear c39
                       replace H := Option.bind_eq_some_iff.mp H
                       obtain ⟨t168, A400, H⟩ := H
                       replace H : (if 20 ≤ (ji20) then (if (ji20) ≤ t163 then (if t163 ≤ (a0.size : Int) then (if 1 < (a0.size : Int) then (if (bt a0 1) = 0 then (if t165 ≥ 32768 then (sternpostref05_Decode.j2 kj13 true t166 t167 (wrap64 (bt a0 8)) (wrap64 (bt a0 9)) t168 (Int.tmod t165 8192) ((Int.tmod (wrap64 (Int.tdiv t165 8192)) 2) == 1) ((Int.tmod (wrap64 (Int.tdiv t165 16384)) 2) == 1) (cutS a0 20 ((ji20) : Int).toNat) (cutS a0 ((ji20) : Int).toNat (t163 : Int).toNat)) else ((sternpostref05_Check.f kj13 t166 t167 (wrap64 (bt a0 8)) (wrap64 (bt a0 9)) t168 (Int.tmod t165 8192) ((Int.tmod (wrap64 (Int.tdiv t165 8192)) 2) == 1) ((Int.tmod (wrap64 (Int.tdiv t165 16384)) 2) == 1) (cutS a0 20 ((ji20) : Int).toNat) (cutS a0 ((ji20) : Int).toNat (t163 : Int).toNat)).bind fun t170 => (sternpostref05_Decode.j2 kj13 (t170 != 0) t166 t167 (wrap64 (bt a0 8)) (wrap64 (bt a0 9)) t168 (Int.tmod t165 8192) ((Int.tmod (wrap64 (Int.tdiv t165 8192)) 2) == 1) ((Int.tmod (wrap64 (Int.tdiv t165 16384)) 2) == 1) (cutS a0 20 ((ji20) : Int).toNat) (cutS a0 ((ji20) : Int).toNat (t163 : Int).toNat)))) else (sternpostref05_Decode.j2 kj13 true t166 t167 (wrap64 (bt a0 8)) (wrap64 (bt a0 9)) t168 (Int.tmod t165 8192) ((Int.tmod (wrap64 (Int.tdiv t165 8192)) 2) == 1) ((Int.tmod (wrap64 (Int.tdiv t165 16384)) 2) == 1) (cutS a0 20 ((ji20) : Int).toNat) (cutS a0 ((ji20) : Int).toNat (t163 : Int).toNat))) else (none)) else (none)) else (none)) else (none)) = some (r1, r2, r3, r4, r5, r6, r7, r8, r9, r10, r11) := H
                       have A40 := Aside0.mk A400
                       clear A400
                       by_cases c41 : 20 ≤ (ji20)
                       ·rw [if_pos c41] at H
                        have c41b0 := eq_true c41
                        have c41b1 : decide (20 ≤ (ji20)) = true := decide_eq_true c41
                        clear c41
                        have c42b0 := eq_true (of_decide_eq_true (by first | (with_reducible assumption) | assumption) : (ji20) ≤ (a0.size : Int))
                        have c43b0 := eq_true (of_decide_eq_true (by first | (with_reducible assumption) | assumption) : 0 ≤ (ji20))
                        by_cases c44 : (ji20) ≤ t163
                        ·rw [if_pos c44] at H
                         have c44b0 := eq_true c44
                         have c44b1 : decide ((ji20) ≤ t163) = true := decide_eq_true c44
                         clear c44
                         by_cases c45 : t163 ≤ (a0.size : Int)
                         ·rw [if_pos c45] at H
                          have c45b0 := eq_true c45
                          have c45b1 : decide (t163 ≤ (a0.size : Int)) = true := decide_eq_true c45
                          clear c45
                          have HC46 := Aside0.mk H
                          clear H
                          try go_wp2_with (first | ((with_reducible refine gate_callee (f := 33) rfl ?_); refine goesL_ (some 49) rfl rfl Try.func33 (by kernel_rfl) rfl #[.string (cutS a0 0 ((ji20) : Int).toNat)] rfl (by (try simp only [List.map_toArray, List.map_cons, List.map_nil]); first | done | (simp only [hji20]; rfl) | rfl | (simp only [List.length_drop, List.length_take]; rfl)) ?_; (with_reducible refine (sternpostref02_Whole.calls kj13 (cutS a0 0 ((ji20) : Int).toNat) true _ A23.out).mono ?_); rintro e w' ⟨rfl, ⟨nd, rfl⟩⟩; refine ⟨_, rfl, ?_⟩; (try (rw [drewN_self wc]; generalize hq_ : World.drewN wc _ = wc; have n0_ : Aside0 (wc.heap[gb162]? = some (.cells #[.int .i64 0, .int .i64 0, .int .i64 0, .int .i64 0, .int .i64 0, .int .i64 0, .bool false, .bool false, .string (⟨#[]⟩ : ByteArray), .string (⟨#[]⟩ : ByteArray)] 23 (0, 0))) := ⟨by rw [← hq_]; exact (by (with_reducible repeat (first | refine blk_drewN ?_ _ | refine blk_drew ?_ | refine blk_alloc ?_ _)); exact BK162.out)⟩; have n1_ : Aside0 (Below w.heap.size w wc) := ⟨by rw [← hq_]; exact (by repeat (first | (with_reducible first | exact HB.out | apply below_alloc | apply pw_below_drewN | apply below_drew1 | refine below_set ?_ GE162.out) | exact HB.out))⟩; clear BK162 HB hq_; have BK162 := n0_; have HB := n1_; clear n0_ n1_))) | ((with_reducible refine gate_callee (f := 32) rfl ?_); refine goesL_ (some 54) rfl rfl Try.func32 (by kernel_rfl) rfl #[.string (cutS a0 6 8)] rfl (by (try simp only [List.map_toArray, List.map_cons, List.map_nil]); first | done | rfl | (simp only [List.length_drop, List.length_take]; rfl)) ?_; (with_reducible refine (sternpostref02_Num.calls kj13 (cutS a0 6 8) t165 _ A27.out).mono ?_); rintro e w' ⟨rfl, ⟨nd, rfl⟩⟩; refine ⟨_, rfl, ?_⟩; (try (rw [drewN_self wc]; generalize hq_ : World.drewN wc _ = wc; have n0_ : Aside0 (wc.heap[gb162]? = some (.cells #[.int .i64 0, .int .i64 0, .int .i64 0, .int .i64 0, .int .i64 0, .int .i64 0, .bool false, .bool false, .string (⟨#[]⟩ : ByteArray), .string (⟨#[]⟩ : ByteArray)] 23 (0, 0))) := ⟨by rw [← hq_]; exact (by (with_reducible repeat (first | refine blk_drewN ?_ _ | refine blk_drew ?_ | refine blk_alloc ?_ _)); exact BK162.out)⟩; have n1_ : Aside0 (Below w.heap.size w wc) := ⟨by rw [← hq_]; exact (by repeat (first | (with_reducible first | exact HB.out | apply below_alloc | apply pw_below_drewN | apply below_drew1 | refine below_set ?_ GE162.out) | exact HB.out))⟩; clear BK162 HB hq_; have BK162 := n0_; have HB := n1_; clear n0_ n1_))))
                          have n0_ := Aside0.mk (blk_drew BK162.out)
                          have n1_ := Aside0.mk (below_drew1 HB.out)
                          clear BK162
                          clear HB
                          have BK162 := n0_
                          have HB := n1_
                          clear n0_ n1_
                          have p35 : 0 ≤ (8 : Int) := (by omega)
                          have q35 : 8 < a0.size := (by have : (8 : Int) < (a0.size : Int) := of_decide_eq_true (by first | (with_reducible assumption) | assumption); omega)
                          have hx35 : ∀ h : 8 < a0.size, ((a0[8]'h).toNat : Int) = bt a0 8 := bt_at a0 8
                          clear p35
                          have qi35 : (8 < (a0.size : Int)) = True := eq_true (of_decide_eq_true (by first | (with_reducible assumption) | assumption))
                          replace q35 := eq_true q35
                          have p37 : 0 ≤ (9 : Int) := (by omega)
                          have q37 : 9 < a0.size := (by have : (9 : Int) < (a0.size : Int) := of_decide_eq_true (by first | (with_reducible assumption) | assumption); omega)
                          have hx37 : ∀ h : 9 < a0.size, ((a0[9]'h).toNat : Int) = bt a0 9 := bt_at a0 9
                          clear p37
                          have qi37 : (9 < (a0.size : Int)) = True := eq_true (of_decide_eq_true (by first | (with_reducible assumption) | assumption))
                          replace q37 := eq_true q37
                          refine start_ (n := 35) (S := fun w' => True) (ds := []) #[false, false, false, false, false, false, false, false, false, false, false, false, false, false, false, false, false, false, false, false, false, false, false, false, false, false, false, false, false, false, false, false, false, false, false] (by kernel_rfl) rfl rfl trivial (fun hHeld => ?_); refine with_tabW sternpostref05_Decode.tab10 sternpostref05_Decode.bits10 (fun HT_ HW_ => ?_)
                          generalize wc.drew = w47 at BK162 HB hHeld ⊢
                          refine pure_ (i := 0) (N := some 55) (v := ?_) (a' := ?_) #[true, false, false, false, false, false, false, false, false, false, false, false, false, false, false, false, false, false, false, false, false, false, false, false, false, false, false, false, false, false, false, false, false, false, false] rfl rfl (any_of HT_.out (by kernel_rfl)) (fun _ _ _ h => h) (Or.inl ⟨by rfl, ?_⟩) ?_ ?_
                          rotate_left
                          ·intro w'
                           go_simp
                           with_reducible rfl
                          rotate_left
                          ·simp only [Act.put, List.setIfInBounds_toArray, List.set_cons_zero, List.set_cons_succ, i64_w, i32_w]
                           rfl
                          refine pure_ (i := 1) (N := some 56) (v := ?_) (a' := ?_) #[true, true, false, false, false, false, false, false, false, false, false, false, false, false, false, false, false, false, false, false, false, false, false, false, false, false, false, false, false, false, false, false, false, false, false] rfl rfl (any_of HT_.out (by kernel_rfl)) (fun _ _ _ h => h) (Or.inl ⟨by rfl, ?_⟩) ?_ ?_
                          rotate_left
                          ·intro w'
                           go_simp
                           first | (with_reducible rfl) | ((repeat (first | rw [if_pos (by simp only [ByteArray.size_extract, ByteArray.size_append, eq_iff_iff, iff_true, iff_false, Nat.not_lt] at *; first | omega | (simp only [ByteArray.size, List.size_toArray, List.length_cons, List.length_nil] at *; omega))] | rw [if_neg (by simp only [ByteArray.size_extract, ByteArray.size_append, eq_iff_iff, iff_true, iff_false, Nat.not_lt] at *; first | omega | (simp only [ByteArray.size, List.size_toArray, List.length_cons, List.length_nil] at *; omega))])); try with_reducible rfl)
                          rotate_left
                          ·simp only [Act.put, List.setIfInBounds_toArray, List.set_cons_zero, List.set_cons_succ, i64_w, i32_w]
                           rfl
                          refine pure_ (i := 3) (N := some 58) (v := ?_) (a' := ?_) #[true, true, false, true, false, false, false, false, false, false, false, false, false, false, false, false, false, false, false, false, false, false, false, false, false, false, false, false, false, false, false, false, false, false, false] rfl rfl (any_of HT_.out (by kernel_rfl)) (fun _ _ _ h => h) (Or.inl ⟨by rfl, ?_⟩) ?_ ?_
                          rotate_left
                          ·intro w'
                           go_simp
                           with_reducible rfl
                          rotate_left
                          ·simp only [Act.put, List.setIfInBounds_toArray, List.set_cons_zero, List.set_cons_succ, i64_w, i32_w]
                           rfl
                          refine pure_ (i := 4) (N := some 59) (v := ?_) (a' := ?_) #[true, true, false, true, true, false, false, false, false, false, false, false, false, false, false, false, false, false, false, false, false, false, false, false, false, false, false, false, false, false, false, false, false, false, false] rfl rfl (any_of HT_.out (by kernel_rfl)) (fun _ _ _ h => h) (Or.inl ⟨by rfl, ?_⟩) ?_ ?_
                          rotate_left
                          ·intro w'
                           go_simp
                           first | (with_reducible rfl) | ((repeat (first | rw [if_pos (by simp only [ByteArray.size_extract, ByteArray.size_append, eq_iff_iff, iff_true, iff_false, Nat.not_lt] at *; first | omega | (simp only [ByteArray.size, List.size_toArray, List.length_cons, List.length_nil] at *; omega))] | rw [if_neg (by simp only [ByteArray.size_extract, ByteArray.size_append, eq_iff_iff, iff_true, iff_false, Nat.not_lt] at *; first | omega | (simp only [ByteArray.size, List.size_toArray, List.length_cons, List.length_nil] at *; omega))])); try with_reducible rfl)
                          rotate_left
                          ·simp only [Act.put, List.setIfInBounds_toArray, List.set_cons_zero, List.set_cons_succ, i64_w, i32_w]
                           rfl
                          refine pure_ (i := 6) (N := some 61) (v := ?_) (a' := ?_) #[true, true, false, true, true, false, true, false, false, false, false, false, false, false, false, false, false, false, false, false, false, false, false, false, false, false, false, false, false, false, false, false, false, false, false] rfl rfl (any_of HT_.out (by kernel_rfl)) (fun _ _ _ h => h) (Or.inl ⟨by rfl, ?_⟩) ?_ ?_
                          rotate_left
                          ·intro w'
                           go_simp
                           with_reducible rfl
                          rotate_left
                          ·simp only [Act.put, List.setIfInBounds_toArray, List.set_cons_zero, List.set_cons_succ, i64_w, i32_w]
                           rfl
                          refine pure_ (i := 9) (N := some 64) (v := ?_) (a' := ?_) #[true, true, false, true, true, false, true, false, false, true, false, false, false, false, false, false, false, false, false, false, false, false, false, false, false, false, false, false, false, false, false, false, false, false, false] rfl rfl (any_of HT_.out (by kernel_rfl)) (fun _ _ _ h => h) (Or.inl ⟨by rfl, ?_⟩) ?_ ?_
                          rotate_left
                          ·intro w'
                           go_simp
                           with_reducible rfl
                          rotate_left
                          ·simp only [Act.put, List.setIfInBounds_toArray, List.set_cons_zero, List.set_cons_succ, i64_w, i32_w]
                           rfl
                          refine pure_ (i := 12) (N := some 67) (v := ?_) (a' := ?_) #[true, true, false, true, true, false, true, false, false, true, false, false, true, false, false, false, false, false, false, false, false, false, false, false, false, false, false, false, false, false, false, false, false, false, false] rfl rfl (any_of HT_.out (by kernel_rfl)) (fun _ _ _ h => h) (Or.inl ⟨by rfl, ?_⟩) ?_ ?_
                          rotate_left
                          ·intro w'
                           go_simp
                           with_reducible rfl
                          rotate_left
                          ·simp only [Act.put, List.setIfInBounds_toArray, List.set_cons_zero, List.set_cons_succ, i64_w, i32_w]
                           rfl
                          refine pure_ (i := 13) (N := some 68) (v := ?_) (a' := ?_) #[true, true, false, true, true, false, true, false, false, true, false, false, true, true, false, false, false, false, false, false, false, false, false, false, false, false, false, false, false, false, false, false, false, false, false] rfl rfl (any_of HT_.out (by kernel_rfl)) (fun _ _ _ h => h) (Or.inl ⟨by rfl, ?_⟩) ?_ ?_
                          rotate_left
                          ·intro w'
                           go_simp
                           first | (with_reducible rfl) | ((repeat (first | rw [if_pos (by simp only [ByteArray.size_extract, ByteArray.size_append, eq_iff_iff, iff_true, iff_false, Nat.not_lt] at *; first | omega | (simp only [ByteArray.size, List.size_toArray, List.length_cons, List.length_nil] at *; omega))] | rw [if_neg (by simp only [ByteArray.size_extract, ByteArray.size_append, eq_iff_iff, iff_true, iff_false, Nat.not_lt] at *; first | omega | (simp only [ByteArray.size, List.size_toArray, List.length_cons, List.length_nil] at *; omega))])); try with_reducible rfl)
                          rotate_left
                          ·simp only [Act.put, List.setIfInBounds_toArray, List.set_cons_zero, List.set_cons_succ, i64_w, i32_w]
                           rfl
                          refine pure_ (i := 15) (N := some 70) (v := ?_) (a' := ?_) #[true, true, false, true, true, false, true, false, false, true, false, false, true, true, false, true, false, false, false, false, false, false, false, false, false, false, false, false, false, false, false, false, false, false, false] rfl rfl (any_of HT_.out (by kernel_rfl)) (fun _ _ _ h => h) (Or.inl ⟨by rfl, ?_⟩) ?_ ?_
                          rotate_left
                          ·intro w'
                           go_simp
                           with_reducible rfl
                          rotate_left
                          ·simp only [Act.put, List.setIfInBounds_toArray, List.set_cons_zero, List.set_cons_succ, i64_w, i32_w]
                           rfl
                          refine pure_ (i := 16) (N := some 71) (v := ?_) (a' := ?_) #[true, true, false, true, true, false, true, false, false, true, false, false, true, true, false, true, true, false, false, false, false, false, false, false, false, false, false, false, false, false, false, false, false, false, false] rfl rfl (any_of HT_.out (by kernel_rfl)) (fun _ _ _ h => h) (Or.inl ⟨by rfl, ?_⟩) ?_ ?_
                          rotate_left
                          ·intro w'
                           go_simp
                           with_reducible rfl
                          rotate_left
                          ·simp only [Act.put, List.setIfInBounds_toArray, List.set_cons_zero, List.set_cons_succ, i64_w, i32_w]
                           rfl
                          refine pure_ (i := 17) (N := some 72) (v := ?_) (a' := ?_) #[true, true, false, true, true, false, true, false, false, true, false, false, true, true, false, true, true, true, false, false, false, false, false, false, false, false, false, false, false, false, false, false, false, false, false] rfl rfl (any_of HT_.out (by kernel_rfl)) (fun _ _ _ h => h) (Or.inl ⟨by rfl, ?_⟩) ?_ ?_
                          rotate_left
                          ·intro w'
                           go_simp
                           with_reducible rfl
                          rotate_left
                          ·simp only [Act.put, List.setIfInBounds_toArray, List.set_cons_zero, List.set_cons_succ, i64_w, i32_w]
                           rfl
                          refine pure_ (i := 18) (N := some 73) (v := ?_) (a' := ?_) #[true, true, false, true, true, false, true, false, false, true, false, false, true, true, false, true, true, true, true, false, false, false, false, false, false, false, false, false, false, false, false, false, false, false, false] rfl rfl (any_of HT_.out (by kernel_rfl)) (fun _ _ _ h => h) (Or.inl ⟨by rfl, ?_⟩) ?_ ?_
                          rotate_left
                          ·intro w'
                           go_simp
                           with_reducible rfl
                          rotate_left
                          ·simp only [Act.put, List.setIfInBounds_toArray, List.set_cons_zero, List.set_cons_succ, i64_w, i32_w]
                           rfl
                          refine pure_ (i := 19) (N := some 74) (v := ?_) (a' := ?_) #[true, true, false, true, true, false, true, false, false, true, false, false, true, true, false, true, true, true, true, true, false, false, false, false, false, false, false, false, false, false, false, false, false, false, false] rfl rfl (any_of HT_.out (by kernel_rfl)) (fun _ _ _ h => h) (Or.inl ⟨by rfl, ?_⟩) ?_ ?_
                          rotate_left
                          ·intro w'
                           go_simp
                           with_reducible rfl
                          rotate_left
                          ·simp only [Act.put, List.setIfInBounds_toArray, List.set_cons_zero, List.set_cons_succ, i64_w, i32_w]
                           rfl
                          refine pure_ (i := 20) (N := some 75) (v := ?_) (a' := ?_) #[true, true, false, true, true, false, true, false, false, true, false, false, true, true, false, true, true, true, true, true, true, false, false, false, false, false, false, false, false, false, false, false, false, false, false] rfl rfl (any_of HT_.out (by kernel_rfl)) (fun _ _ _ h => h) (Or.inl ⟨by rfl, ?_⟩) ?_ ?_
                          rotate_left
                          ·intro w'
                           go_simp
                           with_reducible rfl
                          rotate_left
                          ·simp only [Act.put, List.setIfInBounds_toArray, List.set_cons_zero, List.set_cons_succ, i64_w, i32_w]
                           rfl
                          refine pure_ (i := 21) (N := some 76) (v := ?_) (a' := ?_) #[true, true, false, true, true, false, true, false, false, true, false, false, true, true, false, true, true, true, true, true, true, true, false, false, false, false, false, false, false, false, false, false, false, false, false] rfl rfl (any_of HT_.out (by kernel_rfl)) (fun _ _ _ h => h) (Or.inl ⟨by rfl, ?_⟩) ?_ ?_
                          rotate_left
                          ·intro w'
                           go_simp
                           with_reducible rfl
                          rotate_left
                          ·simp only [Act.put, List.setIfInBounds_toArray, List.set_cons_zero, List.set_cons_succ, i64_w, i32_w]
                           rfl
                          refine pure_ (i := 22) (N := some 77) (v := ?_) (a' := ?_) #[true, true, false, true, true, false, true, false, false, true, false, false, true, true, false, true, true, true, true, true, true, true, true, false, false, false, false, false, false, false, false, false, false, false, false] rfl rfl (any_of HT_.out (by kernel_rfl)) (fun _ _ _ h => h) (Or.inl ⟨by rfl, ?_⟩) ?_ ?_
                          rotate_left
                          ·intro w'
                           go_simp
                           with_reducible rfl
                          rotate_left
                          ·simp only [Act.put, List.setIfInBounds_toArray, List.set_cons_zero, List.set_cons_succ, i64_w, i32_w]
                           rfl
                          refine pure_ (i := 23) (N := some 78) (v := ?_) (a' := ?_) #[true, true, false, true, true, false, true, false, false, true, false, false, true, true, false, true, true, true, true, true, true, true, true, true, false, false, false, false, false, false, false, false, false, false, false] rfl rfl (any_of HT_.out (by kernel_rfl)) (fun _ _ _ h => h) (Or.inl ⟨by rfl, ?_⟩) ?_ ?_
                          rotate_left
                          ·intro w'
                           go_simp
                           with_reducible rfl
                          rotate_left
                          ·simp only [Act.put, List.setIfInBounds_toArray, List.set_cons_zero, List.set_cons_succ, i64_w, i32_w]
                           rfl
                          refine pure_ (i := 24) (N := some 79) (v := ?_) (a' := ?_) #[true, true, false, true, true, false, true, false, false, true, false, false, true, true, false, true, true, true, true, true, true, true, true, true, true, false, false, false, false, false, false, false, false, false, false] rfl rfl (any_of HT_.out (by kernel_rfl)) (fun _ _ _ h => h) (Or.inl ⟨by rfl, ?_⟩) ?_ ?_
                          rotate_left
                          ·intro w'
                           go_simp
                           with_reducible rfl
                          rotate_left
                          ·simp only [Act.put, List.setIfInBounds_toArray, List.set_cons_zero, List.set_cons_succ, i64_w, i32_w]
                           rfl
                          refine pure_ (i := 25) (N := some 80) (v := ?_) (a' := ?_) #[true, true, false, true, true, false, true, false, false, true, false, false, true, true, false, true, true, true, true, true, true, true, true, true, true, true, false, false, false, false, false, false, false, false, false] rfl rfl (any_of HT_.out (by kernel_rfl)) (fun _ _ _ h => h) (Or.inl ⟨by rfl, ?_⟩) ?_ ?_
                          rotate_left
                          ·intro w'
                           go_simp
                           with_reducible rfl
                          rotate_left
                          ·simp only [Act.put, List.setIfInBounds_toArray, List.set_cons_zero, List.set_cons_succ, i64_w, i32_w]
                           rfl
                          refine pure_ (i := 26) (N := some 81) (v := ?_) (a' := ?_) #[true, true, false, true, true, false, true, false, false, true, false, false, true, true, false, true, true, true, true, true, true, true, true, true, true, true, true, false, false, false, false, false, false, false, false] rfl rfl (any_of HT_.out (by kernel_rfl)) (fun _ _ _ h => h) (Or.inl ⟨by rfl, ?_⟩) ?_ ?_
                          rotate_left
                          ·intro w'
                           go_simp
                           with_reducible rfl
                          rotate_left
                          ·simp only [Act.put, List.setIfInBounds_toArray, List.set_cons_zero, List.set_cons_succ, i64_w, i32_w]
                           rfl
                          refine pure_ (i := 27) (N := some 82) (v := ?_) (a' := ?_) #[true, true, false, true, true, false, true, false, false, true, false, false, true, true, false, true, true, true, true, true, true, true, true, true, true, true, true, true, false, false, false, false, false, false, false] rfl rfl (any_of HT_.out (by kernel_rfl)) (fun _ _ _ h => h) (Or.inl ⟨by rfl, ?_⟩) ?_ ?_
                          rotate_left
                          ·intro w'
                           go_simp
                           first | (with_reducible rfl) | ((repeat (first | rw [if_pos (by simp only [ByteArray.size_extract, ByteArray.size_append, eq_iff_iff, iff_true, iff_false, Nat.not_lt] at *; first | omega | (simp only [ByteArray.size, List.size_toArray, List.length_cons, List.length_nil] at *; omega))] | rw [if_neg (by simp only [ByteArray.size_extract, ByteArray.size_append, eq_iff_iff, iff_true, iff_false, Nat.not_lt] at *; first | omega | (simp only [ByteArray.size, List.size_toArray, List.length_cons, List.length_nil] at *; omega))])); try with_reducible rfl)
                          rotate_left
                          ·simp only [Act.put, List.setIfInBounds_toArray, List.set_cons_zero, List.set_cons_succ, i64_w, i32_w]
                           rfl
                          refine pure_ (i := 28) (N := some 83) (v := ?_) (a' := ?_) #[true, true, false, true, true, false, true, false, false, true, false, false, true, true, false, true, true, true, true, true, true, true, true, true, true, true, true, true, true, false, false, false, false, false, false] rfl rfl (any_of HT_.out (by kernel_rfl)) (fun _ _ _ h => h) (Or.inl ⟨by rfl, ?_⟩) ?_ ?_
                          rotate_left
                          ·intro w'
                           go_simp
                           with_reducible rfl
                          rotate_left
                          ·simp only [Act.put, List.setIfInBounds_toArray, List.set_cons_zero, List.set_cons_succ, i64_w, i32_w]
                           rfl
                          refine pure_ (i := 29) (N := some 84) (v := ?_) (a' := ?_) #[true, true, false, true, true, false, true, false, false, true, false, false, true, true, false, true, true, true, true, true, true, true, true, true, true, true, true, true, true, true, false, false, false, false, false] rfl rfl (any_of HT_.out (by kernel_rfl)) (fun _ _ _ h => h) (Or.inl ⟨by rfl, ?_⟩) ?_ ?_
                          rotate_left
                          ·intro w'
                           go_simp
                           with_reducible rfl
                          rotate_left
                          ·simp only [Act.put, List.setIfInBounds_toArray, List.set_cons_zero, List.set_cons_succ, i64_w, i32_w]
                           rfl
                          refine pure_ (i := 30) (N := some 85) (v := ?_) (a' := ?_) #[true, true, false, true, true, false, true, false, false, true, false, false, true, true, false, true, true, true, true, true, true, true, true, true, true, true, true, true, true, true, true, false, false, false, false] rfl rfl (any_of HT_.out (by kernel_rfl)) (fun _ _ _ h => h) (Or.inl ⟨by rfl, ?_⟩) ?_ ?_
                          rotate_left
                          ·intro w'
                           go_simp
                           with_reducible rfl
                          rotate_left
                          ·simp only [Act.put, List.setIfInBounds_toArray, List.set_cons_zero, List.set_cons_succ, i64_w, i32_w]
                           rfl
                          refine pure_ (i := 31) (N := some 86) (v := ?_) (a' := ?_) #[true, true, false, true, true, false, true, false, false, true, false, false, true, true, false, true, true, true, true, true, true, true, true, true, true, true, true, true, true, true, true, true, false, false, false] rfl rfl (any_of HT_.out (by kernel_rfl)) (fun _ _ _ h => h) (Or.inl ⟨by rfl, ?_⟩) ?_ ?_
                          rotate_left
                          ·intro w'
                           go_simp
                           first | (with_reducible rfl) | ((repeat (first | rw [if_pos (by simp only [ByteArray.size_extract, ByteArray.size_append, eq_iff_iff, iff_true, iff_false, Nat.not_lt] at *; first | omega | (simp only [ByteArray.size, List.size_toArray, List.length_cons, List.length_nil] at *; omega))] | rw [if_neg (by simp only [ByteArray.size_extract, ByteArray.size_append, eq_iff_iff, iff_true, iff_false, Nat.not_lt] at *; first | omega | (simp only [ByteArray.size, List.size_toArray, List.length_cons, List.length_nil] at *; omega))])); try with_reducible rfl)
                          rotate_left
                          ·simp only [Act.put, List.setIfInBounds_toArray, List.set_cons_zero, List.set_cons_succ, i64_w, i32_w]
                           rfl
                          refine take_ (i := 7) (N := some 62) (v := ?_) (a' := ?_) #[true, true, false, true, true, false, true, true, false, true, false, false, true, true, false, true, true, true, true, true, true, true, true, true, true, true, true, true, true, true, true, true, false, false, false] rfl rfl (take_ofW HT_.out HW_.out (by kernel_rfl)) (fun _ _ _ h => h) (Or.inl ⟨by rfl, ?_⟩) hHeld ?_ ?_
                          rotate_left
                          ·intro w' _
                           go_simp
                           with_reducible rfl
                          rotate_left
                          ·simp only [Act.put, List.setIfInBounds_toArray, List.set_cons_zero, List.set_cons_succ, i64_w, i32_w]
                           rfl
                          refine pure_ (i := 8) (N := some 63) (v := ?_) (a' := ?_) #[true, true, false, true, true, false, true, true, true, true, false, false, true, true, false, true, true, true, true, true, true, true, true, true, true, true, true, true, true, true, true, true, false, false, false] rfl rfl (any_of HT_.out (by kernel_rfl)) (fun _ _ _ h => h) (Or.inl ⟨by rfl, ?_⟩) ?_ ?_
                          rotate_left
                          ·intro w'
                           go_simp
                           with_reducible rfl
                          rotate_left
                          ·simp only [Act.put, List.setIfInBounds_toArray, List.set_cons_zero, List.set_cons_succ, i64_w, i32_w]
                           rfl
                          refine take_ (i := 10) (N := some 65) (v := ?_) (a' := ?_) #[true, true, false, true, true, false, true, true, true, true, true, false, true, true, false, true, true, true, true, true, true, true, true, true, true, true, true, true, true, true, true, true, false, false, false] rfl rfl (take_ofW HT_.out HW_.out (by kernel_rfl)) (fun _ _ _ h => h) (Or.inl ⟨by rfl, ?_⟩) hHeld ?_ ?_
                          rotate_left
                          ·intro w' _
                           go_simp
                           with_reducible rfl
                          rotate_left
                          ·simp only [Act.put, List.setIfInBounds_toArray, List.set_cons_zero, List.set_cons_succ, i64_w, i32_w]
                           rfl
                          refine pure_ (i := 11) (N := some 66) (v := ?_) (a' := ?_) #[true, true, false, true, true, false, true, true, true, true, true, true, true, true, false, true, true, true, true, true, true, true, true, true, true, true, true, true, true, true, true, true, false, false, false] rfl rfl (any_of HT_.out (by kernel_rfl)) (fun _ _ _ h => h) (Or.inl ⟨by rfl, ?_⟩) ?_ ?_
                          rotate_left
                          ·intro w'
                           go_simp
                           with_reducible rfl
                          rotate_left
                          ·simp only [Act.put, List.setIfInBounds_toArray, List.set_cons_zero, List.set_cons_succ, i64_w, i32_w]
                           rfl
                          refine join_ (σ := Nat) 1 #[true, true, true, true, true, true, true, true, true, true, true, true, true, true, true, true, true, true, true, true, true, true, true, true, true, true, true, true, true, true, true, true, true, true, false] (fun s_ => [(57, .int .i64 t166), (60, .int .i64 t167), (69, .int .i64 t168), (7, .pointer (some ⟨s_, 0, none⟩)), (87, .agg #[.int .i64 t166, .int .i64 t167, .int .i64 (wrap64 (bt a0 8)), .int .i64 (wrap64 (bt a0 9)), .int .i64 t168, .int .i64 (Int.tmod t165 8192), .bool ((Int.tmod (wrap64 (Int.tdiv t165 8192)) 2) == 1), .bool ((Int.tmod (wrap64 (Int.tdiv t165 16384)) 2) == 1), .string (cutS a0 20 ((ji20) : Int).toNat), .string (cutS a0 ((ji20) : Int).toNat (t163 : Int).toNat)])]) (fun s_ w' => (w'.heap[gb162]? = some (.cells #[.int .i64 0, .int .i64 0, .int .i64 0, .int .i64 0, .int .i64 0, .int .i64 0, .bool false, .bool false, .string (⟨#[]⟩ : ByteArray), .string (⟨#[]⟩ : ByteArray)] 23 (0, 0))) ∧ (w'.heap[s_]? = some (.cells #[.int .i64 0, .int .i64 0, .int .i64 0, .int .i64 0, .int .i64 0, .int .i64 0, .bool false, .bool false, .string (⟨#[]⟩ : ByteArray), .string (⟨#[]⟩ : ByteArray)] 23 (0, 0))) ∧ (w.heap.size ≤ s_) ∧ (w.heap.size ≤ s_) ∧ (gb162 ≠ s_) ∧ (s_ ≠ gb162) ∧ (Below w.heap.size w w')) ?_ ?_
                          rotate_left
                          ·intro hCont
                           refine two_ (i := 2) (j := 33) (Ni := some 57) (Nj := some 7) #[true, true, true, true, true, false, true, true, true, true, true, true, true, true, false, true, true, true, true, true, true, true, true, true, true, true, true, true, true, true, true, true, false, false, false] #[true, true, false, true, true, false, true, true, true, true, true, true, true, true, false, true, true, true, true, true, true, true, true, true, true, true, true, true, true, true, true, true, false, true, false] rfl rfl rfl rfl (two_of HT_.out (by kernel_rfl)) (by decide) (by decide) (fun K hK => ?_) (fun K hK => ?_)
                           ·skip
                            refine goes_ Try.func32 (by kernel_rfl) rfl #[.string (cutS a0 12 16)] (by rfl) rfl rfl (by (try simp only [List.map_toArray, List.map_cons, List.map_nil]); first | done | rfl | (simp only [List.length_drop, List.length_take]; rfl)) ?_
                            with_reducible refine (sternpostref02_Num.calls kj13 (cutS a0 12 16) t166 _ A30.out).mono ?_
                            rintro e w' ⟨rfl, ⟨nd, rfl⟩⟩
                            refine ⟨_, rfl, ?_⟩
                            refine hK.out _ _ trivial (fun hHeld => ?_)
                            clear hK K
                            refine norm_ (a' := ?_) ?_ ?_
                            rotate_left
                            ·show Act.put _ (some 57) _ = _
                             simp only [Act.put, List.setIfInBounds_toArray, List.set_cons_zero, List.set_cons_succ, i64_w, i32_w]
                             rfl
                            refine two_ (i := 5) (j := 33) (Ni := some 60) (Nj := some 7) #[true, true, true, true, true, true, true, true, true, true, true, true, true, true, false, true, true, true, true, true, true, true, true, true, true, true, true, true, true, true, true, true, false, false, false] #[true, true, true, true, true, false, true, true, true, true, true, true, true, true, false, true, true, true, true, true, true, true, true, true, true, true, true, true, true, true, true, true, false, true, false] rfl rfl rfl rfl (two_of HT_.out (by kernel_rfl)) (by decide) (by decide) (fun K hK => ?_) (fun K hK => ?_)
                            ·skip
                             refine goes_ Try.func32 (by kernel_rfl) rfl #[.string (cutS a0 16 20)] (by rfl) rfl rfl (by (try simp only [List.map_toArray, List.map_cons, List.map_nil]); first | done | rfl | (simp only [List.length_drop, List.length_take]; rfl)) ?_
                             with_reducible refine (sternpostref02_Num.calls kj13 (cutS a0 16 20) t167 _ A33.out).mono ?_
                             rintro e w' ⟨rfl, ⟨nd, rfl⟩⟩
                             refine ⟨_, rfl, ?_⟩
                             refine hK.out _ _ trivial (fun hHeld => ?_)
                             clear hK K
                             refine norm_ (a' := ?_) ?_ ?_
                             rotate_left
                             ·show Act.put _ (some 60) _ = _
                              simp only [Act.put, List.setIfInBounds_toArray, List.set_cons_zero, List.set_cons_succ, i64_w, i32_w]
                              rfl
                             refine two_ (i := 14) (j := 33) (Ni := some 69) (Nj := some 7) #[true, true, true, true, true, true, true, true, true, true, true, true, true, true, true, true, true, true, true, true, true, true, true, true, true, true, true, true, true, true, true, true, false, false, false] #[true, true, true, true, true, true, true, true, true, true, true, true, true, true, false, true, true, true, true, true, true, true, true, true, true, true, true, true, true, true, true, true, false, true, false] rfl rfl rfl rfl (two_of HT_.out (by kernel_rfl)) (by decide) (by decide) (fun K hK => ?_) (fun K hK => ?_)
                             ·skip
                              refine goes_ Try.func32 (by kernel_rfl) rfl #[.string (cutS a0 4 6)] (by rfl) rfl rfl (by (try simp only [List.map_toArray, List.map_cons, List.map_nil]); first | done | rfl | (simp only [List.length_drop, List.length_take]; rfl)) ?_
                              with_reducible refine (sternpostref02_Num.calls kj13 (cutS a0 4 6) t168 _ A40.out).mono ?_
                              rintro e w' ⟨rfl, ⟨nd, rfl⟩⟩
                              refine ⟨_, rfl, ?_⟩
                              refine hK.out _ _ trivial (fun hHeld => ?_)
                              clear hK K
                              refine norm_ (a' := ?_) ?_ ?_
                              rotate_left
                              ·show Act.put _ (some 69) _ = _
                               simp only [Act.put, List.setIfInBounds_toArray, List.set_cons_zero, List.set_cons_succ, i64_w, i32_w]
                               rfl
                              refine pure_ (i := 32) (N := some 87) (v := ?_) (a' := ?_) #[true, true, true, true, true, true, true, true, true, true, true, true, true, true, true, true, true, true, true, true, true, true, true, true, true, true, true, true, true, true, true, true, true, false, false] rfl rfl (any_of HT_.out (by kernel_rfl)) (fun _ _ _ h => h) (Or.inl ⟨by rfl, ?_⟩) ?_ ?_
                              rotate_left
                              ·intro w'
                               go_simp
                               with_reducible rfl
                              rotate_left
                              ·simp only [Act.put, List.setIfInBounds_toArray, List.set_cons_zero, List.set_cons_succ, i64_w, i32_w]
                               rfl
                              refine one_ (i := 33) (N := some 7) #[true, true, true, true, true, true, true, true, true, true, true, true, true, true, true, true, true, true, true, true, true, true, true, true, true, true, true, true, true, true, true, true, true, true, false] rfl rfl (one_of HT_.out (by kernel_rfl)) (by decide) (fun K hK => ?_)
                              refine box_step ?hg (N := 7) ?hd (cs := #[.int .i64 0, .int .i64 0, .int .i64 0, .int .i64 0, .int .i64 0, .int .i64 0, .bool false, .bool false, .string (⟨#[]⟩ : ByteArray), .string (⟨#[]⟩ : ByteArray)]) (t := 23) ?hr ?_; (case hd => rfl); (case hg => rfl); (case hr => first | (go_simp; done) | (go_simp; rfl))
                              intro gb169 hg w48 hbox hb
                              have n0_ := Aside0.mk (blk_below (g := gb162) (o := .cells #[.int .i64 0, .int .i64 0, .int .i64 0, .int .i64 0, .int .i64 0, .int .i64 0, .bool false, .bool false, .string (⟨#[]⟩ : ByteArray), .string (⟨#[]⟩ : ByteArray)] 23 (0, 0)) (by (with_reducible repeat (first | refine blk_drewN ?_ _ | refine blk_drew ?_ | refine blk_alloc ?_ _)); exact BK162.out) hb)
                              have n1_ := Aside0.mk (below_step (by repeat (first | (with_reducible first | exact HB.out | apply below_alloc | apply pw_below_drewN | apply below_drew1 | refine below_set ?_ GE162.out) | exact HB.out)) hb)
                              have n2_ := Aside0.mk (hbox)
                              have n3_ := Aside0.mk ((by rw [hg]; exact (below_size (by repeat (first | (with_reducible first | exact HB.out | apply below_alloc | apply pw_below_drewN | apply below_drew1 | refine below_set ?_ GE162.out) | exact HB.out))) : w.heap.size ≤ gb169))
                              have n4_ := Aside0.mk ((by rw [hg]; exact (below_size (by repeat (first | (with_reducible first | exact HB.out | apply below_alloc | apply pw_below_drewN | apply below_drew1 | refine below_set ?_ GE162.out) | exact HB.out))) : w.heap.size ≤ gb169))
                              have n5_ := Aside0.mk ((by rw [hg]; exact Nat.ne_of_lt (blk_lt (g := gb162) (o := .cells #[.int .i64 0, .int .i64 0, .int .i64 0, .int .i64 0, .int .i64 0, .int .i64 0, .bool false, .bool false, .string (⟨#[]⟩ : ByteArray), .string (⟨#[]⟩ : ByteArray)] 23 (0, 0)) (by (with_reducible repeat (first | refine blk_drewN ?_ _ | refine blk_drew ?_ | refine blk_alloc ?_ _)); exact BK162.out)) : gb162 ≠ gb169))
                              have n6_ := Aside0.mk ((by rw [hg]; exact Nat.ne_of_gt (blk_lt (g := gb162) (o := .cells #[.int .i64 0, .int .i64 0, .int .i64 0, .int .i64 0, .int .i64 0, .int .i64 0, .bool false, .bool false, .string (⟨#[]⟩ : ByteArray), .string (⟨#[]⟩ : ByteArray)] 23 (0, 0)) (by (with_reducible repeat (first | refine blk_drewN ?_ _ | refine blk_drew ?_ | refine blk_alloc ?_ _)); exact BK162.out)) : gb169 ≠ gb162))
                              clear BK162
                              clear HB
                              have BK162 := n0_
                              have HB := n1_
                              have BK169 := n2_
                              have GW169 := n3_
                              have GE169 := n4_
                              have NB162_169 := n5_
                              have NB169_162 := n6_
                              clear n0_ n1_ n2_ n3_ n4_ n5_ n6_
                              clear hb hbox hg
                              refine hK.out _ _ trivial (fun hHeld => ?_)
                              clear hK K
                              refine norm_ (a' := ?_) ?_ ?_
                              rotate_left
                              ·show Act.put _ (some 7) _ = _
                               simp only [Act.put, List.setIfInBounds_toArray, List.set_cons_zero, List.set_cons_succ, i64_w, i32_w]
                               rfl
                              exact norm_ (by simp only [putAll, Act.put, List.setIfInBounds_toArray, List.set_cons_zero, List.set_cons_succ]) (hCont (gb169) _ ⟨(by (with_reducible repeat (first | refine blk_drewN ?_ _ | refine blk_drew ?_ | refine blk_alloc ?_ _)); exact BK162.out), (by (with_reducible repeat (first | refine blk_drewN ?_ _ | refine blk_drew ?_ | refine blk_alloc ?_ _)); exact BK169.out), GW169.out, GE169.out, NB162_169.out, NB169_162.out, (by repeat (first | (with_reducible first | exact HB.out | apply below_alloc | apply pw_below_drewN | apply below_drew1 | refine below_set ?_ GE162.out | refine below_set ?_ GE169.out) | exact HB.out))⟩)
                             ·skip
                              refine box_step ?hg (N := 7) ?hd (cs := #[.int .i64 0, .int .i64 0, .int .i64 0, .int .i64 0, .int .i64 0, .int .i64 0, .bool false, .bool false, .string (⟨#[]⟩ : ByteArray), .string (⟨#[]⟩ : ByteArray)]) (t := 23) ?hr ?_; (case hd => rfl); (case hg => rfl); (case hr => first | (go_simp; done) | (go_simp; rfl))
                              intro gb169 hg w48 hbox hb
                              have n0_ := Aside0.mk (blk_below (g := gb162) (o := .cells #[.int .i64 0, .int .i64 0, .int .i64 0, .int .i64 0, .int .i64 0, .int .i64 0, .bool false, .bool false, .string (⟨#[]⟩ : ByteArray), .string (⟨#[]⟩ : ByteArray)] 23 (0, 0)) (by (with_reducible repeat (first | refine blk_drewN ?_ _ | refine blk_drew ?_ | refine blk_alloc ?_ _)); exact BK162.out) hb)
                              have n1_ := Aside0.mk (below_step (by repeat (first | (with_reducible first | exact HB.out | apply below_alloc | apply pw_below_drewN | apply below_drew1 | refine below_set ?_ GE162.out) | exact HB.out)) hb)
                              have n2_ := Aside0.mk (hbox)
                              have n3_ := Aside0.mk ((by rw [hg]; exact (below_size (by repeat (first | (with_reducible first | exact HB.out | apply below_alloc | apply pw_below_drewN | apply below_drew1 | refine below_set ?_ GE162.out) | exact HB.out))) : w.heap.size ≤ gb169))
                              have n4_ := Aside0.mk ((by rw [hg]; exact (below_size (by repeat (first | (with_reducible first | exact HB.out | apply below_alloc | apply pw_below_drewN | apply below_drew1 | refine below_set ?_ GE162.out) | exact HB.out))) : w.heap.size ≤ gb169))
                              have n5_ := Aside0.mk ((by rw [hg]; exact Nat.ne_of_lt (blk_lt (g := gb162) (o := .cells #[.int .i64 0, .int .i64 0, .int .i64 0, .int .i64 0, .int .i64 0, .int .i64 0, .bool false, .bool false, .string (⟨#[]⟩ : ByteArray), .string (⟨#[]⟩ : ByteArray)] 23 (0, 0)) (by (with_reducible repeat (first | refine blk_drewN ?_ _ | refine blk_drew ?_ | refine blk_alloc ?_ _)); exact BK162.out)) : gb162 ≠ gb169))
                              have n6_ := Aside0.mk ((by rw [hg]; exact Nat.ne_of_gt (blk_lt (g := gb162) (o := .cells #[.int .i64 0, .int .i64 0, .int .i64 0, .int .i64 0, .int .i64 0, .int .i64 0, .bool false, .bool false, .string (⟨#[]⟩ : ByteArray), .string (⟨#[]⟩ : ByteArray)] 23 (0, 0)) (by (with_reducible repeat (first | refine blk_drewN ?_ _ | refine blk_drew ?_ | refine blk_alloc ?_ _)); exact BK162.out)) : gb169 ≠ gb162))
                              clear BK162
                              clear HB
                              have BK162 := n0_
                              have HB := n1_
                              have BK169 := n2_
                              have GW169 := n3_
                              have GE169 := n4_
                              have NB162_169 := n5_
                              have NB169_162 := n6_
                              clear n0_ n1_ n2_ n3_ n4_ n5_ n6_
                              clear hb hbox hg
                              refine hK.out _ _ trivial (fun hHeld => ?_)
                              clear hK K
                              refine norm_ (a' := ?_) ?_ ?_
                              rotate_left
                              ·show Act.put _ (some 7) _ = _
                               simp only [Act.put, List.setIfInBounds_toArray, List.set_cons_zero, List.set_cons_succ, i64_w, i32_w]
                               rfl
                              refine one_ (i := 14) (N := some 69) #[true, true, true, true, true, true, true, true, true, true, true, true, true, true, true, true, true, true, true, true, true, true, true, true, true, true, true, true, true, true, true, true, false, true, false] rfl rfl (one_of HT_.out (by kernel_rfl)) (by decide) (fun K hK => ?_)
                              refine goes_ Try.func32 (by kernel_rfl) rfl #[.string (cutS a0 4 6)] (by rfl) rfl rfl (by (try simp only [List.map_toArray, List.map_cons, List.map_nil]); first | done | rfl | (simp only [List.length_drop, List.length_take]; rfl)) ?_
                              with_reducible refine (sternpostref02_Num.calls kj13 (cutS a0 4 6) t168 _ A40.out).mono ?_
                              rintro e w' ⟨rfl, ⟨nd, rfl⟩⟩
                              refine ⟨_, rfl, ?_⟩
                              refine hK.out _ _ trivial (fun hHeld => ?_)
                              clear hK K
                              refine norm_ (a' := ?_) ?_ ?_
                              rotate_left
                              ·show Act.put _ (some 69) _ = _
                               simp only [Act.put, List.setIfInBounds_toArray, List.set_cons_zero, List.set_cons_succ, i64_w, i32_w]
                               rfl
                              refine pure_ (i := 32) (N := some 87) (v := ?_) (a' := ?_) #[true, true, true, true, true, true, true, true, true, true, true, true, true, true, true, true, true, true, true, true, true, true, true, true, true, true, true, true, true, true, true, true, true, true, false] rfl rfl (any_of HT_.out (by kernel_rfl)) (fun _ _ _ h => h) (Or.inl ⟨by rfl, ?_⟩) ?_ ?_
                              rotate_left
                              ·intro w'
                               go_simp
                               with_reducible rfl
                              rotate_left
                              ·simp only [Act.put, List.setIfInBounds_toArray, List.set_cons_zero, List.set_cons_succ, i64_w, i32_w]
                               rfl
                              exact norm_ (by simp only [putAll, Act.put, List.setIfInBounds_toArray, List.set_cons_zero, List.set_cons_succ]) (hCont (gb169) _ ⟨(by (with_reducible repeat (first | refine blk_drewN ?_ _ | refine blk_drew ?_ | refine blk_alloc ?_ _)); exact BK162.out), (by (with_reducible repeat (first | refine blk_drewN ?_ _ | refine blk_drew ?_ | refine blk_alloc ?_ _)); exact BK169.out), GW169.out, GE169.out, NB162_169.out, NB169_162.out, (by repeat (first | (with_reducible first | exact HB.out | apply below_alloc | apply pw_below_drewN | apply below_drew1 | refine below_set ?_ GE162.out | refine below_set ?_ GE169.out) | exact HB.out))⟩)
                            ·skip
                             refine box_step ?hg (N := 7) ?hd (cs := #[.int .i64 0, .int .i64 0, .int .i64 0, .int .i64 0, .int .i64 0, .int .i64 0, .bool false, .bool false, .string (⟨#[]⟩ : ByteArray), .string (⟨#[]⟩ : ByteArray)]) (t := 23) ?hr ?_; (case hd => rfl); (case hg => rfl); (case hr => first | (go_simp; done) | (go_simp; rfl))
                             intro gb169 hg w48 hbox hb
                             have n0_ := Aside0.mk (blk_below (g := gb162) (o := .cells #[.int .i64 0, .int .i64 0, .int .i64 0, .int .i64 0, .int .i64 0, .int .i64 0, .bool false, .bool false, .string (⟨#[]⟩ : ByteArray), .string (⟨#[]⟩ : ByteArray)] 23 (0, 0)) (by (with_reducible repeat (first | refine blk_drewN ?_ _ | refine blk_drew ?_ | refine blk_alloc ?_ _)); exact BK162.out) hb)
                             have n1_ := Aside0.mk (below_step (by repeat (first | (with_reducible first | exact HB.out | apply below_alloc | apply pw_below_drewN | apply below_drew1 | refine below_set ?_ GE162.out) | exact HB.out)) hb)
                             have n2_ := Aside0.mk (hbox)
                             have n3_ := Aside0.mk ((by rw [hg]; exact (below_size (by repeat (first | (with_reducible first | exact HB.out | apply below_alloc | apply pw_below_drewN | apply below_drew1 | refine below_set ?_ GE162.out) | exact HB.out))) : w.heap.size ≤ gb169))
                             have n4_ := Aside0.mk ((by rw [hg]; exact (below_size (by repeat (first | (with_reducible first | exact HB.out | apply below_alloc | apply pw_below_drewN | apply below_drew1 | refine below_set ?_ GE162.out) | exact HB.out))) : w.heap.size ≤ gb169))
                             have n5_ := Aside0.mk ((by rw [hg]; exact Nat.ne_of_lt (blk_lt (g := gb162) (o := .cells #[.int .i64 0, .int .i64 0, .int .i64 0, .int .i64 0, .int .i64 0, .int .i64 0, .bool false, .bool false, .string (⟨#[]⟩ : ByteArray), .string (⟨#[]⟩ : ByteArray)] 23 (0, 0)) (by (with_reducible repeat (first | refine blk_drewN ?_ _ | refine blk_drew ?_ | refine blk_alloc ?_ _)); exact BK162.out)) : gb162 ≠ gb169))
                             have n6_ := Aside0.mk ((by rw [hg]; exact Nat.ne_of_gt (blk_lt (g := gb162) (o := .cells #[.int .i64 0, .int .i64 0, .int .i64 0, .int .i64 0, .int .i64 0, .int .i64 0, .bool false, .bool false, .string (⟨#[]⟩ : ByteArray), .string (⟨#[]⟩ : ByteArray)] 23 (0, 0)) (by (with_reducible repeat (first | refine blk_drewN ?_ _ | refine blk_drew ?_ | refine blk_alloc ?_ _)); exact BK162.out)) : gb169 ≠ gb162))
                             clear BK162
                             clear HB
                             have BK162 := n0_
                             have HB := n1_
                             have BK169 := n2_
                             have GW169 := n3_
                             have GE169 := n4_
                             have NB162_169 := n5_
                             have NB169_162 := n6_
                             clear n0_ n1_ n2_ n3_ n4_ n5_ n6_
                             clear hb hbox hg
                             refine hK.out _ _ trivial (fun hHeld => ?_)
                             clear hK K
                             refine norm_ (a' := ?_) ?_ ?_
                             rotate_left
                             ·show Act.put _ (some 7) _ = _
                              simp only [Act.put, List.setIfInBounds_toArray, List.set_cons_zero, List.set_cons_succ, i64_w, i32_w]
                              rfl
                             refine one_ (i := 5) (N := some 60) #[true, true, true, true, true, true, true, true, true, true, true, true, true, true, false, true, true, true, true, true, true, true, true, true, true, true, true, true, true, true, true, true, false, true, false] rfl rfl (one_of HT_.out (by kernel_rfl)) (by decide) (fun K hK => ?_)
                             refine goes_ Try.func32 (by kernel_rfl) rfl #[.string (cutS a0 16 20)] (by rfl) rfl rfl (by (try simp only [List.map_toArray, List.map_cons, List.map_nil]); first | done | rfl | (simp only [List.length_drop, List.length_take]; rfl)) ?_
                             with_reducible refine (sternpostref02_Num.calls kj13 (cutS a0 16 20) t167 _ A33.out).mono ?_
                             rintro e w' ⟨rfl, ⟨nd, rfl⟩⟩
                             refine ⟨_, rfl, ?_⟩
                             refine hK.out _ _ trivial (fun hHeld => ?_)
                             clear hK K
                             refine norm_ (a' := ?_) ?_ ?_
                             rotate_left
                             ·show Act.put _ (some 60) _ = _
                              simp only [Act.put, List.setIfInBounds_toArray, List.set_cons_zero, List.set_cons_succ, i64_w, i32_w]
                              rfl
                             refine one_ (i := 14) (N := some 69) #[true, true, true, true, true, true, true, true, true, true, true, true, true, true, true, true, true, true, true, true, true, true, true, true, true, true, true, true, true, true, true, true, false, true, false] rfl rfl (one_of HT_.out (by kernel_rfl)) (by decide) (fun K hK => ?_)
                             refine goes_ Try.func32 (by kernel_rfl) rfl #[.string (cutS a0 4 6)] (by rfl) rfl rfl (by (try simp only [List.map_toArray, List.map_cons, List.map_nil]); first | done | rfl | (simp only [List.length_drop, List.length_take]; rfl)) ?_
                             with_reducible refine (sternpostref02_Num.calls kj13 (cutS a0 4 6) t168 _ A40.out).mono ?_
                             rintro e w' ⟨rfl, ⟨nd, rfl⟩⟩
                             refine ⟨_, rfl, ?_⟩
                             refine hK.out _ _ trivial (fun hHeld => ?_)
                             clear hK K
                             refine norm_ (a' := ?_) ?_ ?_
                             rotate_left
                             ·show Act.put _ (some 69) _ = _
                              simp only [Act.put, List.setIfInBounds_toArray, List.set_cons_zero, List.set_cons_succ, i64_w, i32_w]
                              rfl
                             refine pure_ (i := 32) (N := some 87) (v := ?_) (a' := ?_) #[true, true, true, true, true, true, true, true, true, true, true, true, true, true, true, true, true, true, true, true, true, true, true, true, true, true, true, true, true, true, true, true, true, true, false] rfl rfl (any_of HT_.out (by kernel_rfl)) (fun _ _ _ h => h) (Or.inl ⟨by rfl, ?_⟩) ?_ ?_
                             rotate_left
                             ·intro w'
                              go_simp
                              with_reducible rfl
                             rotate_left
                             ·simp only [Act.put, List.setIfInBounds_toArray, List.set_cons_zero, List.set_cons_succ, i64_w, i32_w]
                              rfl
                             exact norm_ (by simp only [putAll, Act.put, List.setIfInBounds_toArray, List.set_cons_zero, List.set_cons_succ]) (hCont (gb169) _ ⟨(by (with_reducible repeat (first | refine blk_drewN ?_ _ | refine blk_drew ?_ | refine blk_alloc ?_ _)); exact BK162.out), (by (with_reducible repeat (first | refine blk_drewN ?_ _ | refine blk_drew ?_ | refine blk_alloc ?_ _)); exact BK169.out), GW169.out, GE169.out, NB162_169.out, NB169_162.out, (by repeat (first | (with_reducible first | exact HB.out | apply below_alloc | apply pw_below_drewN | apply below_drew1 | refine below_set ?_ GE162.out | refine below_set ?_ GE169.out) | exact HB.out))⟩)
                           ·skip
                            refine box_step ?hg (N := 7) ?hd (cs := #[.int .i64 0, .int .i64 0, .int .i64 0, .int .i64 0, .int .i64 0, .int .i64 0, .bool false, .bool false, .string (⟨#[]⟩ : ByteArray), .string (⟨#[]⟩ : ByteArray)]) (t := 23) ?hr ?_; (case hd => rfl); (case hg => rfl); (case hr => first | (go_simp; done) | (go_simp; rfl))
                            intro gb169 hg w48 hbox hb
                            have n0_ := Aside0.mk (blk_below (g := gb162) (o := .cells #[.int .i64 0, .int .i64 0, .int .i64 0, .int .i64 0, .int .i64 0, .int .i64 0, .bool false, .bool false, .string (⟨#[]⟩ : ByteArray), .string (⟨#[]⟩ : ByteArray)] 23 (0, 0)) (by (with_reducible repeat (first | refine blk_drewN ?_ _ | refine blk_drew ?_ | refine blk_alloc ?_ _)); exact BK162.out) hb)
                            have n1_ := Aside0.mk (below_step (by repeat (first | (with_reducible first | exact HB.out | apply below_alloc | apply pw_below_drewN | apply below_drew1 | refine below_set ?_ GE162.out) | exact HB.out)) hb)
                            have n2_ := Aside0.mk (hbox)
                            have n3_ := Aside0.mk ((by rw [hg]; exact (below_size (by repeat (first | (with_reducible first | exact HB.out | apply below_alloc | apply pw_below_drewN | apply below_drew1 | refine below_set ?_ GE162.out) | exact HB.out))) : w.heap.size ≤ gb169))
                            have n4_ := Aside0.mk ((by rw [hg]; exact (below_size (by repeat (first | (with_reducible first | exact HB.out | apply below_alloc | apply pw_below_drewN | apply below_drew1 | refine below_set ?_ GE162.out) | exact HB.out))) : w.heap.size ≤ gb169))
                            have n5_ := Aside0.mk ((by rw [hg]; exact Nat.ne_of_lt (blk_lt (g := gb162) (o := .cells #[.int .i64 0, .int .i64 0, .int .i64 0, .int .i64 0, .int .i64 0, .int .i64 0, .bool false, .bool false, .string (⟨#[]⟩ : ByteArray), .string (⟨#[]⟩ : ByteArray)] 23 (0, 0)) (by (with_reducible repeat (first | refine blk_drewN ?_ _ | refine blk_drew ?_ | refine blk_alloc ?_ _)); exact BK162.out)) : gb162 ≠ gb169))
                            have n6_ := Aside0.mk ((by rw [hg]; exact Nat.ne_of_gt (blk_lt (g := gb162) (o := .cells #[.int .i64 0, .int .i64 0, .int .i64 0, .int .i64 0, .int .i64 0, .int .i64 0, .bool false, .bool false, .string (⟨#[]⟩ : ByteArray), .string (⟨#[]⟩ : ByteArray)] 23 (0, 0)) (by (with_reducible repeat (first | refine blk_drewN ?_ _ | refine blk_drew ?_ | refine blk_alloc ?_ _)); exact BK162.out)) : gb169 ≠ gb162))
                            clear BK162
                            clear HB
                            have BK162 := n0_
                            have HB := n1_
                            have BK169 := n2_
                            have GW169 := n3_
                            have GE169 := n4_
                            have NB162_169 := n5_
                            have NB169_162 := n6_
                            clear n0_ n1_ n2_ n3_ n4_ n5_ n6_
                            clear hb hbox hg
                            refine hK.out _ _ trivial (fun hHeld => ?_)
                            clear hK K
                            refine norm_ (a' := ?_) ?_ ?_
                            rotate_left
                            ·show Act.put _ (some 7) _ = _
                             simp only [Act.put, List.setIfInBounds_toArray, List.set_cons_zero, List.set_cons_succ, i64_w, i32_w]
                             rfl
                            refine one_ (i := 2) (N := some 57) #[true, true, true, true, true, false, true, true, true, true, true, true, true, true, false, true, true, true, true, true, true, true, true, true, true, true, true, true, true, true, true, true, false, true, false] rfl rfl (one_of HT_.out (by kernel_rfl)) (by decide) (fun K hK => ?_)
                            refine goes_ Try.func32 (by kernel_rfl) rfl #[.string (cutS a0 12 16)] (by rfl) rfl rfl (by (try simp only [List.map_toArray, List.map_cons, List.map_nil]); first | done | rfl | (simp only [List.length_drop, List.length_take]; rfl)) ?_
                            with_reducible refine (sternpostref02_Num.calls kj13 (cutS a0 12 16) t166 _ A30.out).mono ?_
                            rintro e w' ⟨rfl, ⟨nd, rfl⟩⟩
                            refine ⟨_, rfl, ?_⟩
                            refine hK.out _ _ trivial (fun hHeld => ?_)
                            clear hK K
                            refine norm_ (a' := ?_) ?_ ?_
                            rotate_left
                            ·show Act.put _ (some 57) _ = _
                             simp only [Act.put, List.setIfInBounds_toArray, List.set_cons_zero, List.set_cons_succ, i64_w, i32_w]
                             rfl
                            refine one_ (i := 5) (N := some 60) #[true, true, true, true, true, true, true, true, true, true, true, true, true, true, false, true, true, true, true, true, true, true, true, true, true, true, true, true, true, true, true, true, false, true, false] rfl rfl (one_of HT_.out (by kernel_rfl)) (by decide) (fun K hK => ?_)
                            refine goes_ Try.func32 (by kernel_rfl) rfl #[.string (cutS a0 16 20)] (by rfl) rfl rfl (by (try simp only [List.map_toArray, List.map_cons, List.map_nil]); first | done | rfl | (simp only [List.length_drop, List.length_take]; rfl)) ?_
                            with_reducible refine (sternpostref02_Num.calls kj13 (cutS a0 16 20) t167 _ A33.out).mono ?_
                            rintro e w' ⟨rfl, ⟨nd, rfl⟩⟩
                            refine ⟨_, rfl, ?_⟩
                            refine hK.out _ _ trivial (fun hHeld => ?_)
                            clear hK K
                            refine norm_ (a' := ?_) ?_ ?_
                            rotate_left
                            ·show Act.put _ (some 60) _ = _
                             simp only [Act.put, List.setIfInBounds_toArray, List.set_cons_zero, List.set_cons_succ, i64_w, i32_w]
                             rfl
                            refine one_ (i := 14) (N := some 69) #[true, true, true, true, true, true, true, true, true, true, true, true, true, true, true, true, true, true, true, true, true, true, true, true, true, true, true, true, true, true, true, true, false, true, false] rfl rfl (one_of HT_.out (by kernel_rfl)) (by decide) (fun K hK => ?_)
                            refine goes_ Try.func32 (by kernel_rfl) rfl #[.string (cutS a0 4 6)] (by rfl) rfl rfl (by (try simp only [List.map_toArray, List.map_cons, List.map_nil]); first | done | rfl | (simp only [List.length_drop, List.length_take]; rfl)) ?_
                            with_reducible refine (sternpostref02_Num.calls kj13 (cutS a0 4 6) t168 _ A40.out).mono ?_
                            rintro e w' ⟨rfl, ⟨nd, rfl⟩⟩
                            refine ⟨_, rfl, ?_⟩
                            refine hK.out _ _ trivial (fun hHeld => ?_)
                            clear hK K
                            refine norm_ (a' := ?_) ?_ ?_
                            rotate_left
                            ·show Act.put _ (some 69) _ = _
                             simp only [Act.put, List.setIfInBounds_toArray, List.set_cons_zero, List.set_cons_succ, i64_w, i32_w]
                             rfl
                            refine pure_ (i := 32) (N := some 87) (v := ?_) (a' := ?_) #[true, true, true, true, true, true, true, true, true, true, true, true, true, true, true, true, true, true, true, true, true, true, true, true, true, true, true, true, true, true, true, true, true, true, false] rfl rfl (any_of HT_.out (by kernel_rfl)) (fun _ _ _ h => h) (Or.inl ⟨by rfl, ?_⟩) ?_ ?_
                            rotate_left
                            ·intro w'
                             go_simp
                             with_reducible rfl
                            rotate_left
                            ·simp only [Act.put, List.setIfInBounds_toArray, List.set_cons_zero, List.set_cons_succ, i64_w, i32_w]
                             rfl
                            exact norm_ (by simp only [putAll, Act.put, List.setIfInBounds_toArray, List.set_cons_zero, List.set_cons_succ]) (hCont (gb169) _ ⟨(by (with_reducible repeat (first | refine blk_drewN ?_ _ | refine blk_drew ?_ | refine blk_alloc ?_ _)); exact BK162.out), (by (with_reducible repeat (first | refine blk_drewN ?_ _ | refine blk_drew ?_ | refine blk_alloc ?_ _)); exact BK169.out), GW169.out, GE169.out, NB162_169.out, NB169_162.out, (by repeat (first | (with_reducible first | exact HB.out | apply below_alloc | apply pw_below_drewN | apply below_drew1 | refine below_set ?_ GE162.out | refine below_set ?_ GE169.out) | exact HB.out))⟩)
                          rintro gb169 w49 ⟨h0_, h1_, h2_, h3_, h4_, h5_, h6_⟩
                          have n0_ : Aside0 (w49.heap[gb162]? = some (.cells #[.int .i64 0, .int .i64 0, .int .i64 0, .int .i64 0, .int .i64 0, .int .i64 0, .bool false, .bool false, .string (⟨#[]⟩ : ByteArray), .string (⟨#[]⟩ : ByteArray)] 23 (0, 0))) := ⟨h0_⟩
                          have n1_ : Aside0 (w49.heap[gb169]? = some (.cells #[.int .i64 0, .int .i64 0, .int .i64 0, .int .i64 0, .int .i64 0, .int .i64 0, .bool false, .bool false, .string (⟨#[]⟩ : ByteArray), .string (⟨#[]⟩ : ByteArray)] 23 (0, 0))) := ⟨h1_⟩
                          have n2_ : Aside0 (w.heap.size ≤ gb169) := ⟨h2_⟩
                          have n3_ : Aside0 (w.heap.size ≤ gb169) := ⟨h3_⟩
                          have n4_ : Aside0 (gb162 ≠ gb169) := ⟨h4_⟩
                          have n5_ : Aside0 (gb169 ≠ gb162) := ⟨h5_⟩
                          have n6_ : Aside0 (Below w.heap.size w w49) := ⟨h6_⟩
                          clear BK162
                          clear HB
                          clear h0_ h1_ h2_ h3_ h4_ h5_ h6_
                          have BK162 := n0_
                          have BK169 := n1_
                          have GW169 := n2_
                          have GE169 := n3_
                          have NB162_169 := n4_
                          have NB169_162 := n5_
                          have HB := n6_
                          clear n0_ n1_ n2_ n3_ n4_ n5_ n6_
                          have hHeld := trivial
                          refine norm_ (a' := ?_) ?_ ?_
                          rotate_left
                          ·simp only [putAll, Act.put, List.setIfInBounds_toArray, List.set_cons_zero, List.set_cons_succ]
                           rfl
                          refine one_ (i := 34) (N := none) #[true, true, true, true, true, true, true, true, true, true, true, true, true, true, true, true, true, true, true, true, true, true, true, true, true, true, true, true, true, true, true, true, true, true, true] rfl rfl (one_of HT_.out (by kernel_rfl)) (by decide) (fun K hK => ?_)
                          have hs50 : w49.cell? ⟨gb169, 0, none⟩ = some (.int .i64 0) := (blk_cell BK169.out 0).trans rfl
                          have hfs50 := blk_frozen BK169.out 0
                          have hns50_0 := NB162_169.out
                          have hms50_0 := NB169_162.out
                          have hs51 : w49.cell? ⟨gb169, 1, none⟩ = some (.int .i64 0) := (blk_cell BK169.out 1).trans rfl
                          have hfs51 := blk_frozen BK169.out 1
                          have hns51_0 := NB162_169.out
                          have hms51_0 := NB169_162.out
                          have hs52 : w49.cell? ⟨gb169, 2, none⟩ = some (.int .i64 0) := (blk_cell BK169.out 2).trans rfl
                          have hfs52 := blk_frozen BK169.out 2
                          have hns52_0 := NB162_169.out
                          have hms52_0 := NB169_162.out
                          have hs53 : w49.cell? ⟨gb169, 3, none⟩ = some (.int .i64 0) := (blk_cell BK169.out 3).trans rfl
                          have hfs53 := blk_frozen BK169.out 3
                          have hns53_0 := NB162_169.out
                          have hms53_0 := NB169_162.out
                          have hs54 : w49.cell? ⟨gb169, 4, none⟩ = some (.int .i64 0) := (blk_cell BK169.out 4).trans rfl
                          have hfs54 := blk_frozen BK169.out 4
                          have hns54_0 := NB162_169.out
                          have hms54_0 := NB169_162.out
                          have hs55 : w49.cell? ⟨gb169, 5, none⟩ = some (.int .i64 0) := (blk_cell BK169.out 5).trans rfl
                          have hfs55 := blk_frozen BK169.out 5
                          have hns55_0 := NB162_169.out
                          have hms55_0 := NB169_162.out
                          have hs56 : w49.cell? ⟨gb169, 6, none⟩ = some (.bool false) := (blk_cell BK169.out 6).trans rfl
                          have hfs56 := blk_frozen BK169.out 6
                          have hns56_0 := NB162_169.out
                          have hms56_0 := NB169_162.out
                          have hs57 : w49.cell? ⟨gb169, 7, none⟩ = some (.bool false) := (blk_cell BK169.out 7).trans rfl
                          have hfs57 := blk_frozen BK169.out 7
                          have hns57_0 := NB162_169.out
                          have hms57_0 := NB169_162.out
                          have hs58 : w49.cell? ⟨gb169, 8, none⟩ = some (.string (⟨#[]⟩ : ByteArray)) := (blk_cell BK169.out 8).trans rfl
                          have hfs58 := blk_frozen BK169.out 8
                          have hns58_0 := NB162_169.out
                          have hms58_0 := NB169_162.out
                          have hs59 : w49.cell? ⟨gb169, 9, none⟩ = some (.string (⟨#[]⟩ : ByteArray)) := (blk_cell BK169.out 9).trans rfl
                          have hfs59 := blk_frozen BK169.out 9
                          have hns59_0 := NB162_169.out
                          have hms59_0 := NB169_162.out
                          refine skip_ (w1 := ?_) (by rfl) rfl ?_ ?_
                          rotate_left
                          ·go_simp
                           rfl
                          refine hK.out _ _ trivial (fun hHeld => ?_)
                          clear hK K
                          refine done_ (done_of HT_.out (by kernel_rfl)) ?_
                          go_upto_region 11 with (fail)
                          go_cut [99] (fun v99 wc => ∃ (kq : Nat) (x99_45 : Bool), v99 = .bool x99_45 ∧ Aside0 (sternpostref05_Decode.j2 kq x99_45 t166 t167 (wrap64 (bt a0 8)) (wrap64 (bt a0 9)) t168 (Int.tmod t165 8192) ((Int.tmod (wrap64 (Int.tdiv t165 8192)) 2) == 1) ((Int.tmod (wrap64 (Int.tdiv t165 16384)) 2) == 1) (cutS a0 20 ((ji20) : Int).toNat) (cutS a0 ((ji20) : Int).toNat (t163 : Int).toNat) = some (r1, r2, r3, r4, r5, r6, r7, r8, r9, r10, r11)) ∧ Aside0 (kq ≤ kj13) ∧ Aside0 (wc.heap[gb162]? = some (.cells #[.int .i64 0, .int .i64 0, .int .i64 0, .int .i64 0, .int .i64 0, .int .i64 0, .bool false, .bool false, .string (⟨#[]⟩ : ByteArray), .string (⟨#[]⟩ : ByteArray)] 23 (0, 0))) ∧ Aside0 (wc.heap[gb169]? = some (.cells #[.int .i64 t166, .int .i64 t167, .int .i64 (wrap64 (bt a0 8)), .int .i64 (wrap64 (bt a0 9)), .int .i64 t168, .int .i64 (Int.tmod t165 8192), .bool ((Int.tmod (wrap64 (Int.tdiv t165 8192)) 2) == 1), .bool ((Int.tmod (wrap64 (Int.tdiv t165 16384)) 2) == 1), .string (cutS a0 20 ((ji20) : Int).toNat), .string (cutS a0 ((ji20) : Int).toNat (t163 : Int).toNat)] 23 (0, 0))) ∧ Aside0 (Below w.heap.size w wc))
                          case first =>
                           have H := HC46.out
                           clear HC46
                           by_cases c60 : 1 < (a0.size : Int)
                           ·rw [if_pos c60] at H
                            have c60b0 : decide (1 < (a0.size : Int)) = true := decide_eq_true c60
                            have c60b1 : decide (1 < a0.size) = true := decide_eq_true (by omega)
                            clear c60
                            (first | rw [c60b0] | (simp only [i64_w, i32_w]; rw [c60b0]) | skip)
                            by_cases c62 : (bt a0 1) = 0
                            ·rw [if_pos c62] at H
                             have c62b0 : ((bt a0 1) == 0) = true := beq_iff_eq.mpr c62
                             have c62b1 : ((bt a0 1) != 0) = false := bne_eq_false_iff_eq.mpr c62
                             clear c62
                             by_cases c63 : t165 ≥ 32768
                             ·rw [if_pos c63] at H
                              have c63b0 : decide (32768 ≤ t165) = true := decide_eq_true c63
                              clear c63
                              have H' := Aside0.mk H
                              clear H
                              have p61 : 0 ≤ (1 : Int) := (by omega)
                              have q61 : 1 < a0.size := (by have : (1 : Int) < (a0.size : Int) := of_decide_eq_true (by first | (with_reducible assumption) | assumption); omega)
                              have hx61 : ∀ h : 1 < a0.size, ((a0[1]'h).toNat : Int) = bt a0 1 := bt_at a0 1
                              clear p61
                              have qi61 : (1 < (a0.size : Int)) = True := eq_true (of_decide_eq_true (by first | (with_reducible assumption) | assumption))
                              replace q61 := eq_true q61
                              go_wp2
                              go_meet
                              case rel => exact ⟨_, (true), (by first | rfl | (simp; done) | (simp [*]; done)), (by first | exact H' | (simp only [hji20]; exact H')), ⟨by have := HJ1.out; have := HJ13.out; first | omega | exact Nat.le_refl _⟩, ⟨by (with_reducible repeat (first | refine blk_drewN ?_ _ | refine blk_drew ?_ | refine blk_alloc ?_ _)); refine blk_far ?_ NB162_169.out _; (with_reducible repeat (first | refine blk_drewN ?_ _ | refine blk_drew ?_ | refine blk_alloc ?_ _)); refine blk_far ?_ NB162_169.out _; (with_reducible repeat (first | refine blk_drewN ?_ _ | refine blk_drew ?_ | refine blk_alloc ?_ _)); refine blk_far ?_ NB162_169.out _; (with_reducible repeat (first | refine blk_drewN ?_ _ | refine blk_drew ?_ | refine blk_alloc ?_ _)); refine blk_far ?_ NB162_169.out _; (with_reducible repeat (first | refine blk_drewN ?_ _ | refine blk_drew ?_ | refine blk_alloc ?_ _)); refine blk_far ?_ NB162_169.out _; (with_reducible repeat (first | refine blk_drewN ?_ _ | refine blk_drew ?_ | refine blk_alloc ?_ _)); refine blk_far ?_ NB162_169.out _; (with_reducible repeat (first | refine blk_drewN ?_ _ | refine blk_drew ?_ | refine blk_alloc ?_ _)); refine blk_far ?_ NB162_169.out _; (with_reducible repeat (first | refine blk_drewN ?_ _ | refine blk_drew ?_ | refine blk_alloc ?_ _)); refine blk_far ?_ NB162_169.out _; (with_reducible repeat (first | refine blk_drewN ?_ _ | refine blk_drew ?_ | refine blk_alloc ?_ _)); refine blk_far ?_ NB162_169.out _; (with_reducible repeat (first | refine blk_drewN ?_ _ | refine blk_drew ?_ | refine blk_alloc ?_ _)); refine blk_far ?_ NB162_169.out _; (with_reducible repeat (first | refine blk_drewN ?_ _ | refine blk_drew ?_ | refine blk_alloc ?_ _)); exact BK162.out⟩, ⟨by (with_reducible repeat (first | refine blk_drewN ?_ _ | refine blk_drew ?_ | refine blk_alloc ?_ _)); refine blk_put (cs := #[.int .i64 t166, .int .i64 t167, .int .i64 (wrap64 (bt a0 8)), .int .i64 (wrap64 (bt a0 9)), .int .i64 t168, .int .i64 (Int.tmod t165 8192), .bool ((Int.tmod (wrap64 (Int.tdiv t165 8192)) 2) == 1), .bool ((Int.tmod (wrap64 (Int.tdiv t165 16384)) 2) == 1), .string (cutS a0 20 ((ji20) : Int).toNat), .string (⟨#[]⟩ : ByteArray)]) ?_ 9 _ rfl; refine blk_put (cs := #[.int .i64 t166, .int .i64 t167, .int .i64 (wrap64 (bt a0 8)), .int .i64 (wrap64 (bt a0 9)), .int .i64 t168, .int .i64 (Int.tmod t165 8192), .bool ((Int.tmod (wrap64 (Int.tdiv t165 8192)) 2) == 1), .bool ((Int.tmod (wrap64 (Int.tdiv t165 16384)) 2) == 1), .string (⟨#[]⟩ : ByteArray), .string (⟨#[]⟩ : ByteArray)]) ?_ 8 _ rfl; refine blk_put (cs := #[.int .i64 t166, .int .i64 t167, .int .i64 (wrap64 (bt a0 8)), .int .i64 (wrap64 (bt a0 9)), .int .i64 t168, .int .i64 (Int.tmod t165 8192), .bool ((Int.tmod (wrap64 (Int.tdiv t165 8192)) 2) == 1), .bool false, .string (⟨#[]⟩ : ByteArray), .string (⟨#[]⟩ : ByteArray)]) ?_ 7 _ rfl; refine blk_put (cs := #[.int .i64 t166, .int .i64 t167, .int .i64 (wrap64 (bt a0 8)), .int .i64 (wrap64 (bt a0 9)), .int .i64 t168, .int .i64 (Int.tmod t165 8192), .bool false, .bool false, .string (⟨#[]⟩ : ByteArray), .string (⟨#[]⟩ : ByteArray)]) ?_ 6 _ rfl; refine blk_put (cs := #[.int .i64 t166, .int .i64 t167, .int .i64 (wrap64 (bt a0 8)), .int .i64 (wrap64 (bt a0 9)), .int .i64 t168, .int .i64 0, .bool false, .bool false, .string (⟨#[]⟩ : ByteArray), .string (⟨#[]⟩ : ByteArray)]) ?_ 5 _ rfl; refine blk_put (cs := #[.int .i64 t166, .int .i64 t167, .int .i64 (wrap64 (bt a0 8)), .int .i64 (wrap64 (bt a0 9)), .int .i64 0, .int .i64 0, .bool false, .bool false, .string (⟨#[]⟩ : ByteArray), .string (⟨#[]⟩ : ByteArray)]) ?_ 4 _ rfl; refine blk_put (cs := #[.int .i64 t166, .int .i64 t167, .int .i64 (wrap64 (bt a0 8)), .int .i64 0, .int .i64 0, .int .i64 0, .bool false, .bool false, .string (⟨#[]⟩ : ByteArray), .string (⟨#[]⟩ : ByteArray)]) ?_ 3 _ rfl; refine blk_put (cs := #[.int .i64 t166, .int .i64 t167, .int .i64 0, .int .i64 0, .int .i64 0, .int .i64 0, .bool false, .bool false, .string (⟨#[]⟩ : ByteArray), .string (⟨#[]⟩ : ByteArray)]) ?_ 2 _ rfl; refine blk_put (cs := #[.int .i64 t166, .int .i64 0, .int .i64 0, .int .i64 0, .int .i64 0, .int .i64 0, .bool false, .bool false, .string (⟨#[]⟩ : ByteArray), .string (⟨#[]⟩ : ByteArray)]) ?_ 1 _ rfl; refine blk_put (cs := #[.int .i64 0, .int .i64 0, .int .i64 0, .int .i64 0, .int .i64 0, .int .i64 0, .bool false, .bool false, .string (⟨#[]⟩ : ByteArray), .string (⟨#[]⟩ : ByteArray)]) ?_ 0 _ rfl; (with_reducible repeat (first | refine blk_drewN ?_ _ | refine blk_drew ?_ | refine blk_alloc ?_ _)); exact BK169.out⟩, ⟨by repeat (first | (with_reducible first | exact HB.out | apply below_alloc | apply pw_below_drewN | apply below_drew1 | refine below_set ?_ GE162.out | refine below_set ?_ GE169.out) | exact HB.out)⟩⟩
                             ·rw [if_neg c63] at H
                              have c63b0 : decide (32768 ≤ t165) = false := decide_eq_false c63
                              clear c63
                              replace H := Option.bind_eq_some_iff.mp H
                              obtain ⟨t170, A640, H⟩ := H
                              replace H : (sternpostref05_Decode.j2 kj13 (t170 != 0) t166 t167 (wrap64 (bt a0 8)) (wrap64 (bt a0 9)) t168 (Int.tmod t165 8192) ((Int.tmod (wrap64 (Int.tdiv t165 8192)) 2) == 1) ((Int.tmod (wrap64 (Int.tdiv t165 16384)) 2) == 1) (cutS a0 20 ((ji20) : Int).toNat) (cutS a0 ((ji20) : Int).toNat (t163 : Int).toNat)) = some (r1, r2, r3, r4, r5, r6, r7, r8, r9, r10, r11) := H
                              have A64 := Aside0.mk A640
                              clear A640
                              have H' := Aside0.mk H
                              clear H
                              have p61 : 0 ≤ (1 : Int) := (by omega)
                              have q61 : 1 < a0.size := (by have : (1 : Int) < (a0.size : Int) := of_decide_eq_true (by first | (with_reducible assumption) | assumption); omega)
                              have hx61 : ∀ h : 1 < a0.size, ((a0[1]'h).toNat : Int) = bt a0 1 := bt_at a0 1
                              clear p61
                              have qi61 : (1 < (a0.size : Int)) = True := eq_true (of_decide_eq_true (by first | (with_reducible assumption) | assumption))
                              replace q61 := eq_true q61
                              have hnb65 := NB169_162.out
                              have hnc65 := NB162_169.out
                              have hcz66_0 : w49.cell? ⟨gb169, 0, none⟩ = some (.int .i64 0) := (blk_cell BK169.out 0).trans rfl
                              have hcz66_1 : w49.cell? ⟨gb169, 1, none⟩ = some (.int .i64 0) := (blk_cell BK169.out 1).trans rfl
                              have hcz66_2 : w49.cell? ⟨gb169, 2, none⟩ = some (.int .i64 0) := (blk_cell BK169.out 2).trans rfl
                              have hcz66_3 : w49.cell? ⟨gb169, 3, none⟩ = some (.int .i64 0) := (blk_cell BK169.out 3).trans rfl
                              have hcz66_4 : w49.cell? ⟨gb169, 4, none⟩ = some (.int .i64 0) := (blk_cell BK169.out 4).trans rfl
                              have hcz66_5 : w49.cell? ⟨gb169, 5, none⟩ = some (.int .i64 0) := (blk_cell BK169.out 5).trans rfl
                              have hcz66_6 : w49.cell? ⟨gb169, 6, none⟩ = some (.bool false) := (blk_cell BK169.out 6).trans rfl
                              have hcz66_7 : w49.cell? ⟨gb169, 7, none⟩ = some (.bool false) := (blk_cell BK169.out 7).trans rfl
                              have hcz66_8 : w49.cell? ⟨gb169, 8, none⟩ = some (.string (⟨#[]⟩ : ByteArray)) := (blk_cell BK169.out 8).trans rfl
                              have hcz66_9 : w49.cell? ⟨gb169, 9, none⟩ = some (.string (⟨#[]⟩ : ByteArray)) := (blk_cell BK169.out 9).trans rfl
                              have hfz66_0 := blk_frozen BK169.out 0
                              have hfz66_1 := blk_frozen BK169.out 1
                              have hfz66_2 := blk_frozen BK169.out 2
                              have hfz66_3 := blk_frozen BK169.out 3
                              have hfz66_4 := blk_frozen BK169.out 4
                              have hfz66_5 := blk_frozen BK169.out 5
                              have hfz66_6 := blk_frozen BK169.out 6
                              have hfz66_7 := blk_frozen BK169.out 7
                              have hfz66_8 := blk_frozen BK169.out 8
                              have hfz66_9 := blk_frozen BK169.out 9
                              go_wp2_with (first | (go_at_call 13; (with_reducible refine (sternpostref05_Check.calls kj13 t166 t167 (wrap64 (bt a0 8)) (wrap64 (bt a0 9)) t168 (Int.tmod t165 8192) ((Int.tmod (wrap64 (Int.tdiv t165 8192)) 2) == 1) ((Int.tmod (wrap64 (Int.tdiv t165 16384)) 2) == 1) (cutS a0 20 ((ji20) : Int).toNat) (cutS a0 ((ji20) : Int).toNat (t163 : Int).toNat) t170 _ A64.out).mono ?_); rintro e w67 ⟨rfl, hb⟩; have n0_ := Aside0.mk (blk_below (g := gb162) (o := .cells #[.int .i64 0, .int .i64 0, .int .i64 0, .int .i64 0, .int .i64 0, .int .i64 0, .bool false, .bool false, .string (⟨#[]⟩ : ByteArray), .string (⟨#[]⟩ : ByteArray)] 23 (0, 0)) (by (with_reducible repeat (first | refine blk_drewN ?_ _ | refine blk_drew ?_ | refine blk_alloc ?_ _)); refine blk_far ?_ NB162_169.out _; (with_reducible repeat (first | refine blk_drewN ?_ _ | refine blk_drew ?_ | refine blk_alloc ?_ _)); refine blk_far ?_ NB162_169.out _; (with_reducible repeat (first | refine blk_drewN ?_ _ | refine blk_drew ?_ | refine blk_alloc ?_ _)); refine blk_far ?_ NB162_169.out _; (with_reducible repeat (first | refine blk_drewN ?_ _ | refine blk_drew ?_ | refine blk_alloc ?_ _)); refine blk_far ?_ NB162_169.out _; (with_reducible repeat (first | refine blk_drewN ?_ _ | refine blk_drew ?_ | refine blk_alloc ?_ _)); refine blk_far ?_ NB162_169.out _; (with_reducible repeat (first | refine blk_drewN ?_ _ | refine blk_drew ?_ | refine blk_alloc ?_ _)); refine blk_far ?_ NB162_169.out _; (with_reducible repeat (first | refine blk_drewN ?_ _ | refine blk_drew ?_ | refine blk_alloc ?_ _)); refine blk_far ?_ NB162_169.out _; (with_reducible repeat (first | refine blk_drewN ?_ _ | refine blk_drew ?_ | refine blk_alloc ?_ _)); refine blk_far ?_ NB162_169.out _; (with_reducible repeat (first | refine blk_drewN ?_ _ | refine blk_drew ?_ | refine blk_alloc ?_ _)); refine blk_far ?_ NB162_169.out _; (with_reducible repeat (first | refine blk_drewN ?_ _ | refine blk_drew ?_ | refine blk_alloc ?_ _)); refine blk_far ?_ NB162_169.out _; (with_reducible repeat (first | refine blk_drewN ?_ _ | refine blk_drew ?_ | refine blk_alloc ?_ _)); exact BK162.out) hb); have n1_ := Aside0.mk (blk_below (g := gb169) (o := .cells #[.int .i64 t166, .int .i64 t167, .int .i64 (wrap64 (bt a0 8)), .int .i64 (wrap64 (bt a0 9)), .int .i64 t168, .int .i64 (Int.tmod t165 8192), .bool ((Int.tmod (wrap64 (Int.tdiv t165 8192)) 2) == 1), .bool ((Int.tmod (wrap64 (Int.tdiv t165 16384)) 2) == 1), .string (cutS a0 20 ((ji20) : Int).toNat), .string (cutS a0 ((ji20) : Int).toNat (t163 : Int).toNat)] 23 (0, 0)) (by (with_reducible repeat (first | refine blk_drewN ?_ _ | refine blk_drew ?_ | refine blk_alloc ?_ _)); refine blk_put (cs := #[.int .i64 t166, .int .i64 t167, .int .i64 (wrap64 (bt a0 8)), .int .i64 (wrap64 (bt a0 9)), .int .i64 t168, .int .i64 (Int.tmod t165 8192), .bool ((Int.tmod (wrap64 (Int.tdiv t165 8192)) 2) == 1), .bool ((Int.tmod (wrap64 (Int.tdiv t165 16384)) 2) == 1), .string (cutS a0 20 ((ji20) : Int).toNat), .string (⟨#[]⟩ : ByteArray)]) ?_ 9 _ rfl; refine blk_put (cs := #[.int .i64 t166, .int .i64 t167, .int .i64 (wrap64 (bt a0 8)), .int .i64 (wrap64 (bt a0 9)), .int .i64 t168, .int .i64 (Int.tmod t165 8192), .bool ((Int.tmod (wrap64 (Int.tdiv t165 8192)) 2) == 1), .bool ((Int.tmod (wrap64 (Int.tdiv t165 16384)) 2) == 1), .string (⟨#[]⟩ : ByteArray), .string (⟨#[]⟩ : ByteArray)]) ?_ 8 _ rfl; refine blk_put (cs := #[.int .i64 t166, .int .i64 t167, .int .i64 (wrap64 (bt a0 8)), .int .i64 (wrap64 (bt a0 9)), .int .i64 t168, .int .i64 (Int.tmod t165 8192), .bool ((Int.tmod (wrap64 (Int.tdiv t165 8192)) 2) == 1), .bool false, .string (⟨#[]⟩ : ByteArray), .string (⟨#[]⟩ : ByteArray)]) ?_ 7 _ rfl; refine blk_put (cs := #[.int .i64 t166, .int .i64 t167, .int .i64 (wrap64 (bt a0 8)), .int .i64 (wrap64 (bt a0 9)), .int .i64 t168, .int .i64 (Int.tmod t165 8192), .bool false, .bool false, .string (⟨#[]⟩ : ByteArray), .string (⟨#[]⟩ : ByteArray)]) ?_ 6 _ rfl; refine blk_put (cs := #[.int .i64 t166, .int .i64 t167, .int .i64 (wrap64 (bt a0 8)), .int .i64 (wrap64 (bt a0 9)), .int .i64 t168, .int .i64 0, .bool false, .bool false, .string (⟨#[]⟩ : ByteArray), .string (⟨#[]⟩ : ByteArray)]) ?_ 5 _ rfl; refine blk_put (cs := #[.int .i64 t166, .int .i64 t167, .int .i64 (wrap64 (bt a0 8)), .int .i64 (wrap64 (bt a0 9)), .int .i64 0, .int .i64 0, .bool false, .bool false, .string (⟨#[]⟩ : ByteArray), .string (⟨#[]⟩ : ByteArray)]) ?_ 4 _ rfl; refine blk_put (cs := #[.int .i64 t166, .int .i64 t167, .int .i64 (wrap64 (bt a0 8)), .int .i64 0, .int .i64 0, .int .i64 0, .bool false, .bool false, .string (⟨#[]⟩ : ByteArray), .string (⟨#[]⟩ : ByteArray)]) ?_ 3 _ rfl; refine blk_put (cs := #[.int .i64 t166, .int .i64 t167, .int .i64 0, .int .i64 0, .int .i64 0, .int .i64 0, .bool false, .bool false, .string (⟨#[]⟩ : ByteArray), .string (⟨#[]⟩ : ByteArray)]) ?_ 2 _ rfl; refine blk_put (cs := #[.int .i64 t166, .int .i64 0, .int .i64 0, .int .i64 0, .int .i64 0, .int .i64 0, .bool false, .bool false, .string (⟨#[]⟩ : ByteArray), .string (⟨#[]⟩ : ByteArray)]) ?_ 1 _ rfl; refine blk_put (cs := #[.int .i64 0, .int .i64 0, .int .i64 0, .int .i64 0, .int .i64 0, .int .i64 0, .bool false, .bool false, .string (⟨#[]⟩ : ByteArray), .string (⟨#[]⟩ : ByteArray)]) ?_ 0 _ rfl; (with_reducible repeat (first | refine blk_drewN ?_ _ | refine blk_drew ?_ | refine blk_alloc ?_ _)); exact BK169.out) hb); have n2_ := Aside0.mk (below_step (by repeat (first | (with_reducible first | exact HB.out | apply below_alloc | apply pw_below_drewN | apply below_drew1 | refine below_set ?_ GE162.out | refine below_set ?_ GE169.out) | exact HB.out)) hb); clear BK162; clear BK169; clear HB; have BK162 := n0_; have BK169 := n1_; have HB := n2_; clear n0_ n1_ n2_; (try clear hb); (try clear hb2); (try clear hk); (try clear hi)))
                              go_meet
                              case rel => exact ⟨_, ((t170 != 0)), (by first | rfl | (simp; done) | (simp [*]; done)), (by first | exact H' | (simp only [hji20]; exact H')), ⟨by have := HJ1.out; have := HJ13.out; first | omega | exact Nat.le_refl _⟩, ⟨by (with_reducible repeat (first | refine blk_drewN ?_ _ | refine blk_drew ?_ | refine blk_alloc ?_ _)); exact BK162.out⟩, ⟨by (with_reducible repeat (first | refine blk_drewN ?_ _ | refine blk_drew ?_ | refine blk_alloc ?_ _)); exact BK169.out⟩, ⟨by repeat (first | (with_reducible first | exact HB.out | apply below_alloc | apply pw_below_drewN | apply below_drew1 | refine below_set ?_ GE162.out | refine below_set ?_ GE169.out) | exact HB.out)⟩⟩
                            ·rw [if_neg c62] at H
                             have c62b0 : ((bt a0 1) == 0) = false := beq_eq_false_iff_ne.mpr c62
                             have c62b1 : ((bt a0 1) != 0) = true := bne_iff_ne.mpr c62
                             have H' := Aside0.mk H
                             clear H
                             have p61 : 0 ≤ (1 : Int) := (by omega)
                             have q61 : 1 < a0.size := (by have : (1 : Int) < (a0.size : Int) := of_decide_eq_true (by first | (with_reducible assumption) | assumption); omega)
                             have hx61 : ∀ h : 1 < a0.size, ((a0[1]'h).toNat : Int) = bt a0 1 := bt_at a0 1
                             clear p61
                             have qi61 : (1 < (a0.size : Int)) = True := eq_true (of_decide_eq_true (by first | (with_reducible assumption) | assumption))
                             replace q61 := eq_true q61
                             go_wp2
                             go_meet
                             case rel => exact ⟨_, (true), (by first | rfl | (simp; done) | (simp [*]; done)), (by first | exact H' | (simp only [hji20]; exact H')), ⟨by have := HJ1.out; have := HJ13.out; first | omega | exact Nat.le_refl _⟩, ⟨by (with_reducible repeat (first | refine blk_drewN ?_ _ | refine blk_drew ?_ | refine blk_alloc ?_ _)); refine blk_far ?_ NB162_169.out _; (with_reducible repeat (first | refine blk_drewN ?_ _ | refine blk_drew ?_ | refine blk_alloc ?_ _)); refine blk_far ?_ NB162_169.out _; (with_reducible repeat (first | refine blk_drewN ?_ _ | refine blk_drew ?_ | refine blk_alloc ?_ _)); refine blk_far ?_ NB162_169.out _; (with_reducible repeat (first | refine blk_drewN ?_ _ | refine blk_drew ?_ | refine blk_alloc ?_ _)); refine blk_far ?_ NB162_169.out _; (with_reducible repeat (first | refine blk_drewN ?_ _ | refine blk_drew ?_ | refine blk_alloc ?_ _)); refine blk_far ?_ NB162_169.out _; (with_reducible repeat (first | refine blk_drewN ?_ _ | refine blk_drew ?_ | refine blk_alloc ?_ _)); refine blk_far ?_ NB162_169.out _; (with_reducible repeat (first | refine blk_drewN ?_ _ | refine blk_drew ?_ | refine blk_alloc ?_ _)); refine blk_far ?_ NB162_169.out _; (with_reducible repeat (first | refine blk_drewN ?_ _ | refine blk_drew ?_ | refine blk_alloc ?_ _)); refine blk_far ?_ NB162_169.out _; (with_reducible repeat (first | refine blk_drewN ?_ _ | refine blk_drew ?_ | refine blk_alloc ?_ _)); refine blk_far ?_ NB162_169.out _; (with_reducible repeat (first | refine blk_drewN ?_ _ | refine blk_drew ?_ | refine blk_alloc ?_ _)); refine blk_far ?_ NB162_169.out _; (with_reducible repeat (first | refine blk_drewN ?_ _ | refine blk_drew ?_ | refine blk_alloc ?_ _)); exact BK162.out⟩, ⟨by (with_reducible repeat (first | refine blk_drewN ?_ _ | refine blk_drew ?_ | refine blk_alloc ?_ _)); refine blk_put (cs := #[.int .i64 t166, .int .i64 t167, .int .i64 (wrap64 (bt a0 8)), .int .i64 (wrap64 (bt a0 9)), .int .i64 t168, .int .i64 (Int.tmod t165 8192), .bool ((Int.tmod (wrap64 (Int.tdiv t165 8192)) 2) == 1), .bool ((Int.tmod (wrap64 (Int.tdiv t165 16384)) 2) == 1), .string (cutS a0 20 ((ji20) : Int).toNat), .string (⟨#[]⟩ : ByteArray)]) ?_ 9 _ rfl; refine blk_put (cs := #[.int .i64 t166, .int .i64 t167, .int .i64 (wrap64 (bt a0 8)), .int .i64 (wrap64 (bt a0 9)), .int .i64 t168, .int .i64 (Int.tmod t165 8192), .bool ((Int.tmod (wrap64 (Int.tdiv t165 8192)) 2) == 1), .bool ((Int.tmod (wrap64 (Int.tdiv t165 16384)) 2) == 1), .string (⟨#[]⟩ : ByteArray), .string (⟨#[]⟩ : ByteArray)]) ?_ 8 _ rfl; refine blk_put (cs := #[.int .i64 t166, .int .i64 t167, .int .i64 (wrap64 (bt a0 8)), .int .i64 (wrap64 (bt a0 9)), .int .i64 t168, .int .i64 (Int.tmod t165 8192), .bool ((Int.tmod (wrap64 (Int.tdiv t165 8192)) 2) == 1), .bool false, .string (⟨#[]⟩ : ByteArray), .string (⟨#[]⟩ : ByteArray)]) ?_ 7 _ rfl; refine blk_put (cs := #[.int .i64 t166, .int .i64 t167, .int .i64 (wrap64 (bt a0 8)), .int .i64 (wrap64 (bt a0 9)), .int .i64 t168, .int .i64 (Int.tmod t165 8192), .bool false, .bool false, .string (⟨#[]⟩ : ByteArray), .string (⟨#[]⟩ : ByteArray)]) ?_ 6 _ rfl; refine blk_put (cs := #[.int .i64 t166, .int .i64 t167, .int .i64 (wrap64 (bt a0 8)), .int .i64 (wrap64 (bt a0 9)), .int .i64 t168, .int .i64 0, .bool false, .bool false, .string (⟨#[]⟩ : ByteArray), .string (⟨#[]⟩ : ByteArray)]) ?_ 5 _ rfl; refine blk_put (cs := #[.int .i64 t166, .int .i64 t167, .int .i64 (wrap64 (bt a0 8)), .int .i64 (wrap64 (bt a0 9)), .int .i64 0, .int .i64 0, .bool false, .bool false, .string (⟨#[]⟩ : ByteArray), .string (⟨#[]⟩ : ByteArray)]) ?_ 4 _ rfl; refine blk_put (cs := #[.int .i64 t166, .int .i64 t167, .int .i64 (wrap64 (bt a0 8)), .int .i64 0, .int .i64 0, .int .i64 0, .bool false, .bool false, .string (⟨#[]⟩ : ByteArray), .string (⟨#[]⟩ : ByteArray)]) ?_ 3 _ rfl; refine blk_put (cs := #[.int .i64 t166, .int .i64 t167, .int .i64 0, .int .i64 0, .int .i64 0, .int .i64 0, .bool false, .bool false, .string (⟨#[]⟩ : ByteArray), .string (⟨#[]⟩ : ByteArray)]) ?_ 2 _ rfl; refine blk_put (cs := #[.int .i64 t166, .int .i64 0, .int .i64 0, .int .i64 0, .int .i64 0, .int .i64 0, .bool false, .bool false, .string (⟨#[]⟩ : ByteArray), .string (⟨#[]⟩ : ByteArray)]) ?_ 1 _ rfl; refine blk_put (cs := #[.int .i64 0, .int .i64 0, .int .i64 0, .int .i64 0, .int .i64 0, .int .i64 0, .bool false, .bool false, .string (⟨#[]⟩ : ByteArray), .string (⟨#[]⟩ : ByteArray)]) ?_ 0 _ rfl; (with_reducible repeat (first | refine blk_drewN ?_ _ | refine blk_drew ?_ | refine blk_alloc ?_ _)); exact BK169.out⟩, ⟨by repeat (first | (with_reducible first | exact HB.out | apply below_alloc | apply pw_below_drewN | apply below_drew1 | refine below_set ?_ GE162.out | refine below_set ?_ GE169.out) | exact HB.out)⟩⟩
                           ·rw [if_neg c60] at H
                            exact absurd H (by simp)
                          case rest =>
                           clear HC46
                           try clear p2; try clear c3; try clear c6; try clear p6; try clear q6; try clear hx6; try clear qi6; try clear c32; try clear c60; try clear c60b0; try clear c60b1; try clear p61; try clear q61; try clear hx61; try clear qi61; try clear c62; try clear c62b0; try clear c62b1; try clear c63; try clear c63b0; try clear p64; try clear c65; try clear hcz66_0; try clear hcz66_1; try clear hcz66_2; try clear hcz66_3; try clear hcz66_4; try clear hcz66_5; try clear hcz66_6; try clear hcz66_7; try clear hcz66_8; try clear hcz66_9; try clear hfz66_0; try clear hfz66_1; try clear hfz66_2; try clear hfz66_3; try clear hfz66_4; try clear hfz66_5; try clear hfz66_6; try clear hfz66_7; try clear hfz66_8; try clear hfz66_9; try clear p61; try clear q61
                           obtain ⟨kq, x99_45, rfl, HA, HJ45, BK162, BK169, HB⟩ := hcut
                           cases kq with
                           | zero => exact absurd HA.out (by simp [sternpostref05_Decode.j2])
                           | succ kj45 =>
                            have H := HA.out
                            clear HA
                            simp only [sternpostref05_Decode.j2] at H
                            by_cases c68 : x99_45 = true
                            ·subst c68
                             have H1 : (some (0, 0, 0, 0, 0, 0, false, false, (⟨#[]⟩ : ByteArray), (⟨#[]⟩ : ByteArray), 50)) = some (r1, r2, r3, r4, r5, r6, r7, r8, r9, r10, r11) := by rw [if_pos rfl] at H; exact H
                             clear H
                             have H := H1
                             clear H1
                             simp only [Option.some.injEq, Prod.mk.injEq] at H
                             obtain ⟨rfl, rfl, rfl, rfl, rfl, rfl, rfl, rfl, rfl, rfl, rfl⟩ := H
                             have hnb69 := NB162_169.out
                             have hnc69 := NB169_162.out
                             have hcz70_0 : wc.cell? ⟨gb162, 0, none⟩ = some (.int .i64 0) := (blk_cell BK162.out 0).trans rfl
                             have hcz70_1 : wc.cell? ⟨gb162, 1, none⟩ = some (.int .i64 0) := (blk_cell BK162.out 1).trans rfl
                             have hcz70_2 : wc.cell? ⟨gb162, 2, none⟩ = some (.int .i64 0) := (blk_cell BK162.out 2).trans rfl
                             have hcz70_3 : wc.cell? ⟨gb162, 3, none⟩ = some (.int .i64 0) := (blk_cell BK162.out 3).trans rfl
                             have hcz70_4 : wc.cell? ⟨gb162, 4, none⟩ = some (.int .i64 0) := (blk_cell BK162.out 4).trans rfl
                             have hcz70_5 : wc.cell? ⟨gb162, 5, none⟩ = some (.int .i64 0) := (blk_cell BK162.out 5).trans rfl
                             have hcz70_6 : wc.cell? ⟨gb162, 6, none⟩ = some (.bool false) := (blk_cell BK162.out 6).trans rfl
                             have hcz70_7 : wc.cell? ⟨gb162, 7, none⟩ = some (.bool false) := (blk_cell BK162.out 7).trans rfl
                             have hcz70_8 : wc.cell? ⟨gb162, 8, none⟩ = some (.string (⟨#[]⟩ : ByteArray)) := (blk_cell BK162.out 8).trans rfl
                             have hcz70_9 : wc.cell? ⟨gb162, 9, none⟩ = some (.string (⟨#[]⟩ : ByteArray)) := (blk_cell BK162.out 9).trans rfl
                             have hfz70_0 := blk_frozen BK162.out 0
                             have hfz70_1 := blk_frozen BK162.out 1
                             have hfz70_2 := blk_frozen BK162.out 2
                             have hfz70_3 := blk_frozen BK162.out 3
                             have hfz70_4 := blk_frozen BK162.out 4
                             have hfz70_5 := blk_frozen BK162.out 5
                             have hfz70_6 := blk_frozen BK162.out 6
                             have hfz70_7 := blk_frozen BK162.out 7
                             have hfz70_8 := blk_frozen BK162.out 8
                             have hfz70_9 := blk_frozen BK162.out 9
                             go_wp2
                             refine bodyPost_ret (results_ct rfl _ _ gb162 23 #[.int .i64 0, .int .i64 0, .int .i64 0, .int .i64 0, .int .i64 0, .int .i64 0, .bool false, .bool false, .string (⟨#[]⟩ : ByteArray), .string (⟨#[]⟩ : ByteArray)] (0, 0) _ rfl (by (with_reducible repeat (first | refine blk_drewN ?_ _ | refine blk_drew ?_ | refine blk_alloc ?_ _)); refine blk_put (cs := #[.int .i64 0, .int .i64 0, .int .i64 0, .int .i64 0, .int .i64 0, .int .i64 0, .bool false, .bool false, .string (⟨#[]⟩ : ByteArray), .string (⟨#[]⟩ : ByteArray)]) ?_ 9 _ rfl; refine blk_put (cs := #[.int .i64 0, .int .i64 0, .int .i64 0, .int .i64 0, .int .i64 0, .int .i64 0, .bool false, .bool false, .string (⟨#[]⟩ : ByteArray), .string (⟨#[]⟩ : ByteArray)]) ?_ 8 _ rfl; refine blk_put (cs := #[.int .i64 0, .int .i64 0, .int .i64 0, .int .i64 0, .int .i64 0, .int .i64 0, .bool false, .bool false, .string (⟨#[]⟩ : ByteArray), .string (⟨#[]⟩ : ByteArray)]) ?_ 7 _ rfl; refine blk_put (cs := #[.int .i64 0, .int .i64 0, .int .i64 0, .int .i64 0, .int .i64 0, .int .i64 0, .bool false, .bool false, .string (⟨#[]⟩ : ByteArray), .string (⟨#[]⟩ : ByteArray)]) ?_ 6 _ rfl; refine blk_put (cs := #[.int .i64 0, .int .i64 0, .int .i64 0, .int .i64 0, .int .i64 0, .int .i64 0, .bool false, .bool false, .string (⟨#[]⟩ : ByteArray), .string (⟨#[]⟩ : ByteArray)]) ?_ 5 _ rfl; refine blk_put (cs := #[.int .i64 0, .int .i64 0, .int .i64 0, .int .i64 0, .int .i64 0, .int .i64 0, .bool false, .bool false, .string (⟨#[]⟩ : ByteArray), .string (⟨#[]⟩ : ByteArray)]) ?_ 4 _ rfl; refine blk_put (cs := #[.int .i64 0, .int .i64 0, .int .i64 0, .int .i64 0, .int .i64 0, .int .i64 0, .bool false, .bool false, .string (⟨#[]⟩ : ByteArray), .string (⟨#[]⟩ : ByteArray)]) ?_ 3 _ rfl; refine blk_put (cs := #[.int .i64 0, .int .i64 0, .int .i64 0, .int .i64 0, .int .i64 0, .int .i64 0, .bool false, .bool false, .string (⟨#[]⟩ : ByteArray), .string (⟨#[]⟩ : ByteArray)]) ?_ 2 _ rfl; refine blk_put (cs := #[.int .i64 0, .int .i64 0, .int .i64 0, .int .i64 0, .int .i64 0, .int .i64 0, .bool false, .bool false, .string (⟨#[]⟩ : ByteArray), .string (⟨#[]⟩ : ByteArray)]) ?_ 1 _ rfl; refine blk_put (cs := #[.int .i64 0, .int .i64 0, .int .i64 0, .int .i64 0, .int .i64 0, .int .i64 0, .bool false, .bool false, .string (⟨#[]⟩ : ByteArray), .string (⟨#[]⟩ : ByteArray)]) ?_ 0 _ rfl; (with_reducible repeat (first | refine blk_drewN ?_ _ | refine blk_drew ?_ | refine blk_alloc ?_ _)); exact BK162.out) Try.underlying23 rfl (by kernel_rfl)) rfl ?_
                             exact ⟨by first | rfl | (simp [errW_none, errW_some] <;> rfl) | (simp only [← hji20]; first | rfl | (simp [errW_none, errW_some] <;> rfl)) | (simp [*, errW_none, errW_some] <;> rfl), by repeat (first | (with_reducible first | exact HB.out | apply below_alloc | apply pw_below_drewN | apply below_drew1 | refine below_set ?_ GE162.out | refine below_set ?_ GE169.out) | exact HB.out)⟩
                            ·replace c68 := Bool.eq_false_iff.mpr c68
                             subst c68
                             have H1 : (some (t166, t167, (wrap64 (bt a0 8)), (wrap64 (bt a0 9)), t168, (Int.tmod t165 8192), ((Int.tmod (wrap64 (Int.tdiv t165 8192)) 2) == 1), ((Int.tmod (wrap64 (Int.tdiv t165 16384)) 2) == 1), (cutS a0 20 ((ji20) : Int).toNat), (cutS a0 ((ji20) : Int).toNat (t163 : Int).toNat), 0)) = some (r1, r2, r3, r4, r5, r6, r7, r8, r9, r10, r11) := by rw [if_neg (show ¬ (false = true) by decide)] at H; exact H
                             clear H
                             have H := H1
                             clear H1
                             simp only [Option.some.injEq, Prod.mk.injEq] at H
                             obtain ⟨rfl, rfl, rfl, rfl, rfl, rfl, rfl, rfl, rfl, rfl, rfl⟩ := H
                             have hnb71 := NB169_162.out
                             have hnc71 := NB162_169.out
                             have hcz72_0 : wc.cell? ⟨gb169, 0, none⟩ = some (.int .i64 t166) := (blk_cell BK169.out 0).trans rfl
                             have hcz72_1 : wc.cell? ⟨gb169, 1, none⟩ = some (.int .i64 t167) := (blk_cell BK169.out 1).trans rfl
                             have hcz72_2 : wc.cell? ⟨gb169, 2, none⟩ = some (.int .i64 (wrap64 (bt a0 8))) := (blk_cell BK169.out 2).trans rfl
                             have hcz72_3 : wc.cell? ⟨gb169, 3, none⟩ = some (.int .i64 (wrap64 (bt a0 9))) := (blk_cell BK169.out 3).trans rfl
                             have hcz72_4 : wc.cell? ⟨gb169, 4, none⟩ = some (.int .i64 t168) := (blk_cell BK169.out 4).trans rfl
                             have hcz72_5 : wc.cell? ⟨gb169, 5, none⟩ = some (.int .i64 (Int.tmod t165 8192)) := (blk_cell BK169.out 5).trans rfl
                             have hcz72_6 : wc.cell? ⟨gb169, 6, none⟩ = some (.bool ((Int.tmod (wrap64 (Int.tdiv t165 8192)) 2) == 1)) := (blk_cell BK169.out 6).trans rfl
                             have hcz72_7 : wc.cell? ⟨gb169, 7, none⟩ = some (.bool ((Int.tmod (wrap64 (Int.tdiv t165 16384)) 2) == 1)) := (blk_cell BK169.out 7).trans rfl
                             have hcz72_8 : wc.cell? ⟨gb169, 8, none⟩ = some (.string (cutS a0 20 ((ji20) : Int).toNat)) := (blk_cell BK169.out 8).trans rfl
                             have hcz72_9 : wc.cell? ⟨gb169, 9, none⟩ = some (.string (cutS a0 ((ji20) : Int).toNat (t163 : Int).toNat)) := (blk_cell BK169.out 9).trans rfl
                             have hfz72_0 := blk_frozen BK169.out 0
                             have hfz72_1 := blk_frozen BK169.out 1
                             have hfz72_2 := blk_frozen BK169.out 2
                             have hfz72_3 := blk_frozen BK169.out 3
                             have hfz72_4 := blk_frozen BK169.out 4
                             have hfz72_5 := blk_frozen BK169.out 5
                             have hfz72_6 := blk_frozen BK169.out 6
                             have hfz72_7 := blk_frozen BK169.out 7
                             have hfz72_8 := blk_frozen BK169.out 8
                             have hfz72_9 := blk_frozen BK169.out 9
                             have hcz73_0 : wc.cell? ⟨gb162, 0, none⟩ = some (.int .i64 0) := (blk_cell BK162.out 0).trans rfl
                             have hcz73_1 : wc.cell? ⟨gb162, 1, none⟩ = some (.int .i64 0) := (blk_cell BK162.out 1).trans rfl
                             have hcz73_2 : wc.cell? ⟨gb162, 2, none⟩ = some (.int .i64 0) := (blk_cell BK162.out 2).trans rfl
                             have hcz73_3 : wc.cell? ⟨gb162, 3, none⟩ = some (.int .i64 0) := (blk_cell BK162.out 3).trans rfl
                             have hcz73_4 : wc.cell? ⟨gb162, 4, none⟩ = some (.int .i64 0) := (blk_cell BK162.out 4).trans rfl
                             have hcz73_5 : wc.cell? ⟨gb162, 5, none⟩ = some (.int .i64 0) := (blk_cell BK162.out 5).trans rfl
                             have hcz73_6 : wc.cell? ⟨gb162, 6, none⟩ = some (.bool false) := (blk_cell BK162.out 6).trans rfl
                             have hcz73_7 : wc.cell? ⟨gb162, 7, none⟩ = some (.bool false) := (blk_cell BK162.out 7).trans rfl
                             have hcz73_8 : wc.cell? ⟨gb162, 8, none⟩ = some (.string (⟨#[]⟩ : ByteArray)) := (blk_cell BK162.out 8).trans rfl
                             have hcz73_9 : wc.cell? ⟨gb162, 9, none⟩ = some (.string (⟨#[]⟩ : ByteArray)) := (blk_cell BK162.out 9).trans rfl
                             have hfz73_0 := blk_frozen BK162.out 0
                             have hfz73_1 := blk_frozen BK162.out 1
                             have hfz73_2 := blk_frozen BK162.out 2
                             have hfz73_3 := blk_frozen BK162.out 3
                             have hfz73_4 := blk_frozen BK162.out 4
                             have hfz73_5 := blk_frozen BK162.out 5
                             have hfz73_6 := blk_frozen BK162.out 6
                             have hfz73_7 := blk_frozen BK162.out 7
                             have hfz73_8 := blk_frozen BK162.out 8
                             have hfz73_9 := blk_frozen BK162.out 9
                             go_wp2
                             refine bodyPost_ret (results_ct rfl _ _ gb162 23 #[.int .i64 t166, .int .i64 t167, .int .i64 (wrap64 (bt a0 8)), .int .i64 (wrap64 (bt a0 9)), .int .i64 t168, .int .i64 (Int.tmod t165 8192), .bool ((Int.tmod (wrap64 (Int.tdiv t165 8192)) 2) == 1), .bool ((Int.tmod (wrap64 (Int.tdiv t165 16384)) 2) == 1), .string (cutS a0 20 ((ji20) : Int).toNat), .string (cutS a0 ((ji20) : Int).toNat (t163 : Int).toNat)] (0, 0) _ rfl (by (with_reducible repeat (first | refine blk_drewN ?_ _ | refine blk_drew ?_ | refine blk_alloc ?_ _)); refine blk_put (cs := #[.int .i64 t166, .int .i64 t167, .int .i64 (wrap64 (bt a0 8)), .int .i64 (wrap64 (bt a0 9)), .int .i64 t168, .int .i64 (Int.tmod t165 8192), .bool ((Int.tmod (wrap64 (Int.tdiv t165 8192)) 2) == 1), .bool ((Int.tmod (wrap64 (Int.tdiv t165 16384)) 2) == 1), .string (cutS a0 20 ((ji20) : Int).toNat), .string (⟨#[]⟩ : ByteArray)]) ?_ 9 _ rfl; refine blk_put (cs := #[.int .i64 t166, .int .i64 t167, .int .i64 (wrap64 (bt a0 8)), .int .i64 (wrap64 (bt a0 9)), .int .i64 t168, .int .i64 (Int.tmod t165 8192), .bool ((Int.tmod (wrap64 (Int.tdiv t165 8192)) 2) == 1), .bool ((Int.tmod (wrap64 (Int.tdiv t165 16384)) 2) == 1), .string (⟨#[]⟩ : ByteArray), .string (⟨#[]⟩ : ByteArray)]) ?_ 8 _ rfl; refine blk_put (cs := #[.int .i64 t166, .int .i64 t167, .int .i64 (wrap64 (bt a0 8)), .int .i64 (wrap64 (bt a0 9)), .int .i64 t168, .int .i64 (Int.tmod t165 8192), .bool ((Int.tmod (wrap64 (Int.tdiv t165 8192)) 2) == 1), .bool false, .string (⟨#[]⟩ : ByteArray), .string (⟨#[]⟩ : ByteArray)]) ?_ 7 _ rfl; refine blk_put (cs := #[.int .i64 t166, .int .i64 t167, .int .i64 (wrap64 (bt a0 8)), .int .i64 (wrap64 (bt a0 9)), .int .i64 t168, .int .i64 (Int.tmod t165 8192), .bool false, .bool false, .string (⟨#[]⟩ : ByteArray), .string (⟨#[]⟩ : ByteArray)]) ?_ 6 _ rfl; refine blk_put (cs := #[.int .i64 t166, .int .i64 t167, .int .i64 (wrap64 (bt a0 8)), .int .i64 (wrap64 (bt a0 9)), .int .i64 t168, .int .i64 0, .bool false, .bool false, .string (⟨#[]⟩ : ByteArray), .string (⟨#[]⟩ : ByteArray)]) ?_ 5 _ rfl; refine blk_put (cs := #[.int .i64 t166, .int .i64 t167, .int .i64 (wrap64 (bt a0 8)), .int .i64 (wrap64 (bt a0 9)), .int .i64 0, .int .i64 0, .bool false, .bool false, .string (⟨#[]⟩ : ByteArray), .string (⟨#[]⟩ : ByteArray)]) ?_ 4 _ rfl; refine blk_put (cs := #[.int .i64 t166, .int .i64 t167, .int .i64 (wrap64 (bt a0 8)), .int .i64 0, .int .i64 0, .int .i64 0, .bool false, .bool false, .string (⟨#[]⟩ : ByteArray), .string (⟨#[]⟩ : ByteArray)]) ?_ 3 _ rfl; refine blk_put (cs := #[.int .i64 t166, .int .i64 t167, .int .i64 0, .int .i64 0, .int .i64 0, .int .i64 0, .bool false, .bool false, .string (⟨#[]⟩ : ByteArray), .string (⟨#[]⟩ : ByteArray)]) ?_ 2 _ rfl; refine blk_put (cs := #[.int .i64 t166, .int .i64 0, .int .i64 0, .int .i64 0, .int .i64 0, .int .i64 0, .bool false, .bool false, .string (⟨#[]⟩ : ByteArray), .string (⟨#[]⟩ : ByteArray)]) ?_ 1 _ rfl; refine blk_put (cs := #[.int .i64 0, .int .i64 0, .int .i64 0, .int .i64 0, .int .i64 0, .int .i64 0, .bool false, .bool false, .string (⟨#[]⟩ : ByteArray), .string (⟨#[]⟩ : ByteArray)]) ?_ 0 _ rfl; (with_reducible repeat (first | refine blk_drewN ?_ _ | refine blk_drew ?_ | refine blk_alloc ?_ _)); exact BK162.out) Try.underlying23 rfl (by kernel_rfl)) rfl ?_
                             exact ⟨by first | rfl | (simp [errW_none, errW_some] <;> rfl) | (simp only [← hji20]; first | rfl | (simp [errW_none, errW_some] <;> rfl)) | (simp [*, errW_none, errW_some] <;> rfl), by repeat (first | (with_reducible first | exact HB.out | apply below_alloc | apply pw_below_drewN | apply below_drew1 | refine below_set ?_ GE162.out | refine below_set ?_ GE169.out) | exact HB.out)⟩
                         ·rw [if_neg c45] at H
                          exact absurd H (by simp)
                        ·rw [if_neg c44] at H
                         exact absurd H (by simp)
                       ·rw [if_neg c41] at H
                        exact absurd H (by simp)
                      ·rw [if_neg c39] at H
                       exact absurd H (by simp)
                     ·rw [if_neg c38] at H
                      exact absurd H (by simp)
                    ·rw [if_neg c36] at H
                     exact absurd H (by simp)
                   ·rw [if_neg c34] at H
                    exact absurd H (by simp)
                  ·rw [if_neg c32] at H
                   exact absurd H (by simp)
                 ·rw [if_neg c31] at H
                  exact absurd H (by simp)
                ·rw [if_neg c29] at H
                 exact absurd H (by simp)
               ·rw [if_neg c28] at H
                exact absurd H (by simp)
              ·rw [if_neg c26] at H
               exact absurd H (by simp)
             ·rw [if_neg c25] at H
              exact absurd H (by simp)
            ·replace c24 := Bool.eq_false_iff.mpr c24
             subst c24
             have H1 : (some (0, 0, 0, 0, 0, 0, false, false, (⟨#[]⟩ : ByteArray), (⟨#[]⟩ : ByteArray), 20)) = some (r1, r2, r3, r4, r5, r6, r7, r8, r9, r10, r11) := by rw [if_neg (show ¬ (false = true) by decide)] at H; exact H
             clear H
             have H := H1
             clear H1
             simp only [Option.some.injEq, Prod.mk.injEq] at H
             obtain ⟨rfl, rfl, rfl, rfl, rfl, rfl, rfl, rfl, rfl, rfl, rfl⟩ := H
             go_wp2_with (first | ((with_reducible refine gate_callee (f := 33) rfl ?_); refine goesL_ (some 49) rfl rfl Try.func33 (by kernel_rfl) rfl #[.string (cutS a0 0 ((ji20) : Int).toNat)] rfl (by (try simp only [List.map_toArray, List.map_cons, List.map_nil]); first | done | (simp only [hji20]; rfl) | rfl | (simp only [List.length_drop, List.length_take]; rfl)) ?_; (with_reducible refine (sternpostref02_Whole.calls kj13 (cutS a0 0 ((ji20) : Int).toNat) false _ A23.out).mono ?_); rintro e w' ⟨rfl, ⟨nd, rfl⟩⟩; refine ⟨_, rfl, ?_⟩; (try (rw [drewN_self wc]; generalize hq_ : World.drewN wc _ = wc; have n0_ : Aside0 (wc.heap[gb162]? = some (.cells #[.int .i64 0, .int .i64 0, .int .i64 0, .int .i64 0, .int .i64 0, .int .i64 0, .bool false, .bool false, .string (⟨#[]⟩ : ByteArray), .string (⟨#[]⟩ : ByteArray)] 23 (0, 0))) := ⟨by rw [← hq_]; exact (by (with_reducible repeat (first | refine blk_drewN ?_ _ | refine blk_drew ?_ | refine blk_alloc ?_ _)); exact BK162.out)⟩; have n1_ : Aside0 (Below w.heap.size w wc) := ⟨by rw [← hq_]; exact (by repeat (first | (with_reducible first | exact HB.out | apply below_alloc | apply pw_below_drewN | apply below_drew1 | refine below_set ?_ GE162.out) | exact HB.out))⟩; clear BK162 HB hq_; have BK162 := n0_; have HB := n1_; clear n0_ n1_)); have hcz74_0 : wc.cell? ⟨gb162, 0, none⟩ = some (.int .i64 0) := (blk_cell BK162.out 0).trans rfl; have hcz74_1 : wc.cell? ⟨gb162, 1, none⟩ = some (.int .i64 0) := (blk_cell BK162.out 1).trans rfl; have hcz74_2 : wc.cell? ⟨gb162, 2, none⟩ = some (.int .i64 0) := (blk_cell BK162.out 2).trans rfl; have hcz74_3 : wc.cell? ⟨gb162, 3, none⟩ = some (.int .i64 0) := (blk_cell BK162.out 3).trans rfl; have hcz74_4 : wc.cell? ⟨gb162, 4, none⟩ = some (.int .i64 0) := (blk_cell BK162.out 4).trans rfl; have hcz74_5 : wc.cell? ⟨gb162, 5, none⟩ = some (.int .i64 0) := (blk_cell BK162.out 5).trans rfl; have hcz74_6 : wc.cell? ⟨gb162, 6, none⟩ = some (.bool false) := (blk_cell BK162.out 6).trans rfl; have hcz74_7 : wc.cell? ⟨gb162, 7, none⟩ = some (.bool false) := (blk_cell BK162.out 7).trans rfl; have hcz74_8 : wc.cell? ⟨gb162, 8, none⟩ = some (.string (⟨#[]⟩ : ByteArray)) := (blk_cell BK162.out 8).trans rfl; have hcz74_9 : wc.cell? ⟨gb162, 9, none⟩ = some (.string (⟨#[]⟩ : ByteArray)) := (blk_cell BK162.out 9).trans rfl; have hfz74_0 := blk_frozen BK162.out 0; have hfz74_1 := blk_frozen BK162.out 1; have hfz74_2 := blk_frozen BK162.out 2; have hfz74_3 := blk_frozen BK162.out 3; have hfz74_4 := blk_frozen BK162.out 4; have hfz74_5 := blk_frozen BK162.out 5; have hfz74_6 := blk_frozen BK162.out 6; have hfz74_7 := blk_frozen BK162.out 7; have hfz74_8 := blk_frozen BK162.out 8; have hfz74_9 := blk_frozen BK162.out 9))
             refine bodyPost_ret (results_ct rfl _ _ gb162 23 #[.int .i64 0, .int .i64 0, .int .i64 0, .int .i64 0, .int .i64 0, .int .i64 0, .bool false, .bool false, .string (⟨#[]⟩ : ByteArray), .string (⟨#[]⟩ : ByteArray)] (0, 0) _ rfl (by (with_reducible repeat (first | refine blk_drewN ?_ _ | refine blk_drew ?_ | refine blk_alloc ?_ _)); refine blk_put (cs := #[.int .i64 0, .int .i64 0, .int .i64 0, .int .i64 0, .int .i64 0, .int .i64 0, .bool false, .bool false, .string (⟨#[]⟩ : ByteArray), .string (⟨#[]⟩ : ByteArray)]) ?_ 9 _ rfl; refine blk_put (cs := #[.int .i64 0, .int .i64 0, .int .i64 0, .int .i64 0, .int .i64 0, .int .i64 0, .bool false, .bool false, .string (⟨#[]⟩ : ByteArray), .string (⟨#[]⟩ : ByteArray)]) ?_ 8 _ rfl; refine blk_put (cs := #[.int .i64 0, .int .i64 0, .int .i64 0, .int .i64 0, .int .i64 0, .int .i64 0, .bool false, .bool false, .string (⟨#[]⟩ : ByteArray), .string (⟨#[]⟩ : ByteArray)]) ?_ 7 _ rfl; refine blk_put (cs := #[.int .i64 0, .int .i64 0, .int .i64 0, .int .i64 0, .int .i64 0, .int .i64 0, .bool false, .bool false, .string (⟨#[]⟩ : ByteArray), .string (⟨#[]⟩ : ByteArray)]) ?_ 6 _ rfl; refine blk_put (cs := #[.int .i64 0, .int .i64 0, .int .i64 0, .int .i64 0, .int .i64 0, .int .i64 0, .bool false, .bool false, .string (⟨#[]⟩ : ByteArray), .string (⟨#[]⟩ : ByteArray)]) ?_ 5 _ rfl; refine blk_put (cs := #[.int .i64 0, .int .i64 0, .int .i64 0, .int .i64 0, .int .i64 0, .int .i64 0, .bool false, .bool false, .string (⟨#[]⟩ : ByteArray), .string (⟨#[]⟩ : ByteArray)]) ?_ 4 _ rfl; refine blk_put (cs := #[.int .i64 0, .int .i64 0, .int .i64 0, .int .i64 0, .int .i64 0, .int .i64 0, .bool false, .bool false, .string (⟨#[]⟩ : ByteArray), .string (⟨#[]⟩ : ByteArray)]) ?_ 3 _ rfl; refine blk_put (cs := #[.int .i64 0, .int .i64 0, .int .i64 0, .int .i64 0, .int .i64 0, .int .i64 0, .bool false, .bool false, .string (⟨#[]⟩ : ByteArray), .string (⟨#[]⟩ : ByteArray)]) ?_ 2 _ rfl; refine blk_put (cs := #[.int .i64 0, .int .i64 0, .int .i64 0, .int .i64 0, .int .i64 0, .int .i64 0, .bool false, .bool false, .string (⟨#[]⟩ : ByteArray), .string (⟨#[]⟩ : ByteArray)]) ?_ 1 _ rfl; refine blk_put (cs := #[.int .i64 0, .int .i64 0, .int .i64 0, .int .i64 0, .int .i64 0, .int .i64 0, .bool false, .bool false, .string (⟨#[]⟩ : ByteArray), .string (⟨#[]⟩ : ByteArray)]) ?_ 0 _ rfl; (with_reducible repeat (first | refine blk_drewN ?_ _ | refine blk_drew ?_ | refine blk_alloc ?_ _)); exact BK162.out) Try.underlying23 rfl (by kernel_rfl)) rfl ?_
             exact ⟨by first | rfl | (simp [errW_none, errW_some] <;> rfl) | (simp only [← hji20]; first | rfl | (simp [errW_none, errW_some] <;> rfl)) | (simp [*, errW_none, errW_some] <;> rfl), by repeat (first | (with_reducible first | exact HB.out | apply below_alloc | apply pw_below_drewN | apply below_drew1 | refine below_set ?_ GE162.out) | exact HB.out)⟩
           ·rw [if_neg c22] at H
            exact absurd H (by simp)
          ·rw [if_neg c21] at H
           exact absurd H (by simp)
      ·rw [if_neg c12] at H
       exact absurd H (by simp)
     ·rw [if_neg c11] at H
      exact absurd H (by simp)
    ·rw [if_neg c9] at H
     exact absurd H (by simp)

end Go.Proofs.Ytnggabbakhakaaa.PIpReads

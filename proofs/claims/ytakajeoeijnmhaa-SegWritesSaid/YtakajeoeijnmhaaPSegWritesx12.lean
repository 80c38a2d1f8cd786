-- Laid by this claim's own program over the print's words.
import Derived.Test.YtakajeoeijnmhaaPSegWritesx0
import Derived.Test.YtakajeoeijnmhaaPSegWritesx7
import Derived.Test.YtakajeoeijnmhaaPSegWritesx9
import Derived.Test.YtakajeoeijnmhaaPSegWritesx11
namespace Go.Proofs.Ytakajeoeijnmhaa.PSegWrites
open Go.RowKit Go.Proofs.YtakajeoeijnmhaaW.PrintWords Go.Proofs.YtakajeoeijnmhaaW.PrintLast Go.Proofs.YtakajeoeijnmhaaW.PrintMore
attribute [local go_sem] max2_int min2_int max_two min_two max_three min_three max_four min_four max_five min_five extract_cut tmod_nat_lit   -- for this text's walks alone
set_option linter.unusedVariables false
set_option linter.unusedSimpArgs false

/-! ### sternpostref02_fold: function 66 -/
def sternpostref02_fold.l0 : Nat → Int → Option (Int)
 | 0, _ => none
 | k + 1, x0 => if x0 > 65535 then (sternpostref02_fold.l0 k (wrap64 ((wrap64 (Int.tdiv x0 65536)) + (Int.tmod x0 65536)))) else (some x0)
def sternpostref02_fold.f (k : Nat) (a0 : Int) : Option (Int) := sternpostref02_fold.l0 k a0
theorem sternpostref02_fold.mono_l : ∀ k, (∀ y0, LeO (sternpostref02_fold.l0 k y0) (sternpostref02_fold.l0 (k + 1) y0))
 | 0 => fun _ r h => by simp [sternpostref02_fold.l0] at h
 | k + 1 => by
  have ih0 := sternpostref02_fold.mono_l k
  ·intro y0
   unfold sternpostref02_fold.l0
   repeat' first
   | (with_reducible exact ih0 _)
   | (with_reducible exact LeO.refl _)
   | (with_reducible exact LeO.none _)
   | (with_reducible refine LeO.ite ?_ ?_)
   | (with_reducible refine LeO.bind ?_ (fun _ => ?_))
   | exact ih0 _
   | exact LeO.none _
   | refine LeO.ite ?_ ?_
   | refine LeO.bind ?_ (fun _ => ?_)
theorem sternpostref02_fold.mono : ∀ a0 k, LeO (sternpostref02_fold.f k a0) (sternpostref02_fold.f (k + 1) a0) := by
 intro a0 k
 have ih0 := sternpostref02_fold.mono_l k
 unfold sternpostref02_fold.f
 repeat' first
   | (with_reducible exact ih0 _)
   | (with_reducible exact LeO.refl _)
   | (with_reducible exact LeO.none _)
   | (with_reducible refine LeO.ite ?_ ?_)
   | (with_reducible refine LeO.bind ?_ (fun _ => ?_))
   | exact ih0 _
   | exact LeO.none _
   | refine LeO.ite ?_ ?_
   | refine LeO.bind ?_ (fun _ => ?_)
set_option maxHeartbeats 8000000 in
set_option maxRecDepth 100000 in
theorem sternpostref02_fold.calls (k : Nat) (a0 : Int) (r : Int) (w : World) (h : sternpostref02_fold.f k a0 = some r) :
  Calls Try.prog 66 #[.int .i64 a0] w fun e w' => e = .returned (.int .i64 r) ∧ Drawn0 w w' := by
 have H : (sternpostref02_fold.l0 k a0) = some r := h
 clear h
 have H' := Aside0.mk H
 clear H
 go_enter Try.func66, Try.ntmps66
 go_wp2
 go_loopg [0] k (fun kq v0 w' => ∃ (x0_1 : Int), v0 = .int .i64 x0_1 ∧ Aside0 (sternpostref02_fold.l0 kq x0_1 = some r) ∧ Aside0 (kq ≤ k) ∧ Drawn0 w w')
 case atStart => exact ⟨(a0), (by first | rfl | (simp; done) | (simp [*]; done)), H', ⟨Nat.le_refl _⟩, by repeat (first | exact Drawn0.refl _ | apply Drawn0.step)⟩
 case round =>
  clear H'
  obtain ⟨x0_1, rfl, HA, HK1, ⟨m1, rfl⟩⟩ := hrel
  cases gk with
  | zero => exact absurd HA.out (by simp [sternpostref02_fold.l0])
  | succ k1 =>
   have H := HA.out
   clear HA
   simp only [sternpostref02_fold.l0] at H
   by_cases c2 : x0_1 > 65535
   ·rw [if_pos c2] at H
    have c2b0 : decide (65535 < x0_1) = true := decide_eq_true c2
    clear c2
    have H' := Aside0.mk H
    clear H
    go_wp2
    go_roundg k1
    case measure => have := HK1.out; omega
    case rel => exact ⟨(wrap64 ((wrap64 (Int.tdiv x0_1 65536)) + (Int.tmod x0_1 65536))), (by first | rfl | (simp; done) | (simp [*]; done)), H', ⟨by have := HK1.out; omega⟩, by repeat (first | exact Drawn0.refl _ | apply Drawn0.step)⟩
   ·rw [if_neg c2] at H
    have c2b0 : decide (65535 < x0_1) = false := decide_eq_false c2
    clear c2
    obtain rfl := Option.some.inj H
    go_wp2
    go_ret
    exact ⟨by first | rfl | (simp; done) | (simp [*]; done), by repeat (first | exact Drawn0.refl _ | apply Drawn0.step)⟩

/-! ### sternpostref02_Sum: function 56 -/
mutual
def sternpostref02_Sum.l0 : Nat → ByteArray → Int → Int → Option (Int)
 | 0, _, _, _ => none
 | k + 1, x0, x3, x4 => if x4 < (x0.size : Int) then (if (Int.tmod x4 2) = 0 then (if 0 ≤ x4 then (sternpostref02_Sum.j1 k x0 (wrap64 (x3 + (wrap64 (256 * (wrap64 (bt x0 x4)))))) x4) else (none)) else (if 0 ≤ x4 then (sternpostref02_Sum.j1 k x0 (wrap64 (x3 + (wrap64 (bt x0 x4)))) x4) else (none))) else (some (wrap64 (65535 - x3)))
def sternpostref02_Sum.j1 : Nat → ByteArray → Int → Int → Option (Int)
 | 0, _, _, _ => none
 | k + 1, x0, x3, x4 => (sternpostref02_fold.f k x3).bind fun t258 => (sternpostref02_Sum.l0 k x0 t258 (wrap64 (x4 + 1)))
end
def sternpostref02_Sum.f (k : Nat) (a0 : ByteArray) : Option (Int) := sternpostref02_Sum.l0 k a0 0 0
theorem sternpostref02_Sum.mono_l : ∀ k, (∀ y0 y1 y2, LeO (sternpostref02_Sum.l0 k y0 y1 y2) (sternpostref02_Sum.l0 (k + 1) y0 y1 y2)) ∧ (∀ y0 y1 y2, LeO (sternpostref02_Sum.j1 k y0 y1 y2) (sternpostref02_Sum.j1 (k + 1) y0 y1 y2))
 | 0 => ⟨fun _ _ _ r h => by simp [sternpostref02_Sum.l0] at h, fun _ _ _ r h => by simp [sternpostref02_Sum.j1] at h⟩
 | k + 1 => by
  obtain ⟨ih0, ih1⟩ := sternpostref02_Sum.mono_l k
  refine ⟨?_, ?_⟩
  ·intro y0 y1 y2
   unfold sternpostref02_Sum.l0
   repeat' first
   | (with_reducible exact ih0 _ _ _)
   | (with_reducible exact ih1 _ _ _)
   | (with_reducible exact sternpostref02_fold.mono _ _)
   | (with_reducible exact LeO.refl _)
   | (with_reducible exact LeO.none _)
   | (with_reducible refine LeO.ite ?_ ?_)
   | (with_reducible refine LeO.bind ?_ (fun _ => ?_))
   | exact ih0 _ _ _
   | exact ih1 _ _ _
   | exact sternpostref02_fold.mono _ _
   | exact LeO.none _
   | refine LeO.ite ?_ ?_
   | refine LeO.bind ?_ (fun _ => ?_)
  ·intro y0 y1 y2
   unfold sternpostref02_Sum.j1
   repeat' first
   | (with_reducible exact ih0 _ _ _)
   | (with_reducible exact ih1 _ _ _)
   | (with_reducible exact sternpostref02_fold.mono _ _)
   | (with_reducible exact LeO.refl _)
   | (with_reducible exact LeO.none _)
   | (with_reducible refine LeO.ite ?_ ?_)
   | (with_reducible refine LeO.bind ?_ (fun _ => ?_))
   | exact ih0 _ _ _
   | exact ih1 _ _ _
   | exact sternpostref02_fold.mono _ _
   | exact LeO.none _
   | refine LeO.ite ?_ ?_
   | refine LeO.bind ?_ (fun _ => ?_)
theorem sternpostref02_Sum.mono : ∀ a0 k, LeO (sternpostref02_Sum.f k a0) (sternpostref02_Sum.f (k + 1) a0) := by
 intro a0 k
 obtain ⟨ih0, ih1⟩ := sternpostref02_Sum.mono_l k
 unfold sternpostref02_Sum.f
 repeat' first
   | (with_reducible exact ih0 _ _ _)
   | (with_reducible exact ih1 _ _ _)
   | (with_reducible exact sternpostref02_fold.mono _ _)
   | (with_reducible exact LeO.refl _)
   | (with_reducible exact LeO.none _)
   | (with_reducible refine LeO.ite ?_ ?_)
   | (with_reducible refine LeO.bind ?_ (fun _ => ?_))
   | exact ih0 _ _ _
   | exact ih1 _ _ _
   | exact sternpostref02_fold.mono _ _
   | exact LeO.none _
   | refine LeO.ite ?_ ?_
   | refine LeO.bind ?_ (fun _ => ?_)
set_option maxHeartbeats 8000000 in
set_option maxRecDepth 100000 in
theorem sternpostref02_Sum.calls (k : Nat) (a0 : ByteArray) (r : Int) (w : World) (h : sternpostref02_Sum.f k a0 = some r) :
  Calls Try.prog 56 #[.string a0] w fun e w' => e = .returned (.int .i64 r) ∧ Drawn0 w w' := by
 have H : (sternpostref02_Sum.l0 k a0 0 0) = some r := h
 clear h
 have H' := Aside0.mk H
 clear H
 go_enter Try.func56, Try.ntmps56
 go_wp2
 go_loopg [3, 4] k (fun kq v3 v4 w' => ∃ (x3_1 : Int) (x4_1 : Int), v3 = .int .i64 x3_1 ∧ v4 = .int .i64 x4_1 ∧ Aside0 (sternpostref02_Sum.l0 kq a0 x3_1 x4_1 = some r) ∧ Aside0 (kq ≤ k) ∧ Drawn0 w w')
 case atStart => exact ⟨(0), (0), (by first | rfl | (simp; done) | (simp [*]; done)), (by first | rfl | (simp; done) | (simp [*]; done)), H', ⟨Nat.le_refl _⟩, by repeat (first | exact Drawn0.refl _ | apply Drawn0.step)⟩
 case round =>
  clear H'
  obtain ⟨x3_1, x4_1, rfl, rfl, HA, HK1, ⟨m1, rfl⟩⟩ := hrel
  cases gk with
  | zero => exact absurd HA.out (by simp [sternpostref02_Sum.l0])
  | succ k1 =>
   have H := HA.out
   clear HA
   simp only [sternpostref02_Sum.l0] at H
   by_cases c2 : x4_1 < (a0.size : Int)
   ·rw [if_pos c2] at H
    have c2b0 : decide (x4_1 < (a0.size : Int)) = true := decide_eq_true c2
    clear c2
    have HC3 := Aside0.mk H
    clear H
    go_upto_if 13 with (fail)
    go_cut [3] (fun v3 wc => ∃ (kq : Nat) (x3_2 : Int), v3 = .int .i64 x3_2 ∧ Aside0 (sternpostref02_Sum.j1 kq a0 x3_2 x4_1 = some r) ∧ Aside0 (kq ≤ k1) ∧ Drawn0 w wc)
    case first =>
     have H := HC3.out
     clear HC3
     by_cases c4 : (Int.tmod x4_1 2) = 0
     ·rw [if_pos c4] at H
      have c4b0 : ((Int.tmod x4_1 2) == 0) = true := beq_iff_eq.mpr c4
      have c4b1 : ((Int.tmod x4_1 2) != 0) = false := bne_eq_false_iff_eq.mpr c4
      clear c4
      (first | rw [c4b0] | (simp only [i64_w, i32_w]; rw [c4b0]) | rw [c4b1] | skip)
      by_cases c5 : 0 ≤ x4_1
      ·rw [if_pos c5] at H
       have c5b0 : decide (0 ≤ x4_1) = true := decide_eq_true c5
       clear c5
       have H' := Aside0.mk H
       clear H
       have p6 : 0 ≤ (x4_1 : Int) := of_decide_eq_true (by first | (with_reducible assumption) | assumption)
       have q6 : x4_1 < (a0.size : Int) := of_decide_eq_true (by first | (with_reducible assumption) | assumption)
       have hx6 := bt_at a0 x4_1
       replace p6 := eq_true p6
       replace q6 := eq_true q6
       go_wp2
       go_meet
       case rel => exact ⟨_, (wrap64 (x3_1 + (wrap64 (256 * (wrap64 (bt a0 x4_1)))))), (by first | rfl | (simp; done) | (simp [*]; done)), H', ⟨by have := HK1.out; first | omega | exact Nat.le_refl _⟩, by repeat (first | exact Drawn0.refl _ | apply Drawn0.step)⟩
      ·rw [if_neg c5] at H
       exact absurd H (by simp)
     ·rw [if_neg c4] at H
      have c4b0 : ((Int.tmod x4_1 2) == 0) = false := beq_eq_false_iff_ne.mpr c4
      have c4b1 : ((Int.tmod x4_1 2) != 0) = true := bne_iff_ne.mpr c4
      (first | rw [c4b0] | (simp only [i64_w, i32_w]; rw [c4b0]) | rw [c4b1] | skip)
      by_cases c7 : 0 ≤ x4_1
      ·rw [if_pos c7] at H
       have c7b0 : decide (0 ≤ x4_1) = true := decide_eq_true c7
       clear c7
       have H' := Aside0.mk H
       clear H
       have p8 : 0 ≤ (x4_1 : Int) := of_decide_eq_true (by first | (with_reducible assumption) | assumption)
       have q8 : x4_1 < (a0.size : Int) := of_decide_eq_true (by first | (with_reducible assumption) | assumption)
       have hx8 := bt_at a0 x4_1
       replace p8 := eq_true p8
       replace q8 := eq_true q8
       go_wp2
       go_meet
       case rel => exact ⟨_, (wrap64 (x3_1 + (wrap64 (bt a0 x4_1)))), (by first | rfl | (simp; done) | (simp [*]; done)), H', ⟨by have := HK1.out; first | omega | exact Nat.le_refl _⟩, by repeat (first | exact Drawn0.refl _ | apply Drawn0.step)⟩
      ·rw [if_neg c7] at H
       exact absurd H (by simp)
    case rest =>
     clear HC3
     try clear c2; try clear c2b0; try clear p2; try clear c4; try clear c4b0; try clear c4b1; try clear c5; try clear c5b0; try clear p6; try clear q6; try clear hx6; try clear c7; try clear c7b0; try clear p8; try clear q8; try clear hx8; try clear p6; try clear p8; try clear q6; try clear q8
     obtain ⟨kq, x3_2, rfl, HA, HJ2, ⟨mc2, rfl⟩⟩ := hcut
     cases kq with
     | zero => exact absurd HA.out (by simp [sternpostref02_Sum.j1])
     | succ kj2 =>
      have H := HA.out
      clear HA
      simp only [sternpostref02_Sum.j1] at H
      replace H := Option.bind_eq_some_iff.mp H
      obtain ⟨t258, A90, H⟩ := H
      replace H : (sternpostref02_Sum.l0 kj2 a0 t258 (wrap64 (x4_1 + 1))) = some r := H
      have A9 := Aside0.mk A90
      clear A90
      have H' := Aside0.mk H
      clear H
      go_wp2_with (first | ((with_reducible refine gate_callee (f := 66) rfl ?_); refine goesL_ (some 28) rfl rfl Try.func66 (by kernel_rfl) rfl #[.int .i64 x3_2] rfl (by (try simp only [List.map_toArray, List.map_cons, List.map_nil]); first | done | rfl | (simp only [List.length_drop, List.length_take]; rfl)) ?_; (with_reducible refine (sternpostref02_fold.calls kj2 x3_2 t258 _ A9.out).mono ?_); rintro e w' ⟨rfl, ⟨nd, rfl⟩⟩; refine ⟨_, rfl, ?_⟩))
      go_roundg kj2
      case measure => have := HK1.out; have := HJ2.out; omega
      case rel => exact ⟨(t258), (wrap64 (x4_1 + 1)), (by first | rfl | (simp; done) | (simp [*]; done)), (by first | rfl | (simp; done) | (simp [*]; done)), H', ⟨by have := HK1.out; have := HJ2.out; omega⟩, by repeat (first | exact Drawn0.refl _ | apply Drawn0.step)⟩
   ·rw [if_neg c2] at H
    have c2b0 : decide (x4_1 < (a0.size : Int)) = false := decide_eq_false c2
    clear c2
    obtain rfl := Option.some.inj H
    go_wp2
    go_ret
    exact ⟨by first | rfl | (simp; done) | (simp [*]; done), by repeat (first | exact Drawn0.refl _ | apply Drawn0.step)⟩

/-! ### sternpostref08_Bytes: function 38 -/
def sternpostref08_Bytes_l1 (n c : Int) : List Int := [(wrap64 ((wrap64 (Int.tdiv (wrap64 (20 + n)) 4)) * 16)) % 256, c % 256]
def sternpostref08_Bytes_RB (n c : Int) (_ : Nat) (w : World) (v : Value) : Prop := AnyOrder.RowAt (sternpostref08_Bytes_l1 n c) w v
theorem sternpostref08_Bytes_RB_keep {n c : Int} : ∀ (i : Nat) (w w' : World) (v : Value), Below w.heap.size w w' → sternpostref08_Bytes_RB n c i w v → sternpostref08_Bytes_RB n c i w' v := fun i w w' v hb h => h.keep hb
theorem sternpostref08_Bytes_slice_to {P : Program} {ρ : Operand → Value} {o : Oper} {W : World} {t : TypeId} {x b : Operand} {s : ByteArray} {j : Nat} (hu : P.underlying t = some .string) (ho : o.op = .slice t x none (some b) none) (hx : ρ x = .string s) (hb : ρ b = .int .i64 (j : Int)) (h2 : j ≤ s.size) : (execOp ρ o).run P W = .ok (.value (.string (cutS s 0 j))) W := by
 have e2 : ¬ ((s.size : Int) < (j : Int)) := by omega
 have e3 : (j : Int) ≤ (s.size : Int) := by omega
 unfold execOp
 simp only [ho]
 go_simp
theorem sternpostref08_Bytes_slice_from {P : Program} {ρ : Operand → Value} {o : Oper} {W : World} {t : TypeId} {x a : Operand} {s : ByteArray} {i : Nat} (hu : P.underlying t = some .string) (ho : o.op = .slice t x (some a) none none) (hx : ρ x = .string s) (ha : ρ a = .int .i64 (i : Int)) (h1 : i ≤ s.size) : (execOp ρ o).run P W = .ok (.value (.string (cutS s i s.size))) W := by
 have e1 : ¬ ((s.size : Int) < (i : Int)) := by omega
 have e3 : (i : Int) ≤ (s.size : Int) := by omega
 unfold execOp
 simp only [ho]
 go_simp
def sternpostref08_Bytes_tail2.f (k : Nat) (x0 x1 : Int) (b : ByteArray) : Option ByteArray :=
 (sternpostref02_Pseudo.f k x0 x1 6 (b.size : Int)).bind fun p => if p.1.size + b.size ≤ 9223372036854775807 ∧ 18 ≤ b.size then (sternpostref02_Sum.f k (p.1 ++ b)).bind fun n => (sternpostref02_Text.f k n 2).bind fun t => if (cutS b 0 16).size + t.size + (cutS b 18 b.size).size ≤ 9223372036854775807 then some (cutS b 0 16 ++ t ++ cutS b 18 b.size) else none else none
def sternpostref08_Bytes_tail.f (k : Nat) (x0 x1 : Int) (x7 : ByteArray) (c0 c1 c2 c3 c4 c5 c6 c7 c8 c9 c10 : Int) (c11 c12 c13 : Bool) (c14 : List S73) (c15 : ByteArray) : Option ByteArray :=
 (sternpostref02_Text.f k c0 2).bind fun t1 => (sternpostref02_Text.f k c1 2).bind fun t2 => (sternpostref02_Text.f k c2 4).bind fun t3 => (sternpostref02_Text.f k c3 4).bind fun t4 => (sternpostref02_Text.f k c5 2).bind fun t5 => (sternpostref02_Text.f k c6 2).bind fun t6 =>
 if t1.size + t2.size + t3.size + t4.size + (strOfNums (sternpostref08_Bytes_l1 (x7.size : Int) c4)).size + t5.size + 2 + t6.size + x7.size + c15.size ≤ 9223372036854775807 then sternpostref08_Bytes_tail2.f k x0 x1 (t1 ++ t2 ++ t3 ++ t4 ++ strOfNums (sternpostref08_Bytes_l1 (x7.size : Int) c4) ++ t5 ++ (⟨#[0, 0]⟩ : ByteArray) ++ t6 ++ x7 ++ c15) else none
theorem sternpostref08_Bytes_tail.mono (x0 x1 : Int) (x7 : ByteArray) (c0 c1 c2 c3 c4 c5 c6 c7 c8 c9 c10 : Int) (c11 c12 c13 : Bool) (c14 : List S73) (c15 : ByteArray) (k : Nat) : LeO (sternpostref08_Bytes_tail.f k x0 x1 x7 c0 c1 c2 c3 c4 c5 c6 c7 c8 c9 c10 c11 c12 c13 c14 c15) (sternpostref08_Bytes_tail.f (k + 1) x0 x1 x7 c0 c1 c2 c3 c4 c5 c6 c7 c8 c9 c10 c11 c12 c13 c14 c15) := by
 unfold sternpostref08_Bytes_tail.f sternpostref08_Bytes_tail2.f
 have T := @sternpostref02_Text.mono
 exact LeO.bind (T _ _ _) fun _ => LeO.bind (T _ _ _) fun _ => LeO.bind (T _ _ _) fun _ => LeO.bind (T _ _ _) fun _ => LeO.bind (T _ _ _) fun _ => LeO.bind (T _ _ _) fun _ => LeO.ite (LeO.bind (sternpostref02_Pseudo.mono _ _ _ _ _) fun _ => LeO.ite (LeO.bind (sternpostref02_Sum.mono _ _) fun _ => LeO.bind (T _ _ _) fun _ => LeO.ite (LeO.refl _) (LeO.none _)) (LeO.none _)) (LeO.none _)

def sternpostref08_Bytes.f (k : Nat) (a0 : Int) (a1 : Int) (a2_0 : Int) (a2_1 : Int) (a2_2 : Int) (a2_3 : Int) (a2_4 : Int) (a2_5 : Int) (a2_6 : Int) (a2_7 : Int) (a2_8 : Int) (a2_9 : Int) (a2_10 : Int) (a2_11 : Bool) (a2_12 : Bool) (a2_13 : Bool) (l2_14 : List (S73)) (a2_15 : ByteArray) : Option (ByteArray) := (sternpostref07_Bytes.f k a2_7 a2_8 a2_9 a2_10 a2_11 a2_12 a2_13 l2_14).bind fun t260 => (sternpostref08_Bytes_tail.f k a0 a1 t260 a2_0 a2_1 a2_2 a2_3 a2_4 a2_5 a2_6 a2_7 a2_8 a2_9 a2_10 a2_11 a2_12 a2_13 l2_14 a2_15)
theorem sternpostref08_Bytes.mono : ∀ a0 a1 a2 a3 a4 a5 a6 a7 a8 a9 a10 a11 a12 a13 a14 a15 a16 a17 k, LeO (sternpostref08_Bytes.f k a0 a1 a2 a3 a4 a5 a6 a7 a8 a9 a10 a11 a12 a13 a14 a15 a16 a17) (sternpostref08_Bytes.f (k + 1) a0 a1 a2 a3 a4 a5 a6 a7 a8 a9 a10 a11 a12 a13 a14 a15 a16 a17) := by
 intro a0 a1 a2 a3 a4 a5 a6 a7 a8 a9 a10 a11 a12 a13 a14 a15 a16 a17 k
 unfold sternpostref08_Bytes.f
 repeat' first
   | (with_reducible exact sternpostref07_Bytes.mono _ _ _ _ _ _ _ _ _)
   | (with_reducible exact sternpostref08_Bytes_tail.mono _ _ _ _ _ _ _ _ _ _ _ _ _ _ _ _ _ _ _ _)
   | (with_reducible exact LeO.refl _)
   | (with_reducible exact LeO.none _)
   | (with_reducible refine LeO.ite ?_ ?_)
   | (with_reducible refine LeO.bind ?_ (fun _ => ?_))
   | exact sternpostref07_Bytes.mono _ _ _ _ _ _ _ _ _
   | exact sternpostref08_Bytes_tail.mono _ _ _ _ _ _ _ _ _ _ _ _ _ _ _ _ _ _ _ _
   | exact LeO.none _
   | refine LeO.ite ?_ ?_
   | refine LeO.bind ?_ (fun _ => ?_)
set_option maxHeartbeats 8000000 in
set_option maxRecDepth 100000 in
theorem sternpostref08_Bytes.calls (k : Nat) (a0 : Int) (a1 : Int) (a2_0 : Int) (a2_1 : Int) (a2_2 : Int) (a2_3 : Int) (a2_4 : Int) (a2_5 : Int) (a2_6 : Int) (a2_7 : Int) (a2_8 : Int) (a2_9 : Int) (a2_10 : Int) (a2_11 : Bool) (a2_12 : Bool) (a2_13 : Bool) (A2_14 : Option Addr) (c2_14 : Nat) (l2_14 : List (S73)) (a2_15 : ByteArray) (r : ByteArray) (w : World) (hr2_14 : Kd.C k73 w A2_14 l2_14.length l2_14) (hc2_14 : l2_14.length ≤ c2_14) (h : sternpostref08_Bytes.f k a0 a1 a2_0 a2_1 a2_2 a2_3 a2_4 a2_5 a2_6 a2_7 a2_8 a2_9 a2_10 a2_11 a2_12 a2_13 l2_14 a2_15 = some r) :
  Calls Try.prog 38 #[.int .i64 a0, .int .i64 a1, .agg #[.int .i64 a2_0, .int .i64 a2_1, .int .i64 a2_2, .int .i64 a2_3, .int .i64 a2_4, .int .i64 a2_5, .int .i64 a2_6, .int .i64 a2_7, .int .i64 a2_8, .int .i64 a2_9, .int .i64 a2_10, .bool a2_11, .bool a2_12, .bool a2_13, .slice A2_14 l2_14.length c2_14, .string a2_15]] w fun e w' => e = .returned (.string r) ∧ Below w.heap.size w w' := by
 have hu26 := Try.underlying26
 have hu24 := Try.underlying24
 have HR2_14 := Aside0.mk hr2_14
 have HC2_14 := Aside0.mk hc2_14
 clear hr2_14 hc2_14
 have HB := Aside0.mk (Below.refl w.heap.size w)
 have H : ((sternpostref07_Bytes.f k a2_7 a2_8 a2_9 a2_10 a2_11 a2_12 a2_13 l2_14).bind fun t260 => (sternpostref08_Bytes_tail.f k a0 a1 t260 a2_0 a2_1 a2_2 a2_3 a2_4 a2_5 a2_6 a2_7 a2_8 a2_9 a2_10 a2_11 a2_12 a2_13 l2_14 a2_15)) = some r := h
 clear h
 replace H := Option.bind_eq_some_iff.mp H
 obtain ⟨t260, A40, H⟩ := H
 replace H : (sternpostref08_Bytes_tail.f k a0 a1 t260 a2_0 a2_1 a2_2 a2_3 a2_4 a2_5 a2_6 a2_7 a2_8 a2_9 a2_10 a2_11 a2_12 a2_13 l2_14 a2_15) = some r := H
 have A4 := Aside0.mk A40
 clear A40
 go_enter Try.func38, Try.ntmps38
 go_wp2_with (first | ((with_reducible refine gate_load (t := 26) rfl ?_); refine gate_wanted ?hw (fun hw_ => ?_); (case hw => first | rfl | (go_simp; done)); refine load_big hw_ 26 _ rfl _ rfl 26 _ (0, 0) _ (by (with_reducible repeat (first | apply blk_drewN | apply blk_drew | apply blk_alloc | (apply blk_farA; case hp => assumption) | apply blk_put)); apply Aside0.out; assumption; all_goals (simp only [List.setIfInBounds_toArray, List.set_cons_zero, List.set_cons_succ]; try rfl)) Try.underlying26 rfl (by kernel_rfl) ?_; clear hw_; simp only [Act.put, List.setIfInBounds_toArray, List.set_cons_zero, List.set_cons_succ]) | ((with_reducible refine gate_store (t := 26) rfl ?_); refine store_big rfl 26 _ _ rfl _ _ rfl rfl 26 _ (by (with_reducible repeat (first | apply blk_drewN | apply blk_drew | apply blk_alloc | (apply blk_farA; case hp => assumption) | apply blk_put)); apply Aside0.out; assumption; all_goals (simp only [List.setIfInBounds_toArray, List.set_cons_zero, List.set_cons_succ]; try rfl)) (by kernel_rfl) (by rfl) (by rfl) _ (by simp only [World.setCells, Nat.reduceAdd]; rfl) ?_; simp only [Act.put, List.setIfInBounds_toArray, List.set_cons_zero, List.set_cons_succ]) | ((with_reducible refine gate_dst (N := 5) rfl ?_); refine box_event ?hg (N := 5) ?hd (cs := #[.int .i64 a2_0, .int .i64 a2_1, .int .i64 a2_2, .int .i64 a2_3, .int .i64 a2_4, .int .i64 a2_5, .int .i64 a2_6, .int .i64 a2_7, .int .i64 a2_8, .int .i64 a2_9, .int .i64 a2_10, .bool a2_11, .bool a2_12, .bool a2_13, .slice A2_14 l2_14.length c2_14, .string a2_15]) (t := 26) ?hr ?_; (case hd => rfl); (case hg => rfl); (case hr => first | (go_simp; done) | (go_simp; rfl)); intro gb259 hg w5 hbox hb; have n0_ := Aside0.mk (below_step (by repeat (first | (with_reducible first | exact HB.out | apply below_alloc | apply pw_below_drewN | apply below_drew1) | exact HB.out)) hb); have n1_ := Aside0.mk (hbox); have n2_ := Aside0.mk ((by rw [hg]; exact (below_size (by repeat (first | (with_reducible first | exact HB.out | apply below_alloc | apply pw_below_drewN | apply below_drew1) | exact HB.out))) : w.heap.size ≤ gb259)); have n3_ := Aside0.mk ((by rw [hg]; exact (below_size (by repeat (first | (with_reducible first | exact HB.out | apply below_alloc | apply pw_below_drewN | apply below_drew1) | exact HB.out))) : w.heap.size ≤ gb259)); clear HB; have HB := n0_; have BK259 := n1_; have GW259 := n2_; have GE259 := n3_; clear n0_ n1_ n2_ n3_; clear hb hbox hg; obtain ⟨hcz6_0, hcz6_1, hcz6_2, hcz6_3, hcz6_4, hcz6_5, hcz6_6, hcz6_7, hcz6_8, hcz6_9, hcz6_10, hcz6_11, hcz6_12, hcz6_13, hcz6_14, hcz6_15⟩ := blk_cells16 BK259.out; obtain ⟨hfz6_0, hfz6_1, hfz6_2, hfz6_3, hfz6_4, hfz6_5, hfz6_6, hfz6_7, hfz6_8, hfz6_9, hfz6_10, hfz6_11, hfz6_12, hfz6_13, hfz6_14, hfz6_15⟩ := blk_frozens16 BK259.out) | ((with_reducible refine gate_callee (f := 54) rfl ?_); refine goesL_ (some 13) rfl rfl Try.func54 (by kernel_rfl) rfl #[.agg #[.int .i64 a2_7, .int .i64 a2_8, .int .i64 a2_9, .int .i64 a2_10, .bool a2_11, .bool a2_12, .bool a2_13, .slice A2_14 l2_14.length c2_14]] rfl (by (try simp only [List.map_toArray, List.map_cons, List.map_nil]); first | done | rfl | (simp only [List.length_drop, List.length_take]; rfl)) ?_; (with_reducible refine (sternpostref07_Bytes.calls k a2_7 a2_8 a2_9 a2_10 a2_11 a2_12 a2_13 _ _ l2_14 t260 _ ?side1 ?side2 A4.out).mono ?_); (case side1 => repeat (first | exact (Kd.C_below HR2_14.out HB.out) | (with_reducible refine Kd.C_alloc ?_ _) | (with_reducible refine Kd.C_drewN ?_ _) | (with_reducible refine Kd.C_drew ?_))); (case side2 => exact HC2_14.out); rintro e w7 ⟨rfl, hb⟩; refine ⟨_, rfl, ?_⟩; have n0_ := Aside0.mk (blk_below (g := gb259) (by (with_reducible repeat (first | apply blk_drewN | apply blk_drew | apply blk_alloc)); exact BK259.out) hb); have n1_ := Aside0.mk (below_step (by repeat (first | (with_reducible first | exact HB.out | apply below_alloc | apply pw_below_drewN | apply below_drew1 | refine below_set ?_ GE259.out) | exact HB.out)) hb); clear BK259; clear HB; have BK259 := n0_; have HB := n1_; clear n0_ n1_; (try clear hb); (try clear hb2); (try clear hk); (try clear hi)))
 have HBt := Aside0.mk (show Below w.heap.size w _ from by repeat (first | (with_reducible first | exact HB.out | apply below_alloc | apply pw_below_drewN | apply below_drew1 | refine below_set ?_ GE259.out) | exact HB.out))
 unfold sternpostref08_Bytes_tail.f at H
 obtain ⟨t1, h1, H⟩ := Option.bind_eq_some_iff.mp H
 have A1_ := Aside0.mk h1
 clear h1
 obtain ⟨t2, h1, H⟩ := Option.bind_eq_some_iff.mp H
 have A2_ := Aside0.mk h1
 clear h1
 obtain ⟨t3, h1, H⟩ := Option.bind_eq_some_iff.mp H
 have A3_ := Aside0.mk h1
 clear h1
 obtain ⟨t4, h1, H⟩ := Option.bind_eq_some_iff.mp H
 have A4_ := Aside0.mk h1
 clear h1
 obtain ⟨t5, h1, H⟩ := Option.bind_eq_some_iff.mp H
 have A5_ := Aside0.mk h1
 clear h1
 obtain ⟨t6, h1, H⟩ := Option.bind_eq_some_iff.mp H
 have A6_ := Aside0.mk h1
 clear h1
 by_cases cz : t1.size + t2.size + t3.size + t4.size + (strOfNums (sternpostref08_Bytes_l1 (t260.size : Int) a2_4)).size + t5.size + 2 + t6.size + t260.size + a2_15.size ≤ 9223372036854775807
 case neg => rw [if_neg cz] at H; cases H
 rw [if_pos cz] at H
 have HT := Aside0.mk H
 have cz_ := Aside0.mk cz
 clear H cz
 change Code.wp _ _ _ _ ?WW
 have same : ∀ W', Below (?WW : World).heap.size ?WW W' → Below W'.heap.size W' W' := fun W' _ => Below.refl _ _
 refine AnyOrder.region_then 42 (C := fun W' => Below (?WW : World).heap.size ?WW W') (G := fun W1 W2 => Below W1.heap.size W1 W2) (T := [24]) (R := sternpostref08_Bytes_RB (t260.size : Int) a2_4) (vs := [(.pointer (some ⟨gb259, 0, none⟩)), (.int .i64 a2_0), (.string (t1)), (.pointer (some ⟨gb259, 1, none⟩)), (.int .i64 a2_1), (.string (t2)), (.string (t1 ++ t2)), (.pointer (some ⟨gb259, 2, none⟩)), (.int .i64 a2_2), (.string (t3)), (.string (t1 ++ t2 ++ t3)), (.pointer (some ⟨gb259, 3, none⟩)), (.int .i64 a2_3), (.string (t4)), (.string (t1 ++ t2 ++ t3 ++ t4)), (.string (t260)), (.int .i64 (t260.size : Int)), (.int .i64 (wrap64 (20 + (t260.size : Int)))), (.int .i64 (wrap64 (Int.tdiv (wrap64 (20 + (t260.size : Int))) 4))), (.int .i64 (wrap64 ((wrap64 (Int.tdiv (wrap64 (20 + (t260.size : Int))) 4)) * 16))), (.int .u8 ((wrap64 ((wrap64 (Int.tdiv (wrap64 (20 + (t260.size : Int))) 4)) * 16)) % 256)), (.pointer (some ⟨gb259, 4, none⟩)), (.int .i64 a2_4), (.int .u8 (a2_4 % 256)), undef, (.string (strOfNums (sternpostref08_Bytes_l1 (t260.size : Int) a2_4))), (.string (t1 ++ t2 ++ t3 ++ t4 ++ strOfNums (sternpostref08_Bytes_l1 (t260.size : Int) a2_4))), (.pointer (some ⟨gb259, 5, none⟩)), (.int .i64 a2_5), (.string (t5)), (.string (t1 ++ t2 ++ t3 ++ t4 ++ strOfNums (sternpostref08_Bytes_l1 (t260.size : Int) a2_4) ++ t5)), (.string (t1 ++ t2 ++ t3 ++ t4 ++ strOfNums (sternpostref08_Bytes_l1 (t260.size : Int) a2_4) ++ t5 ++ (⟨#[0, 0]⟩ : ByteArray))), (.pointer (some ⟨gb259, 6, none⟩)), (.int .i64 a2_6), (.string (t6)), (.string (t1 ++ t2 ++ t3 ++ t4 ++ strOfNums (sternpostref08_Bytes_l1 (t260.size : Int) a2_4) ++ t5 ++ (⟨#[0, 0]⟩ : ByteArray) ++ t6)), (.string (t260)), (.string (t1 ++ t2 ++ t3 ++ t4 ++ strOfNums (sternpostref08_Bytes_l1 (t260.size : Int) a2_4) ++ t5 ++ (⟨#[0, 0]⟩ : ByteArray) ++ t6 ++ t260)), (.pointer (some ⟨gb259, 15, none⟩)), (.string (a2_15)), (.string (t1 ++ t2 ++ t3 ++ t4 ++ strOfNums (sternpostref08_Bytes_l1 (t260.size : Int) a2_4) ++ t5 ++ (⟨#[0, 0]⟩ : ByteArray) ++ t6 ++ t260 ++ a2_15)), (.string (t1 ++ t2 ++ t3 ++ t4 ++ strOfNums (sternpostref08_Bytes_l1 (t260.size : Int) a2_4) ++ t5 ++ (⟨#[0, 0]⟩ : ByteArray) ++ t6 ++ t260 ++ a2_15))]) (by kernel_rfl) rfl (by kernel_rfl) (below_drew1 (Below.refl _ _)) same sternpostref08_Bytes_RB_keep (fun x => ?obs) ?fin
 case obs =>
  refine AnyOrder.obs_cons (.pointer (some ⟨gb259, 0, none⟩)) rfl (AnyOrder.ob_quiet (d := 14) rfl (show (14 : Nat) < 74 by omega) rfl rfl same (fun _ => by first | exact ⟨_, rfl⟩ | exact ⟨pure _, rfl⟩) ?_) ?_
  ·go_big_quiet_op; first | rfl | exact ⟨_, fun _ _ => rfl, rfl⟩
  try simp only [Act.put, List.setIfInBounds_toArray, List.set_cons_zero, List.set_cons_succ]
  refine AnyOrder.obs_cons (.int .i64 a2_0) rfl (AnyOrder.ob_quiet (d := 15) rfl (show (15 : Nat) < 74 by omega) rfl rfl same (fun _ => by first | exact ⟨_, rfl⟩ | exact ⟨pure _, rfl⟩) ?_) ?_
  ·refine ⟨_, fun W' hW => ?_, rfl⟩; have hcz := (blk_cell (blk_below BK259.out hW) 0).trans rfl; unfold Oper.quietAt; go_simp; first | done | rfl | exact ⟨rfl, rfl⟩
  try simp only [Act.put, List.setIfInBounds_toArray, List.set_cons_zero, List.set_cons_succ]
  refine AnyOrder.obs_cons (.string (t1)) rfl (AnyOrder.ob_call rfl rfl rfl 55 #[.int .i64 a2_0, .int .i64 2] (fun W' hW => ?_) (fun W' hW => ?_)) ?_
  ·go_simp
  ·exact (sternpostref02_Text.calls k a2_0 2 t1 W' A1_.out).mono fun e w2 h2 => ⟨h2.1, below_step hW h2.2, h2.2⟩
  try simp only [Act.put, List.setIfInBounds_toArray, List.set_cons_zero, List.set_cons_succ]
  refine AnyOrder.obs_cons (.pointer (some ⟨gb259, 1, none⟩)) rfl (AnyOrder.ob_quiet (d := 17) rfl (show (17 : Nat) < 74 by omega) rfl rfl same (fun _ => by first | exact ⟨_, rfl⟩ | exact ⟨pure _, rfl⟩) ?_) ?_
  ·go_big_quiet_op; first | rfl | exact ⟨_, fun _ _ => rfl, rfl⟩
  try simp only [Act.put, List.setIfInBounds_toArray, List.set_cons_zero, List.set_cons_succ]
  refine AnyOrder.obs_cons (.int .i64 a2_1) rfl (AnyOrder.ob_quiet (d := 18) rfl (show (18 : Nat) < 74 by omega) rfl rfl same (fun _ => by first | exact ⟨_, rfl⟩ | exact ⟨pure _, rfl⟩) ?_) ?_
  ·refine ⟨_, fun W' hW => ?_, rfl⟩; have hcz := (blk_cell (blk_below BK259.out hW) 1).trans rfl; unfold Oper.quietAt; go_simp; first | done | rfl | exact ⟨rfl, rfl⟩
  try simp only [Act.put, List.setIfInBounds_toArray, List.set_cons_zero, List.set_cons_succ]
  refine AnyOrder.obs_cons (.string (t2)) rfl (AnyOrder.ob_call rfl rfl rfl 55 #[.int .i64 a2_1, .int .i64 2] (fun W' hW => ?_) (fun W' hW => ?_)) ?_
  ·go_simp
  ·exact (sternpostref02_Text.calls k a2_1 2 t2 W' A2_.out).mono fun e w2 h2 => ⟨h2.1, below_step hW h2.2, h2.2⟩
  try simp only [Act.put, List.setIfInBounds_toArray, List.set_cons_zero, List.set_cons_succ]
  refine AnyOrder.obs_cons (.string (t1 ++ t2)) rfl (AnyOrder.ob_quiet (d := 20) rfl (show (20 : Nat) < 74 by omega) rfl rfl same (fun _ => by first | exact ⟨_, rfl⟩ | exact ⟨pure _, rfl⟩) ?_) ?_
  ·have cz := cz_.out; go_big_quiet_op; first | rfl | exact ⟨_, fun _ _ => rfl, rfl⟩
  try simp only [Act.put, List.setIfInBounds_toArray, List.set_cons_zero, List.set_cons_succ]
  refine AnyOrder.obs_cons (.pointer (some ⟨gb259, 2, none⟩)) rfl (AnyOrder.ob_quiet (d := 21) rfl (show (21 : Nat) < 74 by omega) rfl rfl same (fun _ => by first | exact ⟨_, rfl⟩ | exact ⟨pure _, rfl⟩) ?_) ?_
  ·go_big_quiet_op; first | rfl | exact ⟨_, fun _ _ => rfl, rfl⟩
  try simp only [Act.put, List.setIfInBounds_toArray, List.set_cons_zero, List.set_cons_succ]
  refine AnyOrder.obs_cons (.int .i64 a2_2) rfl (AnyOrder.ob_quiet (d := 22) rfl (show (22 : Nat) < 74 by omega) rfl rfl same (fun _ => by first | exact ⟨_, rfl⟩ | exact ⟨pure _, rfl⟩) ?_) ?_
  ·refine ⟨_, fun W' hW => ?_, rfl⟩; have hcz := (blk_cell (blk_below BK259.out hW) 2).trans rfl; unfold Oper.quietAt; go_simp; first | done | rfl | exact ⟨rfl, rfl⟩
  try simp only [Act.put, List.setIfInBounds_toArray, List.set_cons_zero, List.set_cons_succ]
  refine AnyOrder.obs_cons (.string (t3)) rfl (AnyOrder.ob_call rfl rfl rfl 55 #[.int .i64 a2_2, .int .i64 4] (fun W' hW => ?_) (fun W' hW => ?_)) ?_
  ·go_simp
  ·exact (sternpostref02_Text.calls k a2_2 4 t3 W' A3_.out).mono fun e w2 h2 => ⟨h2.1, below_step hW h2.2, h2.2⟩
  try simp only [Act.put, List.setIfInBounds_toArray, List.set_cons_zero, List.set_cons_succ]
  refine AnyOrder.obs_cons (.string (t1 ++ t2 ++ t3)) rfl (AnyOrder.ob_quiet (d := 24) rfl (show (24 : Nat) < 74 by omega) rfl rfl same (fun _ => by first | exact ⟨_, rfl⟩ | exact ⟨pure _, rfl⟩) ?_) ?_
  ·have cz := cz_.out; go_big_quiet_op; first | rfl | exact ⟨_, fun _ _ => rfl, rfl⟩
  try simp only [Act.put, List.setIfInBounds_toArray, List.set_cons_zero, List.set_cons_succ]
  refine AnyOrder.obs_cons (.pointer (some ⟨gb259, 3, none⟩)) rfl (AnyOrder.ob_quiet (d := 25) rfl (show (25 : Nat) < 74 by omega) rfl rfl same (fun _ => by first | exact ⟨_, rfl⟩ | exact ⟨pure _, rfl⟩) ?_) ?_
  ·go_big_quiet_op; first | rfl | exact ⟨_, fun _ _ => rfl, rfl⟩
  try simp only [Act.put, List.setIfInBounds_toArray, List.set_cons_zero, List.set_cons_succ]
  refine AnyOrder.obs_cons (.int .i64 a2_3) rfl (AnyOrder.ob_quiet (d := 26) rfl (show (26 : Nat) < 74 by omega) rfl rfl same (fun _ => by first | exact ⟨_, rfl⟩ | exact ⟨pure _, rfl⟩) ?_) ?_
  ·refine ⟨_, fun W' hW => ?_, rfl⟩; have hcz := (blk_cell (blk_below BK259.out hW) 3).trans rfl; unfold Oper.quietAt; go_simp; first | done | rfl | exact ⟨rfl, rfl⟩
  try simp only [Act.put, List.setIfInBounds_toArray, List.set_cons_zero, List.set_cons_succ]
  refine AnyOrder.obs_cons (.string (t4)) rfl (AnyOrder.ob_call rfl rfl rfl 55 #[.int .i64 a2_3, .int .i64 4] (fun W' hW => ?_) (fun W' hW => ?_)) ?_
  ·go_simp
  ·exact (sternpostref02_Text.calls k a2_3 4 t4 W' A4_.out).mono fun e w2 h2 => ⟨h2.1, below_step hW h2.2, h2.2⟩
  try simp only [Act.put, List.setIfInBounds_toArray, List.set_cons_zero, List.set_cons_succ]
  refine AnyOrder.obs_cons (.string (t1 ++ t2 ++ t3 ++ t4)) rfl (AnyOrder.ob_quiet (d := 28) rfl (show (28 : Nat) < 74 by omega) rfl rfl same (fun _ => by first | exact ⟨_, rfl⟩ | exact ⟨pure _, rfl⟩) ?_) ?_
  ·have cz := cz_.out; go_big_quiet_op; first | rfl | exact ⟨_, fun _ _ => rfl, rfl⟩
  try simp only [Act.put, List.setIfInBounds_toArray, List.set_cons_zero, List.set_cons_succ]
  refine AnyOrder.obs_cons (.string (t260)) rfl (AnyOrder.ob_quiet (d := 29) rfl (show (29 : Nat) < 74 by omega) rfl rfl same (fun _ => by first | exact ⟨_, rfl⟩ | exact ⟨pure _, rfl⟩) ?_) ?_
  ·go_big_quiet_op; first | rfl | exact ⟨_, fun _ _ => rfl, rfl⟩
  try simp only [Act.put, List.setIfInBounds_toArray, List.set_cons_zero, List.set_cons_succ]
  refine AnyOrder.obs_cons (.int .i64 (t260.size : Int)) rfl (AnyOrder.ob_quiet (d := 30) rfl (show (30 : Nat) < 74 by omega) rfl rfl same (fun _ => by first | exact ⟨_, rfl⟩ | exact ⟨pure _, rfl⟩) ?_) ?_
  ·go_big_quiet_op; first | rfl | exact ⟨_, fun _ _ => rfl, rfl⟩
  try simp only [Act.put, List.setIfInBounds_toArray, List.set_cons_zero, List.set_cons_succ]
  refine AnyOrder.obs_cons (.int .i64 (wrap64 (20 + (t260.size : Int)))) rfl (AnyOrder.ob_quiet (d := 31) rfl (show (31 : Nat) < 74 by omega) rfl rfl same (fun _ => by first | exact ⟨_, rfl⟩ | exact ⟨pure _, rfl⟩) ?_) ?_
  ·go_big_quiet_op; first | rfl | exact ⟨_, fun _ _ => rfl, rfl⟩
  try simp only [Act.put, List.setIfInBounds_toArray, List.set_cons_zero, List.set_cons_succ]
  refine AnyOrder.obs_cons (.int .i64 (wrap64 (Int.tdiv (wrap64 (20 + (t260.size : Int))) 4))) rfl (AnyOrder.ob_quiet (d := 32) rfl (show (32 : Nat) < 74 by omega) rfl rfl same (fun _ => by first | exact ⟨_, rfl⟩ | exact ⟨pure _, rfl⟩) ?_) ?_
  ·go_big_quiet_op; first | rfl | exact ⟨_, fun _ _ => rfl, rfl⟩
  try simp only [Act.put, List.setIfInBounds_toArray, List.set_cons_zero, List.set_cons_succ]
  refine AnyOrder.obs_cons (.int .i64 (wrap64 ((wrap64 (Int.tdiv (wrap64 (20 + (t260.size : Int))) 4)) * 16))) rfl (AnyOrder.ob_quiet (d := 33) rfl (show (33 : Nat) < 74 by omega) rfl rfl same (fun _ => by first | exact ⟨_, rfl⟩ | exact ⟨pure _, rfl⟩) ?_) ?_
  ·go_big_quiet_op; first | rfl | exact ⟨_, fun _ _ => rfl, rfl⟩
  try simp only [Act.put, List.setIfInBounds_toArray, List.set_cons_zero, List.set_cons_succ]
  refine AnyOrder.obs_cons (.int .u8 ((wrap64 ((wrap64 (Int.tdiv (wrap64 (20 + (t260.size : Int))) 4)) * 16)) % 256)) rfl (AnyOrder.ob_quiet (d := 34) rfl (show (34 : Nat) < 74 by omega) rfl rfl same (fun _ => by first | exact ⟨_, rfl⟩ | exact ⟨pure _, rfl⟩) ?_) ?_
  ·go_big_quiet_op; first | rfl | exact ⟨_, fun _ _ => rfl, rfl⟩
  try simp only [Act.put, List.setIfInBounds_toArray, List.set_cons_zero, List.set_cons_succ]
  refine AnyOrder.obs_cons (.pointer (some ⟨gb259, 4, none⟩)) rfl (AnyOrder.ob_quiet (d := 35) rfl (show (35 : Nat) < 74 by omega) rfl rfl same (fun _ => by first | exact ⟨_, rfl⟩ | exact ⟨pure _, rfl⟩) ?_) ?_
  ·go_big_quiet_op; first | rfl | exact ⟨_, fun _ _ => rfl, rfl⟩
  try simp only [Act.put, List.setIfInBounds_toArray, List.set_cons_zero, List.set_cons_succ]
  refine AnyOrder.obs_cons (.int .i64 a2_4) rfl (AnyOrder.ob_quiet (d := 36) rfl (show (36 : Nat) < 74 by omega) rfl rfl same (fun _ => by first | exact ⟨_, rfl⟩ | exact ⟨pure _, rfl⟩) ?_) ?_
  ·refine ⟨_, fun W' hW => ?_, rfl⟩; have hcz := (blk_cell (blk_below BK259.out hW) 4).trans rfl; unfold Oper.quietAt; go_simp; first | done | rfl | exact ⟨rfl, rfl⟩
  try simp only [Act.put, List.setIfInBounds_toArray, List.set_cons_zero, List.set_cons_succ]
  refine AnyOrder.obs_cons (.int .u8 (a2_4 % 256)) rfl (AnyOrder.ob_quiet (d := 37) rfl (show (37 : Nat) < 74 by omega) rfl rfl same (fun _ => by first | exact ⟨_, rfl⟩ | exact ⟨pure _, rfl⟩) ?_) ?_
  ·go_big_quiet_op; first | rfl | exact ⟨_, fun _ _ => rfl, rfl⟩
  try simp only [Act.put, List.setIfInBounds_toArray, List.set_cons_zero, List.set_cons_succ]
  refine AnyOrder.obs_cons (x 24) rfl (AnyOrder.ob_token rfl rfl (fun W' hW => ⟨.slice (some ⟨W'.heap.size, 0, none⟩) 2 2, W'.alloc (.cells #[(.int .u8 ((wrap64 ((wrap64 (Int.tdiv (wrap64 (20 + (t260.size : Int))) 4)) * 16)) % 256)), (.int .u8 (a2_4 % 256))] 5), ?run, below_alloc hW _, below_alloc (Below.refl _ _) _, W'.heap.size, rfl, by (show W'.heap.size < (W'.heap.push _).size); rw [Array.size_push]; exact Nat.lt_succ_self _, fun j hj => ?cell⟩)) ?_
  case run => clear same cz_ HT; (first | (go_simp; done) | (go_simp; rfl) | (simp [execOp, Act.eval, go_sem]; done) | skip)
  case cell => exact AnyOrder.row_cell W' (sternpostref08_Bytes_l1 (t260.size : Int) a2_4) 5 j hj
  try simp only [Act.put, List.setIfInBounds_toArray, List.set_cons_zero, List.set_cons_succ]
  refine AnyOrder.obs_cons (.string (strOfNums (sternpostref08_Bytes_l1 (t260.size : Int) a2_4))) rfl (AnyOrder.ob_reads 24 _ _ rfl rfl rfl (by kernel_rfl) rfl rfl same rfl (fun W' hW hR => ?_)) ?_
  ·obtain ⟨g, hx, hl, hc⟩ := hR
   have hcv := run_convert_bytes_arg (P := Try.prog) W' 49 5 Try.underlying49 Try.underlying5 g 0 _ (sternpostref08_Bytes_l1 (t260.size : Int) a2_4).length (sternpostref08_Bytes_l1 (t260.size : Int) a2_4) rfl hc 9 Try.underlying9; exact AnyOrder.run_conv rfl hx hcv
  try simp only [Act.put, List.setIfInBounds_toArray, List.set_cons_zero, List.set_cons_succ]
  refine AnyOrder.obs_cons (.string (t1 ++ t2 ++ t3 ++ t4 ++ strOfNums (sternpostref08_Bytes_l1 (t260.size : Int) a2_4))) rfl (AnyOrder.ob_quiet (d := 40) rfl (show (40 : Nat) < 74 by omega) rfl rfl same (fun _ => by first | exact ⟨_, rfl⟩ | exact ⟨pure _, rfl⟩) ?_) ?_
  ·have cz := cz_.out; go_big_quiet_op; first | rfl | exact ⟨_, fun _ _ => rfl, rfl⟩
  try simp only [Act.put, List.setIfInBounds_toArray, List.set_cons_zero, List.set_cons_succ]
  refine AnyOrder.obs_cons (.pointer (some ⟨gb259, 5, none⟩)) rfl (AnyOrder.ob_quiet (d := 41) rfl (show (41 : Nat) < 74 by omega) rfl rfl same (fun _ => by first | exact ⟨_, rfl⟩ | exact ⟨pure _, rfl⟩) ?_) ?_
  ·go_big_quiet_op; first | rfl | exact ⟨_, fun _ _ => rfl, rfl⟩
  try simp only [Act.put, List.setIfInBounds_toArray, List.set_cons_zero, List.set_cons_succ]
  refine AnyOrder.obs_cons (.int .i64 a2_5) rfl (AnyOrder.ob_quiet (d := 42) rfl (show (42 : Nat) < 74 by omega) rfl rfl same (fun _ => by first | exact ⟨_, rfl⟩ | exact ⟨pure _, rfl⟩) ?_) ?_
  ·refine ⟨_, fun W' hW => ?_, rfl⟩; have hcz := (blk_cell (blk_below BK259.out hW) 5).trans rfl; unfold Oper.quietAt; go_simp; first | done | rfl | exact ⟨rfl, rfl⟩
  try simp only [Act.put, List.setIfInBounds_toArray, List.set_cons_zero, List.set_cons_succ]
  refine AnyOrder.obs_cons (.string (t5)) rfl (AnyOrder.ob_call rfl rfl rfl 55 #[.int .i64 a2_5, .int .i64 2] (fun W' hW => ?_) (fun W' hW => ?_)) ?_
  ·go_simp
  ·exact (sternpostref02_Text.calls k a2_5 2 t5 W' A5_.out).mono fun e w2 h2 => ⟨h2.1, below_step hW h2.2, h2.2⟩
  try simp only [Act.put, List.setIfInBounds_toArray, List.set_cons_zero, List.set_cons_succ]
  refine AnyOrder.obs_cons (.string (t1 ++ t2 ++ t3 ++ t4 ++ strOfNums (sternpostref08_Bytes_l1 (t260.size : Int) a2_4) ++ t5)) rfl (AnyOrder.ob_quiet (d := 44) rfl (show (44 : Nat) < 74 by omega) rfl rfl same (fun _ => by first | exact ⟨_, rfl⟩ | exact ⟨pure _, rfl⟩) ?_) ?_
  ·have cz := cz_.out; go_big_quiet_op; first | rfl | exact ⟨_, fun _ _ => rfl, rfl⟩
  try simp only [Act.put, List.setIfInBounds_toArray, List.set_cons_zero, List.set_cons_succ]
  refine AnyOrder.obs_cons (.string (t1 ++ t2 ++ t3 ++ t4 ++ strOfNums (sternpostref08_Bytes_l1 (t260.size : Int) a2_4) ++ t5 ++ (⟨#[0, 0]⟩ : ByteArray))) rfl (AnyOrder.ob_quiet (d := 45) rfl (show (45 : Nat) < 74 by omega) rfl rfl same (fun _ => by first | exact ⟨_, rfl⟩ | exact ⟨pure _, rfl⟩) ?_) ?_
  ·have cz := cz_.out; go_big_quiet_op; first | rfl | exact ⟨_, fun _ _ => rfl, rfl⟩
  try simp only [Act.put, List.setIfInBounds_toArray, List.set_cons_zero, List.set_cons_succ]
  refine AnyOrder.obs_cons (.pointer (some ⟨gb259, 6, none⟩)) rfl (AnyOrder.ob_quiet (d := 46) rfl (show (46 : Nat) < 74 by omega) rfl rfl same (fun _ => by first | exact ⟨_, rfl⟩ | exact ⟨pure _, rfl⟩) ?_) ?_
  ·go_big_quiet_op; first | rfl | exact ⟨_, fun _ _ => rfl, rfl⟩
  try simp only [Act.put, List.setIfInBounds_toArray, List.set_cons_zero, List.set_cons_succ]
  refine AnyOrder.obs_cons (.int .i64 a2_6) rfl (AnyOrder.ob_quiet (d := 47) rfl (show (47 : Nat) < 74 by omega) rfl rfl same (fun _ => by first | exact ⟨_, rfl⟩ | exact ⟨pure _, rfl⟩) ?_) ?_
  ·refine ⟨_, fun W' hW => ?_, rfl⟩; have hcz := (blk_cell (blk_below BK259.out hW) 6).trans rfl; unfold Oper.quietAt; go_simp; first | done | rfl | exact ⟨rfl, rfl⟩
  try simp only [Act.put, List.setIfInBounds_toArray, List.set_cons_zero, List.set_cons_succ]
  refine AnyOrder.obs_cons (.string (t6)) rfl (AnyOrder.ob_call rfl rfl rfl 55 #[.int .i64 a2_6, .int .i64 2] (fun W' hW => ?_) (fun W' hW => ?_)) ?_
  ·go_simp
  ·exact (sternpostref02_Text.calls k a2_6 2 t6 W' A6_.out).mono fun e w2 h2 => ⟨h2.1, below_step hW h2.2, h2.2⟩
  try simp only [Act.put, List.setIfInBounds_toArray, List.set_cons_zero, List.set_cons_succ]
  refine AnyOrder.obs_cons (.string (t1 ++ t2 ++ t3 ++ t4 ++ strOfNums (sternpostref08_Bytes_l1 (t260.size : Int) a2_4) ++ t5 ++ (⟨#[0, 0]⟩ : ByteArray) ++ t6)) rfl (AnyOrder.ob_quiet (d := 49) rfl (show (49 : Nat) < 74 by omega) rfl rfl same (fun _ => by first | exact ⟨_, rfl⟩ | exact ⟨pure _, rfl⟩) ?_) ?_
  ·have cz := cz_.out; go_big_quiet_op; first | rfl | exact ⟨_, fun _ _ => rfl, rfl⟩
  try simp only [Act.put, List.setIfInBounds_toArray, List.set_cons_zero, List.set_cons_succ]
  refine AnyOrder.obs_cons (.string (t260)) rfl (AnyOrder.ob_quiet (d := 50) rfl (show (50 : Nat) < 74 by omega) rfl rfl same (fun _ => by first | exact ⟨_, rfl⟩ | exact ⟨pure _, rfl⟩) ?_) ?_
  ·go_big_quiet_op; first | rfl | exact ⟨_, fun _ _ => rfl, rfl⟩
  try simp only [Act.put, List.setIfInBounds_toArray, List.set_cons_zero, List.set_cons_succ]
  refine AnyOrder.obs_cons (.string (t1 ++ t2 ++ t3 ++ t4 ++ strOfNums (sternpostref08_Bytes_l1 (t260.size : Int) a2_4) ++ t5 ++ (⟨#[0, 0]⟩ : ByteArray) ++ t6 ++ t260)) rfl (AnyOrder.ob_quiet (d := 51) rfl (show (51 : Nat) < 74 by omega) rfl rfl same (fun _ => by first | exact ⟨_, rfl⟩ | exact ⟨pure _, rfl⟩) ?_) ?_
  ·have cz := cz_.out; go_big_quiet_op; first | rfl | exact ⟨_, fun _ _ => rfl, rfl⟩
  try simp only [Act.put, List.setIfInBounds_toArray, List.set_cons_zero, List.set_cons_succ]
  refine AnyOrder.obs_cons (.pointer (some ⟨gb259, 15, none⟩)) rfl (AnyOrder.ob_quiet (d := 52) rfl (show (52 : Nat) < 74 by omega) rfl rfl same (fun _ => by first | exact ⟨_, rfl⟩ | exact ⟨pure _, rfl⟩) ?_) ?_
  ·go_big_quiet_op; first | rfl | exact ⟨_, fun _ _ => rfl, rfl⟩
  try simp only [Act.put, List.setIfInBounds_toArray, List.set_cons_zero, List.set_cons_succ]
  refine AnyOrder.obs_cons (.string (a2_15)) rfl (AnyOrder.ob_quiet (d := 53) rfl (show (53 : Nat) < 74 by omega) rfl rfl same (fun _ => by first | exact ⟨_, rfl⟩ | exact ⟨pure _, rfl⟩) ?_) ?_
  ·refine ⟨_, fun W' hW => ?_, rfl⟩; have hcz := (blk_cell (blk_below BK259.out hW) 15).trans rfl; unfold Oper.quietAt; go_simp; first | done | rfl | exact ⟨rfl, rfl⟩
  try simp only [Act.put, List.setIfInBounds_toArray, List.set_cons_zero, List.set_cons_succ]
  refine AnyOrder.obs_cons (.string (t1 ++ t2 ++ t3 ++ t4 ++ strOfNums (sternpostref08_Bytes_l1 (t260.size : Int) a2_4) ++ t5 ++ (⟨#[0, 0]⟩ : ByteArray) ++ t6 ++ t260 ++ a2_15)) rfl (AnyOrder.ob_quiet (d := 54) rfl (show (54 : Nat) < 74 by omega) rfl rfl same (fun _ => by first | exact ⟨_, rfl⟩ | exact ⟨pure _, rfl⟩) ?_) ?_
  ·have cz := cz_.out; go_big_quiet_op; first | rfl | exact ⟨_, fun _ _ => rfl, rfl⟩
  try simp only [Act.put, List.setIfInBounds_toArray, List.set_cons_zero, List.set_cons_succ]
  refine AnyOrder.obs_cons (.string (t1 ++ t2 ++ t3 ++ t4 ++ strOfNums (sternpostref08_Bytes_l1 (t260.size : Int) a2_4) ++ t5 ++ (⟨#[0, 0]⟩ : ByteArray) ++ t6 ++ t260 ++ a2_15)) rfl (AnyOrder.ob_quiet (d := 8) rfl (show (8 : Nat) < 74 by omega) rfl rfl same (fun _ => by first | exact ⟨_, rfl⟩ | exact ⟨pure _, rfl⟩) ?_) ?_
  ·go_big_quiet_op; first | rfl | exact ⟨_, fun _ _ => rfl, rfl⟩
  try simp only [Act.put, List.setIfInBounds_toArray, List.set_cons_zero, List.set_cons_succ]
  trivial
 case fin =>
  intro x W hW _
  simp only [List.take_succ_cons, List.take_zero, List.drop_succ_cons, List.drop_zero]
  rw [AnyOrder.lexAt_cons (.pointer (some ⟨gb259, 0, none⟩)) rfl]
  try simp only [Act.put, List.setIfInBounds_toArray, List.set_cons_zero, List.set_cons_succ]
  rw [AnyOrder.lexAt_cons (.int .i64 a2_0) rfl]
  try simp only [Act.put, List.setIfInBounds_toArray, List.set_cons_zero, List.set_cons_succ]
  rw [AnyOrder.lexAt_cons (.string (t1)) rfl]
  try simp only [Act.put, List.setIfInBounds_toArray, List.set_cons_zero, List.set_cons_succ]
  rw [AnyOrder.lexAt_cons (.pointer (some ⟨gb259, 1, none⟩)) rfl]
  try simp only [Act.put, List.setIfInBounds_toArray, List.set_cons_zero, List.set_cons_succ]
  rw [AnyOrder.lexAt_cons (.int .i64 a2_1) rfl]
  try simp only [Act.put, List.setIfInBounds_toArray, List.set_cons_zero, List.set_cons_succ]
  rw [AnyOrder.lexAt_cons (.string (t2)) rfl]
  try simp only [Act.put, List.setIfInBounds_toArray, List.set_cons_zero, List.set_cons_succ]
  rw [AnyOrder.lexAt_cons (.string (t1 ++ t2)) rfl]
  try simp only [Act.put, List.setIfInBounds_toArray, List.set_cons_zero, List.set_cons_succ]
  rw [AnyOrder.lexAt_cons (.pointer (some ⟨gb259, 2, none⟩)) rfl]
  try simp only [Act.put, List.setIfInBounds_toArray, List.set_cons_zero, List.set_cons_succ]
  rw [AnyOrder.lexAt_cons (.int .i64 a2_2) rfl]
  try simp only [Act.put, List.setIfInBounds_toArray, List.set_cons_zero, List.set_cons_succ]
  rw [AnyOrder.lexAt_cons (.string (t3)) rfl]
  try simp only [Act.put, List.setIfInBounds_toArray, List.set_cons_zero, List.set_cons_succ]
  rw [AnyOrder.lexAt_cons (.string (t1 ++ t2 ++ t3)) rfl]
  try simp only [Act.put, List.setIfInBounds_toArray, List.set_cons_zero, List.set_cons_succ]
  rw [AnyOrder.lexAt_cons (.pointer (some ⟨gb259, 3, none⟩)) rfl]
  try simp only [Act.put, List.setIfInBounds_toArray, List.set_cons_zero, List.set_cons_succ]
  rw [AnyOrder.lexAt_cons (.int .i64 a2_3) rfl]
  try simp only [Act.put, List.setIfInBounds_toArray, List.set_cons_zero, List.set_cons_succ]
  rw [AnyOrder.lexAt_cons (.string (t4)) rfl]
  try simp only [Act.put, List.setIfInBounds_toArray, List.set_cons_zero, List.set_cons_succ]
  rw [AnyOrder.lexAt_cons (.string (t1 ++ t2 ++ t3 ++ t4)) rfl]
  try simp only [Act.put, List.setIfInBounds_toArray, List.set_cons_zero, List.set_cons_succ]
  rw [AnyOrder.lexAt_cons (.string (t260)) rfl]
  try simp only [Act.put, List.setIfInBounds_toArray, List.set_cons_zero, List.set_cons_succ]
  rw [AnyOrder.lexAt_cons (.int .i64 (t260.size : Int)) rfl]
  try simp only [Act.put, List.setIfInBounds_toArray, List.set_cons_zero, List.set_cons_succ]
  rw [AnyOrder.lexAt_cons (.int .i64 (wrap64 (20 + (t260.size : Int)))) rfl]
  try simp only [Act.put, List.setIfInBounds_toArray, List.set_cons_zero, List.set_cons_succ]
  rw [AnyOrder.lexAt_cons (.int .i64 (wrap64 (Int.tdiv (wrap64 (20 + (t260.size : Int))) 4))) rfl]
  try simp only [Act.put, List.setIfInBounds_toArray, List.set_cons_zero, List.set_cons_succ]
  rw [AnyOrder.lexAt_cons (.int .i64 (wrap64 ((wrap64 (Int.tdiv (wrap64 (20 + (t260.size : Int))) 4)) * 16))) rfl]
  try simp only [Act.put, List.setIfInBounds_toArray, List.set_cons_zero, List.set_cons_succ]
  rw [AnyOrder.lexAt_cons (.int .u8 ((wrap64 ((wrap64 (Int.tdiv (wrap64 (20 + (t260.size : Int))) 4)) * 16)) % 256)) rfl]
  try simp only [Act.put, List.setIfInBounds_toArray, List.set_cons_zero, List.set_cons_succ]
  rw [AnyOrder.lexAt_cons (.pointer (some ⟨gb259, 4, none⟩)) rfl]
  try simp only [Act.put, List.setIfInBounds_toArray, List.set_cons_zero, List.set_cons_succ]
  rw [AnyOrder.lexAt_cons (.int .i64 a2_4) rfl]
  try simp only [Act.put, List.setIfInBounds_toArray, List.set_cons_zero, List.set_cons_succ]
  rw [AnyOrder.lexAt_cons (.int .u8 (a2_4 % 256)) rfl]
  try simp only [Act.put, List.setIfInBounds_toArray, List.set_cons_zero, List.set_cons_succ]
  rw [AnyOrder.lexAt_cons (x 24) rfl]
  try simp only [Act.put, List.setIfInBounds_toArray, List.set_cons_zero, List.set_cons_succ]
  rw [AnyOrder.lexAt_cons (.string (strOfNums (sternpostref08_Bytes_l1 (t260.size : Int) a2_4))) rfl]
  try simp only [Act.put, List.setIfInBounds_toArray, List.set_cons_zero, List.set_cons_succ]
  rw [AnyOrder.lexAt_cons (.string (t1 ++ t2 ++ t3 ++ t4 ++ strOfNums (sternpostref08_Bytes_l1 (t260.size : Int) a2_4))) rfl]
  try simp only [Act.put, List.setIfInBounds_toArray, List.set_cons_zero, List.set_cons_succ]
  rw [AnyOrder.lexAt_cons (.pointer (some ⟨gb259, 5, none⟩)) rfl]
  try simp only [Act.put, List.setIfInBounds_toArray, List.set_cons_zero, List.set_cons_succ]
  rw [AnyOrder.lexAt_cons (.int .i64 a2_5) rfl]
  try simp only [Act.put, List.setIfInBounds_toArray, List.set_cons_zero, List.set_cons_succ]
  rw [AnyOrder.lexAt_cons (.string (t5)) rfl]
  try simp only [Act.put, List.setIfInBounds_toArray, List.set_cons_zero, List.set_cons_succ]
  rw [AnyOrder.lexAt_cons (.string (t1 ++ t2 ++ t3 ++ t4 ++ strOfNums (sternpostref08_Bytes_l1 (t260.size : Int) a2_4) ++ t5)) rfl]
  try simp only [Act.put, List.setIfInBounds_toArray, List.set_cons_zero, List.set_cons_succ]
  rw [AnyOrder.lexAt_cons (.string (t1 ++ t2 ++ t3 ++ t4 ++ strOfNums (sternpostref08_Bytes_l1 (t260.size : Int) a2_4) ++ t5 ++ (⟨#[0, 0]⟩ : ByteArray))) rfl]
  try simp only [Act.put, List.setIfInBounds_toArray, List.set_cons_zero, List.set_cons_succ]
  rw [AnyOrder.lexAt_cons (.pointer (some ⟨gb259, 6, none⟩)) rfl]
  try simp only [Act.put, List.setIfInBounds_toArray, List.set_cons_zero, List.set_cons_succ]
  rw [AnyOrder.lexAt_cons (.int .i64 a2_6) rfl]
  try simp only [Act.put, List.setIfInBounds_toArray, List.set_cons_zero, List.set_cons_succ]
  rw [AnyOrder.lexAt_cons (.string (t6)) rfl]
  try simp only [Act.put, List.setIfInBounds_toArray, List.set_cons_zero, List.set_cons_succ]
  rw [AnyOrder.lexAt_cons (.string (t1 ++ t2 ++ t3 ++ t4 ++ strOfNums (sternpostref08_Bytes_l1 (t260.size : Int) a2_4) ++ t5 ++ (⟨#[0, 0]⟩ : ByteArray) ++ t6)) rfl]
  try simp only [Act.put, List.setIfInBounds_toArray, List.set_cons_zero, List.set_cons_succ]
  rw [AnyOrder.lexAt_cons (.string (t260)) rfl]
  try simp only [Act.put, List.setIfInBounds_toArray, List.set_cons_zero, List.set_cons_succ]
  rw [AnyOrder.lexAt_cons (.string (t1 ++ t2 ++ t3 ++ t4 ++ strOfNums (sternpostref08_Bytes_l1 (t260.size : Int) a2_4) ++ t5 ++ (⟨#[0, 0]⟩ : ByteArray) ++ t6 ++ t260)) rfl]
  try simp only [Act.put, List.setIfInBounds_toArray, List.set_cons_zero, List.set_cons_succ]
  rw [AnyOrder.lexAt_cons (.pointer (some ⟨gb259, 15, none⟩)) rfl]
  try simp only [Act.put, List.setIfInBounds_toArray, List.set_cons_zero, List.set_cons_succ]
  rw [AnyOrder.lexAt_cons (.string (a2_15)) rfl]
  try simp only [Act.put, List.setIfInBounds_toArray, List.set_cons_zero, List.set_cons_succ]
  rw [AnyOrder.lexAt_cons (.string (t1 ++ t2 ++ t3 ++ t4 ++ strOfNums (sternpostref08_Bytes_l1 (t260.size : Int) a2_4) ++ t5 ++ (⟨#[0, 0]⟩ : ByteArray) ++ t6 ++ t260 ++ a2_15)) rfl]
  try simp only [Act.put, List.setIfInBounds_toArray, List.set_cons_zero, List.set_cons_succ]
  rw [AnyOrder.lexAt_cons (.string (t1 ++ t2 ++ t3 ++ t4 ++ strOfNums (sternpostref08_Bytes_l1 (t260.size : Int) a2_4) ++ t5 ++ (⟨#[0, 0]⟩ : ByteArray) ++ t6 ++ t260 ++ a2_15)) rfl]
  try simp only [Act.put, List.setIfInBounds_toArray, List.set_cons_zero, List.set_cons_succ]
  rw [AnyOrder.lexAt_nil]
  have HB2 := Aside0.mk (below_step HB.out hW)
  clear same hW
  have H := HT.out
  clear HT cz_
  generalize t1 ++ t2 ++ t3 ++ t4 ++ strOfNums (sternpostref08_Bytes_l1 (t260.size : Int) a2_4) ++ t5 ++ (⟨#[0, 0]⟩ : ByteArray) ++ t6 ++ t260 ++ a2_15 = b at H ⊢
  unfold sternpostref08_Bytes_tail2.f at H
  obtain ⟨⟨p1, p2⟩, h1, H⟩ := Option.bind_eq_some_iff.mp H
  have AP := Aside0.mk h1
  clear h1
  try dsimp only at H
  by_cases cz : p1.size + b.size ≤ 9223372036854775807 ∧ 18 ≤ b.size
  case neg => rw [if_neg cz] at H; cases H
  rw [if_pos cz] at H
  have CZ := Aside0.mk cz
  clear cz
  obtain ⟨n, h1, H⟩ := Option.bind_eq_some_iff.mp H
  have AN := Aside0.mk h1
  clear h1
  obtain ⟨t, h1, H⟩ := Option.bind_eq_some_iff.mp H
  have AT := Aside0.mk h1
  clear h1
  by_cases cy : (cutS b 0 16).size + t.size + (cutS b 18 b.size).size ≤ 9223372036854775807
  case neg => rw [if_neg cy] at H; cases H
  rw [if_pos cy] at H
  have CY := Aside0.mk cy
  clear cy
  obtain rfl := Option.some.inj H
  clear H
  go_wp2_with fail
  refine (sternpostref02_Pseudo.calls k a0 a1 6 (b.size : Int) p1 p2 _ AP.out).mono ?_
  rintro e W2 ⟨rfl, hb⟩
  have HB3 := Aside0.mk (below_step HB2.out hb)
  clear hb
  go_wp2_with (first | ((with_reducible refine gate_load (t := 26) rfl ?_); refine gate_wanted ?hw (fun hw_ => ?_); (case hw => first | rfl | (go_simp; done)); refine load_big hw_ 26 _ rfl _ rfl 26 _ (0, 0) _ (by (with_reducible repeat (first | apply blk_drewN | apply blk_drew | apply blk_alloc | (apply blk_farA; case hp => assumption) | apply blk_put)); apply Aside0.out; assumption; all_goals (simp only [List.setIfInBounds_toArray, List.set_cons_zero, List.set_cons_succ]; try rfl)) Try.underlying26 rfl (by kernel_rfl) ?_; clear hw_; simp only [Act.put, List.setIfInBounds_toArray, List.set_cons_zero, List.set_cons_succ]) | ((with_reducible refine gate_store (t := 26) rfl ?_); refine store_big rfl 26 _ _ rfl _ _ rfl rfl 26 _ (by (with_reducible repeat (first | apply blk_drewN | apply blk_drew | apply blk_alloc | (apply blk_farA; case hp => assumption) | apply blk_put)); apply Aside0.out; assumption; all_goals (simp only [List.setIfInBounds_toArray, List.set_cons_zero, List.set_cons_succ]; try rfl)) (by kernel_rfl) (by rfl) (by rfl) _ (by simp only [World.setCells, Nat.reduceAdd]; rfl) ?_; simp only [Act.put, List.setIfInBounds_toArray, List.set_cons_zero, List.set_cons_succ]) | go_in)
  have same : ∀ W', Below W2.heap.size W2 W' → Below W'.heap.size W' W' := fun W' _ => Below.refl _ _
  refine AnyOrder.region_then 12 (C := fun W' => Below W2.heap.size W2 W') (G := fun W1 W2 => Below W1.heap.size W1 W2) (T := []) (R := fun _ _ _ => True) (vs := [(.string (b)), (.string (cutS b 0 16)), (.string (p1)), (.string (b)), (.string (p1 ++ b)), (.int .i64 n), (.string (t)), (.string (cutS b 0 16 ++ t)), (.string (b)), (.string (cutS b 18 b.size)), (.string (cutS b 0 16 ++ t ++ cutS b 18 b.size)), (.string (cutS b 0 16 ++ t ++ cutS b 18 b.size))]) (by kernel_rfl) rfl (by kernel_rfl) (below_drew1 (Below.refl _ _)) same (fun _ _ _ _ _ _ => trivial) (fun x => ?obs2) ?fin2
  case obs2 =>
   refine AnyOrder.obs_cons (.string (b)) rfl (AnyOrder.ob_quiet (d := 63) rfl (show (63 : Nat) < 74 by omega) rfl rfl same (fun _ => by first | exact ⟨_, rfl⟩ | exact ⟨pure _, rfl⟩) ?_) ?_
   ·go_big_quiet_op; first | rfl | exact ⟨_, fun _ _ => rfl, rfl⟩
   try simp only [Act.put, List.setIfInBounds_toArray, List.set_cons_zero, List.set_cons_succ]
   refine AnyOrder.obs_cons (.string (cutS b 0 16)) rfl (AnyOrder.ob_plain rfl rfl same rfl (fun W' hW => sternpostref08_Bytes_slice_to Try.underlying9 rfl rfl rfl (by have := CZ.out.2; omega))) ?_
   try simp only [Act.put, List.setIfInBounds_toArray, List.set_cons_zero, List.set_cons_succ]
   refine AnyOrder.obs_cons (.string (p1)) rfl (AnyOrder.ob_quiet (d := 65) rfl (show (65 : Nat) < 74 by omega) rfl rfl same (fun _ => by first | exact ⟨_, rfl⟩ | exact ⟨pure _, rfl⟩) ?_) ?_
   ·go_big_quiet_op; first | rfl | exact ⟨_, fun _ _ => rfl, rfl⟩
   try simp only [Act.put, List.setIfInBounds_toArray, List.set_cons_zero, List.set_cons_succ]
   refine AnyOrder.obs_cons (.string (b)) rfl (AnyOrder.ob_quiet (d := 66) rfl (show (66 : Nat) < 74 by omega) rfl rfl same (fun _ => by first | exact ⟨_, rfl⟩ | exact ⟨pure _, rfl⟩) ?_) ?_
   ·go_big_quiet_op; first | rfl | exact ⟨_, fun _ _ => rfl, rfl⟩
   try simp only [Act.put, List.setIfInBounds_toArray, List.set_cons_zero, List.set_cons_succ]
   refine AnyOrder.obs_cons (.string (p1 ++ b)) rfl (AnyOrder.ob_quiet (d := 67) rfl (show (67 : Nat) < 74 by omega) rfl rfl same (fun _ => by first | exact ⟨_, rfl⟩ | exact ⟨pure _, rfl⟩) ?_) ?_
   ·have cz := CZ.out.1; go_big_quiet_op; first | rfl | exact ⟨_, fun _ _ => rfl, rfl⟩
   try simp only [Act.put, List.setIfInBounds_toArray, List.set_cons_zero, List.set_cons_succ]
   refine AnyOrder.obs_cons (.int .i64 n) rfl (AnyOrder.ob_call rfl rfl rfl 56 #[.string (p1 ++ b)] (fun W' hW => ?_) (fun W' hW => ?_)) ?_
   ·go_simp
   ·exact (sternpostref02_Sum.calls k (p1 ++ b) n W' AN.out).mono fun e w2 h2 => have hb : Below W'.heap.size W' w2 := (by first | exact h2.2 | (obtain ⟨nd, e_⟩ := h2.2; rw [e_]; exact pw_below_drewN (Below.refl _ _) nd)); ⟨h2.1, below_step hW hb, hb⟩
   try simp only [Act.put, List.setIfInBounds_toArray, List.set_cons_zero, List.set_cons_succ]
   refine AnyOrder.obs_cons (.string (t)) rfl (AnyOrder.ob_call rfl rfl rfl 55 #[.int .i64 n, .int .i64 2] (fun W' hW => ?_) (fun W' hW => ?_)) ?_
   ·go_simp
   ·exact (sternpostref02_Text.calls k n 2 t W' AT.out).mono fun e w2 h2 => ⟨h2.1, below_step hW h2.2, h2.2⟩
   try simp only [Act.put, List.setIfInBounds_toArray, List.set_cons_zero, List.set_cons_succ]
   refine AnyOrder.obs_cons (.string (cutS b 0 16 ++ t)) rfl (AnyOrder.ob_quiet (d := 70) rfl (show (70 : Nat) < 74 by omega) rfl rfl same (fun _ => by first | exact ⟨_, rfl⟩ | exact ⟨pure _, rfl⟩) ?_) ?_
   ·have cz := CY.out; go_big_quiet_op; first | rfl | exact ⟨_, fun _ _ => rfl, rfl⟩
   try simp only [Act.put, List.setIfInBounds_toArray, List.set_cons_zero, List.set_cons_succ]
   refine AnyOrder.obs_cons (.string (b)) rfl (AnyOrder.ob_quiet (d := 71) rfl (show (71 : Nat) < 74 by omega) rfl rfl same (fun _ => by first | exact ⟨_, rfl⟩ | exact ⟨pure _, rfl⟩) ?_) ?_
   ·go_big_quiet_op; first | rfl | exact ⟨_, fun _ _ => rfl, rfl⟩
   try simp only [Act.put, List.setIfInBounds_toArray, List.set_cons_zero, List.set_cons_succ]
   refine AnyOrder.obs_cons (.string (cutS b 18 b.size)) rfl (AnyOrder.ob_plain rfl rfl same rfl (fun W' hW => sternpostref08_Bytes_slice_from Try.underlying9 rfl rfl rfl (by have := CZ.out.2; omega))) ?_
   try simp only [Act.put, List.setIfInBounds_toArray, List.set_cons_zero, List.set_cons_succ]
   refine AnyOrder.obs_cons (.string (cutS b 0 16 ++ t ++ cutS b 18 b.size)) rfl (AnyOrder.ob_quiet (d := 73) rfl (show (73 : Nat) < 74 by omega) rfl rfl same (fun _ => by first | exact ⟨_, rfl⟩ | exact ⟨pure _, rfl⟩) ?_) ?_
   ·have cz := CY.out; go_big_quiet_op; first | rfl | exact ⟨_, fun _ _ => rfl, rfl⟩
   try simp only [Act.put, List.setIfInBounds_toArray, List.set_cons_zero, List.set_cons_succ]
   refine AnyOrder.obs_cons (.string (cutS b 0 16 ++ t ++ cutS b 18 b.size)) rfl (AnyOrder.ob_quiet (d := 6) rfl (show (6 : Nat) < 74 by omega) rfl rfl same (fun _ => by first | exact ⟨_, rfl⟩ | exact ⟨pure _, rfl⟩) ?_) ?_
   ·go_big_quiet_op; first | rfl | exact ⟨_, fun _ _ => rfl, rfl⟩
   try simp only [Act.put, List.setIfInBounds_toArray, List.set_cons_zero, List.set_cons_succ]
   trivial
  case fin2 =>
   intro x2 W3 hW3 _
   simp only [List.take_succ_cons, List.take_zero, List.drop_succ_cons, List.drop_zero]
   rw [AnyOrder.lexAt_cons (.string (b)) rfl]
   try simp only [Act.put, List.setIfInBounds_toArray, List.set_cons_zero, List.set_cons_succ]
   rw [AnyOrder.lexAt_cons (.string (cutS b 0 16)) rfl]
   try simp only [Act.put, List.setIfInBounds_toArray, List.set_cons_zero, List.set_cons_succ]
   rw [AnyOrder.lexAt_cons (.string (p1)) rfl]
   try simp only [Act.put, List.setIfInBounds_toArray, List.set_cons_zero, List.set_cons_succ]
   rw [AnyOrder.lexAt_cons (.string (b)) rfl]
   try simp only [Act.put, List.setIfInBounds_toArray, List.set_cons_zero, List.set_cons_succ]
   rw [AnyOrder.lexAt_cons (.string (p1 ++ b)) rfl]
   try simp only [Act.put, List.setIfInBounds_toArray, List.set_cons_zero, List.set_cons_succ]
   rw [AnyOrder.lexAt_cons (.int .i64 n) rfl]
   try simp only [Act.put, List.setIfInBounds_toArray, List.set_cons_zero, List.set_cons_succ]
   rw [AnyOrder.lexAt_cons (.string (t)) rfl]
   try simp only [Act.put, List.setIfInBounds_toArray, List.set_cons_zero, List.set_cons_succ]
   rw [AnyOrder.lexAt_cons (.string (cutS b 0 16 ++ t)) rfl]
   try simp only [Act.put, List.setIfInBounds_toArray, List.set_cons_zero, List.set_cons_succ]
   rw [AnyOrder.lexAt_cons (.string (b)) rfl]
   try simp only [Act.put, List.setIfInBounds_toArray, List.set_cons_zero, List.set_cons_succ]
   rw [AnyOrder.lexAt_cons (.string (cutS b 18 b.size)) rfl]
   try simp only [Act.put, List.setIfInBounds_toArray, List.set_cons_zero, List.set_cons_succ]
   rw [AnyOrder.lexAt_cons (.string (cutS b 0 16 ++ t ++ cutS b 18 b.size)) rfl]
   try simp only [Act.put, List.setIfInBounds_toArray, List.set_cons_zero, List.set_cons_succ]
   rw [AnyOrder.lexAt_cons (.string (cutS b 0 16 ++ t ++ cutS b 18 b.size)) rfl]
   try simp only [Act.put, List.setIfInBounds_toArray, List.set_cons_zero, List.set_cons_succ]
   rw [AnyOrder.lexAt_nil]
   have HF := Aside0.mk (below_step HB3.out hW3)
   clear same hW3
   go_wp2_with (first | ((with_reducible refine gate_load (t := 26) rfl ?_); refine gate_wanted ?hw (fun hw_ => ?_); (case hw => first | rfl | (go_simp; done)); refine load_big hw_ 26 _ rfl _ rfl 26 _ (0, 0) _ (by (with_reducible repeat (first | apply blk_drewN | apply blk_drew | apply blk_alloc | (apply blk_farA; case hp => assumption) | apply blk_put)); apply Aside0.out; assumption; all_goals (simp only [List.setIfInBounds_toArray, List.set_cons_zero, List.set_cons_succ]; try rfl)) Try.underlying26 rfl (by kernel_rfl) ?_; clear hw_; simp only [Act.put, List.setIfInBounds_toArray, List.set_cons_zero, List.set_cons_succ]) | ((with_reducible refine gate_store (t := 26) rfl ?_); refine store_big rfl 26 _ _ rfl _ _ rfl rfl 26 _ (by (with_reducible repeat (first | apply blk_drewN | apply blk_drew | apply blk_alloc | (apply blk_farA; case hp => assumption) | apply blk_put)); apply Aside0.out; assumption; all_goals (simp only [List.setIfInBounds_toArray, List.set_cons_zero, List.set_cons_succ]; try rfl)) (by kernel_rfl) (by rfl) (by rfl) _ (by simp only [World.setCells, Nat.reduceAdd]; rfl) ?_; simp only [Act.put, List.setIfInBounds_toArray, List.set_cons_zero, List.set_cons_succ]) | go_in)
   go_ret
   exact ⟨by first | rfl | simp, HF.out⟩

/-! ### sternpostref08_Encode: function 18 -/
def sternpostref08_Encode.j0 : Nat → Int → Int → Bool → Int → Int → Int → Int → Int → Int → Int → Int → Int → Int → Int → Bool → Bool → Bool → List (S73) → ByteArray → Option (ByteArray × Int)
 | 0, _, _, _, _, _, _, _, _, _, _, _, _, _, _, _, _, _, _, _ => none
 | k + 1, x0, x1, x16, x262000, x262001, x262002, x262003, x262004, x262005, x262006, x262007, x262008, x262009, x262010, x262011, x262012, x262013, x262014, x262015 => if x16 = true then (some ((⟨#[]⟩ : ByteArray), 1)) else ((sternpostref08_Check.f k x262000 x262001 x262002 x262003 x262004 x262005 x262006 x262007 x262008 x262009 x262010 x262011 x262012 x262013 x262014 x262015).bind fun t264 => (if t264 = 0 then ((sternpostref08_Bytes.f k x0 x1 x262000 x262001 x262002 x262003 x262004 x262005 x262006 x262007 x262008 x262009 x262010 x262011 x262012 x262013 x262014 x262015).bind fun t265 => (some (t265, 0))) else (some ((⟨#[]⟩ : ByteArray), t264))))
def sternpostref08_Encode.f (k : Nat) (a0 : Int) (a1 : Int) (a2_0 : Int) (a2_1 : Int) (a2_2 : Int) (a2_3 : Int) (a2_4 : Int) (a2_5 : Int) (a2_6 : Int) (a2_7 : Int) (a2_8 : Int) (a2_9 : Int) (a2_10 : Int) (a2_11 : Bool) (a2_12 : Bool) (a2_13 : Bool) (l2_14 : List (S73)) (a2_15 : ByteArray) : Option (ByteArray × Int) := (sternpostref01_Check.f a0).bind fun t262 => (if t262 = 0 then ((sternpostref01_Check.f a1).bind fun t263 => (sternpostref08_Encode.j0 k a0 a1 (t263 != 0) a2_0 a2_1 a2_2 a2_3 a2_4 a2_5 a2_6 a2_7 a2_8 a2_9 a2_10 a2_11 a2_12 a2_13 l2_14 a2_15)) else (sternpostref08_Encode.j0 k a0 a1 true a2_0 a2_1 a2_2 a2_3 a2_4 a2_5 a2_6 a2_7 a2_8 a2_9 a2_10 a2_11 a2_12 a2_13 l2_14 a2_15))
theorem sternpostref08_Encode.mono_l : ∀ k, (∀ y0 y1 y2 y3 y4 y5 y6 y7 y8 y9 y10 y11 y12 y13 y14 y15 y16 y17 y18, LeO (sternpostref08_Encode.j0 k y0 y1 y2 y3 y4 y5 y6 y7 y8 y9 y10 y11 y12 y13 y14 y15 y16 y17 y18) (sternpostref08_Encode.j0 (k + 1) y0 y1 y2 y3 y4 y5 y6 y7 y8 y9 y10 y11 y12 y13 y14 y15 y16 y17 y18))
 | 0 => fun _ _ _ _ _ _ _ _ _ _ _ _ _ _ _ _ _ _ _ r h => by simp [sternpostref08_Encode.j0] at h
 | k + 1 => by
  have ih0 := sternpostref08_Encode.mono_l k
  ·intro y0 y1 y2 y3 y4 y5 y6 y7 y8 y9 y10 y11 y12 y13 y14 y15 y16 y17 y18
   unfold sternpostref08_Encode.j0
   repeat' first
   | (with_reducible exact ih0 _ _ _ _ _ _ _ _ _ _ _ _ _ _ _ _ _ _ _)
   | (with_reducible exact sternpostref08_Bytes.mono _ _ _ _ _ _ _ _ _ _ _ _ _ _ _ _ _ _ _)
   | (with_reducible exact sternpostref08_Check.mono _ _ _ _ _ _ _ _ _ _ _ _ _ _ _ _ _)
   | (with_reducible exact LeO.refl _)
   | (with_reducible exact LeO.none _)
   | (with_reducible refine LeO.ite ?_ ?_)
   | (with_reducible refine LeO.bind ?_ (fun _ => ?_))
   | exact ih0 _ _ _ _ _ _ _ _ _ _ _ _ _ _ _ _ _ _ _
   | exact sternpostref08_Bytes.mono _ _ _ _ _ _ _ _ _ _ _ _ _ _ _ _ _ _ _
   | exact sternpostref08_Check.mono _ _ _ _ _ _ _ _ _ _ _ _ _ _ _ _ _
   | exact LeO.none _
   | refine LeO.ite ?_ ?_
   | refine LeO.bind ?_ (fun _ => ?_)
theorem sternpostref08_Encode.mono : ∀ a0 a1 a2 a3 a4 a5 a6 a7 a8 a9 a10 a11 a12 a13 a14 a15 a16 a17 k, LeO (sternpostref08_Encode.f k a0 a1 a2 a3 a4 a5 a6 a7 a8 a9 a10 a11 a12 a13 a14 a15 a16 a17) (sternpostref08_Encode.f (k + 1) a0 a1 a2 a3 a4 a5 a6 a7 a8 a9 a10 a11 a12 a13 a14 a15 a16 a17) := by
 intro a0 a1 a2 a3 a4 a5 a6 a7 a8 a9 a10 a11 a12 a13 a14 a15 a16 a17 k
 have ih0 := sternpostref08_Encode.mono_l k
 unfold sternpostref08_Encode.f
 repeat' first
   | (with_reducible exact ih0 _ _ _ _ _ _ _ _ _ _ _ _ _ _ _ _ _ _ _)
   | (with_reducible exact sternpostref08_Bytes.mono _ _ _ _ _ _ _ _ _ _ _ _ _ _ _ _ _ _ _)
   | (with_reducible exact sternpostref08_Check.mono _ _ _ _ _ _ _ _ _ _ _ _ _ _ _ _ _)
   | (with_reducible exact LeO.refl _)
   | (with_reducible exact LeO.none _)
   | (with_reducible refine LeO.ite ?_ ?_)
   | (with_reducible refine LeO.bind ?_ (fun _ => ?_))
   | exact ih0 _ _ _ _ _ _ _ _ _ _ _ _ _ _ _ _ _ _ _
   | exact sternpostref08_Bytes.mono _ _ _ _ _ _ _ _ _ _ _ _ _ _ _ _ _ _ _
   | exact sternpostref08_Check.mono _ _ _ _ _ _ _ _ _ _ _ _ _ _ _ _ _
   | exact LeO.none _
   | refine LeO.ite ?_ ?_
   | refine LeO.bind ?_ (fun _ => ?_)
set_option maxHeartbeats 8000000 in
set_option maxRecDepth 100000 in
theorem sternpostref08_Encode.calls (k : Nat) (a0 : Int) (a1 : Int) (a2_0 : Int) (a2_1 : Int) (a2_2 : Int) (a2_3 : Int) (a2_4 : Int) (a2_5 : Int) (a2_6 : Int) (a2_7 : Int) (a2_8 : Int) (a2_9 : Int) (a2_10 : Int) (a2_11 : Bool) (a2_12 : Bool) (a2_13 : Bool) (A2_14 : Option Addr) (c2_14 : Nat) (l2_14 : List (S73)) (a2_15 : ByteArray) (r1 : ByteArray) (r2 : Int) (w : World) (hr2_14 : Kd.C k73 w A2_14 l2_14.length l2_14) (hc2_14 : l2_14.length ≤ c2_14) (h : sternpostref08_Encode.f k a0 a1 a2_0 a2_1 a2_2 a2_3 a2_4 a2_5 a2_6 a2_7 a2_8 a2_9 a2_10 a2_11 a2_12 a2_13 l2_14 a2_15 = some (r1, r2)) :
  Calls Try.prog 18 #[.int .i64 a0, .int .i64 a1, .agg #[.int .i64 a2_0, .int .i64 a2_1, .int .i64 a2_2, .int .i64 a2_3, .int .i64 a2_4, .int .i64 a2_5, .int .i64 a2_6, .int .i64 a2_7, .int .i64 a2_8, .int .i64 a2_9, .int .i64 a2_10, .bool a2_11, .bool a2_12, .bool a2_13, .slice A2_14 l2_14.length c2_14, .string a2_15]] w fun e w' => e = .returned (.tuple #[.string r1, .int .i64 r2]) ∧ Below w.heap.size w w' := by
 have hu26 := Try.underlying26
 have HR2_14 := Aside0.mk hr2_14
 have HC2_14 := Aside0.mk hc2_14
 clear hr2_14 hc2_14
 have HB := Aside0.mk (Below.refl w.heap.size w)
 have H : ((sternpostref01_Check.f a0).bind fun t262 => (if t262 = 0 then ((sternpostref01_Check.f a1).bind fun t263 => (sternpostref08_Encode.j0 k a0 a1 (t263 != 0) a2_0 a2_1 a2_2 a2_3 a2_4 a2_5 a2_6 a2_7 a2_8 a2_9 a2_10 a2_11 a2_12 a2_13 l2_14 a2_15)) else (sternpostref08_Encode.j0 k a0 a1 true a2_0 a2_1 a2_2 a2_3 a2_4 a2_5 a2_6 a2_7 a2_8 a2_9 a2_10 a2_11 a2_12 a2_13 l2_14 a2_15))) = some (r1, r2) := h
 clear h
 have HC4 := Aside0.mk H
 clear H
 go_enter Try.func18, Try.ntmps18
 go_upto_region 1 with (first | ((with_reducible refine gate_load (t := 26) rfl ?_); refine gate_wanted ?hw (fun hw_ => ?_); (case hw => first | rfl | (go_simp; done)); refine load_big hw_ 26 _ rfl _ rfl 26 _ (0, 0) _ (by (with_reducible repeat (first | apply blk_drewN | apply blk_drew | apply blk_alloc | (apply blk_farA; case hp => assumption) | apply blk_put)); apply Aside0.out; assumption; all_goals (simp only [List.setIfInBounds_toArray, List.set_cons_zero, List.set_cons_succ]; try rfl)) Try.underlying26 rfl (by kernel_rfl) ?_; clear hw_; simp only [Act.put, List.setIfInBounds_toArray, List.set_cons_zero, List.set_cons_succ]) | ((with_reducible refine gate_store (t := 26) rfl ?_); refine store_big rfl 26 _ _ rfl _ _ rfl rfl 26 _ (by (with_reducible repeat (first | apply blk_drewN | apply blk_drew | apply blk_alloc | (apply blk_farA; case hp => assumption) | apply blk_put)); apply Aside0.out; assumption; all_goals (simp only [List.setIfInBounds_toArray, List.set_cons_zero, List.set_cons_succ]; try rfl)) (by kernel_rfl) (by rfl) (by rfl) _ (by simp only [World.setCells, Nat.reduceAdd]; rfl) ?_; simp only [Act.put, List.setIfInBounds_toArray, List.set_cons_zero, List.set_cons_succ]) | ((with_reducible refine gate_dst (N := 5) rfl ?_); refine box_event ?hg (N := 5) ?hd (cs := #[.int .i64 a2_0, .int .i64 a2_1, .int .i64 a2_2, .int .i64 a2_3, .int .i64 a2_4, .int .i64 a2_5, .int .i64 a2_6, .int .i64 a2_7, .int .i64 a2_8, .int .i64 a2_9, .int .i64 a2_10, .bool a2_11, .bool a2_12, .bool a2_13, .slice A2_14 l2_14.length c2_14, .string a2_15]) (t := 26) ?hr ?_; (case hd => rfl); (case hg => rfl); (case hr => first | (go_simp; done) | (go_simp; rfl)); intro gb261 hg w5 hbox hb; have n0_ := Aside0.mk (below_step (by repeat (first | (with_reducible first | exact HB.out | apply below_alloc | apply pw_below_drewN | apply below_drew1) | exact HB.out)) hb); have n1_ := Aside0.mk (hbox); have n2_ := Aside0.mk ((by rw [hg]; exact (below_size (by repeat (first | (with_reducible first | exact HB.out | apply below_alloc | apply pw_below_drewN | apply below_drew1) | exact HB.out))) : w.heap.size ≤ gb261)); have n3_ := Aside0.mk ((by rw [hg]; exact (below_size (by repeat (first | (with_reducible first | exact HB.out | apply below_alloc | apply pw_below_drewN | apply below_drew1) | exact HB.out))) : w.heap.size ≤ gb261)); clear HB; have HB := n0_; have BK261 := n1_; have GW261 := n2_; have GE261 := n3_; clear n0_ n1_ n2_ n3_; clear hb hbox hg))
 (try simp only [Act.put, List.setIfInBounds_toArray, List.set_cons_zero, List.set_cons_succ])
 go_cut [16] (fun v16 wc => ∃ (kq : Nat) (x16_3 : Bool), v16 = .bool x16_3 ∧ Aside0 (sternpostref08_Encode.j0 kq a0 a1 x16_3 a2_0 a2_1 a2_2 a2_3 a2_4 a2_5 a2_6 a2_7 a2_8 a2_9 a2_10 a2_11 a2_12 a2_13 l2_14 a2_15 = some (r1, r2)) ∧ Aside0 (kq ≤ k) ∧ Aside0 (wc.heap[gb261]? = some (.cells #[.int .i64 a2_0, .int .i64 a2_1, .int .i64 a2_2, .int .i64 a2_3, .int .i64 a2_4, .int .i64 a2_5, .int .i64 a2_6, .int .i64 a2_7, .int .i64 a2_8, .int .i64 a2_9, .int .i64 a2_10, .bool a2_11, .bool a2_12, .bool a2_13, (.slice A2_14 l2_14.length c2_14), .string a2_15] 26 (0, 0))) ∧ Aside0 (Below w.heap.size w wc))
 case first =>
  have H := HC4.out
  clear HC4
  replace H := Option.bind_eq_some_iff.mp H
  obtain ⟨t262, A60, H⟩ := H
  replace H : (if t262 = 0 then ((sternpostref01_Check.f a1).bind fun t263 => (sternpostref08_Encode.j0 k a0 a1 (t263 != 0) a2_0 a2_1 a2_2 a2_3 a2_4 a2_5 a2_6 a2_7 a2_8 a2_9 a2_10 a2_11 a2_12 a2_13 l2_14 a2_15)) else (sternpostref08_Encode.j0 k a0 a1 true a2_0 a2_1 a2_2 a2_3 a2_4 a2_5 a2_6 a2_7 a2_8 a2_9 a2_10 a2_11 a2_12 a2_13 l2_14 a2_15)) = some (r1, r2) := H
  have A6 := Aside0.mk A60
  clear A60
  by_cases c7 : t262 = 0
  ·rw [if_pos c7] at H
   have c7b0 : (t262 == 0) = true := beq_iff_eq.mpr c7
   have c7b1 : (t262 != 0) = false := bne_eq_false_iff_eq.mpr c7
   clear c7
   (first | rw [c7b0] | (simp only [i64_w, i32_w]; rw [c7b0]) | rw [c7b1] | skip)
   replace H := Option.bind_eq_some_iff.mp H
   obtain ⟨t263, A80, H⟩ := H
   replace H : (sternpostref08_Encode.j0 k a0 a1 (t263 != 0) a2_0 a2_1 a2_2 a2_3 a2_4 a2_5 a2_6 a2_7 a2_8 a2_9 a2_10 a2_11 a2_12 a2_13 l2_14 a2_15) = some (r1, r2) := H
   have A8 := Aside0.mk A80
   clear A80
   have H' := Aside0.mk H
   clear H
   go_wp2_with (first | ((with_reducible refine gate_load (t := 26) rfl ?_); refine gate_wanted ?hw (fun hw_ => ?_); (case hw => first | rfl | (go_simp; done)); refine load_big hw_ 26 _ rfl _ rfl 26 _ (0, 0) _ (by (with_reducible repeat (first | apply blk_drewN | apply blk_drew | apply blk_alloc | (apply blk_farA; case hp => assumption) | apply blk_put)); apply Aside0.out; assumption; all_goals (simp only [List.setIfInBounds_toArray, List.set_cons_zero, List.set_cons_succ]; try rfl)) Try.underlying26 rfl (by kernel_rfl) ?_; clear hw_; simp only [Act.put, List.setIfInBounds_toArray, List.set_cons_zero, List.set_cons_succ]) | ((with_reducible refine gate_store (t := 26) rfl ?_); refine store_big rfl 26 _ _ rfl _ _ rfl rfl 26 _ (by (with_reducible repeat (first | apply blk_drewN | apply blk_drew | apply blk_alloc | (apply blk_farA; case hp => assumption) | apply blk_put)); apply Aside0.out; assumption; all_goals (simp only [List.setIfInBounds_toArray, List.set_cons_zero, List.set_cons_succ]; try rfl)) (by kernel_rfl) (by rfl) (by rfl) _ (by simp only [World.setCells, Nat.reduceAdd]; rfl) ?_; simp only [Act.put, List.setIfInBounds_toArray, List.set_cons_zero, List.set_cons_succ]) | ((with_reducible refine gate_callee (f := 37) rfl ?_); refine goesL_ (some 10) rfl rfl Try.func37 (by kernel_rfl) rfl #[.int .i64 a0] rfl (by (try simp only [List.map_toArray, List.map_cons, List.map_nil]); first | done | rfl | (simp only [List.length_drop, List.length_take]; rfl)) ?_; (with_reducible refine (sternpostref01_Check.calls a0 t262 _ A6.out).mono ?_); rintro e w' ⟨rfl, ⟨nd, rfl⟩⟩; refine ⟨_, rfl, ?_⟩) | (go_at_call 37; (with_reducible refine (sternpostref01_Check.calls a1 t263 _ A8.out).mono ?_); rintro e w' ⟨rfl, ⟨nd, rfl⟩⟩))
   go_meet
   case rel => exact ⟨_, ((t263 != 0)), (by first | rfl | (simp; done) | (simp [*]; done)), H', ⟨by first | omega | exact Nat.le_refl _⟩, ⟨by (with_reducible repeat (first | refine blk_drewN ?_ _ | refine blk_drew ?_ | refine blk_alloc ?_ _)); exact BK261.out⟩, ⟨by repeat (first | (with_reducible first | exact HB.out | apply below_alloc | apply pw_below_drewN | apply below_drew1 | refine below_set ?_ GE261.out) | exact HB.out)⟩⟩
  ·rw [if_neg c7] at H
   have c7b0 : (t262 == 0) = false := beq_eq_false_iff_ne.mpr c7
   have c7b1 : (t262 != 0) = true := bne_iff_ne.mpr c7
   (first | rw [c7b0] | (simp only [i64_w, i32_w]; rw [c7b0]) | rw [c7b1] | skip)
   have H' := Aside0.mk H
   clear H
   go_wp2_with (first | ((with_reducible refine gate_load (t := 26) rfl ?_); refine gate_wanted ?hw (fun hw_ => ?_); (case hw => first | rfl | (go_simp; done)); refine load_big hw_ 26 _ rfl _ rfl 26 _ (0, 0) _ (by (with_reducible repeat (first | apply blk_drewN | apply blk_drew | apply blk_alloc | (apply blk_farA; case hp => assumption) | apply blk_put)); apply Aside0.out; assumption; all_goals (simp only [List.setIfInBounds_toArray, List.set_cons_zero, List.set_cons_succ]; try rfl)) Try.underlying26 rfl (by kernel_rfl) ?_; clear hw_; simp only [Act.put, List.setIfInBounds_toArray, List.set_cons_zero, List.set_cons_succ]) | ((with_reducible refine gate_store (t := 26) rfl ?_); refine store_big rfl 26 _ _ rfl _ _ rfl rfl 26 _ (by (with_reducible repeat (first | apply blk_drewN | apply blk_drew | apply blk_alloc | (apply blk_farA; case hp => assumption) | apply blk_put)); apply Aside0.out; assumption; all_goals (simp only [List.setIfInBounds_toArray, List.set_cons_zero, List.set_cons_succ]; try rfl)) (by kernel_rfl) (by rfl) (by rfl) _ (by simp only [World.setCells, Nat.reduceAdd]; rfl) ?_; simp only [Act.put, List.setIfInBounds_toArray, List.set_cons_zero, List.set_cons_succ]) | ((with_reducible refine gate_callee (f := 37) rfl ?_); refine goesL_ (some 10) rfl rfl Try.func37 (by kernel_rfl) rfl #[.int .i64 a0] rfl (by (try simp only [List.map_toArray, List.map_cons, List.map_nil]); first | done | rfl | (simp only [List.length_drop, List.length_take]; rfl)) ?_; (with_reducible refine (sternpostref01_Check.calls a0 t262 _ A6.out).mono ?_); rintro e w' ⟨rfl, ⟨nd, rfl⟩⟩; refine ⟨_, rfl, ?_⟩))
   go_meet
   case rel => exact ⟨_, (true), (by first | rfl | (simp; done) | (simp [*]; done)), H', ⟨by first | omega | exact Nat.le_refl _⟩, ⟨by (with_reducible repeat (first | refine blk_drewN ?_ _ | refine blk_drew ?_ | refine blk_alloc ?_ _)); exact BK261.out⟩, ⟨by repeat (first | (with_reducible first | exact HB.out | apply below_alloc | apply pw_below_drewN | apply below_drew1 | refine below_set ?_ GE261.out) | exact HB.out)⟩⟩
 case rest =>
  clear HC4
  try clear c1; try clear c2; try clear p2; try clear c3; try clear c7; try clear c7b0; try clear c7b1
  obtain ⟨kq, x16_3, rfl, HA, HJ3, BK261, HB⟩ := hcut
  cases kq with
  | zero => exact absurd HA.out (by simp [sternpostref08_Encode.j0])
  | succ kj3 =>
   have H := HA.out
   clear HA
   simp only [sternpostref08_Encode.j0] at H
   by_cases c9 : x16_3 = true
   ·subst c9
    have H1 : (some ((⟨#[]⟩ : ByteArray), 1)) = some (r1, r2) := by rw [if_pos rfl] at H; exact H
    clear H
    have H := H1
    clear H1
    simp only [Option.some.injEq, Prod.mk.injEq] at H
    obtain ⟨rfl, rfl⟩ := H
    go_wp2_with (first | ((with_reducible refine gate_load (t := 26) rfl ?_); refine gate_wanted ?hw (fun hw_ => ?_); (case hw => first | rfl | (go_simp; done)); refine load_big hw_ 26 _ rfl _ rfl 26 _ (0, 0) _ (by (with_reducible repeat (first | apply blk_drewN | apply blk_drew | apply blk_alloc | (apply blk_farA; case hp => assumption) | apply blk_put)); apply Aside0.out; assumption; all_goals (simp only [List.setIfInBounds_toArray, List.set_cons_zero, List.set_cons_succ]; try rfl)) Try.underlying26 rfl (by kernel_rfl) ?_; clear hw_; simp only [Act.put, List.setIfInBounds_toArray, List.set_cons_zero, List.set_cons_succ]) | ((with_reducible refine gate_store (t := 26) rfl ?_); refine store_big rfl 26 _ _ rfl _ _ rfl rfl 26 _ (by (with_reducible repeat (first | apply blk_drewN | apply blk_drew | apply blk_alloc | (apply blk_farA; case hp => assumption) | apply blk_put)); apply Aside0.out; assumption; all_goals (simp only [List.setIfInBounds_toArray, List.set_cons_zero, List.set_cons_succ]; try rfl)) (by kernel_rfl) (by rfl) (by rfl) _ (by simp only [World.setCells, Nat.reduceAdd]; rfl) ?_; simp only [Act.put, List.setIfInBounds_toArray, List.set_cons_zero, List.set_cons_succ]) | go_in)
    go_ret2
    exact ⟨by first | rfl | (simp [errW_none, errW_some] <;> rfl) | (simp [*, errW_none, errW_some] <;> rfl), by repeat (first | (with_reducible first | exact HB.out | apply below_alloc | apply pw_below_drewN | apply below_drew1 | refine below_set ?_ GE261.out) | exact HB.out)⟩
   ·replace c9 := Bool.eq_false_iff.mpr c9
    subst c9
    have H1 : ((sternpostref08_Check.f kj3 a2_0 a2_1 a2_2 a2_3 a2_4 a2_5 a2_6 a2_7 a2_8 a2_9 a2_10 a2_11 a2_12 a2_13 l2_14 a2_15).bind fun t264 => (if t264 = 0 then ((sternpostref08_Bytes.f kj3 a0 a1 a2_0 a2_1 a2_2 a2_3 a2_4 a2_5 a2_6 a2_7 a2_8 a2_9 a2_10 a2_11 a2_12 a2_13 l2_14 a2_15).bind fun t265 => (some (t265, 0))) else (some ((⟨#[]⟩ : ByteArray), t264)))) = some (r1, r2) := by rw [if_neg (show ¬ (false = true) by decide)] at H; exact H
    clear H
    have H := H1
    clear H1
    replace H := Option.bind_eq_some_iff.mp H
    obtain ⟨t264, A100, H⟩ := H
    replace H : (if t264 = 0 then ((sternpostref08_Bytes.f kj3 a0 a1 a2_0 a2_1 a2_2 a2_3 a2_4 a2_5 a2_6 a2_7 a2_8 a2_9 a2_10 a2_11 a2_12 a2_13 l2_14 a2_15).bind fun t265 => (some (t265, 0))) else (some ((⟨#[]⟩ : ByteArray), t264))) = some (r1, r2) := H
    have A10 := Aside0.mk A100
    clear A100
    by_cases c11 : t264 = 0
    ·rw [if_pos c11] at H
     have c11b0 : (t264 == 0) = true := beq_iff_eq.mpr c11
     have c11b1 : (t264 != 0) = false := bne_eq_false_iff_eq.mpr c11
     clear c11
     replace H := Option.bind_eq_some_iff.mp H
     obtain ⟨t265, A120, H⟩ := H
     replace H : (some (t265, 0)) = some (r1, r2) := H
     have A12 := Aside0.mk A120
     clear A120
     simp only [Option.some.injEq, Prod.mk.injEq] at H
     obtain ⟨rfl, rfl⟩ := H
     obtain ⟨hcz13_0, hcz13_1, hcz13_2, hcz13_3, hcz13_4, hcz13_5, hcz13_6, hcz13_7, hcz13_8, hcz13_9, hcz13_10, hcz13_11, hcz13_12, hcz13_13, hcz13_14, hcz13_15⟩ := blk_cells16 BK261.out
     obtain ⟨hfz13_0, hfz13_1, hfz13_2, hfz13_3, hfz13_4, hfz13_5, hfz13_6, hfz13_7, hfz13_8, hfz13_9, hfz13_10, hfz13_11, hfz13_12, hfz13_13, hfz13_14, hfz13_15⟩ := blk_frozens16 BK261.out
     go_wp2_with (first | ((with_reducible refine gate_load (t := 26) rfl ?_); refine gate_wanted ?hw (fun hw_ => ?_); (case hw => first | rfl | (go_simp; done)); refine load_big hw_ 26 _ rfl _ rfl 26 _ (0, 0) _ (by (with_reducible repeat (first | apply blk_drewN | apply blk_drew | apply blk_alloc | (apply blk_farA; case hp => assumption) | apply blk_put)); apply Aside0.out; assumption; all_goals (simp only [List.setIfInBounds_toArray, List.set_cons_zero, List.set_cons_succ]; try rfl)) Try.underlying26 rfl (by kernel_rfl) ?_; clear hw_; simp only [Act.put, List.setIfInBounds_toArray, List.set_cons_zero, List.set_cons_succ]) | ((with_reducible refine gate_store (t := 26) rfl ?_); refine store_big rfl 26 _ _ rfl _ _ rfl rfl 26 _ (by (with_reducible repeat (first | apply blk_drewN | apply blk_drew | apply blk_alloc | (apply blk_farA; case hp => assumption) | apply blk_put)); apply Aside0.out; assumption; all_goals (simp only [List.setIfInBounds_toArray, List.set_cons_zero, List.set_cons_succ]; try rfl)) (by kernel_rfl) (by rfl) (by rfl) _ (by simp only [World.setCells, Nat.reduceAdd]; rfl) ?_; simp only [Act.put, List.setIfInBounds_toArray, List.set_cons_zero, List.set_cons_succ]) | ((with_reducible refine gate_callee (f := 19) rfl ?_); refine goesL_ (some 18) rfl rfl Try.func19 (by kernel_rfl) rfl #[.agg #[.int .i64 a2_0, .int .i64 a2_1, .int .i64 a2_2, .int .i64 a2_3, .int .i64 a2_4, .int .i64 a2_5, .int .i64 a2_6, .int .i64 a2_7, .int .i64 a2_8, .int .i64 a2_9, .int .i64 a2_10, .bool a2_11, .bool a2_12, .bool a2_13, .slice A2_14 l2_14.length c2_14, .string a2_15]] rfl (by (try simp only [List.map_toArray, List.map_cons, List.map_nil]); first | done | rfl | (simp only [List.length_drop, List.length_take]; rfl)) ?_; (with_reducible refine (sternpostref08_Check.calls kj3 a2_0 a2_1 a2_2 a2_3 a2_4 a2_5 a2_6 a2_7 a2_8 a2_9 a2_10 a2_11 a2_12 a2_13 _ _ l2_14 a2_15 t264 _ ?side1 ?side2 A10.out).mono ?_); (case side1 => repeat (first | exact (Kd.C_below HR2_14.out HB.out) | (with_reducible refine Kd.C_alloc ?_ _) | (with_reducible refine Kd.C_drewN ?_ _) | (with_reducible refine Kd.C_drew ?_))); (case side2 => exact HC2_14.out); rintro e w14 ⟨rfl, hb⟩; refine ⟨_, rfl, ?_⟩; have n0_ := Aside0.mk (blk_below (g := gb261) (by (with_reducible repeat (first | apply blk_drewN | apply blk_drew | apply blk_alloc)); exact BK261.out) hb); have n1_ := Aside0.mk (below_step (by repeat (first | (with_reducible first | exact HB.out | apply below_alloc | apply pw_below_drewN | apply below_drew1 | refine below_set ?_ GE261.out) | exact HB.out)) hb); clear BK261; clear HB; have BK261 := n0_; have HB := n1_; clear n0_ n1_; (try clear hb); (try clear hb2); (try clear hk); (try clear hi); obtain ⟨hcz15_0, hcz15_1, hcz15_2, hcz15_3, hcz15_4, hcz15_5, hcz15_6, hcz15_7, hcz15_8, hcz15_9, hcz15_10, hcz15_11, hcz15_12, hcz15_13, hcz15_14, hcz15_15⟩ := blk_cells16 BK261.out; obtain ⟨hfz15_0, hfz15_1, hfz15_2, hfz15_3, hfz15_4, hfz15_5, hfz15_6, hfz15_7, hfz15_8, hfz15_9, hfz15_10, hfz15_11, hfz15_12, hfz15_13, hfz15_14, hfz15_15⟩ := blk_frozens16 BK261.out) | ((with_reducible refine gate_callee (f := 38) rfl ?_); refine goesL_ (some 25) rfl rfl Try.func38 (by kernel_rfl) rfl #[.int .i64 a0, .int .i64 a1, .agg #[.int .i64 a2_0, .int .i64 a2_1, .int .i64 a2_2, .int .i64 a2_3, .int .i64 a2_4, .int .i64 a2_5, .int .i64 a2_6, .int .i64 a2_7, .int .i64 a2_8, .int .i64 a2_9, .int .i64 a2_10, .bool a2_11, .bool a2_12, .bool a2_13, .slice A2_14 l2_14.length c2_14, .string a2_15]] rfl (by (try simp only [List.map_toArray, List.map_cons, List.map_nil]); first | done | rfl | (simp only [List.length_drop, List.length_take]; rfl)) ?_; (with_reducible refine (sternpostref08_Bytes.calls kj3 a0 a1 a2_0 a2_1 a2_2 a2_3 a2_4 a2_5 a2_6 a2_7 a2_8 a2_9 a2_10 a2_11 a2_12 a2_13 _ _ l2_14 a2_15 t265 _ ?side1 ?side2 A12.out).mono ?_); (case side1 => repeat (first | exact (Kd.C_below HR2_14.out HB.out) | (with_reducible refine Kd.C_alloc ?_ _) | (with_reducible refine Kd.C_drewN ?_ _) | (with_reducible refine Kd.C_drew ?_))); (case side2 => exact HC2_14.out); rintro e w16 ⟨rfl, hb⟩; refine ⟨_, rfl, ?_⟩; have n0_ := Aside0.mk (blk_below (g := gb261) (by (with_reducible repeat (first | apply blk_drewN | apply blk_drew | apply blk_alloc)); exact BK261.out) hb); have n1_ := Aside0.mk (below_step (by repeat (first | (with_reducible first | exact HB.out | apply below_alloc | apply pw_below_drewN | apply below_drew1 | refine below_set ?_ GE261.out) | exact HB.out)) hb); clear BK261; clear HB; have BK261 := n0_; have HB := n1_; clear n0_ n1_; (try clear hb); (try clear hb2); (try clear hk); (try clear hi)))
     go_ret2
     exact ⟨by first | rfl | (simp [errW_none, errW_some] <;> rfl) | (simp [*, errW_none, errW_some] <;> rfl), by repeat (first | (with_reducible first | exact HB.out | apply below_alloc | apply pw_below_drewN | apply below_drew1 | refine below_set ?_ GE261.out) | exact HB.out)⟩
    ·rw [if_neg c11] at H
     have c11b0 : (t264 == 0) = false := beq_eq_false_iff_ne.mpr c11
     have c11b1 : (t264 != 0) = true := bne_iff_ne.mpr c11
     simp only [Option.some.injEq, Prod.mk.injEq] at H
     obtain ⟨rfl, rfl⟩ := H
     obtain ⟨hcz17_0, hcz17_1, hcz17_2, hcz17_3, hcz17_4, hcz17_5, hcz17_6, hcz17_7, hcz17_8, hcz17_9, hcz17_10, hcz17_11, hcz17_12, hcz17_13, hcz17_14, hcz17_15⟩ := blk_cells16 BK261.out
     obtain ⟨hfz17_0, hfz17_1, hfz17_2, hfz17_3, hfz17_4, hfz17_5, hfz17_6, hfz17_7, hfz17_8, hfz17_9, hfz17_10, hfz17_11, hfz17_12, hfz17_13, hfz17_14, hfz17_15⟩ := blk_frozens16 BK261.out
     go_wp2_with (first | ((with_reducible refine gate_load (t := 26) rfl ?_); refine gate_wanted ?hw (fun hw_ => ?_); (case hw => first | rfl | (go_simp; done)); refine load_big hw_ 26 _ rfl _ rfl 26 _ (0, 0) _ (by (with_reducible repeat (first | apply blk_drewN | apply blk_drew | apply blk_alloc | (apply blk_farA; case hp => assumption) | apply blk_put)); apply Aside0.out; assumption; all_goals (simp only [List.setIfInBounds_toArray, List.set_cons_zero, List.set_cons_succ]; try rfl)) Try.underlying26 rfl (by kernel_rfl) ?_; clear hw_; simp only [Act.put, List.setIfInBounds_toArray, List.set_cons_zero, List.set_cons_succ]) | ((with_reducible refine gate_store (t := 26) rfl ?_); refine store_big rfl 26 _ _ rfl _ _ rfl rfl 26 _ (by (with_reducible repeat (first | apply blk_drewN | apply blk_drew | apply blk_alloc | (apply blk_farA; case hp => assumption) | apply blk_put)); apply Aside0.out; assumption; all_goals (simp only [List.setIfInBounds_toArray, List.set_cons_zero, List.set_cons_succ]; try rfl)) (by kernel_rfl) (by rfl) (by rfl) _ (by simp only [World.setCells, Nat.reduceAdd]; rfl) ?_; simp only [Act.put, List.setIfInBounds_toArray, List.set_cons_zero, List.set_cons_succ]) | ((with_reducible refine gate_callee (f := 19) rfl ?_); refine goesL_ (some 18) rfl rfl Try.func19 (by kernel_rfl) rfl #[.agg #[.int .i64 a2_0, .int .i64 a2_1, .int .i64 a2_2, .int .i64 a2_3, .int .i64 a2_4, .int .i64 a2_5, .int .i64 a2_6, .int .i64 a2_7, .int .i64 a2_8, .int .i64 a2_9, .int .i64 a2_10, .bool a2_11, .bool a2_12, .bool a2_13, .slice A2_14 l2_14.length c2_14, .string a2_15]] rfl (by (try simp only [List.map_toArray, List.map_cons, List.map_nil]); first | done | rfl | (simp only [List.length_drop, List.length_take]; rfl)) ?_; (with_reducible refine (sternpostref08_Check.calls kj3 a2_0 a2_1 a2_2 a2_3 a2_4 a2_5 a2_6 a2_7 a2_8 a2_9 a2_10 a2_11 a2_12 a2_13 _ _ l2_14 a2_15 t264 _ ?side1 ?side2 A10.out).mono ?_); (case side1 => repeat (first | exact (Kd.C_below HR2_14.out HB.out) | (with_reducible refine Kd.C_alloc ?_ _) | (with_reducible refine Kd.C_drewN ?_ _) | (with_reducible refine Kd.C_drew ?_))); (case side2 => exact HC2_14.out); rintro e w18 ⟨rfl, hb⟩; refine ⟨_, rfl, ?_⟩; have n0_ := Aside0.mk (blk_below (g := gb261) (by (with_reducible repeat (first | apply blk_drewN | apply blk_drew | apply blk_alloc)); exact BK261.out) hb); have n1_ := Aside0.mk (below_step (by repeat (first | (with_reducible first | exact HB.out | apply below_alloc | apply pw_below_drewN | apply below_drew1 | refine below_set ?_ GE261.out) | exact HB.out)) hb); clear BK261; clear HB; have BK261 := n0_; have HB := n1_; clear n0_ n1_; (try clear hb); (try clear hb2); (try clear hk); (try clear hi)))
     go_ret2
     exact ⟨by first | rfl | (simp [errW_none, errW_some] <;> rfl) | (simp [*, errW_none, errW_some] <;> rfl), by repeat (first | (with_reducible first | exact HB.out | apply below_alloc | apply pw_below_drewN | apply below_drew1 | refine below_set ?_ GE261.out) | exact HB.out)⟩

end Go.Proofs.Ytakajeoeijnmhaa.PSegWrites

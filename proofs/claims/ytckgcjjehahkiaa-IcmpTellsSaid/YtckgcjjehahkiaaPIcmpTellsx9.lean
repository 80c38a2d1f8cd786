-- Laid by this claim's own program over the print's words.
import Derived.Test.YtckgcjjehahkiaaPIcmpTellsx0
namespace Go.Proofs.Ytckgcjjehahkiaa.PIcmpTells
open Go.RowKit Go.Proofs.YtckgcjjehahkiaaW.PrintWords Go.Proofs.YtckgcjjehahkiaaW.PrintLast Go.Proofs.YtckgcjjehahkiaaW.PrintMore
attribute [local go_sem] max2_int min2_int max_two min_two max_three min_three max_four min_four extract_cut tmod_nat_lit   -- for this text's walks alone
set_option linter.unusedVariables false
set_option linter.unusedSimpArgs false

/-! ### sternpostref02_Text: function 38 -/
def sternpostref02_Text.l0 : Nat → Int → List Int → Int → Option (ByteArray)
 | 0, _, _, _ => none
 | k + 1, x0, x5, x6 => if x6 ≥ 0 then (if 0 ≤ (wrap64 (8 * x6)) then (if x5.length < 140737488355328 then (sternpostref02_Text.l0 k x0 (x5 ++ [(shr .i64 x0 (wrap64 (8 * x6))) % 256]) (wrap64 (x6 - 1))) else (none)) else (none)) else (some (strOfNums x5))
def sternpostref02_Text.f (k : Nat) (a0 : Int) (a1 : Int) : Option (ByteArray) := sternpostref02_Text.l0 k a0 ([] : List Int) (wrap64 (a1 - 1))
theorem sternpostref02_Text.mono_l : ∀ k, (∀ y0 y1 y2, LeO (sternpostref02_Text.l0 k y0 y1 y2) (sternpostref02_Text.l0 (k + 1) y0 y1 y2))
 | 0 => fun _ _ _ r h => by simp [sternpostref02_Text.l0] at h
 | k + 1 => by
  have ih0 := sternpostref02_Text.mono_l k
  ·intro y0 y1 y2
   unfold sternpostref02_Text.l0
   repeat' first
   | (with_reducible exact ih0 _ _ _)
   | (with_reducible exact LeO.refl _)
   | (with_reducible exact LeO.none _)
   | (with_reducible refine LeO.ite ?_ ?_)
   | (with_reducible refine LeO.bind ?_ (fun _ => ?_))
   | exact ih0 _ _ _
   | exact LeO.none _
   | refine LeO.ite ?_ ?_
   | refine LeO.bind ?_ (fun _ => ?_)
theorem sternpostref02_Text.mono : ∀ a0 a1 k, LeO (sternpostref02_Text.f k a0 a1) (sternpostref02_Text.f (k + 1) a0 a1) := by
 intro a0 a1 k
 have ih0 := sternpostref02_Text.mono_l k
 unfold sternpostref02_Text.f
 repeat' first
   | (with_reducible exact ih0 _ _ _)
   | (with_reducible exact LeO.refl _)
   | (with_reducible exact LeO.none _)
   | (with_reducible refine LeO.ite ?_ ?_)
   | (with_reducible refine LeO.bind ?_ (fun _ => ?_))
   | exact ih0 _ _ _
   | exact LeO.none _
   | refine LeO.ite ?_ ?_
   | refine LeO.bind ?_ (fun _ => ?_)
set_option maxHeartbeats 8000000 in
set_option maxRecDepth 100000 in
theorem sternpostref02_Text.calls (k : Nat) (a0 : Int) (a1 : Int) (r : ByteArray) (w : World) (h : sternpostref02_Text.f k a0 a1 = some r) :
  Calls Try.prog 38 #[.int .i64 a0, .int .i64 a1] w fun e w' => e = .returned (.string r) ∧ Below w.heap.size w w' := by
 have HB := Aside0.mk (Below.refl w.heap.size w)
 have H : (sternpostref02_Text.l0 k a0 ([] : List Int) (wrap64 (a1 - 1))) = some r := h
 clear h
 have H' := Aside0.mk H
 clear H
 go_enter Try.func38, Try.ntmps38
 go_wp2
 go_loopg [5, 6] k (fun kq v5 v6 w' => ∃ (x5_1 : List Int) (x6_1 : Int), v6 = .int .i64 x6_1 ∧ Aside0 (sternpostref02_Text.l0 kq a0 x5_1 x6_1 = some r) ∧ Aside0 (kq ≤ k) ∧ Aside0 (Kd.R (Kd.int .u8) 5 w' w.heap.size (fun _ => True) v5 x5_1) ∧ Aside0 (Below w.heap.size w w'))
 case atStart => exact ⟨(([] : List Int)), (wrap64 (a1 - 1)), (by first | rfl | (simp; done) | (simp [*]; done)), H', ⟨Nat.le_refl _⟩, ⟨by first | exact Kd.R_nil _ _ _ _ _ | exact Kd.N_nil _ _ _ _ _ | exact Kd.V_nil _ _ _ _ _ | exact Kd.Q_nil _ _ _ _ _ | exact Kd.S_nil _ _ _ _ _⟩, ⟨by repeat (first | (with_reducible first | exact HB.out | apply below_alloc | apply pw_below_drewN | apply below_drew1) | exact HB.out)⟩⟩
 case round =>
  clear H'
  try clear p2
  obtain ⟨x5_1, x6_1, rfl, HA, HK1, HO_5, HB⟩ := hrel
  cases gk with
  | zero => exact absurd HA.out (by simp [sternpostref02_Text.l0])
  | succ k1 =>
   have H := HA.out
   clear HA
   simp only [sternpostref02_Text.l0] at H
   by_cases c3 : x6_1 ≥ 0
   ·rw [if_pos c3] at H
    have c3b0 : decide (0 ≤ x6_1) = true := decide_eq_true c3
    clear c3
    obtain ⟨ji4, hji4⟩ : ∃ j_ : Int, (wrap64 (8 * x6_1)) = j_ := ⟨_, rfl⟩
    replace H : (if 0 ≤ (ji4) then (if x5_1.length < 140737488355328 then (sternpostref02_Text.l0 k1 a0 (x5_1 ++ [(shr .i64 a0 (ji4)) % 256]) (wrap64 (x6_1 - 1))) else (none)) else (none)) = some r := by first | (rw [hji4] at H; exact H) | (simp only [hji4] at H ⊢; exact H)
    have hji4w : (IntKind.i64.wrap (8 * x6_1)) = ji4 := (i64_w _).trans hji4
    by_cases c5 : 0 ≤ (ji4)
    ·rw [if_pos c5] at H
     have c5b0 := eq_true c5
     have c5b1 : decide (0 ≤ (ji4)) = true := decide_eq_true c5
     clear c5
     obtain ⟨ji6, hji6⟩ : ∃ j_ : Int, (shr .i64 a0 (ji4)) = j_ := ⟨_, rfl⟩
     replace H : (if x5_1.length < 140737488355328 then (sternpostref02_Text.l0 k1 a0 (x5_1 ++ [(ji6) % 256]) (wrap64 (x6_1 - 1))) else (none)) = some r := by first | (rw [hji6] at H; exact H) | (simp only [hji6] at H ⊢; exact H)
     have hji6_ : (a0 / 2 ^ min (ji4).toNat 64) = ji6 := hji6
     have hji6z : (ji4) ≤ 64 → (a0 / 2 ^ (ji4).toNat) = ji6 := shr_small hji6
     by_cases c7 : x5_1.length < 140737488355328
     ·rw [if_pos c7] at H
      have LMc7 := Aside0.mk c7
      clear c7
      obtain ⟨y172, hy172⟩ : ∃ y_ : List Int, y_ = (x5_1 ++ [(ji6) % 256]) := ⟨_, rfl⟩
      replace H : (sternpostref02_Text.l0 k1 a0 y172 (wrap64 (x6_1 - 1))) = some r := by first | (rw [hy172]; with_reducible exact H) | (have H2_ := (Option.bind_some _ _).symm.trans H; rw [hy172]; with_reducible exact H2_) | (have H2_ := (Option.bind_some _ _).symm.trans H; with_reducible exact H2_) | with_reducible exact H | (rw [hy172]; exact H) | exact H
      have Ny172 := Aside0.mk hy172
      clear hy172
      have H' := Aside0.mk H
      clear H
      go_wp2_with (first | ((with_reducible refine gate_builtin (b := .append) (xs := #[.tmp 13, .tmp 19]) rfl ?_); at_builtin; refine Kd.R_append (Kd.int .u8) (w0 := w) w.heap.size rfl (.tmp 13) (.tmp 19) 35 5 (.int .u8 0) 1 rfl Try.underlying35 info5 rfl (by decide) (by omega) u5 x5_1 ((ji6) % 256) [.int .u8 ((ji6) % 256)] (fun _ => True) (fun _ => False) rfl rfl ?aP (fun _ hk => hk.elim) ?aF ?aO ?aB ?aS ?aL ?_; (case aP => exact rfl); (case aB => exact (by repeat (first | (with_reducible first | exact HB.out | apply below_alloc | apply pw_below_drewN | apply below_drew1) | exact HB.out))); (case aF => exact (fun _ _ => trivial)); (case aO => exact (by (with_reducible repeat (first | apply Kd.R_alloc | apply Kd.R_drewN | apply Kd.R_drew)); exact HO_5.out)); (case aS => exact (below_size (by repeat (first | (with_reducible first | exact HB.out | apply below_alloc | apply pw_below_drewN | apply below_drew1) | exact HB.out)))); (case aL => have := LMc7.out; omega); intro v173 w8 ho hb hg hat; rw [← Ny172.out] at ho; have n0_ := Aside0.mk (hb); have n1_ := Aside0.mk (ho); clear HB; clear HO_5; have HB := n0_; have HO174 := n1_; clear n0_ n1_; clear ho hb hg hat))
      go_roundg k1
      case measure => have := HK1.out; omega
      case rel => exact ⟨(y172), (wrap64 (x6_1 - 1)), (by first | rfl | (simp; done) | (simp [*]; done)), (by first | exact H' | (simp only [hji4, hji6]; exact H')), ⟨by have := HK1.out; omega⟩, ⟨by (with_reducible repeat (first | apply Kd.R_alloc | apply Kd.R_drewN | apply Kd.R_drew)); exact HO174.out⟩, ⟨by repeat (first | (with_reducible first | exact HB.out | apply below_alloc | apply pw_below_drewN | apply below_drew1) | exact HB.out)⟩⟩
     ·rw [if_neg c7] at H
      exact absurd H (by simp)
    ·rw [if_neg c5] at H
     exact absurd H (by simp)
   ·rw [if_neg c3] at H
    have c3b0 : decide (0 ≤ x6_1) = false := decide_eq_false c3
    clear c3
    obtain rfl := Option.some.inj H
    have hcv9 := own_string (P := Try.prog) Try.underlying35 Try.underlying5 Try.underlying9 (Kd.own_of_R HO_5.out)
    go_wp2
    go_ret
    exact ⟨by first | rfl | (simp [errW_none, errW_some] <;> rfl) | (simp [*, errW_none, errW_some] <;> rfl), by repeat (first | (with_reducible first | exact HB.out | apply below_alloc | apply pw_below_drewN | apply below_drew1) | exact HB.out)⟩

/-! ### sternpostref02_fold: function 43 -/
def sternpostref02_fold.l0 : Nat → Int → Option (Int)
 | 0, _ => none
 | k + 1, x0 => if x0 > 65535 then (sternpostref02_fold.l0 k (wrap64 ((wrap64 (Int.tdiv x0 65536)) + (Int.tmod x0 65536)))) else (some x0)
def sternpostref02_fold.f (k : Nat) (a0 : Int) : Option (Int) := sternpostref02_fold.l0 k a0
theorem sternpostref02_fold.mono_l : ∀ k, (∀ y0, LeO (sternpostref02_fold.l0 k y0) (sternpostref02_fold.l0 (k + 1) y0))
 | 0 => fun _ r h => by simp [sternpostref02_fold.l0] at h
 | k + 1 => by
  have ih0 := sternpostref02_fold.mono_l k
  ·intro y0
   unfold sternpostref02_fold.l0
   repeat' first
   | (with_reducible exact ih0 _)
   | (with_reducible exact LeO.refl _)
   | (with_reducible exact LeO.none _)
   | (with_reducible refine LeO.ite ?_ ?_)
   | (with_reducible refine LeO.bind ?_ (fun _ => ?_))
   | exact ih0 _
   | exact LeO.none _
   | refine LeO.ite ?_ ?_
   | refine LeO.bind ?_ (fun _ => ?_)
theorem sternpostref02_fold.mono : ∀ a0 k, LeO (sternpostref02_fold.f k a0) (sternpostref02_fold.f (k + 1) a0) := by
 intro a0 k
 have ih0 := sternpostref02_fold.mono_l k
 unfold sternpostref02_fold.f
 repeat' first
   | (with_reducible exact ih0 _)
   | (with_reducible exact LeO.refl _)
   | (with_reducible exact LeO.none _)
   | (with_reducible refine LeO.ite ?_ ?_)
   | (with_reducible refine LeO.bind ?_ (fun _ => ?_))
   | exact ih0 _
   | exact LeO.none _
   | refine LeO.ite ?_ ?_
   | refine LeO.bind ?_ (fun _ => ?_)
set_option maxHeartbeats 8000000 in
set_option maxRecDepth 100000 in
theorem sternpostref02_fold.calls (k : Nat) (a0 : Int) (r : Int) (w : World) (h : sternpostref02_fold.f k a0 = some r) :
  Calls Try.prog 43 #[.int .i64 a0] w fun e w' => e = .returned (.int .i64 r) ∧ Drawn0 w w' := by
 have H : (sternpostref02_fold.l0 k a0) = some r := h
 clear h
 have H' := Aside0.mk H
 clear H
 go_enter Try.func43, Try.ntmps43
 go_wp2
 go_loopg [0] k (fun kq v0 w' => ∃ (x0_1 : Int), v0 = .int .i64 x0_1 ∧ Aside0 (sternpostref02_fold.l0 kq x0_1 = some r) ∧ Aside0 (kq ≤ k) ∧ Drawn0 w w')
 case atStart => exact ⟨(a0), (by first | rfl | (simp; done) | (simp [*]; done)), H', ⟨Nat.le_refl _⟩, by repeat (first | exact Drawn0.refl _ | apply Drawn0.step)⟩
 case round =>
  clear H'
  obtain ⟨x0_1, rfl, HA, HK1, ⟨m1, rfl⟩⟩ := hrel
  cases gk with
  | zero => exact absurd HA.out (by simp [sternpostref02_fold.l0])
  | succ k1 =>
   have H := HA.out
   clear HA
   simp only [sternpostref02_fold.l0] at H
   by_cases c2 : x0_1 > 65535
   ·rw [if_pos c2] at H
    have c2b0 : decide (65535 < x0_1) = true := decide_eq_true c2
    clear c2
    have H' := Aside0.mk H
    clear H
    go_wp2
    go_roundg k1
    case measure => have := HK1.out; omega
    case rel => exact ⟨(wrap64 ((wrap64 (Int.tdiv x0_1 65536)) + (Int.tmod x0_1 65536))), (by first | rfl | (simp; done) | (simp [*]; done)), H', ⟨by have := HK1.out; omega⟩, by repeat (first | exact Drawn0.refl _ | apply Drawn0.step)⟩
   ·rw [if_neg c2] at H
    have c2b0 : decide (65535 < x0_1) = false := decide_eq_false c2
    clear c2
    obtain rfl := Option.some.inj H
    go_wp2
    go_ret
    exact ⟨by first | rfl | (simp; done) | (simp [*]; done), by repeat (first | exact Drawn0.refl _ | apply Drawn0.step)⟩

/-! ### sternpostref02_Sum: function 39 -/
mutual
def sternpostref02_Sum.l0 : Nat → ByteArray → Int → Int → Option (Int)
 | 0, _, _, _ => none
 | k + 1, x0, x3, x4 => if x4 < (x0.size : Int) then (if (Int.tmod x4 2) = 0 then (if 0 ≤ x4 then (sternpostref02_Sum.j1 k x0 (wrap64 (x3 + (wrap64 (256 * (wrap64 (bt x0 x4)))))) x4) else (none)) else (if 0 ≤ x4 then (sternpostref02_Sum.j1 k x0 (wrap64 (x3 + (wrap64 (bt x0 x4)))) x4) else (none))) else (some (wrap64 (65535 - x3)))
def sternpostref02_Sum.j1 : Nat → ByteArray → Int → Int → Option (Int)
 | 0, _, _, _ => none
 | k + 1, x0, x3, x4 => (sternpostref02_fold.f k x3).bind fun t175 => (sternpostref02_Sum.l0 k x0 t175 (wrap64 (x4 + 1)))
end
def sternpostref02_Sum.f (k : Nat) (a0 : ByteArray) : Option (Int) := sternpostref02_Sum.l0 k a0 0 0
theorem sternpostref02_Sum.mono_l : ∀ k, (∀ y0 y1 y2, LeO (sternpostref02_Sum.l0 k y0 y1 y2) (sternpostref02_Sum.l0 (k + 1) y0 y1 y2)) ∧ (∀ y0 y1 y2, LeO (sternpostref02_Sum.j1 k y0 y1 y2) (sternpostref02_Sum.j1 (k + 1) y0 y1 y2))
 | 0 => ⟨fun _ _ _ r h => by simp [sternpostref02_Sum.l0] at h, fun _ _ _ r h => by simp [sternpostref02_Sum.j1] at h⟩
 | k + 1 => by
  obtain ⟨ih0, ih1⟩ := sternpostref02_Sum.mono_l k
  refine ⟨?_, ?_⟩
  ·intro y0 y1 y2
   unfold sternpostref02_Sum.l0
   repeat' first
   | (with_reducible exact ih0 _ _ _)
   | (with_reducible exact ih1 _ _ _)
   | (with_reducible exact sternpostref02_fold.mono _ _)
   | (with_reducible exact LeO.refl _)
   | (with_reducible exact LeO.none _)
   | (with_reducible refine LeO.ite ?_ ?_)
   | (with_reducible refine LeO.bind ?_ (fun _ => ?_))
   | exact ih0 _ _ _
   | exact ih1 _ _ _
   | exact sternpostref02_fold.mono _ _
   | exact LeO.none _
   | refine LeO.ite ?_ ?_
   | refine LeO.bind ?_ (fun _ => ?_)
  ·intro y0 y1 y2
   unfold sternpostref02_Sum.j1
   repeat' first
   | (with_reducible exact ih0 _ _ _)
   | (with_reducible exact ih1 _ _ _)
   | (with_reducible exact sternpostref02_fold.mono _ _)
   | (with_reducible exact LeO.refl _)
   | (with_reducible exact LeO.none _)
   | (with_reducible refine LeO.ite ?_ ?_)
   | (with_reducible refine LeO.bind ?_ (fun _ => ?_))
   | exact ih0 _ _ _
   | exact ih1 _ _ _
   | exact sternpostref02_fold.mono _ _
   | exact LeO.none _
   | refine LeO.ite ?_ ?_
   | refine LeO.bind ?_ (fun _ => ?_)
theorem sternpostref02_Sum.mono : ∀ a0 k, LeO (sternpostref02_Sum.f k a0) (sternpostref02_Sum.f (k + 1) a0) := by
 intro a0 k
 obtain ⟨ih0, ih1⟩ := sternpostref02_Sum.mono_l k
 unfold sternpostref02_Sum.f
 repeat' first
   | (with_reducible exact ih0 _ _ _)
   | (with_reducible exact ih1 _ _ _)
   | (with_reducible exact sternpostref02_fold.mono _ _)
   | (with_reducible exact LeO.refl _)
   | (with_reducible exact LeO.none _)
   | (with_reducible refine LeO.ite ?_ ?_)
   | (with_reducible refine LeO.bind ?_ (fun _ => ?_))
   | exact ih0 _ _ _
   | exact ih1 _ _ _
   | exact sternpostref02_fold.mono _ _
   | exact LeO.none _
   | refine LeO.ite ?_ ?_
   | refine LeO.bind ?_ (fun _ => ?_)
set_option maxHeartbeats 8000000 in
set_option maxRecDepth 100000 in
theorem sternpostref02_Sum.calls (k : Nat) (a0 : ByteArray) (r : Int) (w : World) (h : sternpostref02_Sum.f k a0 = some r) :
  Calls Try.prog 39 #[.string a0] w fun e w' => e = .returned (.int .i64 r) ∧ Drawn0 w w' := by
 have H : (sternpostref02_Sum.l0 k a0 0 0) = some r := h
 clear h
 have H' := Aside0.mk H
 clear H
 go_enter Try.func39, Try.ntmps39
 go_wp2
 go_loopg [3, 4] k (fun kq v3 v4 w' => ∃ (x3_1 : Int) (x4_1 : Int), v3 = .int .i64 x3_1 ∧ v4 = .int .i64 x4_1 ∧ Aside0 (sternpostref02_Sum.l0 kq a0 x3_1 x4_1 = some r) ∧ Aside0 (kq ≤ k) ∧ Drawn0 w w')
 case atStart => exact ⟨(0), (0), (by first | rfl | (simp; done) | (simp [*]; done)), (by first | rfl | (simp; done) | (simp [*]; done)), H', ⟨Nat.le_refl _⟩, by repeat (first | exact Drawn0.refl _ | apply Drawn0.step)⟩
 case round =>
  clear H'
  obtain ⟨x3_1, x4_1, rfl, rfl, HA, HK1, ⟨m1, rfl⟩⟩ := hrel
  cases gk with
  | zero => exact absurd HA.out (by simp [sternpostref02_Sum.l0])
  | succ k1 =>
   have H := HA.out
   clear HA
   simp only [sternpostref02_Sum.l0] at H
   by_cases c2 : x4_1 < (a0.size : Int)
   ·rw [if_pos c2] at H
    have c2b0 : decide (x4_1 < (a0.size : Int)) = true := decide_eq_true c2
    clear c2
    have HC3 := Aside0.mk H
    clear H
    go_upto_if 13 with (fail)
    go_cut [3] (fun v3 wc => ∃ (kq : Nat) (x3_2 : Int), v3 = .int .i64 x3_2 ∧ Aside0 (sternpostref02_Sum.j1 kq a0 x3_2 x4_1 = some r) ∧ Aside0 (kq ≤ k1) ∧ Drawn0 w wc)
    case first =>
     have H := HC3.out
     clear HC3
     by_cases c4 : (Int.tmod x4_1 2) = 0
     ·rw [if_pos c4] at H
      have c4b0 : ((Int.tmod x4_1 2) == 0) = true := beq_iff_eq.mpr c4
      have c4b1 : ((Int.tmod x4_1 2) != 0) = false := bne_eq_false_iff_eq.mpr c4
      clear c4
      (first | rw [c4b0] | (simp only [i64_w, i32_w]; rw [c4b0]) | skip)
      by_cases c5 : 0 ≤ x4_1
      ·rw [if_pos c5] at H
       have c5b0 : decide (0 ≤ x4_1) = true := decide_eq_true c5
       clear c5
       have H' := Aside0.mk H
       clear H
       have p6 : 0 ≤ (x4_1 : Int) := of_decide_eq_true (by first | (with_reducible assumption) | assumption)
       have q6 : x4_1 < (a0.size : Int) := of_decide_eq_true (by first | (with_reducible assumption) | assumption)
       have hx6 := bt_at a0 x4_1
       replace p6 := eq_true p6
       replace q6 := eq_true q6
       go_wp2
       go_meet
       case rel => exact ⟨_, (wrap64 (x3_1 + (wrap64 (256 * (wrap64 (bt a0 x4_1)))))), (by first | rfl | (simp; done) | (simp [*]; done)), H', ⟨by have := HK1.out; first | omega | exact Nat.le_refl _⟩, by repeat (first | exact Drawn0.refl _ | apply Drawn0.step)⟩
      ·rw [if_neg c5] at H
       exact absurd H (by simp)
     ·rw [if_neg c4] at H
      have c4b0 : ((Int.tmod x4_1 2) == 0) = false := beq_eq_false_iff_ne.mpr c4
      have c4b1 : ((Int.tmod x4_1 2) != 0) = true := bne_iff_ne.mpr c4
      (first | rw [c4b0] | (simp only [i64_w, i32_w]; rw [c4b0]) | skip)
      by_cases c7 : 0 ≤ x4_1
      ·rw [if_pos c7] at H
       have c7b0 : decide (0 ≤ x4_1) = true := decide_eq_true c7
       clear c7
       have H' := Aside0.mk H
       clear H
       have p8 : 0 ≤ (x4_1 : Int) := of_decide_eq_true (by first | (with_reducible assumption) | assumption)
       have q8 : x4_1 < (a0.size : Int) := of_decide_eq_true (by first | (with_reducible assumption) | assumption)
       have hx8 := bt_at a0 x4_1
       replace p8 := eq_true p8
       replace q8 := eq_true q8
       go_wp2
       go_meet
       case rel => exact ⟨_, (wrap64 (x3_1 + (wrap64 (bt a0 x4_1)))), (by first | rfl | (simp; done) | (simp [*]; done)), H', ⟨by have := HK1.out; first | omega | exact Nat.le_refl _⟩, by repeat (first | exact Drawn0.refl _ | apply Drawn0.step)⟩
      ·rw [if_neg c7] at H
       exact absurd H (by simp)
    case rest =>
     clear HC3
     try clear c2; try clear c2b0; try clear p2; try clear c3; try clear c4; try clear c4b0; try clear c4b1; try clear c5; try clear c5b0; try clear p6; try clear q6; try clear hx6; try clear c7; try clear c7b0; try clear p8; try clear q8; try clear hx8; try clear p6; try clear p8; try clear q6; try clear q8
     obtain ⟨kq, x3_2, rfl, HA, HJ2, ⟨mc2, rfl⟩⟩ := hcut
     cases kq with
     | zero => exact absurd HA.out (by simp [sternpostref02_Sum.j1])
     | succ kj2 =>
      have H := HA.out
      clear HA
      simp only [sternpostref02_Sum.j1] at H
      replace H := Option.bind_eq_some_iff.mp H
      obtain ⟨t175, A90, H⟩ := H
      replace H : (sternpostref02_Sum.l0 kj2 a0 t175 (wrap64 (x4_1 + 1))) = some r := H
      have A9 := Aside0.mk A90
      clear A90
      have H' := Aside0.mk H
      clear H
      go_wp2_with (first | ((with_reducible refine gate_callee (f := 43) rfl ?_); refine goesL_ (some 28) rfl rfl Try.func43 (by kernel_rfl) rfl #[.int .i64 x3_2] rfl (by (try simp only [List.map_toArray, List.map_cons, List.map_nil]); first | done | rfl | (simp only [List.length_drop, List.length_take]; rfl)) ?_; (with_reducible refine (sternpostref02_fold.calls kj2 x3_2 t175 _ A9.out).mono ?_); rintro e w' ⟨rfl, ⟨nd, rfl⟩⟩; refine ⟨_, rfl, ?_⟩))
      go_roundg kj2
      case measure => have := HK1.out; have := HJ2.out; omega
      case rel => exact ⟨(t175), (wrap64 (x4_1 + 1)), (by first | rfl | (simp; done) | (simp [*]; done)), (by first | rfl | (simp; done) | (simp [*]; done)), H', ⟨by have := HK1.out; have := HJ2.out; omega⟩, by repeat (first | exact Drawn0.refl _ | apply Drawn0.step)⟩
   ·rw [if_neg c2] at H
    have c2b0 : decide (x4_1 < (a0.size : Int)) = false := decide_eq_false c2
    clear c2
    obtain rfl := Option.some.inj H
    go_wp2
    go_ret
    exact ⟨by first | rfl | (simp; done) | (simp [*]; done), by repeat (first | exact Drawn0.refl _ | apply Drawn0.step)⟩

/-! ### sternpostref02_Sealed: function 37 -/
def sternpostref02_Sealed.f (k : Nat) (a0 : ByteArray) (a1 : Int) : Option (ByteArray) := if 0 ≤ a1 then (if a1 ≤ (a0.size : Int) then (if (cutS a0 0 (a1 : Int).toNat).size + 2 ≤ 9223372036854775807 then (if 0 ≤ (wrap64 (a1 + 2)) then (if (wrap64 (a1 + 2)) ≤ (a0.size : Int) then (if ((cutS a0 0 (a1 : Int).toNat) ++ (⟨#[0, 0]⟩ : ByteArray)).size + (cutS a0 ((wrap64 (a1 + 2)) : Int).toNat a0.size).size ≤ 9223372036854775807 then (if a1 ≤ ((((cutS a0 0 (a1 : Int).toNat) ++ (⟨#[0, 0]⟩ : ByteArray)) ++ (cutS a0 ((wrap64 (a1 + 2)) : Int).toNat a0.size)).size : Int) then ((sternpostref02_Sum.f k (((cutS a0 0 (a1 : Int).toNat) ++ (⟨#[0, 0]⟩ : ByteArray)) ++ (cutS a0 ((wrap64 (a1 + 2)) : Int).toNat a0.size))).bind fun t176 => ((sternpostref02_Text.f k t176 2).bind fun t177 => (if (cutS (((cutS a0 0 (a1 : Int).toNat) ++ (⟨#[0, 0]⟩ : ByteArray)) ++ (cutS a0 ((wrap64 (a1 + 2)) : Int).toNat a0.size)) 0 (a1 : Int).toNat).size + t177.size ≤ 9223372036854775807 then (if (wrap64 (a1 + 2)) ≤ ((((cutS a0 0 (a1 : Int).toNat) ++ (⟨#[0, 0]⟩ : ByteArray)) ++ (cutS a0 ((wrap64 (a1 + 2)) : Int).toNat a0.size)).size : Int) then (if ((cutS (((cutS a0 0 (a1 : Int).toNat) ++ (⟨#[0, 0]⟩ : ByteArray)) ++ (cutS a0 ((wrap64 (a1 + 2)) : Int).toNat a0.size)) 0 (a1 : Int).toNat) ++ t177).size + (cutS (((cutS a0 0 (a1 : Int).toNat) ++ (⟨#[0, 0]⟩ : ByteArray)) ++ (cutS a0 ((wrap64 (a1 + 2)) : Int).toNat a0.size)) ((wrap64 (a1 + 2)) : Int).toNat (((cutS a0 0 (a1 : Int).toNat) ++ (⟨#[0, 0]⟩ : ByteArray)) ++ (cutS a0 ((wrap64 (a1 + 2)) : Int).toNat a0.size)).size).size ≤ 9223372036854775807 then (some (((cutS (((cutS a0 0 (a1 : Int).toNat) ++ (⟨#[0, 0]⟩ : ByteArray)) ++ (cutS a0 ((wrap64 (a1 + 2)) : Int).toNat a0.size)) 0 (a1 : Int).toNat) ++ t177) ++ (cutS (((cutS a0 0 (a1 : Int).toNat) ++ (⟨#[0, 0]⟩ : ByteArray)) ++ (cutS a0 ((wrap64 (a1 + 2)) : Int).toNat a0.size)) ((wrap64 (a1 + 2)) : Int).toNat (((cutS a0 0 (a1 : Int).toNat) ++ (⟨#[0, 0]⟩ : ByteArray)) ++ (cutS a0 ((wrap64 (a1 + 2)) : Int).toNat a0.size)).size))) else (none)) else (none)) else (none)))) else (none)) else (none)) else (none)) else (none)) else (none)) else (none)) else (none)
theorem sternpostref02_Sealed.mono : ∀ a0 a1 k, LeO (sternpostref02_Sealed.f k a0 a1) (sternpostref02_Sealed.f (k + 1) a0 a1) := by
 intro a0 a1 k
 unfold sternpostref02_Sealed.f
 repeat' first
   | (with_reducible exact sternpostref02_Sum.mono _ _)
   | (with_reducible exact sternpostref02_Text.mono _ _ _)
   | (with_reducible exact LeO.refl _)
   | (with_reducible exact LeO.none _)
   | (with_reducible refine LeO.ite ?_ ?_)
   | (with_reducible refine LeO.bind ?_ (fun _ => ?_))
   | exact sternpostref02_Sum.mono _ _
   | exact sternpostref02_Text.mono _ _ _
   | exact LeO.none _
   | refine LeO.ite ?_ ?_
   | refine LeO.bind ?_ (fun _ => ?_)
def sternpostref02_Sealed.T1 : Bool × List (List Nat × List Nat) := (true, [([], []), ([], []), ([0, 1], [0, 1]), ([2], [2]), ([], []), ([], []), ([5], [5]), ([4, 6], [4, 6]), ([3, 7], [3, 7]), ([8, 0, 1, 2, 3, 4, 5, 6, 7, 8], [0, 4, 8])])
def sternpostref02_Sealed.B1 : List Nat := [0, 0, 3, 7, 0, 0, 32, 112, 255, 511]
theorem sternpostref02_Sealed.tab1 : rtab .any (opsOf Try.f37 1) = sternpostref02_Sealed.T1 := by kernel_rfl
theorem sternpostref02_Sealed.bits1 : waitsOk sternpostref02_Sealed.T1.2 sternpostref02_Sealed.B1 = true := by kernel_rfl
def sternpostref02_Sealed.T2 : Bool × List (List Nat × List Nat) := (true, [([], []), ([], []), ([0, 1], [0, 1]), ([], []), ([3], [3]), ([4, 4], [4]), ([2, 5], [2, 5]), ([], []), ([], []), ([8], [8]), ([7, 9], [7, 9]), ([6, 10], [6, 10]), ([11, 5, 0, 1, 2, 3, 4, 5, 6, 7, 8, 9, 10, 11], [11])])
def sternpostref02_Sealed.B2 : List Nat := [0, 0, 3, 0, 8, 24, 63, 0, 0, 256, 896, 2047, 4095]
theorem sternpostref02_Sealed.tab2 : rtab .any (opsOf Try.f37 2) = sternpostref02_Sealed.T2 := by kernel_rfl
theorem sternpostref02_Sealed.bits2 : waitsOk sternpostref02_Sealed.T2.2 sternpostref02_Sealed.B2 = true := by kernel_rfl
set_option maxHeartbeats 8000000 in
set_option maxRecDepth 100000 in
theorem sternpostref02_Sealed.calls (k : Nat) (a0 : ByteArray) (a1 : Int) (r : ByteArray) (w : World) (h : sternpostref02_Sealed.f k a0 a1 = some r) :
  Calls Try.prog 37 #[.string a0, .int .i64 a1] w fun e w' => e = .returned (.string r) ∧ Below w.heap.size w w' := by
 have HB := Aside0.mk (Below.refl w.heap.size w)
 have H : (if 0 ≤ a1 then (if a1 ≤ (a0.size : Int) then (if (cutS a0 0 (a1 : Int).toNat).size + 2 ≤ 9223372036854775807 then (if 0 ≤ (wrap64 (a1 + 2)) then (if (wrap64 (a1 + 2)) ≤ (a0.size : Int) then (if ((cutS a0 0 (a1 : Int).toNat) ++ (⟨#[0, 0]⟩ : ByteArray)).size + (cutS a0 ((wrap64 (a1 + 2)) : Int).toNat a0.size).size ≤ 9223372036854775807 then (if a1 ≤ ((((cutS a0 0 (a1 : Int).toNat) ++ (⟨#[0, 0]⟩ : ByteArray)) ++ (cutS a0 ((wrap64 (a1 + 2)) : Int).toNat a0.size)).size : Int) then ((sternpostref02_Sum.f k (((cutS a0 0 (a1 : Int).toNat) ++ (⟨#[0, 0]⟩ : ByteArray)) ++ (cutS a0 ((wrap64 (a1 + 2)) : Int).toNat a0.size))).bind fun t176 => ((sternpostref02_Text.f k t176 2).bind fun t177 => (if (cutS (((cutS a0 0 (a1 : Int).toNat) ++ (⟨#[0, 0]⟩ : ByteArray)) ++ (cutS a0 ((wrap64 (a1 + 2)) : Int).toNat a0.size)) 0 (a1 : Int).toNat).size + t177.size ≤ 9223372036854775807 then (if (wrap64 (a1 + 2)) ≤ ((((cutS a0 0 (a1 : Int).toNat) ++ (⟨#[0, 0]⟩ : ByteArray)) ++ (cutS a0 ((wrap64 (a1 + 2)) : Int).toNat a0.size)).size : Int) then (if ((cutS (((cutS a0 0 (a1 : Int).toNat) ++ (⟨#[0, 0]⟩ : ByteArray)) ++ (cutS a0 ((wrap64 (a1 + 2)) : Int).toNat a0.size)) 0 (a1 : Int).toNat) ++ t177).size + (cutS (((cutS a0 0 (a1 : Int).toNat) ++ (⟨#[0, 0]⟩ : ByteArray)) ++ (cutS a0 ((wrap64 (a1 + 2)) : Int).toNat a0.size)) ((wrap64 (a1 + 2)) : Int).toNat (((cutS a0 0 (a1 : Int).toNat) ++ (⟨#[0, 0]⟩ : ByteArray)) ++ (cutS a0 ((wrap64 (a1 + 2)) : Int).toNat a0.size)).size).size ≤ 9223372036854775807 then (some (((cutS (((cutS a0 0 (a1 : Int).toNat) ++ (⟨#[0, 0]⟩ : ByteArray)) ++ (cutS a0 ((wrap64 (a1 + 2)) : Int).toNat a0.size)) 0 (a1 : Int).toNat) ++ t177) ++ (cutS (((cutS a0 0 (a1 : Int).toNat) ++ (⟨#[0, 0]⟩ : ByteArray)) ++ (cutS a0 ((wrap64 (a1 + 2)) : Int).toNat a0.size)) ((wrap64 (a1 + 2)) : Int).toNat (((cutS a0 0 (a1 : Int).toNat) ++ (⟨#[0, 0]⟩ : ByteArray)) ++ (cutS a0 ((wrap64 (a1 + 2)) : Int).toNat a0.size)).size))) else (none)) else (none)) else (none)))) else (none)) else (none)) else (none)) else (none)) else (none)) else (none)) else (none)) = some r := h
 clear h
 by_cases c3 : 0 ≤ a1
 ·rw [if_pos c3] at H
  have c3b0 := eq_true c3
  have c3b1 : decide (0 ≤ a1) = true := decide_eq_true c3
  clear c3
  by_cases c4 : a1 ≤ (a0.size : Int)
  ·rw [if_pos c4] at H
   have c4b0 := eq_true c4
   have c4b1 : decide (a1 ≤ (a0.size : Int)) = true := decide_eq_true c4
   clear c4
   by_cases c5 : (cutS a0 0 (a1 : Int).toNat).size + 2 ≤ 9223372036854775807
   ·rw [if_pos c5] at H
    have c5b0 := eq_true c5
    have c5b1 : decide ((cutS a0 0 (a1 : Int).toNat).size + 2 ≤ 9223372036854775807) = true := decide_eq_true c5
    try have c5b2 : (9223372036854775807 < (cutS a0 0 (a1 : Int).toNat).size + 2) = False := eq_false (Nat.not_lt.2 c5)
    obtain ⟨ji6, hji6⟩ : ∃ j_ : Int, (wrap64 (a1 + 2)) = j_ := ⟨_, rfl⟩
    replace H : (if 0 ≤ (ji6) then (if (ji6) ≤ (a0.size : Int) then (if ((cutS a0 0 (a1 : Int).toNat) ++ (⟨#[0, 0]⟩ : ByteArray)).size + (cutS a0 ((ji6) : Int).toNat a0.size).size ≤ 9223372036854775807 then (if a1 ≤ ((((cutS a0 0 (a1 : Int).toNat) ++ (⟨#[0, 0]⟩ : ByteArray)) ++ (cutS a0 ((ji6) : Int).toNat a0.size)).size : Int) then ((sternpostref02_Sum.f k (((cutS a0 0 (a1 : Int).toNat) ++ (⟨#[0, 0]⟩ : ByteArray)) ++ (cutS a0 ((ji6) : Int).toNat a0.size))).bind fun t176 => ((sternpostref02_Text.f k t176 2).bind fun t177 => (if (cutS (((cutS a0 0 (a1 : Int).toNat) ++ (⟨#[0, 0]⟩ : ByteArray)) ++ (cutS a0 ((ji6) : Int).toNat a0.size)) 0 (a1 : Int).toNat).size + t177.size ≤ 9223372036854775807 then (if (ji6) ≤ ((((cutS a0 0 (a1 : Int).toNat) ++ (⟨#[0, 0]⟩ : ByteArray)) ++ (cutS a0 ((ji6) : Int).toNat a0.size)).size : Int) then (if ((cutS (((cutS a0 0 (a1 : Int).toNat) ++ (⟨#[0, 0]⟩ : ByteArray)) ++ (cutS a0 ((ji6) : Int).toNat a0.size)) 0 (a1 : Int).toNat) ++ t177).size + (cutS (((cutS a0 0 (a1 : Int).toNat) ++ (⟨#[0, 0]⟩ : ByteArray)) ++ (cutS a0 ((ji6) : Int).toNat a0.size)) ((ji6) : Int).toNat (((cutS a0 0 (a1 : Int).toNat) ++ (⟨#[0, 0]⟩ : ByteArray)) ++ (cutS a0 ((ji6) : Int).toNat a0.size)).size).size ≤ 9223372036854775807 then (some (((cutS (((cutS a0 0 (a1 : Int).toNat) ++ (⟨#[0, 0]⟩ : ByteArray)) ++ (cutS a0 ((ji6) : Int).toNat a0.size)) 0 (a1 : Int).toNat) ++ t177) ++ (cutS (((cutS a0 0 (a1 : Int).toNat) ++ (⟨#[0, 0]⟩ : ByteArray)) ++ (cutS a0 ((ji6) : Int).toNat a0.size)) ((ji6) : Int).toNat (((cutS a0 0 (a1 : Int).toNat) ++ (⟨#[0, 0]⟩ : ByteArray)) ++ (cutS a0 ((ji6) : Int).toNat a0.size)).size))) else (none)) else (none)) else (none)))) else (none)) else (none)) else (none)) else (none)) = some r := by first | (rw [hji6] at H; exact H) | (simp only [hji6] at H ⊢; exact H)
    have hji6w : (IntKind.i64.wrap (a1 + 2)) = ji6 := (i64_w _).trans hji6
    by_cases c7 : 0 ≤ (ji6)
    ·rw [if_pos c7] at H
     have c7b0 := eq_true c7
     have c7b1 : decide (0 ≤ (ji6)) = true := decide_eq_true c7
     clear c7
     by_cases c8 : (ji6) ≤ (a0.size : Int)
     ·rw [if_pos c8] at H
      have c8b0 := eq_true c8
      have c8b1 : decide ((ji6) ≤ (a0.size : Int)) = true := decide_eq_true c8
      clear c8
      by_cases c9 : ((cutS a0 0 (a1 : Int).toNat) ++ (⟨#[0, 0]⟩ : ByteArray)).size + (cutS a0 ((ji6) : Int).toNat a0.size).size ≤ 9223372036854775807
      ·rw [if_pos c9] at H
       have c9b0 := eq_true c9
       have c9b1 : decide (((cutS a0 0 (a1 : Int).toNat) ++ (⟨#[0, 0]⟩ : ByteArray)).size + (cutS a0 ((ji6) : Int).toNat a0.size).size ≤ 9223372036854775807) = true := decide_eq_true c9
       try have c9b2 : (9223372036854775807 < ((cutS a0 0 (a1 : Int).toNat) ++ (⟨#[0, 0]⟩ : ByteArray)).size + (cutS a0 ((ji6) : Int).toNat a0.size).size) = False := eq_false (Nat.not_lt.2 c9)
       (try (have c9b3 := c9b2; simp only [ByteArray.size_append] at c9b3))
       have c10b0 := eq_true (of_decide_eq_true (by first | (with_reducible assumption) | assumption) : 0 ≤ a1)
       by_cases c11 : a1 ≤ ((((cutS a0 0 (a1 : Int).toNat) ++ (⟨#[0, 0]⟩ : ByteArray)) ++ (cutS a0 ((ji6) : Int).toNat a0.size)).size : Int)
       ·rw [if_pos c11] at H
        have c11b0 := eq_true c11
        have c11b1 : decide (a1 ≤ ((((cutS a0 0 (a1 : Int).toNat) ++ (⟨#[0, 0]⟩ : ByteArray)) ++ (cutS a0 ((ji6) : Int).toNat a0.size)).size : Int)) = true := decide_eq_true c11
        replace H := Option.bind_eq_some_iff.mp H
        obtain ⟨t176, A120, H⟩ := H
        replace H : ((sternpostref02_Text.f k t176 2).bind fun t177 => (if (cutS (((cutS a0 0 (a1 : Int).toNat) ++ (⟨#[0, 0]⟩ : ByteArray)) ++ (cutS a0 ((ji6) : Int).toNat a0.size)) 0 (a1 : Int).toNat).size + t177.size ≤ 9223372036854775807 then (if (ji6) ≤ ((((cutS a0 0 (a1 : Int).toNat) ++ (⟨#[0, 0]⟩ : ByteArray)) ++ (cutS a0 ((ji6) : Int).toNat a0.size)).size : Int) then (if ((cutS (((cutS a0 0 (a1 : Int).toNat) ++ (⟨#[0, 0]⟩ : ByteArray)) ++ (cutS a0 ((ji6) : Int).toNat a0.size)) 0 (a1 : Int).toNat) ++ t177).size + (cutS (((cutS a0 0 (a1 : Int).toNat) ++ (⟨#[0, 0]⟩ : ByteArray)) ++ (cutS a0 ((ji6) : Int).toNat a0.size)) ((ji6) : Int).toNat (((cutS a0 0 (a1 : Int).toNat) ++ (⟨#[0, 0]⟩ : ByteArray)) ++ (cutS a0 ((ji6) : Int).toNat a0.size)).size).size ≤ 9223372036854775807 then (some (((cutS (((cutS a0 0 (a1 : Int).toNat) ++ (⟨#[0, 0]⟩ : ByteArray)) ++ (cutS a0 ((ji6) : Int).toNat a0.size)) 0 (a1 : Int).toNat) ++ t177) ++ (cutS (((cutS a0 0 (a1 : Int).toNat) ++ (⟨#[0, 0]⟩ : ByteArray)) ++ (cutS a0 ((ji6) : Int).toNat a0.size)) ((ji6) : Int).toNat (((cutS a0 0 (a1 : Int).toNat) ++ (⟨#[0, 0]⟩ : ByteArray)) ++ (cutS a0 ((ji6) : Int).toNat a0.size)).size))) else (none)) else (none)) else (none))) = some r := H
        have A12 := Aside0.mk A120
        clear A120
        replace H := Option.bind_eq_some_iff.mp H
        obtain ⟨t177, A130, H⟩ := H
        replace H : (if (cutS (((cutS a0 0 (a1 : Int).toNat) ++ (⟨#[0, 0]⟩ : ByteArray)) ++ (cutS a0 ((ji6) : Int).toNat a0.size)) 0 (a1 : Int).toNat).size + t177.size ≤ 9223372036854775807 then (if (ji6) ≤ ((((cutS a0 0 (a1 : Int).toNat) ++ (⟨#[0, 0]⟩ : ByteArray)) ++ (cutS a0 ((ji6) : Int).toNat a0.size)).size : Int) then (if ((cutS (((cutS a0 0 (a1 : Int).toNat) ++ (⟨#[0, 0]⟩ : ByteArray)) ++ (cutS a0 ((ji6) : Int).toNat a0.size)) 0 (a1 : Int).toNat) ++ t177).size + (cutS (((cutS a0 0 (a1 : Int).toNat) ++ (⟨#[0, 0]⟩ : ByteArray)) ++ (cutS a0 ((ji6) : Int).toNat a0.size)) ((ji6) : Int).toNat (((cutS a0 0 (a1 : Int).toNat) ++ (⟨#[0, 0]⟩ : ByteArray)) ++ (cutS a0 ((ji6) : Int).toNat a0.size)).size).size ≤ 9223372036854775807 then (some (((cutS (((cutS a0 0 (a1 : Int).toNat) ++ (⟨#[0, 0]⟩ : ByteArray)) ++ (cutS a0 ((ji6) : Int).toNat a0.size)) 0 (a1 : Int).toNat) ++ t177) ++ (cutS (((cutS a0 0 (a1 : Int).toNat) ++ (⟨#[0, 0]⟩ : ByteArray)) ++ (cutS a0 ((ji6) : Int).toNat a0.size)) ((ji6) : Int).toNat (((cutS a0 0 (a1 : Int).toNat) ++ (⟨#[0, 0]⟩ : ByteArray)) ++ (cutS a0 ((ji6) : Int).toNat a0.size)).size))) else (none)) else (none)) else (none)) = some r := H
        have A13 := Aside0.mk A130
        clear A130
        by_cases c14 : (cutS (((cutS a0 0 (a1 : Int).toNat) ++ (⟨#[0, 0]⟩ : ByteArray)) ++ (cutS a0 ((ji6) : Int).toNat a0.size)) 0 (a1 : Int).toNat).size + t177.size ≤ 9223372036854775807
        ·rw [if_pos c14] at H
         have c14b0 := eq_true c14
         have c14b1 : decide ((cutS (((cutS a0 0 (a1 : Int).toNat) ++ (⟨#[0, 0]⟩ : ByteArray)) ++ (cutS a0 ((ji6) : Int).toNat a0.size)) 0 (a1 : Int).toNat).size + t177.size ≤ 9223372036854775807) = true := decide_eq_true c14
         try have c14b2 : (9223372036854775807 < (cutS (((cutS a0 0 (a1 : Int).toNat) ++ (⟨#[0, 0]⟩ : ByteArray)) ++ (cutS a0 ((ji6) : Int).toNat a0.size)) 0 (a1 : Int).toNat).size + t177.size) = False := eq_false (Nat.not_lt.2 c14)
         (try (have c14b3 := c14b2; simp only [ByteArray.size_append] at c14b3))
         have c15b0 := eq_true (of_decide_eq_true (by first | (with_reducible assumption) | assumption) : 0 ≤ (ji6))
         by_cases c16 : (ji6) ≤ ((((cutS a0 0 (a1 : Int).toNat) ++ (⟨#[0, 0]⟩ : ByteArray)) ++ (cutS a0 ((ji6) : Int).toNat a0.size)).size : Int)
         ·rw [if_pos c16] at H
          have c16b0 := eq_true c16
          have c16b1 : decide ((ji6) ≤ ((((cutS a0 0 (a1 : Int).toNat) ++ (⟨#[0, 0]⟩ : ByteArray)) ++ (cutS a0 ((ji6) : Int).toNat a0.size)).size : Int)) = true := decide_eq_true c16
          by_cases c17 : ((cutS (((cutS a0 0 (a1 : Int).toNat) ++ (⟨#[0, 0]⟩ : ByteArray)) ++ (cutS a0 ((ji6) : Int).toNat a0.size)) 0 (a1 : Int).toNat) ++ t177).size + (cutS (((cutS a0 0 (a1 : Int).toNat) ++ (⟨#[0, 0]⟩ : ByteArray)) ++ (cutS a0 ((ji6) : Int).toNat a0.size)) ((ji6) : Int).toNat (((cutS a0 0 (a1 : Int).toNat) ++ (⟨#[0, 0]⟩ : ByteArray)) ++ (cutS a0 ((ji6) : Int).toNat a0.size)).size).size ≤ 9223372036854775807
          ·rw [if_pos c17] at H
           have c17b0 := eq_true c17
           have c17b1 : decide (((cutS (((cutS a0 0 (a1 : Int).toNat) ++ (⟨#[0, 0]⟩ : ByteArray)) ++ (cutS a0 ((ji6) : Int).toNat a0.size)) 0 (a1 : Int).toNat) ++ t177).size + (cutS (((cutS a0 0 (a1 : Int).toNat) ++ (⟨#[0, 0]⟩ : ByteArray)) ++ (cutS a0 ((ji6) : Int).toNat a0.size)) ((ji6) : Int).toNat (((cutS a0 0 (a1 : Int).toNat) ++ (⟨#[0, 0]⟩ : ByteArray)) ++ (cutS a0 ((ji6) : Int).toNat a0.size)).size).size ≤ 9223372036854775807) = true := decide_eq_true c17
           try have c17b2 : (9223372036854775807 < ((cutS (((cutS a0 0 (a1 : Int).toNat) ++ (⟨#[0, 0]⟩ : ByteArray)) ++ (cutS a0 ((ji6) : Int).toNat a0.size)) 0 (a1 : Int).toNat) ++ t177).size + (cutS (((cutS a0 0 (a1 : Int).toNat) ++ (⟨#[0, 0]⟩ : ByteArray)) ++ (cutS a0 ((ji6) : Int).toNat a0.size)) ((ji6) : Int).toNat (((cutS a0 0 (a1 : Int).toNat) ++ (⟨#[0, 0]⟩ : ByteArray)) ++ (cutS a0 ((ji6) : Int).toNat a0.size)).size).size) = False := eq_false (Nat.not_lt.2 c17)
           (try (have c17b3 := c17b2; simp only [ByteArray.size_append] at c17b3))
           obtain rfl := Option.some.inj H
           go_enter Try.func37, Try.ntmps37
           try go_wp2
           have n0_ := Aside0.mk (below_drew1 HB.out)
           clear HB
           have HB := n0_
           clear n0_
           refine start_ (n := 10) (S := fun w' => True) (ds := []) #[false, false, false, false, false, false, false, false, false, false] (by kernel_rfl) rfl rfl trivial (fun hHeld => ?_); refine with_tabW sternpostref02_Sealed.tab1 sternpostref02_Sealed.bits1 (fun HT_ HW_ => ?_)
           generalize w.drew = w18 at HB hHeld ⊢
           refine pure_ (i := 0) (N := some 5) (v := ?_) (a' := ?_) #[true, false, false, false, false, false, false, false, false, false] rfl rfl (any_of HT_.out (by kernel_rfl)) (fun _ _ _ h => h) (Or.inl ⟨by rfl, ?_⟩) ?_ ?_
           rotate_left
           ·intro w'
            go_simp
            with_reducible rfl
           rotate_left
           ·simp only [Act.put, List.setIfInBounds_toArray, List.set_cons_zero, List.set_cons_succ, i64_w, i32_w]
            rfl
           refine pure_ (i := 1) (N := some 6) (v := ?_) (a' := ?_) #[true, true, false, false, false, false, false, false, false, false] rfl rfl (any_of HT_.out (by kernel_rfl)) (fun _ _ _ h => h) (Or.inl ⟨by rfl, ?_⟩) ?_ ?_
           rotate_left
           ·intro w'
            go_simp
            with_reducible rfl
           rotate_left
           ·simp only [Act.put, List.setIfInBounds_toArray, List.set_cons_zero, List.set_cons_succ, i64_w, i32_w]
            rfl
           refine pure_ (i := 2) (N := some 7) (v := ?_) (a' := ?_) #[true, true, true, false, false, false, false, false, false, false] rfl rfl (any_of HT_.out (by kernel_rfl)) (fun _ _ _ h => h) (Or.inl ⟨by rfl, ?_⟩) ?_ ?_
           rotate_left
           ·intro w'
            go_simp
            first | (with_reducible rfl) | ((repeat (first | rw [if_pos (by simp only [ByteArray.size_extract, ByteArray.size_append, eq_iff_iff, iff_true, iff_false, Nat.not_lt] at *; first | omega | (simp only [ByteArray.size, List.size_toArray, List.length_cons, List.length_nil] at *; omega))] | rw [if_neg (by simp only [ByteArray.size_extract, ByteArray.size_append, eq_iff_iff, iff_true, iff_false, Nat.not_lt] at *; first | omega | (simp only [ByteArray.size, List.size_toArray, List.length_cons, List.length_nil] at *; omega))])); try with_reducible rfl)
           rotate_left
           ·simp only [Act.put, List.setIfInBounds_toArray, List.set_cons_zero, List.set_cons_succ, i64_w, i32_w]
            rfl
           refine pure_ (i := 3) (N := some 8) (v := ?_) (a' := ?_) #[true, true, true, true, false, false, false, false, false, false] rfl rfl (any_of HT_.out (by kernel_rfl)) (fun _ _ _ h => h) (Or.inl ⟨by rfl, ?_⟩) ?_ ?_
           rotate_left
           ·intro w'
            go_simp
            first | (with_reducible rfl) | ((repeat (first | rw [if_pos (by simp only [ByteArray.size_extract, ByteArray.size_append, eq_iff_iff, iff_true, iff_false, Nat.not_lt] at *; first | omega | (simp only [ByteArray.size, List.size_toArray, List.length_cons, List.length_nil] at *; omega))] | rw [if_neg (by simp only [ByteArray.size_extract, ByteArray.size_append, eq_iff_iff, iff_true, iff_false, Nat.not_lt] at *; first | omega | (simp only [ByteArray.size, List.size_toArray, List.length_cons, List.length_nil] at *; omega))])); try with_reducible rfl)
           rotate_left
           ·simp only [Act.put, List.setIfInBounds_toArray, List.set_cons_zero, List.set_cons_succ, i64_w, i32_w]
            rfl
           refine pure_ (i := 4) (N := some 9) (v := ?_) (a' := ?_) #[true, true, true, true, true, false, false, false, false, false] rfl rfl (any_of HT_.out (by kernel_rfl)) (fun _ _ _ h => h) (Or.inl ⟨by rfl, ?_⟩) ?_ ?_
           rotate_left
           ·intro w'
            go_simp
            with_reducible rfl
           rotate_left
           ·simp only [Act.put, List.setIfInBounds_toArray, List.set_cons_zero, List.set_cons_succ, i64_w, i32_w]
            rfl
           refine pure_ (i := 5) (N := some 10) (v := ?_) (a' := ?_) #[true, true, true, true, true, true, false, false, false, false] rfl rfl (any_of HT_.out (by kernel_rfl)) (fun _ _ _ h => h) (Or.inl ⟨by rfl, ?_⟩) ?_ ?_
           rotate_left
           ·intro w'
            go_simp
            with_reducible rfl
           rotate_left
           ·simp only [Act.put, List.setIfInBounds_toArray, List.set_cons_zero, List.set_cons_succ, i64_w, i32_w]
            rfl
           refine pure_ (i := 6) (N := some 11) (v := ?_) (a' := ?_) #[true, true, true, true, true, true, true, false, false, false] rfl rfl (any_of HT_.out (by kernel_rfl)) (fun _ _ _ h => h) (Or.inl ⟨by rfl, ?_⟩) ?_ ?_
           rotate_left
           ·intro w'
            go_simp
            with_reducible rfl
           rotate_left
           ·simp only [Act.put, List.setIfInBounds_toArray, List.set_cons_zero, List.set_cons_succ, i64_w, i32_w]
            rfl
           refine pure_ (i := 7) (N := some 12) (v := ?_) (a' := ?_) #[true, true, true, true, true, true, true, true, false, false] rfl rfl (any_of HT_.out (by kernel_rfl)) (fun _ _ _ h => h) (Or.inl ⟨by rfl, ?_⟩) ?_ ?_
           rotate_left
           ·intro w'
            go_simp
            first | (with_reducible rfl) | ((repeat (first | rw [if_pos (by simp only [ByteArray.size_extract, ByteArray.size_append, eq_iff_iff, iff_true, iff_false, Nat.not_lt] at *; first | omega | (simp only [ByteArray.size, List.size_toArray, List.length_cons, List.length_nil] at *; omega))] | rw [if_neg (by simp only [ByteArray.size_extract, ByteArray.size_append, eq_iff_iff, iff_true, iff_false, Nat.not_lt] at *; first | omega | (simp only [ByteArray.size, List.size_toArray, List.length_cons, List.length_nil] at *; omega))])); try with_reducible rfl)
           rotate_left
           ·simp only [Act.put, List.setIfInBounds_toArray, List.set_cons_zero, List.set_cons_succ, i64_w, i32_w]
            rfl
           refine pure_ (i := 8) (N := some 13) (v := ?_) (a' := ?_) #[true, true, true, true, true, true, true, true, true, false] rfl rfl (any_of HT_.out (by kernel_rfl)) (fun _ _ _ h => h) (Or.inl ⟨by rfl, ?_⟩) ?_ ?_
           rotate_left
           ·intro w'
            go_simp
            first | (with_reducible rfl) | ((repeat (first | rw [if_pos (by simp only [ByteArray.size_extract, ByteArray.size_append, eq_iff_iff, iff_true, iff_false, Nat.not_lt] at *; first | omega | (simp only [ByteArray.size, List.size_toArray, List.length_cons, List.length_nil] at *; omega))] | rw [if_neg (by simp only [ByteArray.size_extract, ByteArray.size_append, eq_iff_iff, iff_true, iff_false, Nat.not_lt] at *; first | omega | (simp only [ByteArray.size, List.size_toArray, List.length_cons, List.length_nil] at *; omega))])); try with_reducible rfl)
           rotate_left
           ·simp only [Act.put, List.setIfInBounds_toArray, List.set_cons_zero, List.set_cons_succ, i64_w, i32_w]
            rfl
           refine pure_ (i := 9) (N := some 0) (v := ?_) (a' := ?_) #[true, true, true, true, true, true, true, true, true, true] rfl rfl (any_of HT_.out (by kernel_rfl)) (fun _ _ _ h => h) (Or.inl ⟨by rfl, ?_⟩) ?_ ?_
           rotate_left
           ·intro w'
            go_simp
            with_reducible rfl
           rotate_left
           ·simp only [Act.put, List.setIfInBounds_toArray, List.set_cons_zero, List.set_cons_succ, i64_w, i32_w]
            rfl
           refine done_ (done_of HT_.out (by kernel_rfl)) ?_
           try go_wp2
           have n0_ := Aside0.mk (below_drew1 HB.out)
           clear HB
           have HB := n0_
           clear n0_
           refine start_ (n := 13) (S := fun w' => True) (ds := []) #[false, false, false, false, false, false, false, false, false, false, false, false, false] (by kernel_rfl) rfl rfl trivial (fun hHeld => ?_); refine with_tabW sternpostref02_Sealed.tab2 sternpostref02_Sealed.bits2 (fun HT_ HW_ => ?_)
           generalize w18.drew = w19 at HB hHeld ⊢
           refine pure_ (i := 0) (N := some 14) (v := ?_) (a' := ?_) #[true, false, false, false, false, false, false, false, false, false, false, false, false] rfl rfl (any_of HT_.out (by kernel_rfl)) (fun _ _ _ h => h) (Or.inl ⟨by rfl, ?_⟩) ?_ ?_
           rotate_left
           ·intro w'
            go_simp
            with_reducible rfl
           rotate_left
           ·simp only [Act.put, List.setIfInBounds_toArray, List.set_cons_zero, List.set_cons_succ, i64_w, i32_w]
            rfl
           refine pure_ (i := 1) (N := some 15) (v := ?_) (a' := ?_) #[true, true, false, false, false, false, false, false, false, false, false, false, false] rfl rfl (any_of HT_.out (by kernel_rfl)) (fun _ _ _ h => h) (Or.inl ⟨by rfl, ?_⟩) ?_ ?_
           rotate_left
           ·intro w'
            go_simp
            with_reducible rfl
           rotate_left
           ·simp only [Act.put, List.setIfInBounds_toArray, List.set_cons_zero, List.set_cons_succ, i64_w, i32_w]
            rfl
           refine pure_ (i := 2) (N := some 16) (v := ?_) (a' := ?_) #[true, true, true, false, false, false, false, false, false, false, false, false, false] rfl rfl (any_of HT_.out (by kernel_rfl)) (fun _ _ _ h => h) (Or.inl ⟨by rfl, ?_⟩) ?_ ?_
           rotate_left
           ·intro w'
            go_simp
            first | (with_reducible rfl) | ((repeat (first | rw [if_pos (by simp only [ByteArray.size_extract, ByteArray.size_append, eq_iff_iff, iff_true, iff_false, Nat.not_lt] at *; first | omega | (simp only [ByteArray.size, List.size_toArray, List.length_cons, List.length_nil] at *; omega))] | rw [if_neg (by simp only [ByteArray.size_extract, ByteArray.size_append, eq_iff_iff, iff_true, iff_false, Nat.not_lt] at *; first | omega | (simp only [ByteArray.size, List.size_toArray, List.length_cons, List.length_nil] at *; omega))])); try with_reducible rfl)
           rotate_left
           ·simp only [Act.put, List.setIfInBounds_toArray, List.set_cons_zero, List.set_cons_succ, i64_w, i32_w]
            rfl
           refine pure_ (i := 3) (N := some 17) (v := ?_) (a' := ?_) #[true, true, true, true, false, false, false, false, false, false, false, false, false] rfl rfl (any_of HT_.out (by kernel_rfl)) (fun _ _ _ h => h) (Or.inl ⟨by rfl, ?_⟩) ?_ ?_
           rotate_left
           ·intro w'
            go_simp
            with_reducible rfl
           rotate_left
           ·simp only [Act.put, List.setIfInBounds_toArray, List.set_cons_zero, List.set_cons_succ, i64_w, i32_w]
            rfl
           refine pure_ (i := 7) (N := some 21) (v := ?_) (a' := ?_) #[true, true, true, true, false, false, false, true, false, false, false, false, false] rfl rfl (any_of HT_.out (by kernel_rfl)) (fun _ _ _ h => h) (Or.inl ⟨by rfl, ?_⟩) ?_ ?_
           rotate_left
           ·intro w'
            go_simp
            with_reducible rfl
           rotate_left
           ·simp only [Act.put, List.setIfInBounds_toArray, List.set_cons_zero, List.set_cons_succ, i64_w, i32_w]
            rfl
           refine pure_ (i := 8) (N := some 22) (v := ?_) (a' := ?_) #[true, true, true, true, false, false, false, true, true, false, false, false, false] rfl rfl (any_of HT_.out (by kernel_rfl)) (fun _ _ _ h => h) (Or.inl ⟨by rfl, ?_⟩) ?_ ?_
           rotate_left
           ·intro w'
            go_simp
            with_reducible rfl
           rotate_left
           ·simp only [Act.put, List.setIfInBounds_toArray, List.set_cons_zero, List.set_cons_succ, i64_w, i32_w]
            rfl
           refine pure_ (i := 9) (N := some 23) (v := ?_) (a' := ?_) #[true, true, true, true, false, false, false, true, true, true, false, false, false] rfl rfl (any_of HT_.out (by kernel_rfl)) (fun _ _ _ h => h) (Or.inl ⟨by rfl, ?_⟩) ?_ ?_
           rotate_left
           ·intro w'
            go_simp
            with_reducible rfl
           rotate_left
           ·simp only [Act.put, List.setIfInBounds_toArray, List.set_cons_zero, List.set_cons_succ, i64_w, i32_w]
            rfl
           refine pure_ (i := 10) (N := some 24) (v := ?_) (a' := ?_) #[true, true, true, true, false, false, false, true, true, true, true, false, false] rfl rfl (any_of HT_.out (by kernel_rfl)) (fun _ _ _ h => h) (Or.inl ⟨by rfl, ?_⟩) ?_ ?_
           rotate_left
           ·intro w'
            go_simp
            first | (with_reducible rfl) | ((repeat (first | rw [if_pos (by simp only [ByteArray.size_extract, ByteArray.size_append, eq_iff_iff, iff_true, iff_false, Nat.not_lt] at *; first | omega | (simp only [ByteArray.size, List.size_toArray, List.length_cons, List.length_nil] at *; omega))] | rw [if_neg (by simp only [ByteArray.size_extract, ByteArray.size_append, eq_iff_iff, iff_true, iff_false, Nat.not_lt] at *; first | omega | (simp only [ByteArray.size, List.size_toArray, List.length_cons, List.length_nil] at *; omega))])); try with_reducible rfl)
           rotate_left
           ·simp only [Act.put, List.setIfInBounds_toArray, List.set_cons_zero, List.set_cons_succ, i64_w, i32_w]
            rfl
           refine one_ (i := 4) (N := some 18) #[true, true, true, true, true, false, false, true, true, true, true, false, false] rfl rfl (one_of HT_.out (by kernel_rfl)) (by decide) (fun K hK => ?_)
           refine goes_ Try.func39 (by kernel_rfl) rfl #[.string (((cutS a0 0 (a1 : Int).toNat) ++ (⟨#[0, 0]⟩ : ByteArray)) ++ (cutS a0 ((ji6) : Int).toNat a0.size))] (by rfl) rfl rfl (by (try simp only [List.map_toArray, List.map_cons, List.map_nil]); first | done | (simp only [hji6]; rfl) | rfl | (simp only [List.length_drop, List.length_take]; rfl)) ?_
           with_reducible refine (sternpostref02_Sum.calls k (((cutS a0 0 (a1 : Int).toNat) ++ (⟨#[0, 0]⟩ : ByteArray)) ++ (cutS a0 ((ji6) : Int).toNat a0.size)) t176 _ A12.out).mono ?_
           rintro e w' ⟨rfl, ⟨nd, rfl⟩⟩
           refine ⟨_, rfl, ?_⟩
           refine hK.out _ _ trivial (fun hHeld => ?_)
           clear hK K
           refine norm_ (a' := ?_) ?_ ?_
           rotate_left
           ·show Act.put _ (some 18) _ = _
            simp only [Act.put, List.setIfInBounds_toArray, List.set_cons_zero, List.set_cons_succ, i64_w, i32_w]
            rfl
           refine one_ (i := 5) (N := some 19) #[true, true, true, true, true, true, false, true, true, true, true, false, false] rfl rfl (one_of HT_.out (by kernel_rfl)) (by decide) (fun K hK => ?_)
           refine goes_ Try.func38 (by kernel_rfl) rfl #[.int .i64 t176, .int .i64 2] (by rfl) rfl rfl (by (try simp only [List.map_toArray, List.map_cons, List.map_nil]); first | done | rfl | (simp only [List.length_drop, List.length_take]; rfl)) ?_
           with_reducible refine (sternpostref02_Text.calls k t176 2 t177 _ A13.out).mono ?_
           rintro e w20 ⟨rfl, hb⟩
           refine ⟨_, rfl, ?_⟩
           have n0_ := Aside0.mk (below_step (by repeat (first | (with_reducible first | exact HB.out | apply below_alloc | apply pw_below_drewN | apply below_drew1) | exact HB.out)) hb)
           clear HB
           have HB := n0_
           clear n0_
           (try clear hb)
           (try clear hb2)
           (try clear hk)
           (try clear hi)
           refine hK.out _ _ trivial (fun hHeld => ?_)
           clear hK K
           refine norm_ (a' := ?_) ?_ ?_
           rotate_left
           ·show Act.put _ (some 19) _ = _
            simp only [Act.put, List.setIfInBounds_toArray, List.set_cons_zero, List.set_cons_succ, i64_w, i32_w]
            rfl
           refine pure_ (i := 6) (N := some 20) (v := ?_) (a' := ?_) #[true, true, true, true, true, true, true, true, true, true, true, false, false] rfl rfl (any_of HT_.out (by kernel_rfl)) (fun _ _ _ h => h) (Or.inl ⟨by rfl, ?_⟩) ?_ ?_
           rotate_left
           ·intro w'
            go_simp
            first | (with_reducible rfl) | ((repeat (first | rw [if_pos (by simp only [ByteArray.size_extract, ByteArray.size_append, eq_iff_iff, iff_true, iff_false, Nat.not_lt] at *; first | omega | (simp only [ByteArray.size, List.size_toArray, List.length_cons, List.length_nil] at *; omega))] | rw [if_neg (by simp only [ByteArray.size_extract, ByteArray.size_append, eq_iff_iff, iff_true, iff_false, Nat.not_lt] at *; first | omega | (simp only [ByteArray.size, List.size_toArray, List.length_cons, List.length_nil] at *; omega))])); try with_reducible rfl)
           rotate_left
           ·simp only [Act.put, List.setIfInBounds_toArray, List.set_cons_zero, List.set_cons_succ, i64_w, i32_w]
            rfl
           refine pure_ (i := 11) (N := some 25) (v := ?_) (a' := ?_) #[true, true, true, true, true, true, true, true, true, true, true, true, false] rfl rfl (any_of HT_.out (by kernel_rfl)) (fun _ _ _ h => h) (Or.inl ⟨by rfl, ?_⟩) ?_ ?_
           rotate_left
           ·intro w'
            go_simp
            first | (with_reducible rfl) | ((repeat (first | rw [if_pos (by simp only [ByteArray.size_extract, ByteArray.size_append, eq_iff_iff, iff_true, iff_false, Nat.not_lt] at *; first | omega | (simp only [ByteArray.size, List.size_toArray, List.length_cons, List.length_nil] at *; omega))] | rw [if_neg (by simp only [ByteArray.size_extract, ByteArray.size_append, eq_iff_iff, iff_true, iff_false, Nat.not_lt] at *; first | omega | (simp only [ByteArray.size, List.size_toArray, List.length_cons, List.length_nil] at *; omega))])); try with_reducible rfl)
           rotate_left
           ·simp only [Act.put, List.setIfInBounds_toArray, List.set_cons_zero, List.set_cons_succ, i64_w, i32_w]
            rfl
           refine pure_ (i := 12) (N := some 4) (v := ?_) (a' := ?_) #[true, true, true, true, true, true, true, true, true, true, true, true, true] rfl rfl (any_of HT_.out (by kernel_rfl)) (fun _ _ _ h => h) (Or.inl ⟨by rfl, ?_⟩) ?_ ?_
           rotate_left
           ·intro w'
            go_simp
            with_reducible rfl
           rotate_left
           ·simp only [Act.put, List.setIfInBounds_toArray, List.set_cons_zero, List.set_cons_succ, i64_w, i32_w]
            rfl
           refine done_ (done_of HT_.out (by kernel_rfl)) ?_
           try go_wp2
           go_ret
           exact ⟨by first | rfl | (simp [errW_none, errW_some] <;> rfl) | (simp only [← hji6]; first | rfl | (simp [errW_none, errW_some] <;> rfl)) | (simp [*, errW_none, errW_some] <;> rfl), by repeat (first | (with_reducible first | exact HB.out | apply below_alloc | apply pw_below_drewN | apply below_drew1) | exact HB.out)⟩
          ·rw [if_neg c17] at H
           exact absurd H (by simp)
         ·rw [if_neg c16] at H
          exact absurd H (by simp)
        ·rw [if_neg c14] at H
         exact absurd H (by simp)
       ·rw [if_neg c11] at H
        exact absurd H (by simp)
      ·rw [if_neg c9] at H
       exact absurd H (by simp)
     ·rw [if_neg c8] at H
      exact absurd H (by simp)
    ·rw [if_neg c7] at H
     exact absurd H (by simp)
   ·rw [if_neg c5] at H
    exact absurd H (by simp)
  ·rw [if_neg c4] at H
   exact absurd H (by simp)
 ·rw [if_neg c3] at H
  exact absurd H (by simp)

end Go.Proofs.Ytckgcjjehahkiaa.PIcmpTells

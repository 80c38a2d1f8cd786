-- Laid by this claim's own program over the print's words.
import Derived.Test.YtobndcdohehhbaaPSendqProbesx0
import Derived.Test.YtobndcdohehhbaaPSendqProbesx1
namespace Go.Proofs.Ytobndcdohehhbaa.PSendqProbes
open Go.RowKit Go.Proofs.YtobndcdohehhbaaW.PrintWords Go.Proofs.YtobndcdohehhbaaW.PrintLast Go.Proofs.YtobndcdohehhbaaW.PrintMore
attribute [local go_sem] max2_int min2_int max_two min_two max_three min_three max_four min_four max_five min_five extract_cut tmod_nat_lit   -- for this text's walks alone
set_option linter.unusedVariables false
set_option linter.unusedSimpArgs false

/-! ### sendq_Queue_Probe: function 13 -/
def sendq_Queue_Probe.f (s0_0 : Int) (s0_1 : Int) (s0_2 : Int) (s0_3 : ByteArray) (s0_4 : List (S73)) : Option (Int × ByteArray × Int × Int × Int × ByteArray) := if s0_3.toList = ([] : List UInt8) then (some (s0_0, (⟨#[]⟩ : ByteArray), s0_0, s0_1, s0_2, s0_3)) else (if 0 ≤ 1 then (if 1 ≤ (s0_3.size : Int) then (some (s0_0, cutS s0_3 0 1, s0_0, mx s0_1 1, s0_2, s0_3)) else (none)) else (none))
set_option maxHeartbeats 8000000 in
set_option maxRecDepth 100000 in
theorem sendq_Queue_Probe.calls (g : Nat) (s0_0 : Int) (s0_1 : Int) (s0_2 : Int) (s0_3 : ByteArray) (s0_4 : List (S73)) (r1 : Int) (r2 : ByteArray) (r3 : Int) (r4 : Int) (r5 : Int) (r6 : ByteArray) (w0 w : World) (hI : IsS67 w0 w g s0_0 s0_1 s0_2 s0_3 s0_4) (hB : Below w0.heap.size w0 w) (h : sendq_Queue_Probe.f s0_0 s0_1 s0_2 s0_3 s0_4 = some (r1, r2, r3, r4, r5, r6)) :
  Calls Try.prog 13 #[.pointer (some ⟨g, 0, none⟩)] w fun e w' => e = .returned (.tuple #[.int .i64 r1, .string r2]) ∧ IsS67 w0 w' g r3 r4 r5 r6 s0_4 ∧ Below w0.heap.size w0 w' ∧ KeepBut w w' g none := by
 have HI0 := Aside0.mk hI
 have HK := Aside0.mk (KeepBut.refl w g none)
 have HL := Aside0.mk hB.size
 clear hI
 have HW0 := Aside0.mk hB.size
 have HB := Aside0.mk hB
 clear hB
 have H : (if s0_3.toList = ([] : List UInt8) then (some (s0_0, (⟨#[]⟩ : ByteArray), s0_0, s0_1, s0_2, s0_3)) else (if 0 ≤ 1 then (if 1 ≤ (s0_3.size : Int) then (some (s0_0, cutS s0_3 0 1, s0_0, mx s0_1 1, s0_2, s0_3)) else (none)) else (none))) = some (r1, r2, r3, r4, r5, r6) := h
 clear h
 by_cases c2 : s0_3.toList = ([] : List UInt8)
 ·rw [if_pos c2] at H
  have c2b0 : (s0_3.toList == ([] : List UInt8)) = true := beq_iff_eq.mpr c2
  have c2b1 : (s0_3.toList != ([] : List UInt8)) = false := bne_eq_false_iff_eq.mpr c2
  clear c2
  simp only [Option.some.injEq, Prod.mk.injEq] at H
  obtain ⟨rfl, rfl, rfl, rfl, rfl, rfl⟩ := H
  obtain ⟨ASz3_4, cSz3_4, HGz3, hgz3, HSz3_4⟩ := HI0.out
  have hcz3_0 := cellS67_0 HGz3
  have hcz3_1 := cellS67_1 HGz3
  have hcz3_2 := cellS67_2 HGz3
  have hcz3_3 := cellS67_3 HGz3
  have hcz3_4 := cellS67_4 HGz3
  obtain ⟨hfz3_0, hfz3_1, hfz3_2, hfz3_3⟩ := blk_frozens4 HGz3
  clear HGz3 hgz3
  go_enter Try.func13, Try.ntmps13
  go_wp2
  repeat (go_quiet (fail); try go_wp2)
  go_ret2
  exact ⟨by first | rfl | (simp [errW_none, errW_some] <;> rfl) | (simp [*, errW_none, errW_some] <;> rfl), by repeat (first | (with_reducible first | exact HI0.out | apply IsS67.alloc | apply IsS67.drewN | apply IsS67.drew | apply IsS67.set_0 | apply IsS67.set_1 | apply IsS67.set_2 | apply IsS67.set_3) | exact HI0.out), by repeat (first | (with_reducible first | exact HB.out | apply below_alloc | apply pw_below_drewN | apply below_drew1 | refine below_set ?_ (IsS67.ge HI0.out)) | exact HB.out), by repeat (first | (with_reducible first | exact HK.out | apply KeepBut.set_ | apply keep_drewN | apply keep_drew | apply keep_alloc) | exact HK.out)⟩
 ·rw [if_neg c2] at H
  have c2b0 : (s0_3.toList == ([] : List UInt8)) = false := beq_eq_false_iff_ne.mpr c2
  have c2b1 : (s0_3.toList != ([] : List UInt8)) = true := bne_iff_ne.mpr c2
  obtain ⟨ji4, hji4⟩ : ∃ j_ : Int, (mx s0_1 1) = j_ := ⟨_, rfl⟩
  replace H : (if 0 ≤ 1 then (if 1 ≤ (s0_3.size : Int) then (some (s0_0, cutS s0_3 0 1, s0_0, ji4, s0_2, s0_3)) else (none)) else (none)) = some (r1, r2, r3, r4, r5, r6) := by first | (rw [hji4] at H; exact H) | (simp only [hji4] at H ⊢; exact H)
  (try (have hji4l : 1 ≤ ji4 := by (rw [← hji4]; unfold mx; (repeat' split) <;> omega)))
  (try (have hji4m : 0 ≤ ji4 := by omega))
  have hji4_ : (if s0_1 < 1 then 1 else s0_1) = ji4 := hji4
  by_cases c5 : 0 ≤ 1
  ·rw [if_pos c5] at H
   have c5b0 := eq_true c5
   have c5b1 : decide (0 ≤ 1) = true := decide_eq_true c5
   clear c5
   by_cases c6 : 1 ≤ (s0_3.size : Int)
   ·rw [if_pos c6] at H
    have c6b0 := eq_true c6
    have c6b1 : decide (1 ≤ (s0_3.size : Int)) = true := decide_eq_true c6
    clear c6
    simp only [Option.some.injEq, Prod.mk.injEq] at H
    obtain ⟨rfl, rfl, rfl, rfl, rfl, rfl⟩ := H
    obtain ⟨ASz7_4, cSz7_4, HGz7, hgz7, HSz7_4⟩ := HI0.out
    have hcz7_0 := cellS67_0 HGz7
    have hcz7_1 := cellS67_1 HGz7
    have hcz7_2 := cellS67_2 HGz7
    have hcz7_3 := cellS67_3 HGz7
    have hcz7_4 := cellS67_4 HGz7
    obtain ⟨hfz7_0, hfz7_1, hfz7_2, hfz7_3⟩ := blk_frozens4 HGz7
    clear HGz7 hgz7
    go_enter Try.func13, Try.ntmps13
    go_wp2
    repeat (go_quiet (fail); try go_wp2)
    go_ret2
    exact ⟨by first | rfl | (simp [errW_none, errW_some] <;> rfl) | (simp only [← hji4]; first | rfl | (simp [errW_none, errW_some] <;> rfl)) | (simp [*, errW_none, errW_some] <;> rfl), by repeat (first | (with_reducible first | exact HI0.out | apply IsS67.alloc | apply IsS67.drewN | apply IsS67.drew | apply IsS67.set_0 | apply IsS67.set_1 | apply IsS67.set_2 | apply IsS67.set_3) | exact HI0.out), by repeat (first | (with_reducible first | exact HB.out | apply below_alloc | apply pw_below_drewN | apply below_drew1 | refine below_set ?_ (IsS67.ge HI0.out)) | exact HB.out), by repeat (first | (with_reducible first | exact HK.out | apply KeepBut.set_ | apply keep_drewN | apply keep_drew | apply keep_alloc) | exact HK.out)⟩
   ·rw [if_neg c6] at H
    exact absurd H (by simp)
  ·rw [if_neg c5] at H
   exact absurd H (by simp)

/-! ### sternpostlaw15_SendqProbes: function 3 -/
def sternpostlaw15_SendqProbes_tail.l : Nat → Int → ByteArray → Nat → Int → Int → Int → ByteArray → Option Bool
 | 0, _, _, _, _, _, _, _ => none
 | k + 1, n, t, i, le, se, ro, s => if i < t.size then
   (seq_Add.f n (i : Int)).bind fun w => (sendq_Queue_Next.f le se ro s [] 0 10).bind fun a => (sendq_Queue_Probe.f a.2.2.1 a.2.2.2.1 a.2.2.2.2.1 a.2.2.2.2.2 []).bind fun b => (sendq_Queue_Probe.f b.2.2.1 b.2.2.2.1 b.2.2.2.2.1 b.2.2.2.2.2 []).bind fun c => (seq_Add.f w.1 1).bind fun h => (sendq_Queue_Ack.f c.2.2.1 c.2.2.2.1 c.2.2.2.2.1 c.2.2.2.2.2 h.1).bind fun d =>
    if a.1 = w.1 ∧ a.2.1 = (⟨#[]⟩ : ByteArray) ∧ b.1 = w.1 ∧ c.1 = w.1 ∧ b.2.1 = cutS t i (i + 1) ∧ c.2.1 = b.2.1 ∧ d.1 = 1 ∧ d.2.1 = 0 ∧ t.size < 9223372036854775807 then sternpostlaw15_SendqProbes_tail.l k n t (i + 1) d.2.2.1 d.2.2.2.1 c.2.2.2.2.1 d.2.2.2.2 else none
  else (sendq_Queue_Probe.f le se ro s []).bind fun b => if b.2.1 = (⟨#[]⟩ : ByteArray) then some true else none
theorem sternpostlaw15_SendqProbes_tail.l_mono : ∀ k n t i le se ro s, LeO (sternpostlaw15_SendqProbes_tail.l k n t i le se ro s) (sternpostlaw15_SendqProbes_tail.l (k + 1) n t i le se ro s)
 | 0 => fun _ _ _ _ _ _ _ r h => by simp [sternpostlaw15_SendqProbes_tail.l] at h
 | k + 1 => fun n t i le se ro s => by
  have ih := sternpostlaw15_SendqProbes_tail.l_mono k
  unfold sternpostlaw15_SendqProbes_tail.l
  exact LeO.ite (LeO.bind (LeO.refl _) fun _ => LeO.bind (LeO.refl _) fun _ => LeO.bind (LeO.refl _) fun _ => LeO.bind (LeO.refl _) fun _ => LeO.bind (LeO.refl _) fun _ => LeO.bind (LeO.refl _) fun _ => LeO.ite (ih _ _ _ _ _ _ _) (LeO.refl _)) (LeO.refl _)
def sternpostlaw15_SendqProbes_tail.f (k : Nat) (x0 : Int) (x1 : ByteArray) : Option Bool :=
 (sternpostlaw15_works.f).bind fun t => if t = true then (sternpostbook_Among.f x0 4294967296).bind fun n => (seq_Check.f n).bind fun c => if c = 0 then
  if (x1.size : Int) > 40 then some true else (sendq_Queue_Write.f n 0 100 (⟨#[]⟩ : ByteArray) [] x1).bind fun a => sternpostlaw15_SendqProbes_tail.l k n x1 0 n 0 100 a.2.2 else none else none
theorem sternpostlaw15_SendqProbes_tail.mono (x0 : Int) (x1 : ByteArray) (k : Nat) : LeO (sternpostlaw15_SendqProbes_tail.f k x0 x1) (sternpostlaw15_SendqProbes_tail.f (k + 1) x0 x1) := by
 unfold sternpostlaw15_SendqProbes_tail.f
 exact LeO.bind (LeO.refl _) fun _ => LeO.ite (LeO.bind (LeO.refl _) fun _ => LeO.bind (LeO.refl _) fun _ => LeO.ite (LeO.ite (LeO.refl _) (LeO.bind (LeO.refl _) fun _ => sternpostlaw15_SendqProbes_tail.l_mono _ _ _ _ _ _ _ _)) (LeO.none _)) (LeO.none _)

def sternpostlaw15_SendqProbes.f (k : Nat) (a0 : Int) (a1 : ByteArray) : Option (Bool) := sternpostlaw15_SendqProbes_tail.f k a0 a1
theorem sternpostlaw15_SendqProbes.mono : ∀ a0 a1 k, LeO (sternpostlaw15_SendqProbes.f k a0 a1) (sternpostlaw15_SendqProbes.f (k + 1) a0 a1) := by
 intro a0 a1 k
 unfold sternpostlaw15_SendqProbes.f
 repeat' first
   | (with_reducible exact sternpostlaw15_SendqProbes_tail.mono _ _ _)
   | (with_reducible exact LeO.refl _)
   | (with_reducible exact LeO.none _)
   | (with_reducible refine LeO.ite ?_ ?_)
   | (with_reducible refine LeO.bind ?_ (fun _ => ?_))
   | exact sternpostlaw15_SendqProbes_tail.mono _ _ _
   | exact LeO.none _
   | refine LeO.ite ?_ ?_
   | refine LeO.bind ?_ (fun _ => ?_)
set_option maxHeartbeats 8000000 in
set_option maxRecDepth 100000 in
theorem sternpostlaw15_SendqProbes.calls (k : Nat) (a0 : Int) (a1 : ByteArray) (r : Bool) (w : World) (h : sternpostlaw15_SendqProbes.f k a0 a1 = some r) (hrT_ : r = true) :
  Calls Try.prog 3 #[.int .i64 a0, .string a1] w fun e w' => e = .returned (.bool r) ∧ Below w.heap.size w w' := by
 have HB := Aside0.mk (Below.refl w.heap.size w)
 have H : (sternpostlaw15_SendqProbes_tail.f k a0 a1) = some r := h
 clear h
 go_enter Try.func3, Try.ntmps3
 go_upto_region 1 with (fail)
 have HBt := Aside0.mk (show Below w.heap.size w _ from by repeat (first | (with_reducible first | exact HB.out | apply below_alloc | apply pw_below_drewN | apply below_drew1) | exact HB.out))
 -- UPTO
 subst hrT_
 unfold sternpostlaw15_SendqProbes_tail.f at H
 replace H := Option.bind_eq_some_iff.mp H
 obtain ⟨t, hq_, H⟩ := H
 have AT := Aside0.mk hq_
 clear hq_
 try dsimp only at H
 by_cases c0 : t = true
 case neg => rw [if_neg c0] at H; cases H
 rw [if_pos c0] at H
 subst c0
 replace H := Option.bind_eq_some_iff.mp H
 obtain ⟨n, hq_, H⟩ := H
 have AN := Aside0.mk hq_
 clear hq_
 try dsimp only at H
 replace H := Option.bind_eq_some_iff.mp H
 obtain ⟨c, hq_, H⟩ := H
 have AC := Aside0.mk hq_
 clear hq_
 try dsimp only at H
 by_cases c0 : c = 0
 case neg => rw [if_neg c0] at H; cases H
 rw [if_pos c0] at H
 subst c0
 have HT := Aside0.mk H
 clear H
 go_wp2_with fail
 refine (sternpostlaw15_works.calls _ AT.out).mono ?_
 rintro e w1 ⟨rfl, hb⟩
 have HB1 := Aside0.mk (below_step HBt.out hb)
 clear hb
 go_wp2_with fail
 refine (sternpostbook_Among.calls a0 4294967296 n _ AN.out).mono ?_
 rintro e w2 ⟨rfl, hd⟩
 obtain ⟨nd, rfl⟩ := hd
 have hb : Below w.heap.size w (w1.drewN nd) := pw_below_drewN HB1.out nd
 generalize w1.drewN nd = w2 at hb ⊢
 have HB2 := Aside0.mk hb
 clear hb
 go_wp2_with fail
 refine (sendq_New.calls n 100 w _ HB2.out AC.out (by decide) (by decide)).mono ?_
 rintro e w3 ⟨g, rfl, i1, b1, k1⟩
 have HI := Aside0.mk i1; have HB := Aside0.mk b1; clear i1 b1 k1
 have H := HT.out
 clear HT
 by_cases c40 : (a1.size : Int) > 40
 case pos =>
  rw [if_pos c40] at H
  have d40 : decide (40 < (a1.size : Int)) = true := decide_eq_true c40
  have d41 : decide (40 < a1.size) = true := decide_eq_true (by omega)
  go_wp2
  go_ret
  exact ⟨by first | rfl | (simp; done), HB.out⟩
 rw [if_neg c40] at H
 have d40 : decide (40 < (a1.size : Int)) = false := decide_eq_false c40
 replace H := Option.bind_eq_some_iff.mp H
 obtain ⟨⟨v1, v2, v3⟩, hq_, H⟩ := H
 have AA := Aside0.mk hq_
 clear hq_
 try dsimp only at H
 have HT := Aside0.mk H
 clear H c40
 go_wp2_with fail
 refine (sendq_Queue_Write.calls g n 0 100 (⟨#[]⟩ : ByteArray) [] a1 v1 v2 v3 w _ HI.out HB.out AA.out).mono ?_
 rintro e w4 ⟨rfl, i1, b1, k1⟩
 have HIn := Aside0.mk i1; have HBn := Aside0.mk b1; clear i1 b1 k1 HI HB; have HI := HIn; have HB := HBn; clear HIn HBn
 clear d40
 go_wp2
 go_loopg [50] k (fun kq v50 W => ∃ (i : Nat) (le se ro : Int) (s : ByteArray), v50 = .int .i64 (i : Int) ∧ Aside0 (sternpostlaw15_SendqProbes_tail.l kq n a1 i le se ro s = some true) ∧ Aside0 (kq ≤ k) ∧ Aside0 (IsS67 w W g le se ro s []) ∧ Aside0 (Below w.heap.size w W))
 case atStart => exact ⟨0, n, 0, 100, v3, rfl, HT, ⟨Nat.le_refl _⟩, HI, HB⟩
 case round =>
  clear HT HI HB AA AN AC AT HB1 HB2
  obtain ⟨i, le, se, ro, s, h50, HL, HK1, HI, HB⟩ := hrel
  subst h50
  cases gk with
  | zero => exact absurd HL.out (by simp [sternpostlaw15_SendqProbes_tail.l])
  | succ k1 =>
   have H := HL.out
   clear HL
   simp only [sternpostlaw15_SendqProbes_tail.l] at H
   by_cases c : i < a1.size
   case pos =>
    rw [if_pos c] at H
    have d := decide_eq_true c
    have d' : decide ((i : Int) < (a1.size : Int)) = true := decide_eq_true (by omega)
    replace H := Option.bind_eq_some_iff.mp H
    obtain ⟨⟨z1, z2⟩, hq_, H⟩ := H
    have AW := Aside0.mk hq_
    clear hq_
    try dsimp only at H
    replace H := Option.bind_eq_some_iff.mp H
    obtain ⟨⟨m1, m2, m3, m4, m5, m6⟩, hq_, H⟩ := H
    have A1 := Aside0.mk hq_
    clear hq_
    try dsimp only at H
    replace H := Option.bind_eq_some_iff.mp H
    obtain ⟨⟨q1, q2, q3, q4, q5, q6⟩, hq_, H⟩ := H
    have A2 := Aside0.mk hq_
    clear hq_
    try dsimp only at H
    replace H := Option.bind_eq_some_iff.mp H
    obtain ⟨⟨o1, o2, o3, o4, o5, o6⟩, hq_, H⟩ := H
    have A3 := Aside0.mk hq_
    clear hq_
    try dsimp only at H
    replace H := Option.bind_eq_some_iff.mp H
    obtain ⟨⟨h1, h2⟩, hq_, H⟩ := H
    have AH := Aside0.mk hq_
    clear hq_
    try dsimp only at H
    replace H := Option.bind_eq_some_iff.mp H
    obtain ⟨⟨d1, d2, d3, d4, d5⟩, hq_, H⟩ := H
    have A4 := Aside0.mk hq_
    clear hq_
    try dsimp only at H
    by_cases cc : m1 = z1 ∧ m2 = (⟨#[]⟩ : ByteArray) ∧ q1 = z1 ∧ o1 = z1 ∧ q2 = cutS a1 i (i + 1) ∧ o2 = q2 ∧ d1 = 1 ∧ d2 = 0 ∧ a1.size < 9223372036854775807
    case neg => rw [if_neg cc] at H; cases H
    rw [if_pos cc] at H
    obtain ⟨e1, e2, e3, e4, e5, e6, e7, e8, e9⟩ := cc
    subst e1 e2 e3 e4 e6 e5 e7 e8
    have HT := Aside0.mk H; have E9 := Aside0.mk e9; have C9 := Aside0.mk c
    clear H e9 c
    go_wp2_with fail
    refine (seq_Add.calls n (i : Int) _ z2 _ AW.out).mono ?_
    rintro e W1 ⟨rfl, hd⟩
    obtain ⟨nd, rfl⟩ := hd
    have i1 := IsS67.drewN HI.out nd; have b1 := pw_below_drewN HB.out nd; have k1 := trivial
    generalize World.drewN _ nd = W1 at i1 b1 ⊢
    have HIn := Aside0.mk i1; have HBn := Aside0.mk b1; clear i1 b1 k1 HI HB; have HI := HIn; have HB := HBn; clear HIn HBn
    go_wp2_with fail
    refine (sendq_Queue_Next.calls g le se ro s [] 0 10 _ _ m3 m4 m5 m6 w _ HI.out HB.out A1.out).mono ?_
    rintro e W2 ⟨rfl, i1, b1, k1⟩
    have HIn := Aside0.mk i1; have HBn := Aside0.mk b1; clear i1 b1 k1 HI HB; have HI := HIn; have HB := HBn; clear HIn HBn
    go_wp2_with fail
    refine (sendq_Queue_Probe.calls g m3 m4 m5 m6 [] _ _ q3 q4 q5 q6 w _ HI.out HB.out A2.out).mono ?_
    rintro e W3 ⟨rfl, i1, b1, k1⟩
    have HIn := Aside0.mk i1; have HBn := Aside0.mk b1; clear i1 b1 k1 HI HB; have HI := HIn; have HB := HBn; clear HIn HBn
    go_wp2_with fail
    refine (sendq_Queue_Probe.calls g q3 q4 q5 q6 [] _ _ o3 o4 o5 o6 w _ HI.out HB.out A3.out).mono ?_
    rintro e W4 ⟨rfl, i1, b1, k1⟩
    have HIn := Aside0.mk i1; have HBn := Aside0.mk b1; clear i1 b1 k1 HI HB; have HI := HIn; have HB := HBn; clear HIn HBn
    go_wp2_with fail
    refine (seq_Add.calls _ 1 h1 h2 _ AH.out).mono ?_
    rintro e W5 ⟨rfl, hd⟩
    obtain ⟨nd, rfl⟩ := hd
    have i1 := IsS67.drewN HI.out nd; have b1 := pw_below_drewN HB.out nd; have k1 := trivial
    generalize World.drewN _ nd = W5 at i1 b1 ⊢
    have HIn := Aside0.mk i1; have HBn := Aside0.mk b1; clear i1 b1 k1 HI HB; have HI := HIn; have HB := HBn; clear HIn HBn
    go_wp2_with fail
    refine (sendq_Queue_Ack.calls g o3 o4 o5 o6 h1 1 0 d3 d4 d5 w _ HI.out HB.out A4.out).mono ?_
    rintro e W6 ⟨rfl, i1, b1, k1⟩
    have HIn := Aside0.mk i1; have HBn := Aside0.mk b1; clear i1 b1 k1 HI HB; have HI := HIn; have HB := HBn; clear HIn HBn
    have f1 : wrap64 ((i : Int) + 1) = ((i + 1 : Nat) : Int) := by unfold wrap64; have := E9.out; have := C9.out; omega
    have f2 : ((i : Int) + 1 ≤ (a1.size : Int)) = True := eq_true (by have := C9.out; omega)
    have f3 : (i + 1 ≤ a1.size) = True := eq_true (by have := C9.out; omega)
    have f4 : (((a1.size : Int) < (i : Int) + 1)) = False := eq_false (by have := C9.out; omega)
    have f5 : (a1.size < i + 1) = False := eq_false (by have := C9.out; omega)
    go_wp2_with (first | ((with_reducible refine gate_slice rfl ?_); refine step_run (by first | rfl | (go_simp; done)) (run_sl_at (i := (i : Int)) (j := wrap64 ((i : Int) + 1)) Try.underlying9 rfl rfl rfl rfl (by omega) (by rw [f1]; omega) (by rw [f1]; have := C9.out; omega)) ?_; simp only [f1, Int.toNat_natCast, Act.put, List.setIfInBounds_toArray, List.set_cons_zero, List.set_cons_succ]))
    go_roundg k1
    case measure => have := HK1.out; omega
    case rel => exact ⟨i + 1, d3, d4, o5, d5, (by first | rfl | (rw [f1]) | (simp [f1]; done)), HT, ⟨by have := HK1.out; omega⟩, HI, HB⟩
   case neg =>
    rw [if_neg c] at H
    have d := decide_eq_false c
    have d' : decide ((i : Int) < (a1.size : Int)) = false := decide_eq_false (by omega)
    replace H := Option.bind_eq_some_iff.mp H
    obtain ⟨⟨q1, q2, q3, q4, q5, q6⟩, hq_, H⟩ := H
    have A2 := Aside0.mk hq_
    clear hq_
    try dsimp only at H
    by_cases cc : q2 = (⟨#[]⟩ : ByteArray)
    case neg => rw [if_neg cc] at H; cases H
    clear H
    subst cc
    go_wp2_with fail
    refine (sendq_Queue_Probe.calls g le se ro s [] q1 _ q3 q4 q5 q6 w _ HI.out HB.out A2.out).mono ?_
    rintro e W3 ⟨rfl, i1, b1, k1⟩
    have HIn := Aside0.mk i1; have HBn := Aside0.mk b1; clear i1 b1 k1 HI HB; have HI := HIn; have HB := HBn; clear HIn HBn
    go_wp2
    go_ret
    exact ⟨by first | rfl | (simp; done), HB.out⟩

/-- THE ONE PURE STATEMENT of sternpostlaw15_SendqProbes: yours. -/
def sternpostlaw15_SendqProbes.Pure : Prop := ∀ (a0 : Int) (a1 : ByteArray), (Lit.int .i64 a0).wf = true → a1.size ≤ 140737488351232 → ∃ k, sternpostlaw15_SendqProbes.f k a0 a1 = some true
theorem sternpostlaw15_SendqProbes.walk (P : sternpostlaw15_SendqProbes.Pure) (a0 : Int) (a1 : ByteArray) (w : World) (w0 : (Lit.int .i64 a0).wf = true) (w1 : a1.size ≤ 140737488351232) :
  Calls Try.prog 3 #[.int .i64 a0, .string a1] w fun e w' => e = .returned (.bool true) ∧ Below w.heap.size w w' := by
 obtain ⟨k, h⟩ := P a0 a1 w0 w1
 refine (sternpostlaw15_SendqProbes.calls k a0 a1 true w h rfl).mono ?_
 rintro e w' ⟨rfl, hd⟩
 exact ⟨rfl, hd⟩

end Go.Proofs.Ytobndcdohehhbaa.PSendqProbes

-- Laid by this claim's own program over the print's words.
import Derived.Test.YtakajeoeijnmhaaPSegSamex0
import Derived.Test.YtakajeoeijnmhaaPSegSamex9
import Derived.Test.YtakajeoeijnmhaaPSegSamex12
namespace Go.Proofs.Ytakajeoeijnmhaa.PSegSame
open Go.RowKit Go.Proofs.YtakajeoeijnmhaaW.PrintWords Go.Proofs.YtakajeoeijnmhaaW.PrintLast Go.Proofs.YtakajeoeijnmhaaW.PrintMore
attribute [local go_sem] max2_int min2_int max_two min_two max_three min_three max_four min_four max_five min_five extract_cut tmod_nat_lit   -- for this text's walks alone
set_option linter.unusedVariables false
set_option linter.unusedSimpArgs false

/-! ### sternpostref08_Check: function 19 -/
def sternpostref08_Check_tail.f (k : Nat) (c0 c1 c2 c3 c4 c5 c6 c7 c8 c9 c10 : Int) (c11 c12 c13 : Bool) (c14 : List S73) (c15 : ByteArray) : Option Int :=
 (sternpostref01_Check.f c2).bind fun e1 => if e1 = 0 then (sternpostref01_Check.f c3).bind fun e2 => if e2 = 0 then if c4 < 0 then some 80 else if c4 > 63 then some 80 else
  (sternpostref08_Has.f c0 c1 c2 c3 c4 c5 c6 c7 c8 c9 c10 c11 c12 c13 c14 c15 16).bind fun h1 => if h1 = true ∨ c3 = 0 then (sternpostref08_Has.f c0 c1 c2 c3 c4 c5 c6 c7 c8 c9 c10 c11 c12 c13 c14 c15 32).bind fun h2 => if h2 = true ∨ c6 = 0 then
   (sternpostref07_Check.f k c7 c8 c9 c10 c11 c12 c13 c14).bind fun e3 => if e3 = 0 then if (c15.size : Int) > 1480 then some 80 else some 0 else some 80 else some 80 else some 80 else some 80 else some 80
theorem sternpostref08_Check_tail.mono (c0 c1 c2 c3 c4 c5 c6 c7 c8 c9 c10 : Int) (c11 c12 c13 : Bool) (c14 : List S73) (c15 : ByteArray) (k : Nat) : LeO (sternpostref08_Check_tail.f k c0 c1 c2 c3 c4 c5 c6 c7 c8 c9 c10 c11 c12 c13 c14 c15) (sternpostref08_Check_tail.f (k + 1) c0 c1 c2 c3 c4 c5 c6 c7 c8 c9 c10 c11 c12 c13 c14 c15) := by
 unfold sternpostref08_Check_tail.f
 exact LeO.bind (LeO.refl _) fun _ => LeO.ite (LeO.bind (LeO.refl _) fun _ => LeO.ite (LeO.ite (LeO.refl _) (LeO.ite (LeO.refl _) (LeO.bind (LeO.refl _) fun _ => LeO.ite (LeO.bind (LeO.refl _) fun _ => LeO.ite (LeO.bind (sternpostref07_Check.mono _ _ _ _ _ _ _ _ _) fun _ => LeO.refl _) (LeO.refl _)) (LeO.refl _)))) (LeO.refl _)) (LeO.refl _)

def sternpostref08_Check.l0 : Nat → List Int → Int → Int → Int → Int → Int → Int → Int → Int → Int → Int → Int → Int → Bool → Bool → Bool → List (S73) → ByteArray → Option (Int)
 | 0, _, _, _, _, _, _, _, _, _, _, _, _, _, _, _, _, _, _ => none
 | k + 1, x3, x4, x184000, x184001, x184002, x184003, x184004, x184005, x184006, x184007, x184008, x184009, x184010, x184011, x184012, x184013, x184014, x184015 => if x4 < (x3.length : Int) then (if 0 ≤ x4 then (if (rd x3 x4) < 0 then (some 80) else (if (rd x3 x4) > 65535 then (some 80) else (sternpostref08_Check.l0 k x3 (wrap64 (x4 + 1)) x184000 x184001 x184002 x184003 x184004 x184005 x184006 x184007 x184008 x184009 x184010 x184011 x184012 x184013 x184014 x184015))) else (none)) else (sternpostref08_Check_tail.f k x184000 x184001 x184002 x184003 x184004 x184005 x184006 x184007 x184008 x184009 x184010 x184011 x184012 x184013 x184014 x184015)
def sternpostref08_Check.f (k : Nat) (a0_0 : Int) (a0_1 : Int) (a0_2 : Int) (a0_3 : Int) (a0_4 : Int) (a0_5 : Int) (a0_6 : Int) (a0_7 : Int) (a0_8 : Int) (a0_9 : Int) (a0_10 : Int) (a0_11 : Bool) (a0_12 : Bool) (a0_13 : Bool) (l0_14 : List (S73)) (a0_15 : ByteArray) : Option (Int) := sternpostref08_Check.l0 k (([a0_0, a0_1, a0_5, a0_6] : List Int)) 0 a0_0 a0_1 a0_2 a0_3 a0_4 a0_5 a0_6 a0_7 a0_8 a0_9 a0_10 a0_11 a0_12 a0_13 l0_14 a0_15
theorem sternpostref08_Check.mono_l : ∀ k, (∀ y0 y1 y2 y3 y4 y5 y6 y7 y8 y9 y10 y11 y12 y13 y14 y15 y16 y17, LeO (sternpostref08_Check.l0 k y0 y1 y2 y3 y4 y5 y6 y7 y8 y9 y10 y11 y12 y13 y14 y15 y16 y17) (sternpostref08_Check.l0 (k + 1) y0 y1 y2 y3 y4 y5 y6 y7 y8 y9 y10 y11 y12 y13 y14 y15 y16 y17))
 | 0 => fun _ _ _ _ _ _ _ _ _ _ _ _ _ _ _ _ _ _ r h => by simp [sternpostref08_Check.l0] at h
 | k + 1 => by
  have ih0 := sternpostref08_Check.mono_l k
  ·intro y0 y1 y2 y3 y4 y5 y6 y7 y8 y9 y10 y11 y12 y13 y14 y15 y16 y17
   unfold sternpostref08_Check.l0
   repeat' first
   | (with_reducible exact ih0 _ _ _ _ _ _ _ _ _ _ _ _ _ _ _ _ _ _)
   | (with_reducible exact sternpostref08_Check_tail.mono _ _ _ _ _ _ _ _ _ _ _ _ _ _ _ _ _)
   | (with_reducible exact LeO.refl _)
   | (with_reducible exact LeO.none _)
   | (with_reducible refine LeO.ite ?_ ?_)
   | (with_reducible refine LeO.bind ?_ (fun _ => ?_))
   | exact ih0 _ _ _ _ _ _ _ _ _ _ _ _ _ _ _ _ _ _
   | exact sternpostref08_Check_tail.mono _ _ _ _ _ _ _ _ _ _ _ _ _ _ _ _ _
   | exact LeO.none _
   | refine LeO.ite ?_ ?_
   | refine LeO.bind ?_ (fun _ => ?_)
theorem sternpostref08_Check.mono : ∀ a0 a1 a2 a3 a4 a5 a6 a7 a8 a9 a10 a11 a12 a13 a14 a15 k, LeO (sternpostref08_Check.f k a0 a1 a2 a3 a4 a5 a6 a7 a8 a9 a10 a11 a12 a13 a14 a15) (sternpostref08_Check.f (k + 1) a0 a1 a2 a3 a4 a5 a6 a7 a8 a9 a10 a11 a12 a13 a14 a15) := by
 intro a0 a1 a2 a3 a4 a5 a6 a7 a8 a9 a10 a11 a12 a13 a14 a15 k
 have ih0 := sternpostref08_Check.mono_l k
 unfold sternpostref08_Check.f
 repeat' first
   | (with_reducible exact ih0 _ _ _ _ _ _ _ _ _ _ _ _ _ _ _ _ _ _)
   | (with_reducible exact sternpostref08_Check_tail.mono _ _ _ _ _ _ _ _ _ _ _ _ _ _ _ _ _)
   | (with_reducible exact LeO.refl _)
   | (with_reducible exact LeO.none _)
   | (with_reducible refine LeO.ite ?_ ?_)
   | (with_reducible refine LeO.bind ?_ (fun _ => ?_))
   | exact ih0 _ _ _ _ _ _ _ _ _ _ _ _ _ _ _ _ _ _
   | exact sternpostref08_Check_tail.mono _ _ _ _ _ _ _ _ _ _ _ _ _ _ _ _ _
   | exact LeO.none _
   | refine LeO.ite ?_ ?_
   | refine LeO.bind ?_ (fun _ => ?_)
set_option maxHeartbeats 8000000 in
set_option maxRecDepth 100000 in
theorem sternpostref08_Check.calls (k : Nat) (a0_0 : Int) (a0_1 : Int) (a0_2 : Int) (a0_3 : Int) (a0_4 : Int) (a0_5 : Int) (a0_6 : Int) (a0_7 : Int) (a0_8 : Int) (a0_9 : Int) (a0_10 : Int) (a0_11 : Bool) (a0_12 : Bool) (a0_13 : Bool) (A0_14 : Option Addr) (c0_14 : Nat) (l0_14 : List (S73)) (a0_15 : ByteArray) (r : Int) (w : World) (hr0_14 : Kd.C k73 w A0_14 l0_14.length l0_14) (hc0_14 : l0_14.length ≤ c0_14) (h : sternpostref08_Check.f k a0_0 a0_1 a0_2 a0_3 a0_4 a0_5 a0_6 a0_7 a0_8 a0_9 a0_10 a0_11 a0_12 a0_13 l0_14 a0_15 = some r) :
  Calls Try.prog 19 #[.agg #[.int .i64 a0_0, .int .i64 a0_1, .int .i64 a0_2, .int .i64 a0_3, .int .i64 a0_4, .int .i64 a0_5, .int .i64 a0_6, .int .i64 a0_7, .int .i64 a0_8, .int .i64 a0_9, .int .i64 a0_10, .bool a0_11, .bool a0_12, .bool a0_13, .slice A0_14 l0_14.length c0_14, .string a0_15]] w fun e w' => e = .returned (.int .i64 r) ∧ Below w.heap.size w w' := by
 have hu26 := Try.underlying26
 have hu24 := Try.underlying24
 have HR0_14 := Aside0.mk hr0_14
 have HC0_14 := Aside0.mk hc0_14
 clear hr0_14 hc0_14
 have HB := Aside0.mk (Below.refl w.heap.size w)
 have H : (sternpostref08_Check.l0 k (([a0_0, a0_1, a0_5, a0_6] : List Int)) 0 a0_0 a0_1 a0_2 a0_3 a0_4 a0_5 a0_6 a0_7 a0_8 a0_9 a0_10 a0_11 a0_12 a0_13 l0_14 a0_15) = some r := h
 clear h
 obtain ⟨y184, hy184⟩ : ∃ y_ : List Int, y_ = (([a0_0, a0_1, a0_5, a0_6] : List Int)) := ⟨_, rfl⟩
 replace H : (sternpostref08_Check.l0 k y184 0 a0_0 a0_1 a0_2 a0_3 a0_4 a0_5 a0_6 a0_7 a0_8 a0_9 a0_10 a0_11 a0_12 a0_13 l0_14 a0_15) = some r := by first | (rw [hy184]; with_reducible exact H) | (have H2_ := (Option.bind_some _ _).symm.trans H; rw [hy184]; with_reducible exact H2_) | (have H2_ := (Option.bind_some _ _).symm.trans H; with_reducible exact H2_) | with_reducible exact H | (rw [hy184]; exact H) | exact H
 have Ny184 := Aside0.mk hy184
 clear hy184
 have H' := Aside0.mk H
 clear H
 go_enter Try.func19, Try.ntmps19
 go_wp2_with (first | ((with_reducible refine gate_dst (N := 1) rfl ?_); (try (refine gate_guard (by rfl) ?_; dsimp only)); refine box_event ?hg (N := 1) ?hd (cs := #[.int .i64 a0_0, .int .i64 a0_1, .int .i64 a0_2, .int .i64 a0_3, .int .i64 a0_4, .int .i64 a0_5, .int .i64 a0_6, .int .i64 a0_7, .int .i64 a0_8, .int .i64 a0_9, .int .i64 a0_10, .bool a0_11, .bool a0_12, .bool a0_13, .slice A0_14 l0_14.length c0_14, .string a0_15]) (t := 26) ?hr ?_; (case hd => rfl); (case hg => rfl); (case hr => first | (go_simp; done) | (go_simp; rfl)); intro gb183 hg w2 hbox hb; have n0_ := Aside0.mk (below_step (by repeat (first | (with_reducible first | exact HB.out | apply below_alloc | apply pw_below_drewN | apply below_drew1) | exact HB.out)) hb); have n1_ := Aside0.mk (hbox); have n2_ := Aside0.mk ((by rw [hg]; exact (below_size (by repeat (first | (with_reducible first | exact HB.out | apply below_alloc | apply pw_below_drewN | apply below_drew1) | exact HB.out))) : w.heap.size ≤ gb183)); have n3_ := Aside0.mk ((by rw [hg]; exact (below_size (by repeat (first | (with_reducible first | exact HB.out | apply below_alloc | apply pw_below_drewN | apply below_drew1) | exact HB.out))) : w.heap.size ≤ gb183)); clear HB; have HB := n0_; have BK183 := n1_; have GW183 := n2_; have GE183 := n3_; clear n0_ n1_ n2_ n3_; clear hb hbox hg; obtain ⟨hcz3_0, hcz3_1, hcz3_2, hcz3_3, hcz3_4, hcz3_5, hcz3_6, hcz3_7, hcz3_8, hcz3_9, hcz3_10, hcz3_11, hcz3_12, hcz3_13, hcz3_14, hcz3_15⟩ := blk_cells16 BK183.out; obtain ⟨hfz3_0, hfz3_1, hfz3_2, hfz3_3, hfz3_4, hfz3_5, hfz3_6, hfz3_7, hfz3_8, hfz3_9, hfz3_10, hfz3_11, hfz3_12, hfz3_13, hfz3_14, hfz3_15⟩ := blk_frozens16 BK183.out) | ((with_reducible refine gate_dst (N := 13) rfl ?_); (try (refine gate_guard (by rfl) ?_; dsimp only)); refine Kd.R_lit (Kd.int .i64) _ 3 ?hg (N := 13) ?hd (xs := ([a0_0, a0_1, a0_5, a0_6] : List Int)) (inner := [.int .i64 a0_0, .int .i64 a0_1, .int .i64 a0_5, .int .i64 a0_6]) (ok := fun _ => True) (okp := fun _ => True) ?hr ?hp (fun _ hk => hk) trivial (Below.refl _ _) (Nat.le_refl _) (by simp) ?_; (case hd => rfl); (case hg => rfl); (case hr => first | (go_simp; done) | (go_simp; rfl)); (case hp => exact (Reps.one (show Kd.M (Kd.int .i64) _ _ _ a0_0 [.int .i64 a0_0] from rfl) (Reps.one (show Kd.M (Kd.int .i64) _ _ _ a0_1 [.int .i64 a0_1] from rfl) (Reps.one (show Kd.M (Kd.int .i64) _ _ _ a0_5 [.int .i64 a0_5] from rfl) (Reps.one (show Kd.M (Kd.int .i64) _ _ _ a0_6 [.int .i64 a0_6] from rfl) (Reps.none _ _)))))); intro v185 w4 ho5 hb hg_ hnew_; clear hg_ hnew_; (first | rw [← Ny184.out] at ho5 | (simp only [Int.reduceToNat] at ho5; rw [← Ny184.out] at ho5)); have n0_ := Aside0.mk (Kd.R_lower ho5 (below_size (by repeat (first | (with_reducible first | exact HB.out | apply below_alloc | apply pw_below_drewN | apply below_drew1 | refine below_set ?_ GE183.out) | exact HB.out)))); have n1_ := Aside0.mk (blk_below (g := gb183) (o := .cells #[.int .i64 a0_0, .int .i64 a0_1, .int .i64 a0_2, .int .i64 a0_3, .int .i64 a0_4, .int .i64 a0_5, .int .i64 a0_6, .int .i64 a0_7, .int .i64 a0_8, .int .i64 a0_9, .int .i64 a0_10, .bool a0_11, .bool a0_12, .bool a0_13, .slice A0_14 l0_14.length c0_14, .string a0_15] 26 (0, 0)) (by (with_reducible repeat (first | refine blk_drewN ?_ _ | refine blk_drew ?_ | refine blk_alloc ?_ _)); exact BK183.out) hb); have n2_ := Aside0.mk (below_step (by repeat (first | (with_reducible first | exact HB.out | apply below_alloc | apply pw_below_drewN | apply below_drew1 | refine below_set ?_ GE183.out) | exact HB.out)) hb); clear BK183; clear HB; have HO186 := n0_; have BK183 := n1_; have HB := n2_; clear n0_ n1_ n2_; clear hb ho5))
 go_loopg [4] k (fun kq v4 w' => ∃ (x4_1 : Int), v4 = .int .i64 x4_1 ∧ Aside0 (sternpostref08_Check.l0 kq y184 x4_1 a0_0 a0_1 a0_2 a0_3 a0_4 a0_5 a0_6 a0_7 a0_8 a0_9 a0_10 a0_11 a0_12 a0_13 l0_14 a0_15 = some r) ∧ Aside0 (kq ≤ k) ∧ Aside0 (Kd.R (Kd.int .i64) 3 w' w.heap.size (fun _ => True) v185 y184) ∧ Aside0 (w'.heap[gb183]? = some (.cells #[.int .i64 a0_0, .int .i64 a0_1, .int .i64 a0_2, .int .i64 a0_3, .int .i64 a0_4, .int .i64 a0_5, .int .i64 a0_6, .int .i64 a0_7, .int .i64 a0_8, .int .i64 a0_9, .int .i64 a0_10, .bool a0_11, .bool a0_12, .bool a0_13, (.slice A0_14 l0_14.length c0_14), .string a0_15] 26 (0, 0))) ∧ Aside0 (Below w.heap.size w w'))
 case atStart => exact ⟨(0), (by first | rfl | (simp; done) | (simp [*]; done)), H', ⟨Nat.le_refl _⟩, ⟨by (with_reducible repeat (first | apply Kd.R_alloc | apply Kd.R_drewN | apply Kd.R_drew)); exact HO186.out⟩, ⟨by (with_reducible repeat (first | refine blk_drewN ?_ _ | refine blk_drew ?_ | refine blk_alloc ?_ _)); exact BK183.out⟩, ⟨by repeat (first | (with_reducible first | exact HB.out | apply below_alloc | apply pw_below_drewN | apply below_drew1 | refine below_set ?_ GE183.out) | exact HB.out)⟩⟩
 case round =>
  clear H'
  try clear c1; try clear p2; try clear hcz3_0 hcz3_1 hcz3_10 hcz3_11 hcz3_12 hcz3_13 hcz3_14 hcz3_15 hcz3_2 hcz3_3 hcz3_4 hcz3_5 hcz3_6 hcz3_7 hcz3_8 hcz3_9; try clear hfz3_0 hfz3_1 hfz3_10 hfz3_11 hfz3_12 hfz3_13 hfz3_14 hfz3_15 hfz3_2 hfz3_3 hfz3_4 hfz3_5 hfz3_6 hfz3_7 hfz3_8 hfz3_9
  obtain ⟨x4_1, rfl, HA, HK1, HO_3, BK183, HB⟩ := hrel
  cases gk with
  | zero => exact absurd HA.out (by simp [sternpostref08_Check.l0])
  | succ k1 =>
   have H := HA.out
   clear HA
   simp only [sternpostref08_Check.l0] at H
   by_cases c6 : x4_1 < (y184.length : Int)
   ·rw [if_pos c6] at H
    have c6b0 : decide (x4_1 < (y184.length : Int)) = true := decide_eq_true c6
    clear c6
    by_cases c7 : 0 ≤ x4_1
    ·rw [if_pos c7] at H
     have c7b0 : decide (0 ≤ x4_1) = true := decide_eq_true c7
     clear c7
     by_cases c8 : (rd y184 x4_1) < 0
     ·rw [if_pos c8] at H
      have c8b0 : decide ((rd y184 x4_1) < 0) = true := decide_eq_true c8
      clear c8
      obtain rfl := Option.some.inj H
      obtain ⟨Ao9, co9, eo9⟩ := Kd.R_slice HO_3.out
      subst eo9
      have p187 : 0 ≤ (x4_1 : Int) := of_decide_eq_true (by first | (with_reducible assumption) | assumption)
      have q187 : x4_1 < (y184.length : Int) := of_decide_eq_true (by first | (with_reducible assumption) | assumption)
      obtain ⟨ad187, e187, hx187_0⟩ := Kd.at_int (Kd.R_reads' HO_3.out).2.2 x4_1 p187 q187
      cases e187
      replace p187 := eq_true p187
      replace q187 := eq_true q187
      go_wp2
      go_ret
      exact ⟨by first | rfl | (simp [errW_none, errW_some] <;> rfl) | (simp [*, errW_none, errW_some] <;> rfl), by repeat (first | (with_reducible first | exact HB.out | apply below_alloc | apply pw_below_drewN | apply below_drew1 | refine below_set ?_ GE183.out) | exact HB.out)⟩
     ·rw [if_neg c8] at H
      have c8b0 : decide ((rd y184 x4_1) < 0) = false := decide_eq_false c8
      clear c8
      by_cases c10 : (rd y184 x4_1) > 65535
      ·rw [if_pos c10] at H
       have c10b0 : decide (65535 < (rd y184 x4_1)) = true := decide_eq_true c10
       clear c10
       obtain rfl := Option.some.inj H
       obtain ⟨Ao11, co11, eo11⟩ := Kd.R_slice HO_3.out
       subst eo11
       have p187 : 0 ≤ (x4_1 : Int) := of_decide_eq_true (by first | (with_reducible assumption) | assumption)
       have q187 : x4_1 < (y184.length : Int) := of_decide_eq_true (by first | (with_reducible assumption) | assumption)
       obtain ⟨ad187, e187, hx187_0⟩ := Kd.at_int (Kd.R_reads' HO_3.out).2.2 x4_1 p187 q187
       cases e187
       replace p187 := eq_true p187
       replace q187 := eq_true q187
       have p188 : 0 ≤ (x4_1 : Int) := of_decide_eq_true (by first | (with_reducible assumption) | assumption)
       have q188 : x4_1 < (y184.length : Int) := of_decide_eq_true (by first | (with_reducible assumption) | assumption)
       obtain ⟨ad188, e188, hx188_0⟩ := Kd.at_int (Kd.R_reads' HO_3.out).2.2 x4_1 p188 q188
       obtain rfl : ad187 = ad188 := (by injection e188)
       replace p188 := eq_true p188
       replace q188 := eq_true q188
       go_wp2
       go_ret
       exact ⟨by first | rfl | (simp [errW_none, errW_some] <;> rfl) | (simp [*, errW_none, errW_some] <;> rfl), by repeat (first | (with_reducible first | exact HB.out | apply below_alloc | apply pw_below_drewN | apply below_drew1 | refine below_set ?_ GE183.out) | exact HB.out)⟩
      ·rw [if_neg c10] at H
       have c10b0 : decide (65535 < (rd y184 x4_1)) = false := decide_eq_false c10
       clear c10
       have H' := Aside0.mk H
       clear H
       obtain ⟨Ao12, co12, eo12⟩ := Kd.R_slice HO_3.out
       subst eo12
       have p187 : 0 ≤ (x4_1 : Int) := of_decide_eq_true (by first | (with_reducible assumption) | assumption)
       have q187 : x4_1 < (y184.length : Int) := of_decide_eq_true (by first | (with_reducible assumption) | assumption)
       obtain ⟨ad187, e187, hx187_0⟩ := Kd.at_int (Kd.R_reads' HO_3.out).2.2 x4_1 p187 q187
       cases e187
       replace p187 := eq_true p187
       replace q187 := eq_true q187
       have p188 : 0 ≤ (x4_1 : Int) := of_decide_eq_true (by first | (with_reducible assumption) | assumption)
       have q188 : x4_1 < (y184.length : Int) := of_decide_eq_true (by first | (with_reducible assumption) | assumption)
       obtain ⟨ad188, e188, hx188_0⟩ := Kd.at_int (Kd.R_reads' HO_3.out).2.2 x4_1 p188 q188
       obtain rfl : ad187 = ad188 := (by injection e188)
       replace p188 := eq_true p188
       replace q188 := eq_true q188
       go_wp2
       go_roundg k1
       case measure => have := HK1.out; omega
       case rel => exact ⟨(wrap64 (x4_1 + 1)), (by first | rfl | (simp; done) | (simp [*]; done)), H', ⟨by have := HK1.out; omega⟩, ⟨by (with_reducible repeat (first | apply Kd.R_alloc | apply Kd.R_drewN | apply Kd.R_drew)); exact HO_3.out⟩, ⟨by (with_reducible repeat (first | refine blk_drewN ?_ _ | refine blk_drew ?_ | refine blk_alloc ?_ _)); exact BK183.out⟩, ⟨by repeat (first | (with_reducible first | exact HB.out | apply below_alloc | apply pw_below_drewN | apply below_drew1 | refine below_set ?_ GE183.out) | exact HB.out)⟩⟩
    ·rw [if_neg c7] at H
     exact absurd H (by simp)
   ·rw [if_neg c6] at H
    have c6b0 : decide (x4_1 < (y184.length : Int)) = false := decide_eq_false c6
    clear c6
    obtain ⟨Ao13, co13, eo13⟩ := Kd.R_slice HO_3.out
    subst eo13
    go_upto_region 7 with (fail)
    have HBt := Aside0.mk (show Below w.heap.size w _ from by repeat (first | (with_reducible first | exact HB.out | apply below_alloc | apply pw_below_drewN | apply below_drew1 | refine below_set ?_ GE183.out) | exact HB.out))
    -- UPTO
    unfold sternpostref08_Check_tail.f at H
    have BKN := BK183; have HBN := HB; have HRN := Aside0.mk (Kd.C_below HR0_14.out HB.out)
    (try clear hcz3_0 hcz3_1 hcz3_2 hcz3_3 hcz3_4 hcz3_5 hcz3_6 hcz3_7 hcz3_8 hcz3_9 hcz3_10 hcz3_11 hcz3_12 hcz3_13 hcz3_14 hcz3_15)
    (try clear hfz3_0 hfz3_1 hfz3_2 hfz3_3 hfz3_4 hfz3_5 hfz3_6 hfz3_7 hfz3_8 hfz3_9 hfz3_10 hfz3_11 hfz3_12 hfz3_13 hfz3_14 hfz3_15)
    have hq2 : wr.cell? ⟨gb183, 2, none⟩ = some (.int .i64 a0_2) := (blk_cell BKN.out 2).trans rfl
    have hq3 : wr.cell? ⟨gb183, 3, none⟩ = some (.int .i64 a0_3) := (blk_cell BKN.out 3).trans rfl
    have hq4 : wr.cell? ⟨gb183, 4, none⟩ = some (.int .i64 a0_4) := (blk_cell BKN.out 4).trans rfl
    have hq6 : wr.cell? ⟨gb183, 6, none⟩ = some (.int .i64 a0_6) := (blk_cell BKN.out 6).trans rfl
    have hq7 : wr.cell? ⟨gb183, 7, none⟩ = some (.int .i64 a0_7) := (blk_cell BKN.out 7).trans rfl
    have hq8 : wr.cell? ⟨gb183, 8, none⟩ = some (.int .i64 a0_8) := (blk_cell BKN.out 8).trans rfl
    have hq9 : wr.cell? ⟨gb183, 9, none⟩ = some (.int .i64 a0_9) := (blk_cell BKN.out 9).trans rfl
    have hq10 : wr.cell? ⟨gb183, 10, none⟩ = some (.int .i64 a0_10) := (blk_cell BKN.out 10).trans rfl
    have hq11 : wr.cell? ⟨gb183, 11, none⟩ = some (.bool a0_11) := (blk_cell BKN.out 11).trans rfl
    have hq12 : wr.cell? ⟨gb183, 12, none⟩ = some (.bool a0_12) := (blk_cell BKN.out 12).trans rfl
    have hq13 : wr.cell? ⟨gb183, 13, none⟩ = some (.bool a0_13) := (blk_cell BKN.out 13).trans rfl
    have hq14 : wr.cell? ⟨gb183, 14, none⟩ = some (.slice A0_14 l0_14.length c0_14) := (blk_cell BKN.out 14).trans rfl
    have hq15 : wr.cell? ⟨gb183, 15, none⟩ = some (.string a0_15) := (blk_cell BKN.out 15).trans rfl
    obtain ⟨e1, he1, H⟩ := Option.bind_eq_some_iff.mp H
    have A1 := Aside0.mk he1
    clear he1
    have HT := Aside0.mk H
    clear H
    go_wp2_with fail
    refine (sternpostref01_Check.calls a0_2 e1 _ A1.out).mono ?_
    rintro e W1 ⟨rfl, hd1⟩
    have hb1 : Below wr.heap.size wr W1 := by obtain ⟨nd, e_⟩ := hd1; rw [e_]; exact pw_below_drewN (Below.refl _ _) nd
    clear hd1
    have n0_ := Aside0.mk (blk_below BKN.out hb1); have n1_ := Aside0.mk (below_step HBN.out hb1); have n2_ := Aside0.mk (Kd.C_below HRN.out hb1); clear BKN HBN HRN hq2 hq3 hq4 hq6 hq7 hq8 hq9 hq10 hq11 hq12 hq13 hq14 hq15; have BKN := n0_; have HBN := n1_; have HRN := n2_; clear n0_ n1_ n2_
    have hq2 : W1.cell? ⟨gb183, 2, none⟩ = some (.int .i64 a0_2) := (blk_cell BKN.out 2).trans rfl
    have hq3 : W1.cell? ⟨gb183, 3, none⟩ = some (.int .i64 a0_3) := (blk_cell BKN.out 3).trans rfl
    have hq4 : W1.cell? ⟨gb183, 4, none⟩ = some (.int .i64 a0_4) := (blk_cell BKN.out 4).trans rfl
    have hq6 : W1.cell? ⟨gb183, 6, none⟩ = some (.int .i64 a0_6) := (blk_cell BKN.out 6).trans rfl
    have hq7 : W1.cell? ⟨gb183, 7, none⟩ = some (.int .i64 a0_7) := (blk_cell BKN.out 7).trans rfl
    have hq8 : W1.cell? ⟨gb183, 8, none⟩ = some (.int .i64 a0_8) := (blk_cell BKN.out 8).trans rfl
    have hq9 : W1.cell? ⟨gb183, 9, none⟩ = some (.int .i64 a0_9) := (blk_cell BKN.out 9).trans rfl
    have hq10 : W1.cell? ⟨gb183, 10, none⟩ = some (.int .i64 a0_10) := (blk_cell BKN.out 10).trans rfl
    have hq11 : W1.cell? ⟨gb183, 11, none⟩ = some (.bool a0_11) := (blk_cell BKN.out 11).trans rfl
    have hq12 : W1.cell? ⟨gb183, 12, none⟩ = some (.bool a0_12) := (blk_cell BKN.out 12).trans rfl
    have hq13 : W1.cell? ⟨gb183, 13, none⟩ = some (.bool a0_13) := (blk_cell BKN.out 13).trans rfl
    have hq14 : W1.cell? ⟨gb183, 14, none⟩ = some (.slice A0_14 l0_14.length c0_14) := (blk_cell BKN.out 14).trans rfl
    have hq15 : W1.cell? ⟨gb183, 15, none⟩ = some (.string a0_15) := (blk_cell BKN.out 15).trans rfl
    clear hb1
    have H := HT.out
    clear HT
    by_cases z1 : e1 = 0
    case neg =>
     rw [if_neg z1] at H
     have z1b : (e1 != 0) = true := bne_iff_ne.mpr z1
     obtain rfl := Option.some.inj H
     go_wp2
     go_ret
     exact ⟨by first | rfl | (simp; done), by repeat (first | (with_reducible first | exact HBN.out | apply below_alloc | apply pw_below_drewN | apply below_drew1) | exact HBN.out)⟩
    rw [if_pos z1] at H
    have z1b : (e1 != 0) = false := bne_eq_false_iff_eq.mpr z1
    clear z1
    obtain ⟨e2, he2, H⟩ := Option.bind_eq_some_iff.mp H
    have A2 := Aside0.mk he2
    clear he2
    have HT := Aside0.mk H
    clear H
    go_wp2_with fail
    refine (sternpostref01_Check.calls a0_3 e2 _ A2.out).mono ?_
    rintro e W2 ⟨rfl, hd1⟩
    have hb1 : Below W1.heap.size W1 W2 := by obtain ⟨nd, e_⟩ := hd1; rw [e_]; exact pw_below_drewN (Below.refl _ _) nd
    clear hd1
    have n0_ := Aside0.mk (blk_below BKN.out hb1); have n1_ := Aside0.mk (below_step HBN.out hb1); have n2_ := Aside0.mk (Kd.C_below HRN.out hb1); clear BKN HBN HRN hq2 hq3 hq4 hq6 hq7 hq8 hq9 hq10 hq11 hq12 hq13 hq14 hq15; have BKN := n0_; have HBN := n1_; have HRN := n2_; clear n0_ n1_ n2_
    have hq2 : W2.cell? ⟨gb183, 2, none⟩ = some (.int .i64 a0_2) := (blk_cell BKN.out 2).trans rfl
    have hq3 : W2.cell? ⟨gb183, 3, none⟩ = some (.int .i64 a0_3) := (blk_cell BKN.out 3).trans rfl
    have hq4 : W2.cell? ⟨gb183, 4, none⟩ = some (.int .i64 a0_4) := (blk_cell BKN.out 4).trans rfl
    have hq6 : W2.cell? ⟨gb183, 6, none⟩ = some (.int .i64 a0_6) := (blk_cell BKN.out 6).trans rfl
    have hq7 : W2.cell? ⟨gb183, 7, none⟩ = some (.int .i64 a0_7) := (blk_cell BKN.out 7).trans rfl
    have hq8 : W2.cell? ⟨gb183, 8, none⟩ = some (.int .i64 a0_8) := (blk_cell BKN.out 8).trans rfl
    have hq9 : W2.cell? ⟨gb183, 9, none⟩ = some (.int .i64 a0_9) := (blk_cell BKN.out 9).trans rfl
    have hq10 : W2.cell? ⟨gb183, 10, none⟩ = some (.int .i64 a0_10) := (blk_cell BKN.out 10).trans rfl
    have hq11 : W2.cell? ⟨gb183, 11, none⟩ = some (.bool a0_11) := (blk_cell BKN.out 11).trans rfl
    have hq12 : W2.cell? ⟨gb183, 12, none⟩ = some (.bool a0_12) := (blk_cell BKN.out 12).trans rfl
    have hq13 : W2.cell? ⟨gb183, 13, none⟩ = some (.bool a0_13) := (blk_cell BKN.out 13).trans rfl
    have hq14 : W2.cell? ⟨gb183, 14, none⟩ = some (.slice A0_14 l0_14.length c0_14) := (blk_cell BKN.out 14).trans rfl
    have hq15 : W2.cell? ⟨gb183, 15, none⟩ = some (.string a0_15) := (blk_cell BKN.out 15).trans rfl
    clear hb1
    have H := HT.out
    clear HT
    by_cases z2 : e2 = 0
    case neg =>
     rw [if_neg z2] at H
     have z2b : (e2 != 0) = true := bne_iff_ne.mpr z2
     obtain rfl := Option.some.inj H
     go_wp2
     go_ret
     exact ⟨by first | rfl | (simp; done), by repeat (first | (with_reducible first | exact HBN.out | apply below_alloc | apply pw_below_drewN | apply below_drew1) | exact HBN.out)⟩
    rw [if_pos z2] at H
    have z2b : (e2 != 0) = false := bne_eq_false_iff_eq.mpr z2
    clear z2
    by_cases z3 : a0_4 < 0
    case pos =>
     rw [if_pos z3] at H
     have z3b : decide (a0_4 < 0) = true := decide_eq_true z3
     obtain rfl := Option.some.inj H
     go_wp2
     go_ret
     exact ⟨by first | rfl | (simp; done), by repeat (first | (with_reducible first | exact HBN.out | apply below_alloc | apply pw_below_drewN | apply below_drew1) | exact HBN.out)⟩
    rw [if_neg z3] at H
    have z3b : decide (a0_4 < 0) = false := decide_eq_false z3
    by_cases z4 : a0_4 > 63
    case pos =>
     rw [if_pos z4] at H
     have z4b : decide (63 < a0_4) = true := decide_eq_true z4
     obtain rfl := Option.some.inj H
     go_wp2
     go_ret
     exact ⟨by first | rfl | (simp; done), by repeat (first | (with_reducible first | exact HBN.out | apply below_alloc | apply pw_below_drewN | apply below_drew1) | exact HBN.out)⟩
    rw [if_neg z4] at H
    have z4b : decide (63 < a0_4) = false := decide_eq_false z4
    clear z3 z4
    obtain ⟨h1, hh1, H⟩ := Option.bind_eq_some_iff.mp H
    have B1 := Aside0.mk hh1
    clear hh1
    have HT := Aside0.mk H
    clear H
    go_wp2_with (first | ((with_reducible refine gate_load (t := 26) rfl ?_); refine load_big ?hw 26 _ rfl _ rfl 26 _ (0, 0) _ BKN.out Try.underlying26 rfl (by kernel_rfl) ?_; (case hw => first | rfl | (go_simp; done)); simp only [Act.put, List.setIfInBounds_toArray, List.set_cons_zero, List.set_cons_succ]))
    refine (sternpostref08_Has.calls a0_0 a0_1 a0_2 a0_3 a0_4 a0_5 a0_6 a0_7 a0_8 a0_9 a0_10 a0_11 a0_12 a0_13 _ _ l0_14 a0_15 16 h1 _ HRN.out HC0_14.out B1.out).mono ?_
    rintro e W3 ⟨rfl, hb1⟩
    have n0_ := Aside0.mk (blk_below BKN.out hb1); have n1_ := Aside0.mk (below_step HBN.out hb1); have n2_ := Aside0.mk (Kd.C_below HRN.out hb1); clear BKN HBN HRN hq2 hq3 hq4 hq6 hq7 hq8 hq9 hq10 hq11 hq12 hq13 hq14 hq15; have BKN := n0_; have HBN := n1_; have HRN := n2_; clear n0_ n1_ n2_
    have hq2 : W3.cell? ⟨gb183, 2, none⟩ = some (.int .i64 a0_2) := (blk_cell BKN.out 2).trans rfl
    have hq3 : W3.cell? ⟨gb183, 3, none⟩ = some (.int .i64 a0_3) := (blk_cell BKN.out 3).trans rfl
    have hq4 : W3.cell? ⟨gb183, 4, none⟩ = some (.int .i64 a0_4) := (blk_cell BKN.out 4).trans rfl
    have hq6 : W3.cell? ⟨gb183, 6, none⟩ = some (.int .i64 a0_6) := (blk_cell BKN.out 6).trans rfl
    have hq7 : W3.cell? ⟨gb183, 7, none⟩ = some (.int .i64 a0_7) := (blk_cell BKN.out 7).trans rfl
    have hq8 : W3.cell? ⟨gb183, 8, none⟩ = some (.int .i64 a0_8) := (blk_cell BKN.out 8).trans rfl
    have hq9 : W3.cell? ⟨gb183, 9, none⟩ = some (.int .i64 a0_9) := (blk_cell BKN.out 9).trans rfl
    have hq10 : W3.cell? ⟨gb183, 10, none⟩ = some (.int .i64 a0_10) := (blk_cell BKN.out 10).trans rfl
    have hq11 : W3.cell? ⟨gb183, 11, none⟩ = some (.bool a0_11) := (blk_cell BKN.out 11).trans rfl
    have hq12 : W3.cell? ⟨gb183, 12, none⟩ = some (.bool a0_12) := (blk_cell BKN.out 12).trans rfl
    have hq13 : W3.cell? ⟨gb183, 13, none⟩ = some (.bool a0_13) := (blk_cell BKN.out 13).trans rfl
    have hq14 : W3.cell? ⟨gb183, 14, none⟩ = some (.slice A0_14 l0_14.length c0_14) := (blk_cell BKN.out 14).trans rfl
    have hq15 : W3.cell? ⟨gb183, 15, none⟩ = some (.string a0_15) := (blk_cell BKN.out 15).trans rfl
    clear hb1
    have H := HT.out
    clear HT
    have w1 := H
    clear w1
    cases h1 with
    | true =>
     rw [if_pos (.inl rfl)] at H
     obtain ⟨h2, hh2, H⟩ := Option.bind_eq_some_iff.mp H
     have B2 := Aside0.mk hh2
     clear hh2
     have HT := Aside0.mk H
     clear H
     go_wp2_with (first | ((with_reducible refine gate_load (t := 26) rfl ?_); refine load_big ?hw 26 _ rfl _ rfl 26 _ (0, 0) _ BKN.out Try.underlying26 rfl (by kernel_rfl) ?_; (case hw => first | rfl | (go_simp; done)); simp only [Act.put, List.setIfInBounds_toArray, List.set_cons_zero, List.set_cons_succ]))
     refine (sternpostref08_Has.calls a0_0 a0_1 a0_2 a0_3 a0_4 a0_5 a0_6 a0_7 a0_8 a0_9 a0_10 a0_11 a0_12 a0_13 _ _ l0_14 a0_15 32 h2 _ HRN.out HC0_14.out B2.out).mono ?_
     rintro e W4 ⟨rfl, hb1⟩
     have n0_ := Aside0.mk (blk_below BKN.out hb1); have n1_ := Aside0.mk (below_step HBN.out hb1); have n2_ := Aside0.mk (Kd.C_below HRN.out hb1); clear BKN HBN HRN hq2 hq3 hq4 hq6 hq7 hq8 hq9 hq10 hq11 hq12 hq13 hq14 hq15; have BKN := n0_; have HBN := n1_; have HRN := n2_; clear n0_ n1_ n2_
     have hq2 : W4.cell? ⟨gb183, 2, none⟩ = some (.int .i64 a0_2) := (blk_cell BKN.out 2).trans rfl
     have hq3 : W4.cell? ⟨gb183, 3, none⟩ = some (.int .i64 a0_3) := (blk_cell BKN.out 3).trans rfl
     have hq4 : W4.cell? ⟨gb183, 4, none⟩ = some (.int .i64 a0_4) := (blk_cell BKN.out 4).trans rfl
     have hq6 : W4.cell? ⟨gb183, 6, none⟩ = some (.int .i64 a0_6) := (blk_cell BKN.out 6).trans rfl
     have hq7 : W4.cell? ⟨gb183, 7, none⟩ = some (.int .i64 a0_7) := (blk_cell BKN.out 7).trans rfl
     have hq8 : W4.cell? ⟨gb183, 8, none⟩ = some (.int .i64 a0_8) := (blk_cell BKN.out 8).trans rfl
     have hq9 : W4.cell? ⟨gb183, 9, none⟩ = some (.int .i64 a0_9) := (blk_cell BKN.out 9).trans rfl
     have hq10 : W4.cell? ⟨gb183, 10, none⟩ = some (.int .i64 a0_10) := (blk_cell BKN.out 10).trans rfl
     have hq11 : W4.cell? ⟨gb183, 11, none⟩ = some (.bool a0_11) := (blk_cell BKN.out 11).trans rfl
     have hq12 : W4.cell? ⟨gb183, 12, none⟩ = some (.bool a0_12) := (blk_cell BKN.out 12).trans rfl
     have hq13 : W4.cell? ⟨gb183, 13, none⟩ = some (.bool a0_13) := (blk_cell BKN.out 13).trans rfl
     have hq14 : W4.cell? ⟨gb183, 14, none⟩ = some (.slice A0_14 l0_14.length c0_14) := (blk_cell BKN.out 14).trans rfl
     have hq15 : W4.cell? ⟨gb183, 15, none⟩ = some (.string a0_15) := (blk_cell BKN.out 15).trans rfl
     clear hb1
     have H := HT.out
     clear HT
     cases h2 with
     | true =>
      rw [if_pos (.inl rfl)] at H
      obtain ⟨e3, he3, H⟩ := Option.bind_eq_some_iff.mp H
      have A3 := Aside0.mk he3
      clear he3
      have HT := Aside0.mk H
      clear H
      go_wp2_with fail
      refine (sternpostref07_Check.calls k1 a0_7 a0_8 a0_9 a0_10 a0_11 a0_12 a0_13 _ _ l0_14 e3 _ HRN.out HC0_14.out A3.out).mono ?_
      rintro e W5 ⟨rfl, hb1⟩
      have n0_ := Aside0.mk (blk_below BKN.out hb1); have n1_ := Aside0.mk (below_step HBN.out hb1); have n2_ := Aside0.mk (Kd.C_below HRN.out hb1); clear BKN HBN HRN hq2 hq3 hq4 hq6 hq7 hq8 hq9 hq10 hq11 hq12 hq13 hq14 hq15; have BKN := n0_; have HBN := n1_; have HRN := n2_; clear n0_ n1_ n2_
      have hq2 : W5.cell? ⟨gb183, 2, none⟩ = some (.int .i64 a0_2) := (blk_cell BKN.out 2).trans rfl
      have hq3 : W5.cell? ⟨gb183, 3, none⟩ = some (.int .i64 a0_3) := (blk_cell BKN.out 3).trans rfl
      have hq4 : W5.cell? ⟨gb183, 4, none⟩ = some (.int .i64 a0_4) := (blk_cell BKN.out 4).trans rfl
      have hq6 : W5.cell? ⟨gb183, 6, none⟩ = some (.int .i64 a0_6) := (blk_cell BKN.out 6).trans rfl
      have hq7 : W5.cell? ⟨gb183, 7, none⟩ = some (.int .i64 a0_7) := (blk_cell BKN.out 7).trans rfl
      have hq8 : W5.cell? ⟨gb183, 8, none⟩ = some (.int .i64 a0_8) := (blk_cell BKN.out 8).trans rfl
      have hq9 : W5.cell? ⟨gb183, 9, none⟩ = some (.int .i64 a0_9) := (blk_cell BKN.out 9).trans rfl
      have hq10 : W5.cell? ⟨gb183, 10, none⟩ = some (.int .i64 a0_10) := (blk_cell BKN.out 10).trans rfl
      have hq11 : W5.cell? ⟨gb183, 11, none⟩ = some (.bool a0_11) := (blk_cell BKN.out 11).trans rfl
      have hq12 : W5.cell? ⟨gb183, 12, none⟩ = some (.bool a0_12) := (blk_cell BKN.out 12).trans rfl
      have hq13 : W5.cell? ⟨gb183, 13, none⟩ = some (.bool a0_13) := (blk_cell BKN.out 13).trans rfl
      have hq14 : W5.cell? ⟨gb183, 14, none⟩ = some (.slice A0_14 l0_14.length c0_14) := (blk_cell BKN.out 14).trans rfl
      have hq15 : W5.cell? ⟨gb183, 15, none⟩ = some (.string a0_15) := (blk_cell BKN.out 15).trans rfl
      clear hb1
      have H := HT.out
      clear HT
      by_cases z5 : e3 = 0
      case neg =>
       rw [if_neg z5] at H
       have z5b : (e3 != 0) = true := bne_iff_ne.mpr z5
       obtain rfl := Option.some.inj H
       go_wp2
       go_ret
       exact ⟨by first | rfl | (simp; done), by repeat (first | (with_reducible first | exact HBN.out | apply below_alloc | apply pw_below_drewN | apply below_drew1) | exact HBN.out)⟩
      rw [if_pos z5] at H
      have z5b : (e3 != 0) = false := bne_eq_false_iff_eq.mpr z5
      clear z5
      by_cases z6 : (a0_15.size : Int) > 1480
      case pos =>
       rw [if_pos z6] at H
       have z6b : decide (1480 < (a0_15.size : Int)) = true := decide_eq_true z6
       obtain rfl := Option.some.inj H
       go_wp2
       go_ret
       exact ⟨by first | rfl | (simp; done), by repeat (first | (with_reducible first | exact HBN.out | apply below_alloc | apply pw_below_drewN | apply below_drew1) | exact HBN.out)⟩
      rw [if_neg z6] at H
      have z6b : decide (1480 < (a0_15.size : Int)) = false := decide_eq_false z6
      obtain rfl := Option.some.inj H
      go_wp2
      go_ret
      exact ⟨by first | rfl | (simp; done), by repeat (first | (with_reducible first | exact HBN.out | apply below_alloc | apply pw_below_drewN | apply below_drew1) | exact HBN.out)⟩
     | false =>
      by_cases y2 : a0_6 = 0
      case pos =>
       rw [if_pos (.inr y2)] at H
       have y2b : (a0_6 != 0) = false := bne_eq_false_iff_eq.mpr y2
       clear y2
       obtain ⟨e3, he3, H⟩ := Option.bind_eq_some_iff.mp H
       have A3 := Aside0.mk he3
       clear he3
       have HT := Aside0.mk H
       clear H
       go_wp2_with fail
       refine (sternpostref07_Check.calls k1 a0_7 a0_8 a0_9 a0_10 a0_11 a0_12 a0_13 _ _ l0_14 e3 _ HRN.out HC0_14.out A3.out).mono ?_
       rintro e W5 ⟨rfl, hb1⟩
       have n0_ := Aside0.mk (blk_below BKN.out hb1); have n1_ := Aside0.mk (below_step HBN.out hb1); have n2_ := Aside0.mk (Kd.C_below HRN.out hb1); clear BKN HBN HRN hq2 hq3 hq4 hq6 hq7 hq8 hq9 hq10 hq11 hq12 hq13 hq14 hq15; have BKN := n0_; have HBN := n1_; have HRN := n2_; clear n0_ n1_ n2_
       have hq2 : W5.cell? ⟨gb183, 2, none⟩ = some (.int .i64 a0_2) := (blk_cell BKN.out 2).trans rfl
       have hq3 : W5.cell? ⟨gb183, 3, none⟩ = some (.int .i64 a0_3) := (blk_cell BKN.out 3).trans rfl
       have hq4 : W5.cell? ⟨gb183, 4, none⟩ = some (.int .i64 a0_4) := (blk_cell BKN.out 4).trans rfl
       have hq6 : W5.cell? ⟨gb183, 6, none⟩ = some (.int .i64 a0_6) := (blk_cell BKN.out 6).trans rfl
       have hq7 : W5.cell? ⟨gb183, 7, none⟩ = some (.int .i64 a0_7) := (blk_cell BKN.out 7).trans rfl
       have hq8 : W5.cell? ⟨gb183, 8, none⟩ = some (.int .i64 a0_8) := (blk_cell BKN.out 8).trans rfl
       have hq9 : W5.cell? ⟨gb183, 9, none⟩ = some (.int .i64 a0_9) := (blk_cell BKN.out 9).trans rfl
       have hq10 : W5.cell? ⟨gb183, 10, none⟩ = some (.int .i64 a0_10) := (blk_cell BKN.out 10).trans rfl
       have hq11 : W5.cell? ⟨gb183, 11, none⟩ = some (.bool a0_11) := (blk_cell BKN.out 11).trans rfl
       have hq12 : W5.cell? ⟨gb183, 12, none⟩ = some (.bool a0_12) := (blk_cell BKN.out 12).trans rfl
       have hq13 : W5.cell? ⟨gb183, 13, none⟩ = some (.bool a0_13) := (blk_cell BKN.out 13).trans rfl
       have hq14 : W5.cell? ⟨gb183, 14, none⟩ = some (.slice A0_14 l0_14.length c0_14) := (blk_cell BKN.out 14).trans rfl
       have hq15 : W5.cell? ⟨gb183, 15, none⟩ = some (.string a0_15) := (blk_cell BKN.out 15).trans rfl
       clear hb1
       have H := HT.out
       clear HT
       by_cases z5 : e3 = 0
       case neg =>
        rw [if_neg z5] at H
        have z5b : (e3 != 0) = true := bne_iff_ne.mpr z5
        obtain rfl := Option.some.inj H
        go_wp2
        go_ret
        exact ⟨by first | rfl | (simp; done), by repeat (first | (with_reducible first | exact HBN.out | apply below_alloc | apply pw_below_drewN | apply below_drew1) | exact HBN.out)⟩
       rw [if_pos z5] at H
       have z5b : (e3 != 0) = false := bne_eq_false_iff_eq.mpr z5
       clear z5
       by_cases z6 : (a0_15.size : Int) > 1480
       case pos =>
        rw [if_pos z6] at H
        have z6b : decide (1480 < (a0_15.size : Int)) = true := decide_eq_true z6
        obtain rfl := Option.some.inj H
        go_wp2
        go_ret
        exact ⟨by first | rfl | (simp; done), by repeat (first | (with_reducible first | exact HBN.out | apply below_alloc | apply pw_below_drewN | apply below_drew1) | exact HBN.out)⟩
       rw [if_neg z6] at H
       have z6b : decide (1480 < (a0_15.size : Int)) = false := decide_eq_false z6
       obtain rfl := Option.some.inj H
       go_wp2
       go_ret
       exact ⟨by first | rfl | (simp; done), by repeat (first | (with_reducible first | exact HBN.out | apply below_alloc | apply pw_below_drewN | apply below_drew1) | exact HBN.out)⟩
      rw [if_neg (fun h => h.elim (by decide) y2)] at H
      have y2b : (a0_6 != 0) = true := bne_iff_ne.mpr y2
      obtain rfl := Option.some.inj H
      go_wp2
      go_ret
      exact ⟨by first | rfl | (simp; done), by repeat (first | (with_reducible first | exact HBN.out | apply below_alloc | apply pw_below_drewN | apply below_drew1) | exact HBN.out)⟩
    | false =>
     by_cases y1 : a0_3 = 0
     case pos =>
      rw [if_pos (.inr y1)] at H
      have y1b : (a0_3 != 0) = false := bne_eq_false_iff_eq.mpr y1
      clear y1
      obtain ⟨h2, hh2, H⟩ := Option.bind_eq_some_iff.mp H
      have B2 := Aside0.mk hh2
      clear hh2
      have HT := Aside0.mk H
      clear H
      go_wp2_with (first | ((with_reducible refine gate_load (t := 26) rfl ?_); refine load_big ?hw 26 _ rfl _ rfl 26 _ (0, 0) _ BKN.out Try.underlying26 rfl (by kernel_rfl) ?_; (case hw => first | rfl | (go_simp; done)); simp only [Act.put, List.setIfInBounds_toArray, List.set_cons_zero, List.set_cons_succ]))
      refine (sternpostref08_Has.calls a0_0 a0_1 a0_2 a0_3 a0_4 a0_5 a0_6 a0_7 a0_8 a0_9 a0_10 a0_11 a0_12 a0_13 _ _ l0_14 a0_15 32 h2 _ HRN.out HC0_14.out B2.out).mono ?_
      rintro e W4 ⟨rfl, hb1⟩
      have n0_ := Aside0.mk (blk_below BKN.out hb1); have n1_ := Aside0.mk (below_step HBN.out hb1); have n2_ := Aside0.mk (Kd.C_below HRN.out hb1); clear BKN HBN HRN hq2 hq3 hq4 hq6 hq7 hq8 hq9 hq10 hq11 hq12 hq13 hq14 hq15; have BKN := n0_; have HBN := n1_; have HRN := n2_; clear n0_ n1_ n2_
      have hq2 : W4.cell? ⟨gb183, 2, none⟩ = some (.int .i64 a0_2) := (blk_cell BKN.out 2).trans rfl
      have hq3 : W4.cell? ⟨gb183, 3, none⟩ = some (.int .i64 a0_3) := (blk_cell BKN.out 3).trans rfl
      have hq4 : W4.cell? ⟨gb183, 4, none⟩ = some (.int .i64 a0_4) := (blk_cell BKN.out 4).trans rfl
      have hq6 : W4.cell? ⟨gb183, 6, none⟩ = some (.int .i64 a0_6) := (blk_cell BKN.out 6).trans rfl
      have hq7 : W4.cell? ⟨gb183, 7, none⟩ = some (.int .i64 a0_7) := (blk_cell BKN.out 7).trans rfl
      have hq8 : W4.cell? ⟨gb183, 8, none⟩ = some (.int .i64 a0_8) := (blk_cell BKN.out 8).trans rfl
      have hq9 : W4.cell? ⟨gb183, 9, none⟩ = some (.int .i64 a0_9) := (blk_cell BKN.out 9).trans rfl
      have hq10 : W4.cell? ⟨gb183, 10, none⟩ = some (.int .i64 a0_10) := (blk_cell BKN.out 10).trans rfl
      have hq11 : W4.cell? ⟨gb183, 11, none⟩ = some (.bool a0_11) := (blk_cell BKN.out 11).trans rfl
      have hq12 : W4.cell? ⟨gb183, 12, none⟩ = some (.bool a0_12) := (blk_cell BKN.out 12).trans rfl
      have hq13 : W4.cell? ⟨gb183, 13, none⟩ = some (.bool a0_13) := (blk_cell BKN.out 13).trans rfl
      have hq14 : W4.cell? ⟨gb183, 14, none⟩ = some (.slice A0_14 l0_14.length c0_14) := (blk_cell BKN.out 14).trans rfl
      have hq15 : W4.cell? ⟨gb183, 15, none⟩ = some (.string a0_15) := (blk_cell BKN.out 15).trans rfl
      clear hb1
      have H := HT.out
      clear HT
      cases h2 with
      | true =>
       rw [if_pos (.inl rfl)] at H
       obtain ⟨e3, he3, H⟩ := Option.bind_eq_some_iff.mp H
       have A3 := Aside0.mk he3
       clear he3
       have HT := Aside0.mk H
       clear H
       go_wp2_with fail
       refine (sternpostref07_Check.calls k1 a0_7 a0_8 a0_9 a0_10 a0_11 a0_12 a0_13 _ _ l0_14 e3 _ HRN.out HC0_14.out A3.out).mono ?_
       rintro e W5 ⟨rfl, hb1⟩
       have n0_ := Aside0.mk (blk_below BKN.out hb1); have n1_ := Aside0.mk (below_step HBN.out hb1); have n2_ := Aside0.mk (Kd.C_below HRN.out hb1); clear BKN HBN HRN hq2 hq3 hq4 hq6 hq7 hq8 hq9 hq10 hq11 hq12 hq13 hq14 hq15; have BKN := n0_; have HBN := n1_; have HRN := n2_; clear n0_ n1_ n2_
       have hq2 : W5.cell? ⟨gb183, 2, none⟩ = some (.int .i64 a0_2) := (blk_cell BKN.out 2).trans rfl
       have hq3 : W5.cell? ⟨gb183, 3, none⟩ = some (.int .i64 a0_3) := (blk_cell BKN.out 3).trans rfl
       have hq4 : W5.cell? ⟨gb183, 4, none⟩ = some (.int .i64 a0_4) := (blk_cell BKN.out 4).trans rfl
       have hq6 : W5.cell? ⟨gb183, 6, none⟩ = some (.int .i64 a0_6) := (blk_cell BKN.out 6).trans rfl
       have hq7 : W5.cell? ⟨gb183, 7, none⟩ = some (.int .i64 a0_7) := (blk_cell BKN.out 7).trans rfl
       have hq8 : W5.cell? ⟨gb183, 8, none⟩ = some (.int .i64 a0_8) := (blk_cell BKN.out 8).trans rfl
       have hq9 : W5.cell? ⟨gb183, 9, none⟩ = some (.int .i64 a0_9) := (blk_cell BKN.out 9).trans rfl
       have hq10 : W5.cell? ⟨gb183, 10, none⟩ = some (.int .i64 a0_10) := (blk_cell BKN.out 10).trans rfl
       have hq11 : W5.cell? ⟨gb183, 11, none⟩ = some (.bool a0_11) := (blk_cell BKN.out 11).trans rfl
       have hq12 : W5.cell? ⟨gb183, 12, none⟩ = some (.bool a0_12) := (blk_cell BKN.out 12).trans rfl
       have hq13 : W5.cell? ⟨gb183, 13, none⟩ = some (.bool a0_13) := (blk_cell BKN.out 13).trans rfl
       have hq14 : W5.cell? ⟨gb183, 14, none⟩ = some (.slice A0_14 l0_14.length c0_14) := (blk_cell BKN.out 14).trans rfl
       have hq15 : W5.cell? ⟨gb183, 15, none⟩ = some (.string a0_15) := (blk_cell BKN.out 15).trans rfl
       clear hb1
       have H := HT.out
       clear HT
       by_cases z5 : e3 = 0
       case neg =>
        rw [if_neg z5] at H
        have z5b : (e3 != 0) = true := bne_iff_ne.mpr z5
        obtain rfl := Option.some.inj H
        go_wp2
        go_ret
        exact ⟨by first | rfl | (simp; done), by repeat (first | (with_reducible first | exact HBN.out | apply below_alloc | apply pw_below_drewN | apply below_drew1) | exact HBN.out)⟩
       rw [if_pos z5] at H
       have z5b : (e3 != 0) = false := bne_eq_false_iff_eq.mpr z5
       clear z5
       by_cases z6 : (a0_15.size : Int) > 1480
       case pos =>
        rw [if_pos z6] at H
        have z6b : decide (1480 < (a0_15.size : Int)) = true := decide_eq_true z6
        obtain rfl := Option.some.inj H
        go_wp2
        go_ret
        exact ⟨by first | rfl | (simp; done), by repeat (first | (with_reducible first | exact HBN.out | apply below_alloc | apply pw_below_drewN | apply below_drew1) | exact HBN.out)⟩
       rw [if_neg z6] at H
       have z6b : decide (1480 < (a0_15.size : Int)) = false := decide_eq_false z6
       obtain rfl := Option.some.inj H
       go_wp2
       go_ret
       exact ⟨by first | rfl | (simp; done), by repeat (first | (with_reducible first | exact HBN.out | apply below_alloc | apply pw_below_drewN | apply below_drew1) | exact HBN.out)⟩
      | false =>
       by_cases y2 : a0_6 = 0
       case pos =>
        rw [if_pos (.inr y2)] at H
        have y2b : (a0_6 != 0) = false := bne_eq_false_iff_eq.mpr y2
        clear y2
        obtain ⟨e3, he3, H⟩ := Option.bind_eq_some_iff.mp H
        have A3 := Aside0.mk he3
        clear he3
        have HT := Aside0.mk H
        clear H
        go_wp2_with fail
        refine (sternpostref07_Check.calls k1 a0_7 a0_8 a0_9 a0_10 a0_11 a0_12 a0_13 _ _ l0_14 e3 _ HRN.out HC0_14.out A3.out).mono ?_
        rintro e W5 ⟨rfl, hb1⟩
        have n0_ := Aside0.mk (blk_below BKN.out hb1); have n1_ := Aside0.mk (below_step HBN.out hb1); have n2_ := Aside0.mk (Kd.C_below HRN.out hb1); clear BKN HBN HRN hq2 hq3 hq4 hq6 hq7 hq8 hq9 hq10 hq11 hq12 hq13 hq14 hq15; have BKN := n0_; have HBN := n1_; have HRN := n2_; clear n0_ n1_ n2_
        have hq2 : W5.cell? ⟨gb183, 2, none⟩ = some (.int .i64 a0_2) := (blk_cell BKN.out 2).trans rfl
        have hq3 : W5.cell? ⟨gb183, 3, none⟩ = some (.int .i64 a0_3) := (blk_cell BKN.out 3).trans rfl
        have hq4 : W5.cell? ⟨gb183, 4, none⟩ = some (.int .i64 a0_4) := (blk_cell BKN.out 4).trans rfl
        have hq6 : W5.cell? ⟨gb183, 6, none⟩ = some (.int .i64 a0_6) := (blk_cell BKN.out 6).trans rfl
        have hq7 : W5.cell? ⟨gb183, 7, none⟩ = some (.int .i64 a0_7) := (blk_cell BKN.out 7).trans rfl
        have hq8 : W5.cell? ⟨gb183, 8, none⟩ = some (.int .i64 a0_8) := (blk_cell BKN.out 8).trans rfl
        have hq9 : W5.cell? ⟨gb183, 9, none⟩ = some (.int .i64 a0_9) := (blk_cell BKN.out 9).trans rfl
        have hq10 : W5.cell? ⟨gb183, 10, none⟩ = some (.int .i64 a0_10) := (blk_cell BKN.out 10).trans rfl
        have hq11 : W5.cell? ⟨gb183, 11, none⟩ = some (.bool a0_11) := (blk_cell BKN.out 11).trans rfl
        have hq12 : W5.cell? ⟨gb183, 12, none⟩ = some (.bool a0_12) := (blk_cell BKN.out 12).trans rfl
        have hq13 : W5.cell? ⟨gb183, 13, none⟩ = some (.bool a0_13) := (blk_cell BKN.out 13).trans rfl
        have hq14 : W5.cell? ⟨gb183, 14, none⟩ = some (.slice A0_14 l0_14.length c0_14) := (blk_cell BKN.out 14).trans rfl
        have hq15 : W5.cell? ⟨gb183, 15, none⟩ = some (.string a0_15) := (blk_cell BKN.out 15).trans rfl
        clear hb1
        have H := HT.out
        clear HT
        by_cases z5 : e3 = 0
        case neg =>
         rw [if_neg z5] at H
         have z5b : (e3 != 0) = true := bne_iff_ne.mpr z5
         obtain rfl := Option.some.inj H
         go_wp2
         go_ret
         exact ⟨by first | rfl | (simp; done), by repeat (first | (with_reducible first | exact HBN.out | apply below_alloc | apply pw_below_drewN | apply below_drew1) | exact HBN.out)⟩
        rw [if_pos z5] at H
        have z5b : (e3 != 0) = false := bne_eq_false_iff_eq.mpr z5
        clear z5
        by_cases z6 : (a0_15.size : Int) > 1480
        case pos =>
         rw [if_pos z6] at H
         have z6b : decide (1480 < (a0_15.size : Int)) = true := decide_eq_true z6
         obtain rfl := Option.some.inj H
         go_wp2
         go_ret
         exact ⟨by first | rfl | (simp; done), by repeat (first | (with_reducible first | exact HBN.out | apply below_alloc | apply pw_below_drewN | apply below_drew1) | exact HBN.out)⟩
        rw [if_neg z6] at H
        have z6b : decide (1480 < (a0_15.size : Int)) = false := decide_eq_false z6
        obtain rfl := Option.some.inj H
        go_wp2
        go_ret
        exact ⟨by first | rfl | (simp; done), by repeat (first | (with_reducible first | exact HBN.out | apply below_alloc | apply pw_below_drewN | apply below_drew1) | exact HBN.out)⟩
       rw [if_neg (fun h => h.elim (by decide) y2)] at H
       have y2b : (a0_6 != 0) = true := bne_iff_ne.mpr y2
       obtain rfl := Option.some.inj H
       go_wp2
       go_ret
       exact ⟨by first | rfl | (simp; done), by repeat (first | (with_reducible first | exact HBN.out | apply below_alloc | apply pw_below_drewN | apply below_drew1) | exact HBN.out)⟩
     rw [if_neg (fun h => h.elim (by decide) y1)] at H
     have y1b : (a0_3 != 0) = true := bne_iff_ne.mpr y1
     obtain rfl := Option.some.inj H
     go_wp2
     go_ret
     exact ⟨by first | rfl | (simp; done), by repeat (first | (with_reducible first | exact HBN.out | apply below_alloc | apply pw_below_drewN | apply below_drew1) | exact HBN.out)⟩

/-! ### sternpostref08_Length: function 20 -/
def sternpostref08_Length.j0 : Nat → Int → Int → Int → Int → Int → Int → Int → Int → Int → Int → Int → Int → Bool → Bool → Bool → List (S73) → ByteArray → Option (Int)
 | 0, _, _, _, _, _, _, _, _, _, _, _, _, _, _, _, _, _ => none
 | k + 1, x3, x190000, x190001, x190002, x190003, x190004, x190005, x190006, x190007, x190008, x190009, x190010, x190011, x190012, x190013, x190014, x190015 => (sternpostref08_Has.f x190000 x190001 x190002 x190003 x190004 x190005 x190006 x190007 x190008 x190009 x190010 x190011 x190012 x190013 x190014 x190015 1).bind fun t191 => (if t191 = true then (some (wrap64 (x3 + 1))) else (some x3))
def sternpostref08_Length.f (k : Nat) (a0_0 : Int) (a0_1 : Int) (a0_2 : Int) (a0_3 : Int) (a0_4 : Int) (a0_5 : Int) (a0_6 : Int) (a0_7 : Int) (a0_8 : Int) (a0_9 : Int) (a0_10 : Int) (a0_11 : Bool) (a0_12 : Bool) (a0_13 : Bool) (l0_14 : List (S73)) (a0_15 : ByteArray) : Option (Int) := (sternpostref08_Has.f a0_0 a0_1 a0_2 a0_3 a0_4 a0_5 a0_6 a0_7 a0_8 a0_9 a0_10 a0_11 a0_12 a0_13 l0_14 a0_15 2).bind fun t190 => (if t190 = true then (sternpostref08_Length.j0 k (wrap64 ((a0_15.size : Int) + 1)) a0_0 a0_1 a0_2 a0_3 a0_4 a0_5 a0_6 a0_7 a0_8 a0_9 a0_10 a0_11 a0_12 a0_13 l0_14 a0_15) else (sternpostref08_Length.j0 k (a0_15.size : Int) a0_0 a0_1 a0_2 a0_3 a0_4 a0_5 a0_6 a0_7 a0_8 a0_9 a0_10 a0_11 a0_12 a0_13 l0_14 a0_15))
theorem sternpostref08_Length.mono_l : ∀ k, (∀ y0 y1 y2 y3 y4 y5 y6 y7 y8 y9 y10 y11 y12 y13 y14 y15 y16, LeO (sternpostref08_Length.j0 k y0 y1 y2 y3 y4 y5 y6 y7 y8 y9 y10 y11 y12 y13 y14 y15 y16) (sternpostref08_Length.j0 (k + 1) y0 y1 y2 y3 y4 y5 y6 y7 y8 y9 y10 y11 y12 y13 y14 y15 y16))
 | 0 => fun _ _ _ _ _ _ _ _ _ _ _ _ _ _ _ _ _ r h => by simp [sternpostref08_Length.j0] at h
 | k + 1 => by
  have ih0 := sternpostref08_Length.mono_l k
  ·intro y0 y1 y2 y3 y4 y5 y6 y7 y8 y9 y10 y11 y12 y13 y14 y15 y16
   unfold sternpostref08_Length.j0
   repeat' first
   | (with_reducible exact ih0 _ _ _ _ _ _ _ _ _ _ _ _ _ _ _ _ _)
   | (with_reducible exact LeO.refl _)
   | (with_reducible exact LeO.none _)
   | (with_reducible refine LeO.ite ?_ ?_)
   | (with_reducible refine LeO.bind ?_ (fun _ => ?_))
   | exact ih0 _ _ _ _ _ _ _ _ _ _ _ _ _ _ _ _ _
   | exact LeO.none _
   | refine LeO.ite ?_ ?_
   | refine LeO.bind ?_ (fun _ => ?_)
theorem sternpostref08_Length.mono : ∀ a0 a1 a2 a3 a4 a5 a6 a7 a8 a9 a10 a11 a12 a13 a14 a15 k, LeO (sternpostref08_Length.f k a0 a1 a2 a3 a4 a5 a6 a7 a8 a9 a10 a11 a12 a13 a14 a15) (sternpostref08_Length.f (k + 1) a0 a1 a2 a3 a4 a5 a6 a7 a8 a9 a10 a11 a12 a13 a14 a15) := by
 intro a0 a1 a2 a3 a4 a5 a6 a7 a8 a9 a10 a11 a12 a13 a14 a15 k
 have ih0 := sternpostref08_Length.mono_l k
 unfold sternpostref08_Length.f
 repeat' first
   | (with_reducible exact ih0 _ _ _ _ _ _ _ _ _ _ _ _ _ _ _ _ _)
   | (with_reducible exact LeO.refl _)
   | (with_reducible exact LeO.none _)
   | (with_reducible refine LeO.ite ?_ ?_)
   | (with_reducible refine LeO.bind ?_ (fun _ => ?_))
   | exact ih0 _ _ _ _ _ _ _ _ _ _ _ _ _ _ _ _ _
   | exact LeO.none _
   | refine LeO.ite ?_ ?_
   | refine LeO.bind ?_ (fun _ => ?_)
set_option maxHeartbeats 8000000 in
set_option maxRecDepth 100000 in
theorem sternpostref08_Length.calls (k : Nat) (a0_0 : Int) (a0_1 : Int) (a0_2 : Int) (a0_3 : Int) (a0_4 : Int) (a0_5 : Int) (a0_6 : Int) (a0_7 : Int) (a0_8 : Int) (a0_9 : Int) (a0_10 : Int) (a0_11 : Bool) (a0_12 : Bool) (a0_13 : Bool) (A0_14 : Option Addr) (c0_14 : Nat) (l0_14 : List (S73)) (a0_15 : ByteArray) (r : Int) (w : World) (hr0_14 : Kd.C k73 w A0_14 l0_14.length l0_14) (hc0_14 : l0_14.length ≤ c0_14) (h : sternpostref08_Length.f k a0_0 a0_1 a0_2 a0_3 a0_4 a0_5 a0_6 a0_7 a0_8 a0_9 a0_10 a0_11 a0_12 a0_13 l0_14 a0_15 = some r) :
  Calls Try.prog 20 #[.agg #[.int .i64 a0_0, .int .i64 a0_1, .int .i64 a0_2, .int .i64 a0_3, .int .i64 a0_4, .int .i64 a0_5, .int .i64 a0_6, .int .i64 a0_7, .int .i64 a0_8, .int .i64 a0_9, .int .i64 a0_10, .bool a0_11, .bool a0_12, .bool a0_13, .slice A0_14 l0_14.length c0_14, .string a0_15]] w fun e w' => e = .returned (.int .i64 r) ∧ Below w.heap.size w w' := by
 have hu26 := Try.underlying26
 have HR0_14 := Aside0.mk hr0_14
 have HC0_14 := Aside0.mk hc0_14
 clear hr0_14 hc0_14
 have HB := Aside0.mk (Below.refl w.heap.size w)
 have H : ((sternpostref08_Has.f a0_0 a0_1 a0_2 a0_3 a0_4 a0_5 a0_6 a0_7 a0_8 a0_9 a0_10 a0_11 a0_12 a0_13 l0_14 a0_15 2).bind fun t190 => (if t190 = true then (sternpostref08_Length.j0 k (wrap64 ((a0_15.size : Int) + 1)) a0_0 a0_1 a0_2 a0_3 a0_4 a0_5 a0_6 a0_7 a0_8 a0_9 a0_10 a0_11 a0_12 a0_13 l0_14 a0_15) else (sternpostref08_Length.j0 k (a0_15.size : Int) a0_0 a0_1 a0_2 a0_3 a0_4 a0_5 a0_6 a0_7 a0_8 a0_9 a0_10 a0_11 a0_12 a0_13 l0_14 a0_15))) = some r := h
 clear h
 replace H := Option.bind_eq_some_iff.mp H
 obtain ⟨t190, A20, H⟩ := H
 replace H : (if t190 = true then (sternpostref08_Length.j0 k (wrap64 ((a0_15.size : Int) + 1)) a0_0 a0_1 a0_2 a0_3 a0_4 a0_5 a0_6 a0_7 a0_8 a0_9 a0_10 a0_11 a0_12 a0_13 l0_14 a0_15) else (sternpostref08_Length.j0 k (a0_15.size : Int) a0_0 a0_1 a0_2 a0_3 a0_4 a0_5 a0_6 a0_7 a0_8 a0_9 a0_10 a0_11 a0_12 a0_13 l0_14 a0_15)) = some r := H
 have A2 := Aside0.mk A20
 clear A20
 have HC3 := Aside0.mk H
 clear H
 go_enter Try.func20, Try.ntmps20
 go_upto_if 8 with (first | ((with_reducible refine gate_dst (N := 1) rfl ?_); refine box_event ?hg (N := 1) ?hd (cs := #[.int .i64 a0_0, .int .i64 a0_1, .int .i64 a0_2, .int .i64 a0_3, .int .i64 a0_4, .int .i64 a0_5, .int .i64 a0_6, .int .i64 a0_7, .int .i64 a0_8, .int .i64 a0_9, .int .i64 a0_10, .bool a0_11, .bool a0_12, .bool a0_13, .slice A0_14 l0_14.length c0_14, .string a0_15]) (t := 26) ?hr ?_; (case hd => rfl); (case hg => rfl); (case hr => first | (go_simp; done) | (go_simp; rfl)); intro gb189 hg w4 hbox hb; have n0_ := Aside0.mk (below_step (by repeat (first | (with_reducible first | exact HB.out | apply below_alloc | apply pw_below_drewN | apply below_drew1) | exact HB.out)) hb); have n1_ := Aside0.mk (hbox); have n2_ := Aside0.mk ((by rw [hg]; exact (below_size (by repeat (first | (with_reducible first | exact HB.out | apply below_alloc | apply pw_below_drewN | apply below_drew1) | exact HB.out))) : w.heap.size ≤ gb189)); have n3_ := Aside0.mk ((by rw [hg]; exact (below_size (by repeat (first | (with_reducible first | exact HB.out | apply below_alloc | apply pw_below_drewN | apply below_drew1) | exact HB.out))) : w.heap.size ≤ gb189)); clear HB; have HB := n0_; have BK189 := n1_; have GW189 := n2_; have GE189 := n3_; clear n0_ n1_ n2_ n3_; clear hb hbox hg; obtain ⟨hcz5_0, hcz5_1, hcz5_2, hcz5_3, hcz5_4, hcz5_5, hcz5_6, hcz5_7, hcz5_8, hcz5_9, hcz5_10, hcz5_11, hcz5_12, hcz5_13, hcz5_14, hcz5_15⟩ := blk_cells16 BK189.out; obtain ⟨hfz5_0, hfz5_1, hfz5_2, hfz5_3, hfz5_4, hfz5_5, hfz5_6, hfz5_7, hfz5_8, hfz5_9, hfz5_10, hfz5_11, hfz5_12, hfz5_13, hfz5_14, hfz5_15⟩ := blk_frozens16 BK189.out) | ((with_reducible refine gate_callee (f := 21) rfl ?_); refine goesL_ (some 8) rfl rfl Try.func21 (by kernel_rfl) rfl #[.agg #[.int .i64 a0_0, .int .i64 a0_1, .int .i64 a0_2, .int .i64 a0_3, .int .i64 a0_4, .int .i64 a0_5, .int .i64 a0_6, .int .i64 a0_7, .int .i64 a0_8, .int .i64 a0_9, .int .i64 a0_10, .bool a0_11, .bool a0_12, .bool a0_13, .slice A0_14 l0_14.length c0_14, .string a0_15], .int .i64 2] rfl (by (try simp only [List.map_toArray, List.map_cons, List.map_nil]); first | done | rfl | (simp only [List.length_drop, List.length_take]; rfl)) ?_; (with_reducible refine (sternpostref08_Has.calls a0_0 a0_1 a0_2 a0_3 a0_4 a0_5 a0_6 a0_7 a0_8 a0_9 a0_10 a0_11 a0_12 a0_13 _ _ l0_14 a0_15 2 t190 _ ?side1 ?side2 A2.out).mono ?_); (case side1 => repeat (first | exact (Kd.C_below HR0_14.out HB.out) | (with_reducible refine Kd.C_alloc ?_ _) | (with_reducible refine Kd.C_drewN ?_ _) | (with_reducible refine Kd.C_drew ?_))); (case side2 => exact HC0_14.out); rintro e w6 ⟨rfl, hb⟩; refine ⟨_, rfl, ?_⟩; have n0_ := Aside0.mk (blk_below (g := gb189) (o := .cells #[.int .i64 a0_0, .int .i64 a0_1, .int .i64 a0_2, .int .i64 a0_3, .int .i64 a0_4, .int .i64 a0_5, .int .i64 a0_6, .int .i64 a0_7, .int .i64 a0_8, .int .i64 a0_9, .int .i64 a0_10, .bool a0_11, .bool a0_12, .bool a0_13, .slice A0_14 l0_14.length c0_14, .string a0_15] 26 (0, 0)) (by (with_reducible repeat (first | refine blk_drewN ?_ _ | refine blk_drew ?_ | refine blk_alloc ?_ _)); exact BK189.out) hb); have n1_ := Aside0.mk (below_step (by repeat (first | (with_reducible first | exact HB.out | apply below_alloc | apply pw_below_drewN | apply below_drew1 | refine below_set ?_ GE189.out) | exact HB.out)) hb); clear BK189; clear HB; have BK189 := n0_; have HB := n1_; clear n0_ n1_; (try clear hb); (try clear hb2); (try clear hk); (try clear hi)))
 (try simp only [Act.put, List.setIfInBounds_toArray, List.set_cons_zero, List.set_cons_succ])
 go_cut [3] (fun v3 wc => ∃ (kq : Nat) (x3_2 : Int), v3 = .int .i64 x3_2 ∧ Aside0 (sternpostref08_Length.j0 kq x3_2 a0_0 a0_1 a0_2 a0_3 a0_4 a0_5 a0_6 a0_7 a0_8 a0_9 a0_10 a0_11 a0_12 a0_13 l0_14 a0_15 = some r) ∧ Aside0 (kq ≤ k) ∧ Aside0 (wc.heap[gb189]? = some (.cells #[.int .i64 a0_0, .int .i64 a0_1, .int .i64 a0_2, .int .i64 a0_3, .int .i64 a0_4, .int .i64 a0_5, .int .i64 a0_6, .int .i64 a0_7, .int .i64 a0_8, .int .i64 a0_9, .int .i64 a0_10, .bool a0_11, .bool a0_12, .bool a0_13, (.slice A0_14 l0_14.length c0_14), .string a0_15] 26 (0, 0))) ∧ Aside0 (Below w.heap.size w wc))
 case first =>
  have H := HC3.out
  clear HC3
  by_cases c7 : t190 = true
  ·subst c7
   have H1 : (sternpostref08_Length.j0 k (wrap64 ((a0_15.size : Int) + 1)) a0_0 a0_1 a0_2 a0_3 a0_4 a0_5 a0_6 a0_7 a0_8 a0_9 a0_10 a0_11 a0_12 a0_13 l0_14 a0_15) = some r := by rw [if_pos rfl] at H; exact H
   clear H
   have H := H1
   clear H1
   have H' := Aside0.mk H
   clear H
   go_wp2
   go_meet
   case rel => exact ⟨_, (wrap64 ((a0_15.size : Int) + 1)), (by first | rfl | (simp; done) | (simp [*]; done)), H', ⟨by first | omega | exact Nat.le_refl _⟩, ⟨by (with_reducible repeat (first | refine blk_drewN ?_ _ | refine blk_drew ?_ | refine blk_alloc ?_ _)); exact BK189.out⟩, ⟨by repeat (first | (with_reducible first | exact HB.out | apply below_alloc | apply pw_below_drewN | apply below_drew1 | refine below_set ?_ GE189.out) | exact HB.out)⟩⟩
  ·replace c7 := Bool.eq_false_iff.mpr c7
   subst c7
   have H1 : (sternpostref08_Length.j0 k (a0_15.size : Int) a0_0 a0_1 a0_2 a0_3 a0_4 a0_5 a0_6 a0_7 a0_8 a0_9 a0_10 a0_11 a0_12 a0_13 l0_14 a0_15) = some r := by rw [if_neg (show ¬ (false = true) by decide)] at H; exact H
   clear H
   have H := H1
   clear H1
   have H' := Aside0.mk H
   clear H
   go_wp2
   go_meet
   case rel => exact ⟨_, ((a0_15.size : Int)), (by first | rfl | (simp; done) | (simp [*]; done)), H', ⟨by first | omega | exact Nat.le_refl _⟩, ⟨by (with_reducible repeat (first | refine blk_drewN ?_ _ | refine blk_drew ?_ | refine blk_alloc ?_ _)); exact BK189.out⟩, ⟨by repeat (first | (with_reducible first | exact HB.out | apply below_alloc | apply pw_below_drewN | apply below_drew1 | refine below_set ?_ GE189.out) | exact HB.out)⟩⟩
 case rest =>
  clear HC3
  try clear c2; try clear p2; try clear p6; try clear c7; try clear hcz5_0 hcz5_1 hcz5_10 hcz5_11 hcz5_12 hcz5_13 hcz5_14 hcz5_15 hcz5_2 hcz5_3 hcz5_4 hcz5_5 hcz5_6 hcz5_7 hcz5_8 hcz5_9; try clear hfz5_0 hfz5_1 hfz5_10 hfz5_11 hfz5_12 hfz5_13 hfz5_14 hfz5_15 hfz5_2 hfz5_3 hfz5_4 hfz5_5 hfz5_6 hfz5_7 hfz5_8 hfz5_9
  obtain ⟨kq, x3_2, rfl, HA, HJ2, BK189, HB⟩ := hcut
  cases kq with
  | zero => exact absurd HA.out (by simp [sternpostref08_Length.j0])
  | succ kj2 =>
   have H := HA.out
   clear HA
   simp only [sternpostref08_Length.j0] at H
   replace H := Option.bind_eq_some_iff.mp H
   obtain ⟨t191, A80, H⟩ := H
   replace H : (if t191 = true then (some (wrap64 (x3_2 + 1))) else (some x3_2)) = some r := H
   have A8 := Aside0.mk A80
   clear A80
   by_cases c9 : t191 = true
   ·subst c9
    have H1 : (some (wrap64 (x3_2 + 1))) = some r := by rw [if_pos rfl] at H; exact H
    clear H
    have H := H1
    clear H1
    obtain rfl := Option.some.inj H
    obtain ⟨hcz10_0, hcz10_1, hcz10_2, hcz10_3, hcz10_4, hcz10_5, hcz10_6, hcz10_7, hcz10_8, hcz10_9, hcz10_10, hcz10_11, hcz10_12, hcz10_13, hcz10_14, hcz10_15⟩ := blk_cells16 BK189.out
    obtain ⟨hfz10_0, hfz10_1, hfz10_2, hfz10_3, hfz10_4, hfz10_5, hfz10_6, hfz10_7, hfz10_8, hfz10_9, hfz10_10, hfz10_11, hfz10_12, hfz10_13, hfz10_14, hfz10_15⟩ := blk_frozens16 BK189.out
    go_wp2_with (first | ((with_reducible refine gate_callee (f := 21) rfl ?_); refine goesL_ (some 12) rfl rfl Try.func21 (by kernel_rfl) rfl #[.agg #[.int .i64 a0_0, .int .i64 a0_1, .int .i64 a0_2, .int .i64 a0_3, .int .i64 a0_4, .int .i64 a0_5, .int .i64 a0_6, .int .i64 a0_7, .int .i64 a0_8, .int .i64 a0_9, .int .i64 a0_10, .bool a0_11, .bool a0_12, .bool a0_13, .slice A0_14 l0_14.length c0_14, .string a0_15], .int .i64 1] rfl (by (try simp only [List.map_toArray, List.map_cons, List.map_nil]); first | done | rfl | (simp only [List.length_drop, List.length_take]; rfl)) ?_; (with_reducible refine (sternpostref08_Has.calls a0_0 a0_1 a0_2 a0_3 a0_4 a0_5 a0_6 a0_7 a0_8 a0_9 a0_10 a0_11 a0_12 a0_13 _ _ l0_14 a0_15 1 true _ ?side1 ?side2 A8.out).mono ?_); (case side1 => repeat (first | exact (Kd.C_below HR0_14.out HB.out) | (with_reducible refine Kd.C_alloc ?_ _) | (with_reducible refine Kd.C_drewN ?_ _) | (with_reducible refine Kd.C_drew ?_))); (case side2 => exact HC0_14.out); rintro e w11 ⟨rfl, hb⟩; refine ⟨_, rfl, ?_⟩; have n0_ := Aside0.mk (blk_below (g := gb189) (o := .cells #[.int .i64 a0_0, .int .i64 a0_1, .int .i64 a0_2, .int .i64 a0_3, .int .i64 a0_4, .int .i64 a0_5, .int .i64 a0_6, .int .i64 a0_7, .int .i64 a0_8, .int .i64 a0_9, .int .i64 a0_10, .bool a0_11, .bool a0_12, .bool a0_13, .slice A0_14 l0_14.length c0_14, .string a0_15] 26 (0, 0)) (by (with_reducible repeat (first | refine blk_drewN ?_ _ | refine blk_drew ?_ | refine blk_alloc ?_ _)); exact BK189.out) hb); have n1_ := Aside0.mk (below_step (by repeat (first | (with_reducible first | exact HB.out | apply below_alloc | apply pw_below_drewN | apply below_drew1 | refine below_set ?_ GE189.out) | exact HB.out)) hb); clear BK189; clear HB; have BK189 := n0_; have HB := n1_; clear n0_ n1_; (try clear hb); (try clear hb2); (try clear hk); (try clear hi)))
    go_ret
    exact ⟨by first | rfl | (simp [errW_none, errW_some] <;> rfl) | (simp [*, errW_none, errW_some] <;> rfl), by repeat (first | (with_reducible first | exact HB.out | apply below_alloc | apply pw_below_drewN | apply below_drew1 | refine below_set ?_ GE189.out) | exact HB.out)⟩
   ·replace c9 := Bool.eq_false_iff.mpr c9
    subst c9
    have H1 : (some x3_2) = some r := by rw [if_neg (show ¬ (false = true) by decide)] at H; exact H
    clear H
    have H := H1
    clear H1
    obtain rfl := Option.some.inj H
    obtain ⟨hcz12_0, hcz12_1, hcz12_2, hcz12_3, hcz12_4, hcz12_5, hcz12_6, hcz12_7, hcz12_8, hcz12_9, hcz12_10, hcz12_11, hcz12_12, hcz12_13, hcz12_14, hcz12_15⟩ := blk_cells16 BK189.out
    obtain ⟨hfz12_0, hfz12_1, hfz12_2, hfz12_3, hfz12_4, hfz12_5, hfz12_6, hfz12_7, hfz12_8, hfz12_9, hfz12_10, hfz12_11, hfz12_12, hfz12_13, hfz12_14, hfz12_15⟩ := blk_frozens16 BK189.out
    go_wp2_with (first | ((with_reducible refine gate_callee (f := 21) rfl ?_); refine goesL_ (some 12) rfl rfl Try.func21 (by kernel_rfl) rfl #[.agg #[.int .i64 a0_0, .int .i64 a0_1, .int .i64 a0_2, .int .i64 a0_3, .int .i64 a0_4, .int .i64 a0_5, .int .i64 a0_6, .int .i64 a0_7, .int .i64 a0_8, .int .i64 a0_9, .int .i64 a0_10, .bool a0_11, .bool a0_12, .bool a0_13, .slice A0_14 l0_14.length c0_14, .string a0_15], .int .i64 1] rfl (by (try simp only [List.map_toArray, List.map_cons, List.map_nil]); first | done | rfl | (simp only [List.length_drop, List.length_take]; rfl)) ?_; (with_reducible refine (sternpostref08_Has.calls a0_0 a0_1 a0_2 a0_3 a0_4 a0_5 a0_6 a0_7 a0_8 a0_9 a0_10 a0_11 a0_12 a0_13 _ _ l0_14 a0_15 1 false _ ?side1 ?side2 A8.out).mono ?_); (case side1 => repeat (first | exact (Kd.C_below HR0_14.out HB.out) | (with_reducible refine Kd.C_alloc ?_ _) | (with_reducible refine Kd.C_drewN ?_ _) | (with_reducible refine Kd.C_drew ?_))); (case side2 => exact HC0_14.out); rintro e w13 ⟨rfl, hb⟩; refine ⟨_, rfl, ?_⟩; have n0_ := Aside0.mk (blk_below (g := gb189) (o := .cells #[.int .i64 a0_0, .int .i64 a0_1, .int .i64 a0_2, .int .i64 a0_3, .int .i64 a0_4, .int .i64 a0_5, .int .i64 a0_6, .int .i64 a0_7, .int .i64 a0_8, .int .i64 a0_9, .int .i64 a0_10, .bool a0_11, .bool a0_12, .bool a0_13, .slice A0_14 l0_14.length c0_14, .string a0_15] 26 (0, 0)) (by (with_reducible repeat (first | refine blk_drewN ?_ _ | refine blk_drew ?_ | refine blk_alloc ?_ _)); exact BK189.out) hb); have n1_ := Aside0.mk (below_step (by repeat (first | (with_reducible first | exact HB.out | apply below_alloc | apply pw_below_drewN | apply below_drew1 | refine below_set ?_ GE189.out) | exact HB.out)) hb); clear BK189; clear HB; have BK189 := n0_; have HB := n1_; clear n0_ n1_; (try clear hb); (try clear hb2); (try clear hk); (try clear hi)))
    go_ret
    exact ⟨by first | rfl | (simp [errW_none, errW_some] <;> rfl) | (simp [*, errW_none, errW_some] <;> rfl), by repeat (first | (with_reducible first | exact HB.out | apply below_alloc | apply pw_below_drewN | apply below_drew1 | refine below_set ?_ GE189.out) | exact HB.out)⟩

/-! ### sternpostref01_Mod: function 28 -/
def sternpostref01_Mod.f (a0 : Int) : Option (Int) := some (Int.tmod (wrap64 ((Int.tmod a0 4294967296) + 4294967296)) 4294967296)
set_option maxHeartbeats 8000000 in
set_option maxRecDepth 100000 in
theorem sternpostref01_Mod.calls (a0 : Int) (r : Int) (w : World) (h : sternpostref01_Mod.f a0 = some r) :
  Calls Try.prog 28 #[.int .i64 a0] w fun e w' => e = .returned (.int .i64 r) ∧ Drawn0 w w' := by
 have H : (some (Int.tmod (wrap64 ((Int.tmod a0 4294967296) + 4294967296)) 4294967296)) = some r := h
 clear h
 obtain rfl := Option.some.inj H
 go_enter Try.func28, Try.ntmps28
 go_wp2
 go_ret
 exact ⟨by first | rfl | (simp; done) | (simp [*]; done), by repeat (first | exact Drawn0.refl _ | apply Drawn0.step)⟩

end Go.Proofs.Ytakajeoeijnmhaa.PSegSame

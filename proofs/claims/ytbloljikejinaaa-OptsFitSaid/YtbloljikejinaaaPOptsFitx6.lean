-- Laid by this claim's own program over the print's words.
import Derived.Test.YtbloljikejinaaaPOptsFitx0
namespace Go.Proofs.Ytbloljikejinaaa.POptsFit
open Go.RowKit Go.Proofs.YtbloljikejinaaaW.PrintWords Go.Proofs.YtbloljikejinaaaW.PrintLast Go.Proofs.YtbloljikejinaaaW.PrintMore
attribute [local go_sem] max2_int min2_int max_two min_two max_three min_three max_four min_four max_five min_five extract_cut tmod_nat_lit   -- for this text's walks alone
set_option linter.unusedVariables false
set_option linter.unusedSimpArgs false

/-! ### seq_Check: function 27 -/
def seq_Check.f (a0 : Int) : Option (Int) := if (Go.bits .and .i64 a0 4294967295) = a0 then (some 0) else (some 1)
set_option maxHeartbeats 8000000 in
set_option maxRecDepth 100000 in
theorem seq_Check.calls (a0 : Int) (r : Int) (w : World) (h : seq_Check.f a0 = some r) :
  Calls Try.prog 27 #[.int .i64 a0] w fun e w' => e = .returned (.int .i64 r) ∧ Drawn0 w w' := by
 have H : (if (Go.bits .and .i64 a0 4294967295) = a0 then (some 0) else (some 1)) = some r := h
 clear h
 by_cases c2 : (Go.bits .and .i64 a0 4294967295) = a0
 ·rw [if_pos c2] at H
  have c2b0 : ((Go.bits .and .i64 a0 4294967295) == a0) = true := beq_iff_eq.mpr c2
  have c2b1 : ((Go.bits .and .i64 a0 4294967295) != a0) = false := bne_eq_false_iff_eq.mpr c2
  clear c2
  obtain rfl := Option.some.inj H
  go_enter Try.func27, Try.ntmps27
  go_wp2
  go_ret
  exact ⟨by first | rfl | (simp; done) | (simp [*]; done), by repeat (first | exact Drawn0.refl _ | apply Drawn0.step)⟩
 ·rw [if_neg c2] at H
  have c2b0 : ((Go.bits .and .i64 a0 4294967295) == a0) = false := beq_eq_false_iff_ne.mpr c2
  have c2b1 : ((Go.bits .and .i64 a0 4294967295) != a0) = true := bne_iff_ne.mpr c2
  obtain rfl := Option.some.inj H
  go_enter Try.func27, Try.ntmps27
  go_wp2
  go_ret
  exact ⟨by first | rfl | (simp; done) | (simp [*]; done), by repeat (first | exact Drawn0.refl _ | apply Drawn0.step)⟩

/-! ### opts_Check_1: function 29 -/
def opts_Check_1.f (a0_0 : Int) (a0_1 : Int) : Option (Bool) := (seq_Check.f a0_0).bind fun t142 => ((seq_Check.f a0_1).bind fun t143 => (if (mx t142 t143) > 0 then (some true) else (some (a0_0 == a0_1))))
set_option maxHeartbeats 8000000 in
set_option maxRecDepth 100000 in
theorem opts_Check_1.calls (a0_0 : Int) (a0_1 : Int) (r : Bool) (w : World) (h : opts_Check_1.f a0_0 a0_1 = some r) :
  Calls Try.prog 29 #[.agg #[.int .i64 a0_0, .int .i64 a0_1]] w fun e w' => e = .returned (.bool r) ∧ Below w.heap.size w w' := by
 have hu35 := Try.underlying35
 have HB := Aside0.mk (Below.refl w.heap.size w)
 have H : ((seq_Check.f a0_0).bind fun t142 => ((seq_Check.f a0_1).bind fun t143 => (if (mx t142 t143) > 0 then (some true) else (some (a0_0 == a0_1))))) = some r := h
 clear h
 replace H := Option.bind_eq_some_iff.mp H
 obtain ⟨t142, A20, H⟩ := H
 replace H : ((seq_Check.f a0_1).bind fun t143 => (if (mx t142 t143) > 0 then (some true) else (some (a0_0 == a0_1)))) = some r := H
 have A2 := Aside0.mk A20
 clear A20
 replace H := Option.bind_eq_some_iff.mp H
 obtain ⟨t143, A30, H⟩ := H
 replace H : (if (mx t142 t143) > 0 then (some true) else (some (a0_0 == a0_1))) = some r := H
 have A3 := Aside0.mk A30
 clear A30
 obtain ⟨ji4, hji4⟩ : ∃ j_ : Int, (mx t142 t143) = j_ := ⟨_, rfl⟩
 replace H : (if (ji4) > 0 then (some true) else (some (a0_0 == a0_1))) = some r := by first | (rw [hji4] at H; exact H) | (simp only [hji4] at H ⊢; exact H)
 (try rw [hji4] at A2)
 (try rw [hji4] at A3)
 have hji4_ : (if t142 < t143 then t143 else t142) = ji4 := hji4
 by_cases c5 : (ji4) > 0
 ·rw [if_pos c5] at H
  have c5b0 : decide (0 < (ji4)) = true := decide_eq_true c5
  clear c5
  obtain rfl := Option.some.inj H
  go_enter Try.func29, Try.ntmps29
  go_wp2_with (first | ((with_reducible refine gate_dst (N := 1) rfl ?_); refine box_event ?hg (N := 1) ?hd (cs := #[.int .i64 a0_0, .int .i64 a0_1]) (t := 35) ?hr ?_; (case hd => rfl); (case hg => rfl); (case hr => first | (go_simp; done) | (go_simp; rfl)); intro gb141 hg w6 hbox hb; have n0_ := Aside0.mk (below_step (by repeat (first | (with_reducible first | exact HB.out | apply below_alloc | apply pw_below_drewN | apply below_drew1) | exact HB.out)) hb); have n1_ := Aside0.mk (hbox); have n2_ := Aside0.mk ((by rw [hg]; exact (below_size (by repeat (first | (with_reducible first | exact HB.out | apply below_alloc | apply pw_below_drewN | apply below_drew1) | exact HB.out))) : w.heap.size ≤ gb141)); have n3_ := Aside0.mk ((by rw [hg]; exact (below_size (by repeat (first | (with_reducible first | exact HB.out | apply below_alloc | apply pw_below_drewN | apply below_drew1) | exact HB.out))) : w.heap.size ≤ gb141)); clear HB; have HB := n0_; have BK141 := n1_; have GW141 := n2_; have GE141 := n3_; clear n0_ n1_ n2_ n3_; clear hb hbox hg; obtain ⟨hcz7_0, hcz7_1⟩ := blk_cells2 BK141.out; obtain ⟨hfz7_0, hfz7_1⟩ := blk_frozens2 BK141.out) | (go_at_call 27; (with_reducible refine (seq_Check.calls a0_0 t142 _ A2.out).mono ?_); rintro e w' ⟨rfl, ⟨nd, rfl⟩⟩; (try first | exact ⟨rfl, _, World.drewN_drewN _ _ _⟩ | exact ⟨rfl, _, Eq.trans (World.drewN_drewN _ _ _) (congrArg (World.drewN _) (Nat.add_assoc _ _ _))⟩)) | (go_at_call 27; (with_reducible refine (seq_Check.calls a0_1 t143 _ A3.out).mono ?_); rintro e w' ⟨rfl, ⟨nd, rfl⟩⟩; (try first | exact ⟨rfl, _, World.drewN_drewN _ _ _⟩ | exact ⟨rfl, _, Eq.trans (World.drewN_drewN _ _ _) (congrArg (World.drewN _) (Nat.add_assoc _ _ _))⟩)))
  repeat (go_quiet (first | ((with_reducible refine gate_dst (N := 1) rfl ?_); refine box_event ?hg (N := 1) ?hd (cs := #[.int .i64 a0_0, .int .i64 a0_1]) (t := 35) ?hr ?_; (case hd => rfl); (case hg => rfl); (case hr => first | (go_simp; done) | (go_simp; rfl)); intro gb141 hg w6 hbox hb; have n0_ := Aside0.mk (below_step (by repeat (first | (with_reducible first | exact HB.out | apply below_alloc | apply pw_below_drewN | apply below_drew1) | exact HB.out)) hb); have n1_ := Aside0.mk (hbox); have n2_ := Aside0.mk ((by rw [hg]; exact (below_size (by repeat (first | (with_reducible first | exact HB.out | apply below_alloc | apply pw_below_drewN | apply below_drew1) | exact HB.out))) : w.heap.size ≤ gb141)); have n3_ := Aside0.mk ((by rw [hg]; exact (below_size (by repeat (first | (with_reducible first | exact HB.out | apply below_alloc | apply pw_below_drewN | apply below_drew1) | exact HB.out))) : w.heap.size ≤ gb141)); clear HB; have HB := n0_; have BK141 := n1_; have GW141 := n2_; have GE141 := n3_; clear n0_ n1_ n2_ n3_; clear hb hbox hg; obtain ⟨hcz7_0, hcz7_1⟩ := blk_cells2 BK141.out; obtain ⟨hfz7_0, hfz7_1⟩ := blk_frozens2 BK141.out) | (go_at_call 27; (with_reducible refine (seq_Check.calls a0_0 t142 _ A2.out).mono ?_); rintro e w' ⟨rfl, ⟨nd, rfl⟩⟩; (try first | exact ⟨rfl, _, World.drewN_drewN _ _ _⟩ | exact ⟨rfl, _, Eq.trans (World.drewN_drewN _ _ _) (congrArg (World.drewN _) (Nat.add_assoc _ _ _))⟩)) | (go_at_call 27; (with_reducible refine (seq_Check.calls a0_1 t143 _ A3.out).mono ?_); rintro e w' ⟨rfl, ⟨nd, rfl⟩⟩; (try first | exact ⟨rfl, _, World.drewN_drewN _ _ _⟩ | exact ⟨rfl, _, Eq.trans (World.drewN_drewN _ _ _) (congrArg (World.drewN _) (Nat.add_assoc _ _ _))⟩))); try go_wp2_with (first | ((with_reducible refine gate_dst (N := 1) rfl ?_); refine box_event ?hg (N := 1) ?hd (cs := #[.int .i64 a0_0, .int .i64 a0_1]) (t := 35) ?hr ?_; (case hd => rfl); (case hg => rfl); (case hr => first | (go_simp; done) | (go_simp; rfl)); intro gb141 hg w6 hbox hb; have n0_ := Aside0.mk (below_step (by repeat (first | (with_reducible first | exact HB.out | apply below_alloc | apply pw_below_drewN | apply below_drew1) | exact HB.out)) hb); have n1_ := Aside0.mk (hbox); have n2_ := Aside0.mk ((by rw [hg]; exact (below_size (by repeat (first | (with_reducible first | exact HB.out | apply below_alloc | apply pw_below_drewN | apply below_drew1) | exact HB.out))) : w.heap.size ≤ gb141)); have n3_ := Aside0.mk ((by rw [hg]; exact (below_size (by repeat (first | (with_reducible first | exact HB.out | apply below_alloc | apply pw_below_drewN | apply below_drew1) | exact HB.out))) : w.heap.size ≤ gb141)); clear HB; have HB := n0_; have BK141 := n1_; have GW141 := n2_; have GE141 := n3_; clear n0_ n1_ n2_ n3_; clear hb hbox hg; obtain ⟨hcz7_0, hcz7_1⟩ := blk_cells2 BK141.out; obtain ⟨hfz7_0, hfz7_1⟩ := blk_frozens2 BK141.out) | (go_at_call 27; (with_reducible refine (seq_Check.calls a0_0 t142 _ A2.out).mono ?_); rintro e w' ⟨rfl, ⟨nd, rfl⟩⟩; (try first | exact ⟨rfl, _, World.drewN_drewN _ _ _⟩ | exact ⟨rfl, _, Eq.trans (World.drewN_drewN _ _ _) (congrArg (World.drewN _) (Nat.add_assoc _ _ _))⟩)) | (go_at_call 27; (with_reducible refine (seq_Check.calls a0_1 t143 _ A3.out).mono ?_); rintro e w' ⟨rfl, ⟨nd, rfl⟩⟩; (try first | exact ⟨rfl, _, World.drewN_drewN _ _ _⟩ | exact ⟨rfl, _, Eq.trans (World.drewN_drewN _ _ _) (congrArg (World.drewN _) (Nat.add_assoc _ _ _))⟩))))
  go_ret
  exact ⟨by first | rfl | (simp [errW_none, errW_some] <;> rfl) | (simp only [← hji4]; first | rfl | (simp [errW_none, errW_some] <;> rfl)) | (simp [*, errW_none, errW_some] <;> rfl), by repeat (first | (with_reducible first | exact HB.out | apply below_alloc | apply pw_below_drewN | apply below_drew1 | refine below_set ?_ GE141.out) | exact HB.out)⟩
 ·rw [if_neg c5] at H
  have c5b0 : decide (0 < (ji4)) = false := decide_eq_false c5
  clear c5
  obtain rfl := Option.some.inj H
  go_enter Try.func29, Try.ntmps29
  go_wp2_with (first | ((with_reducible refine gate_dst (N := 1) rfl ?_); refine box_event ?hg (N := 1) ?hd (cs := #[.int .i64 a0_0, .int .i64 a0_1]) (t := 35) ?hr ?_; (case hd => rfl); (case hg => rfl); (case hr => first | (go_simp; done) | (go_simp; rfl)); intro gb141 hg w8 hbox hb; have n0_ := Aside0.mk (below_step (by repeat (first | (with_reducible first | exact HB.out | apply below_alloc | apply pw_below_drewN | apply below_drew1) | exact HB.out)) hb); have n1_ := Aside0.mk (hbox); have n2_ := Aside0.mk ((by rw [hg]; exact (below_size (by repeat (first | (with_reducible first | exact HB.out | apply below_alloc | apply pw_below_drewN | apply below_drew1) | exact HB.out))) : w.heap.size ≤ gb141)); have n3_ := Aside0.mk ((by rw [hg]; exact (below_size (by repeat (first | (with_reducible first | exact HB.out | apply below_alloc | apply pw_below_drewN | apply below_drew1) | exact HB.out))) : w.heap.size ≤ gb141)); clear HB; have HB := n0_; have BK141 := n1_; have GW141 := n2_; have GE141 := n3_; clear n0_ n1_ n2_ n3_; clear hb hbox hg; obtain ⟨hcz9_0, hcz9_1⟩ := blk_cells2 BK141.out; obtain ⟨hfz9_0, hfz9_1⟩ := blk_frozens2 BK141.out) | (go_at_call 27; (with_reducible refine (seq_Check.calls a0_0 t142 _ A2.out).mono ?_); rintro e w' ⟨rfl, ⟨nd, rfl⟩⟩; (try first | exact ⟨rfl, _, World.drewN_drewN _ _ _⟩ | exact ⟨rfl, _, Eq.trans (World.drewN_drewN _ _ _) (congrArg (World.drewN _) (Nat.add_assoc _ _ _))⟩)) | (go_at_call 27; (with_reducible refine (seq_Check.calls a0_1 t143 _ A3.out).mono ?_); rintro e w' ⟨rfl, ⟨nd, rfl⟩⟩; (try first | exact ⟨rfl, _, World.drewN_drewN _ _ _⟩ | exact ⟨rfl, _, Eq.trans (World.drewN_drewN _ _ _) (congrArg (World.drewN _) (Nat.add_assoc _ _ _))⟩)))
  repeat (go_quiet (first | ((with_reducible refine gate_dst (N := 1) rfl ?_); refine box_event ?hg (N := 1) ?hd (cs := #[.int .i64 a0_0, .int .i64 a0_1]) (t := 35) ?hr ?_; (case hd => rfl); (case hg => rfl); (case hr => first | (go_simp; done) | (go_simp; rfl)); intro gb141 hg w8 hbox hb; have n0_ := Aside0.mk (below_step (by repeat (first | (with_reducible first | exact HB.out | apply below_alloc | apply pw_below_drewN | apply below_drew1) | exact HB.out)) hb); have n1_ := Aside0.mk (hbox); have n2_ := Aside0.mk ((by rw [hg]; exact (below_size (by repeat (first | (with_reducible first | exact HB.out | apply below_alloc | apply pw_below_drewN | apply below_drew1) | exact HB.out))) : w.heap.size ≤ gb141)); have n3_ := Aside0.mk ((by rw [hg]; exact (below_size (by repeat (first | (with_reducible first | exact HB.out | apply below_alloc | apply pw_below_drewN | apply below_drew1) | exact HB.out))) : w.heap.size ≤ gb141)); clear HB; have HB := n0_; have BK141 := n1_; have GW141 := n2_; have GE141 := n3_; clear n0_ n1_ n2_ n3_; clear hb hbox hg; obtain ⟨hcz9_0, hcz9_1⟩ := blk_cells2 BK141.out; obtain ⟨hfz9_0, hfz9_1⟩ := blk_frozens2 BK141.out) | (go_at_call 27; (with_reducible refine (seq_Check.calls a0_0 t142 _ A2.out).mono ?_); rintro e w' ⟨rfl, ⟨nd, rfl⟩⟩; (try first | exact ⟨rfl, _, World.drewN_drewN _ _ _⟩ | exact ⟨rfl, _, Eq.trans (World.drewN_drewN _ _ _) (congrArg (World.drewN _) (Nat.add_assoc _ _ _))⟩)) | (go_at_call 27; (with_reducible refine (seq_Check.calls a0_1 t143 _ A3.out).mono ?_); rintro e w' ⟨rfl, ⟨nd, rfl⟩⟩; (try first | exact ⟨rfl, _, World.drewN_drewN _ _ _⟩ | exact ⟨rfl, _, Eq.trans (World.drewN_drewN _ _ _) (congrArg (World.drewN _) (Nat.add_assoc _ _ _))⟩))); try go_wp2_with (first | ((with_reducible refine gate_dst (N := 1) rfl ?_); refine box_event ?hg (N := 1) ?hd (cs := #[.int .i64 a0_0, .int .i64 a0_1]) (t := 35) ?hr ?_; (case hd => rfl); (case hg => rfl); (case hr => first | (go_simp; done) | (go_simp; rfl)); intro gb141 hg w8 hbox hb; have n0_ := Aside0.mk (below_step (by repeat (first | (with_reducible first | exact HB.out | apply below_alloc | apply pw_below_drewN | apply below_drew1) | exact HB.out)) hb); have n1_ := Aside0.mk (hbox); have n2_ := Aside0.mk ((by rw [hg]; exact (below_size (by repeat (first | (with_reducible first | exact HB.out | apply below_alloc | apply pw_below_drewN | apply below_drew1) | exact HB.out))) : w.heap.size ≤ gb141)); have n3_ := Aside0.mk ((by rw [hg]; exact (below_size (by repeat (first | (with_reducible first | exact HB.out | apply below_alloc | apply pw_below_drewN | apply below_drew1) | exact HB.out))) : w.heap.size ≤ gb141)); clear HB; have HB := n0_; have BK141 := n1_; have GW141 := n2_; have GE141 := n3_; clear n0_ n1_ n2_ n3_; clear hb hbox hg; obtain ⟨hcz9_0, hcz9_1⟩ := blk_cells2 BK141.out; obtain ⟨hfz9_0, hfz9_1⟩ := blk_frozens2 BK141.out) | (go_at_call 27; (with_reducible refine (seq_Check.calls a0_0 t142 _ A2.out).mono ?_); rintro e w' ⟨rfl, ⟨nd, rfl⟩⟩; (try first | exact ⟨rfl, _, World.drewN_drewN _ _ _⟩ | exact ⟨rfl, _, Eq.trans (World.drewN_drewN _ _ _) (congrArg (World.drewN _) (Nat.add_assoc _ _ _))⟩)) | (go_at_call 27; (with_reducible refine (seq_Check.calls a0_1 t143 _ A3.out).mono ?_); rintro e w' ⟨rfl, ⟨nd, rfl⟩⟩; (try first | exact ⟨rfl, _, World.drewN_drewN _ _ _⟩ | exact ⟨rfl, _, Eq.trans (World.drewN_drewN _ _ _) (congrArg (World.drewN _) (Nat.add_assoc _ _ _))⟩))))
  go_ret
  exact ⟨by first | rfl | (simp [errW_none, errW_some] <;> rfl) | (simp only [← hji4]; first | rfl | (simp [errW_none, errW_some] <;> rfl)) | (simp [*, errW_none, errW_some] <;> rfl), by repeat (first | (with_reducible first | exact HB.out | apply below_alloc | apply pw_below_drewN | apply below_drew1 | refine below_set ?_ GE141.out) | exact HB.out)⟩

-- NOT PRINTED: function 39 (api_Range_39)


/-! ### api_Range_28: function 28 (by hand) -/
def api_Range_28.p (x : S35) : Bool := (opts_Check_1.f x.f0 x.f1).getD false
theorem api_Range_28.p_is (x : S35) : opts_Check_1.f x.f0 x.f1 = some (api_Range_28.p x) := by
 have hs : ∀ a, ∃ b, seq_Check.f a = some b := by intro a; unfold seq_Check.f; split <;> exact ⟨_, rfl⟩
 obtain ⟨b, hb⟩ := hs x.f0
 obtain ⟨c, hc⟩ := hs x.f1
 have : ∃ r, opts_Check_1.f x.f0 x.f1 = some r := by
  unfold opts_Check_1.f
  rw [hb, hc]
  simp only [Option.bind_some]
  repeat' split
  all_goals exact ⟨_, rfl⟩
 obtain ⟨r, hr⟩ := this
 unfold api_Range_28.p
 rw [hr]; rfl
def api_Range_28.f (l0 : List S35) (a1 : Nat) : Option Bool := if a1 = 29 ∧ (l0.length : Int) < 9223372036854775807 then some (l0.any api_Range_28.p) else none
set_option maxHeartbeats 4000000 in
set_option maxRecDepth 100000 in
theorem api_Range_28.index (A0 : Option Addr) (c0 : Nat) (l0 : List S35) (w : World) (hr0 : Kd.C k35 w A0 l0.length l0) (hc0 : l0.length ≤ c0) (hl : (l0.length : Int) < 9223372036854775807) :
  Calls Try.prog 39 #[.slice A0 l0.length c0, .func (.func 29) #[] #[]] w fun e w' => (∃ i : Int, e = .returned (.int .i64 i) ∧ decide (i ≥ 0) = l0.any api_Range_28.p) ∧ Below w.heap.size w w' := by
 have hu35 := Try.underlying35
 have HR0 := Aside0.mk hr0
 have HC0 := Aside0.mk hc0
 have HL := Aside0.mk hl
 clear hr0 hc0 hl
 go_enter Try.func39, Try.ntmps39
 go_wp2
 go_loopg [8] l0.length (fun gg v8 w' => ∃ x8 : Int, v8 = .int .i64 x8 ∧ Aside0 (0 ≤ x8 ∧ x8 ≤ (l0.length : Int)) ∧ Aside0 (l0.length - x8.toNat ≤ gg) ∧ Aside0 (l0.any api_Range_28.p = (l0.drop x8.toNat).any api_Range_28.p) ∧ Aside0 (Below w.heap.size w w'))
 case atStart => exact ⟨0, rfl, ⟨by omega⟩, ⟨by omega⟩, ⟨rfl⟩, ⟨Below.refl _ _⟩⟩
 case round =>
  obtain ⟨x8, rfl, HK, HG, HA, HB⟩ := hrel
  by_cases hlt : x8 < (l0.length : Int)
  ·have c4b0 : decide (x8 < (l0.length : Int)) = true := decide_eq_true hlt
   have hl2 : x8.toNat < l0.length := by have := HK.out; omega
   have hget : rd_T35 l0 x8 = l0[x8.toNat] := by simp [rd_T35, hl2]
   have hstep : (l0.drop x8.toNat).any api_Range_28.p = (api_Range_28.p (rd_T35 l0 x8) || (l0.drop (x8.toNat + 1)).any api_Range_28.p) := by rw [hget, List.drop_eq_getElem_cons hl2, List.any_cons]
   have hcall := api_Range_28.p_is (rd_T35 l0 x8)
   clear hget
   have HL2 := Aside0.mk hl2
   clear hl2 hlt
   have p101 : 0 ≤ (x8 : Int) := HK.out.1
   have q101 : x8 < (l0.length : Int) := of_decide_eq_true c4b0
   obtain ⟨ad101, e101, hx101_0, hx101_1⟩ := at_T35 (Kd.C_below HR0.out HB.out) x8 p101 q101
   cases e101
   replace p101 := eq_true p101
   replace q101 := eq_true q101
   cases hq : api_Range_28.p (rd_T35 l0 x8) with
   | true =>
    rw [hq] at hcall hstep
    have HS := Aside0.mk hstep
    have HQ := Aside0.mk hcall
    clear hstep hcall hq
    go_wp2_with (go_at_call 29; refine (opts_Check_1.calls _ _ _ _ HQ.out).mono ?_; rintro e w' ⟨rfl, hb'⟩; have HB2 := Aside0.mk (below_step HB.out hb'); clear hb')
    go_ret
    refine ⟨⟨x8, rfl, ?_⟩, HB2.out⟩
    rw [HA.out, HS.out, decide_eq_true HK.out.1]; rfl
   | false =>
    rw [hq] at hcall hstep
    have HS := Aside0.mk hstep
    have HQ := Aside0.mk hcall
    clear hstep hcall hq
    go_wp2_with (go_at_call 29; refine (opts_Check_1.calls _ _ _ _ HQ.out).mono ?_; rintro e w' ⟨rfl, hb'⟩; have HB2 := Aside0.mk (below_step HB.out hb'); clear hb')
    go_roundg (l0.length - (x8.toNat + 1))
    case measure => have := HG.out; have := HL2.out; omega
    case rel =>
     have hw : wrap64 (x8 + 1) = x8 + 1 := by have := HK.out; have := HL.out; have := HL2.out; unfold wrap64; omega
     have ht : (x8 + 1).toNat = x8.toNat + 1 := by have := HK.out; omega
     refine ⟨x8 + 1, ?_, ⟨by have := HK.out; have := HL2.out; omega⟩, ⟨by rw [ht]; exact Nat.le_refl _⟩, ⟨?_⟩, HB2⟩
     ·first | rw [hw] | (simp [hw]; done) | go_num
     ·rw [HA.out, HS.out, ht]; rfl
  ·have c4b0 : decide (x8 < (l0.length : Int)) = false := decide_eq_false hlt
   go_wp2
   go_ret
   refine ⟨⟨-1, rfl, ?_⟩, HB.out⟩
   rw [HA.out, List.drop_eq_nil_of_le (by have := HK.out; omega)]; rfl
set_option maxHeartbeats 4000000 in
set_option maxRecDepth 100000 in
theorem api_Range_28.calls (A0 : Option Addr) (c0 : Nat) (l0 : List S35) (a1 : Nat) (r : Bool) (w : World) (hr0 : Kd.C k35 w A0 l0.length l0) (hc0 : l0.length ≤ c0) (h : api_Range_28.f l0 a1 = some r) :
  Calls Try.prog 28 #[.slice A0 l0.length c0, .func (.func a1) #[] #[]] w fun e w' => e = .returned (.bool r) ∧ Below w.heap.size w w' := by
 unfold api_Range_28.f at h
 by_cases c : a1 = 29 ∧ (l0.length : Int) < 9223372036854775807
 ·rw [if_pos c] at h
  obtain ⟨c, hl⟩ := c
  subst c
  obtain rfl := Option.some.inj h
  go_enter Try.func28, Try.ntmps28
  go_wp2_with (go_at_call 39; refine (api_Range_28.index A0 c0 l0 _ hr0 hc0 hl).mono ?_; rintro e w' ⟨⟨i, rfl, hi⟩, hb⟩; have HI := Aside0.mk hi; clear hi)
  go_ret
  exact ⟨by first | rfl | (rw [HI.out]; rfl), hb⟩
 ·rw [if_neg c] at h
  exact absurd h (by simp)


end Go.Proofs.Ytbloljikejinaaa.POptsFit

-- Laid by this claim's own program over the print's words.
import Derived.Test.YtnggabbakhakaaaPIpTurnedx0
import Derived.Test.YtnggabbakhakaaaPIpTurnedx2
import Derived.Test.YtnggabbakhakaaaPIpTurnedx3
import Derived.Test.YtnggabbakhakaaaPIpTurnedx5
namespace Go.Proofs.Ytnggabbakhakaaa.PIpTurned
open Go.RowKit Go.Proofs.YtnggabbakhakaaaW.PrintWords Go.Proofs.YtnggabbakhakaaaW.PrintLast Go.Proofs.YtnggabbakhakaaaW.PrintMore
attribute [local go_sem] max2_int min2_int max_two min_two max_three min_three max_four min_four extract_cut tmod_nat_lit   -- for this text's walks alone
set_option linter.unusedVariables false
set_option linter.unusedSimpArgs false

/-! ### sternpostlaw05_works: function 16 -/
def sternpostlaw05_works.f (k : Nat)  : Option (Bool) := (ip_Encode.f k 10 11 64 6 0 0 false false (⟨#[]⟩ : ByteArray) (⟨#[97, 98]⟩ : ByteArray)).bind fun bt151 => (if bt151.2 = 0 then (if (bt151.1.size : Int) = 22 then (if 0 ≤ 10 then (if 10 ≤ (bt151.1.size : Int) then (if (cutS bt151.1 0 10).toList = ([69, 0, 0, 22, 0, 0, 0, 0, 64, 6] : List UInt8) then (if 12 ≤ (bt151.1.size : Int) then (some ((cutS bt151.1 12 bt151.1.size).toList == ([0, 0, 0, 10, 0, 0, 0, 11, 97, 98] : List UInt8))) else (none)) else (some false)) else (none)) else (none)) else (some false)) else (some false))
theorem sternpostlaw05_works.mono : ∀ k, LeO (sternpostlaw05_works.f k ) (sternpostlaw05_works.f (k + 1) ) := by
 intro  k
 unfold sternpostlaw05_works.f
 repeat' first
   | (with_reducible exact ip_Encode.mono _ _ _ _ _ _ _ _ _ _ _)
   | (with_reducible exact LeO.refl _)
   | (with_reducible exact LeO.none _)
   | (with_reducible refine LeO.ite ?_ ?_)
   | (with_reducible refine LeO.bind ?_ (fun _ => ?_))
   | exact ip_Encode.mono _ _ _ _ _ _ _ _ _ _ _
   | exact LeO.none _
   | refine LeO.ite ?_ ?_
   | refine LeO.bind ?_ (fun _ => ?_)
set_option maxHeartbeats 8000000 in
set_option maxRecDepth 100000 in
theorem sternpostlaw05_works.calls (k : Nat)  (r : Bool) (w : World) (h : sternpostlaw05_works.f k  = some r) :
  Calls Try.prog 16 #[] w fun e w' => e = .returned (.bool r) ∧ Below w.heap.size w w' := by
 have hu23 := Try.underlying23
 have HB := Aside0.mk (Below.refl w.heap.size w)
 have H : ((ip_Encode.f k 10 11 64 6 0 0 false false (⟨#[]⟩ : ByteArray) (⟨#[97, 98]⟩ : ByteArray)).bind fun bt151 => (if bt151.2 = 0 then (if (bt151.1.size : Int) = 22 then (if 0 ≤ 10 then (if 10 ≤ (bt151.1.size : Int) then (if (cutS bt151.1 0 10).toList = ([69, 0, 0, 22, 0, 0, 0, 0, 64, 6] : List UInt8) then (if 12 ≤ (bt151.1.size : Int) then (some ((cutS bt151.1 12 bt151.1.size).toList == ([0, 0, 0, 10, 0, 0, 0, 11, 97, 98] : List UInt8))) else (none)) else (some false)) else (none)) else (none)) else (some false)) else (some false))) = some r := h
 clear h
 replace H := Option.bind_eq_some_iff.mp H
 obtain ⟨⟨t151, t152⟩, A10, H⟩ := H
 replace H : (if t152 = 0 then (if (t151.size : Int) = 22 then (if 0 ≤ 10 then (if 10 ≤ (t151.size : Int) then (if (cutS t151 0 10).toList = ([69, 0, 0, 22, 0, 0, 0, 0, 64, 6] : List UInt8) then (if 12 ≤ (t151.size : Int) then (some ((cutS t151 12 t151.size).toList == ([0, 0, 0, 10, 0, 0, 0, 11, 97, 98] : List UInt8))) else (none)) else (some false)) else (none)) else (none)) else (some false)) else (some false)) = some r := H
 have A1 := Aside0.mk A10
 clear A10
 by_cases c2 : t152 = 0
 ·rw [if_pos c2] at H
  have c2b0 : (t152 == 0) = true := beq_iff_eq.mpr c2
  have c2b1 : (t152 != 0) = false := bne_eq_false_iff_eq.mpr c2
  clear c2
  by_cases c3 : (t151.size : Int) = 22
  ·rw [if_pos c3] at H
   have c3b0 : ((t151.size : Int) == 22) = true := beq_iff_eq.mpr c3
   have c3b1 : ((t151.size : Int) != 22) = false := bne_eq_false_iff_eq.mpr c3
   clear c3
   by_cases c4 : 0 ≤ 10
   ·rw [if_pos c4] at H
    have c4b0 := eq_true c4
    have c4b1 : decide (0 ≤ 10) = true := decide_eq_true c4
    clear c4
    by_cases c5 : 10 ≤ (t151.size : Int)
    ·rw [if_pos c5] at H
     have c5b0 := eq_true c5
     have c5b1 : decide (10 ≤ (t151.size : Int)) = true := decide_eq_true c5
     clear c5
     by_cases c6 : (cutS t151 0 10).toList = ([69, 0, 0, 22, 0, 0, 0, 0, 64, 6] : List UInt8)
     ·rw [if_pos c6] at H
      have c6b0 : ((cutS t151 0 10).toList == ([69, 0, 0, 22, 0, 0, 0, 0, 64, 6] : List UInt8)) = true := beq_iff_eq.mpr c6
      have c6b1 : ((cutS t151 0 10).toList != ([69, 0, 0, 22, 0, 0, 0, 0, 64, 6] : List UInt8)) = false := bne_eq_false_iff_eq.mpr c6
      clear c6
      by_cases c7 : 12 ≤ (t151.size : Int)
      ·rw [if_pos c7] at H
       have c7b0 := eq_true c7
       have c7b1 : decide (12 ≤ (t151.size : Int)) = true := decide_eq_true c7
       clear c7
       obtain rfl := Option.some.inj H
       go_enter Try.func16, Try.ntmps16
       go_wp2_with (first | ((with_reducible refine gate_callee (f := 8) rfl ?_); refine goesL_ (some 5) rfl rfl Try.func8 (by kernel_rfl) rfl #[.agg #[.int .i64 10, .int .i64 11, .int .i64 64, .int .i64 6, .int .i64 0, .int .i64 0, .bool false, .bool false, .string (⟨#[]⟩ : ByteArray), .string (⟨#[97, 98]⟩ : ByteArray)]] rfl (by (try simp only [List.map_toArray, List.map_cons, List.map_nil]); first | done | rfl | (simp only [List.length_drop, List.length_take]; rfl)) ?_; (with_reducible refine (ip_Encode.calls k 10 11 64 6 0 0 false false (⟨#[]⟩ : ByteArray) (⟨#[97, 98]⟩ : ByteArray) t151 t152 _ A1.out).mono ?_); rintro e w8 ⟨rfl, hb⟩; refine ⟨_, rfl, ?_⟩; have n0_ := Aside0.mk (below_step (by repeat (first | (with_reducible first | exact HB.out | apply below_alloc | apply pw_below_drewN | apply below_drew1) | exact HB.out)) hb); clear HB; have HB := n0_; clear n0_; (try clear hb); (try clear hb2); (try clear hk); (try clear hi)))
       go_ret
       exact ⟨by first | rfl | (simp [errW_none, errW_some] <;> rfl) | (simp [*, errW_none, errW_some] <;> rfl), by repeat (first | (with_reducible first | exact HB.out | apply below_alloc | apply pw_below_drewN | apply below_drew1) | exact HB.out)⟩
      ·rw [if_neg c7] at H
       exact absurd H (by simp)
     ·rw [if_neg c6] at H
      have c6b0 : ((cutS t151 0 10).toList == ([69, 0, 0, 22, 0, 0, 0, 0, 64, 6] : List UInt8)) = false := beq_eq_false_iff_ne.mpr c6
      have c6b1 : ((cutS t151 0 10).toList != ([69, 0, 0, 22, 0, 0, 0, 0, 64, 6] : List UInt8)) = true := bne_iff_ne.mpr c6
      obtain rfl := Option.some.inj H
      go_enter Try.func16, Try.ntmps16
      go_wp2_with (first | ((with_reducible refine gate_callee (f := 8) rfl ?_); refine goesL_ (some 5) rfl rfl Try.func8 (by kernel_rfl) rfl #[.agg #[.int .i64 10, .int .i64 11, .int .i64 64, .int .i64 6, .int .i64 0, .int .i64 0, .bool false, .bool false, .string (⟨#[]⟩ : ByteArray), .string (⟨#[97, 98]⟩ : ByteArray)]] rfl (by (try simp only [List.map_toArray, List.map_cons, List.map_nil]); first | done | rfl | (simp only [List.length_drop, List.length_take]; rfl)) ?_; (with_reducible refine (ip_Encode.calls k 10 11 64 6 0 0 false false (⟨#[]⟩ : ByteArray) (⟨#[97, 98]⟩ : ByteArray) t151 t152 _ A1.out).mono ?_); rintro e w9 ⟨rfl, hb⟩; refine ⟨_, rfl, ?_⟩; have n0_ := Aside0.mk (below_step (by repeat (first | (with_reducible first | exact HB.out | apply below_alloc | apply pw_below_drewN | apply below_drew1) | exact HB.out)) hb); clear HB; have HB := n0_; clear n0_; (try clear hb); (try clear hb2); (try clear hk); (try clear hi)))
      go_ret
      exact ⟨by first | rfl | (simp [errW_none, errW_some] <;> rfl) | (simp [*, errW_none, errW_some] <;> rfl), by repeat (first | (with_reducible first | exact HB.out | apply below_alloc | apply pw_below_drewN | apply below_drew1) | exact HB.out)⟩
    ·rw [if_neg c5] at H
     exact absurd H (by simp)
   ·rw [if_neg c4] at H
    exact absurd H (by simp)
  ·rw [if_neg c3] at H
   have c3b0 : ((t151.size : Int) == 22) = false := beq_eq_false_iff_ne.mpr c3
   have c3b1 : ((t151.size : Int) != 22) = true := bne_iff_ne.mpr c3
   obtain rfl := Option.some.inj H
   go_enter Try.func16, Try.ntmps16
   go_wp2_with (first | ((with_reducible refine gate_callee (f := 8) rfl ?_); refine goesL_ (some 5) rfl rfl Try.func8 (by kernel_rfl) rfl #[.agg #[.int .i64 10, .int .i64 11, .int .i64 64, .int .i64 6, .int .i64 0, .int .i64 0, .bool false, .bool false, .string (⟨#[]⟩ : ByteArray), .string (⟨#[97, 98]⟩ : ByteArray)]] rfl (by (try simp only [List.map_toArray, List.map_cons, List.map_nil]); first | done | rfl | (simp only [List.length_drop, List.length_take]; rfl)) ?_; (with_reducible refine (ip_Encode.calls k 10 11 64 6 0 0 false false (⟨#[]⟩ : ByteArray) (⟨#[97, 98]⟩ : ByteArray) t151 t152 _ A1.out).mono ?_); rintro e w10 ⟨rfl, hb⟩; refine ⟨_, rfl, ?_⟩; have n0_ := Aside0.mk (below_step (by repeat (first | (with_reducible first | exact HB.out | apply below_alloc | apply pw_below_drewN | apply below_drew1) | exact HB.out)) hb); clear HB; have HB := n0_; clear n0_; (try clear hb); (try clear hb2); (try clear hk); (try clear hi)))
   go_ret
   exact ⟨by first | rfl | (simp [errW_none, errW_some] <;> rfl) | (simp [*, errW_none, errW_some] <;> rfl), by repeat (first | (with_reducible first | exact HB.out | apply below_alloc | apply pw_below_drewN | apply below_drew1) | exact HB.out)⟩
 ·rw [if_neg c2] at H
  have c2b0 : (t152 == 0) = false := beq_eq_false_iff_ne.mpr c2
  have c2b1 : (t152 != 0) = true := bne_iff_ne.mpr c2
  obtain rfl := Option.some.inj H
  go_enter Try.func16, Try.ntmps16
  go_wp2_with (first | ((with_reducible refine gate_callee (f := 8) rfl ?_); refine goesL_ (some 5) rfl rfl Try.func8 (by kernel_rfl) rfl #[.agg #[.int .i64 10, .int .i64 11, .int .i64 64, .int .i64 6, .int .i64 0, .int .i64 0, .bool false, .bool false, .string (⟨#[]⟩ : ByteArray), .string (⟨#[97, 98]⟩ : ByteArray)]] rfl (by (try simp only [List.map_toArray, List.map_cons, List.map_nil]); first | done | rfl | (simp only [List.length_drop, List.length_take]; rfl)) ?_; (with_reducible refine (ip_Encode.calls k 10 11 64 6 0 0 false false (⟨#[]⟩ : ByteArray) (⟨#[97, 98]⟩ : ByteArray) t151 t152 _ A1.out).mono ?_); rintro e w11 ⟨rfl, hb⟩; refine ⟨_, rfl, ?_⟩; have n0_ := Aside0.mk (below_step (by repeat (first | (with_reducible first | exact HB.out | apply below_alloc | apply pw_below_drewN | apply below_drew1) | exact HB.out)) hb); clear HB; have HB := n0_; clear n0_; (try clear hb); (try clear hb2); (try clear hk); (try clear hi)))
  go_ret
  exact ⟨by first | rfl | (simp [errW_none, errW_some] <;> rfl) | (simp [*, errW_none, errW_some] <;> rfl), by repeat (first | (with_reducible first | exact HB.out | apply below_alloc | apply pw_below_drewN | apply below_drew1) | exact HB.out)⟩


/-! ### sum_Get: function 30 (by hand) -/
def sum_Get.f (a0 : ByteArray) (a1 a2 : Int) : Option (Int × Int) := if a2 < 1 then some (0, 1) else if 6 < a2 then some (0, 1) else if a1 < 0 then some (0, 1) else if wrap64 ((a0.size : Int) - a2) < a1 then some (0, 1) else if 0 ≤ wrap64 (a1 + a2) ∧ a1 ≤ wrap64 (a1 + a2) ∧ wrap64 (a1 + a2) ≤ (a0.size : Int) then some (orNum (cutS a0 a1.toNat (wrap64 (a1 + a2)).toNat).data.toList, 0) else none
set_option maxHeartbeats 1000000 in
set_option maxRecDepth 100000 in
theorem sum_Get.calls (a0 : ByteArray) (a1 a2 : Int) (r1 r2 : Int) (w : World) (h : sum_Get.f a0 a1 a2 = some (r1, r2)) :
  Calls Try.prog 30 #[.string a0, .int .i64 a1, .int .i64 a2] w fun e w' => e = .returned (.tuple #[.int .i64 r1, .int .i64 r2]) ∧ Below w.heap.size w w' := by
 have HB := Aside0.mk (Below.refl w.heap.size w)
 unfold sum_Get.f at h
 by_cases c1 : a2 < 1
 ·rw [if_pos c1] at h
  obtain ⟨rfl, rfl⟩ := Prod.mk.inj (Option.some.inj h)
  clear h
  go_enter Try.func30, Try.ntmps30
  go_wp2
  go_ret2
  exact ⟨rfl, HB.out⟩
 rw [if_neg c1] at h
 have d1 : decide (a2 < 1) = false := decide_eq_false c1
 by_cases c2 : 6 < a2
 ·rw [if_pos c2] at h
  obtain ⟨rfl, rfl⟩ := Prod.mk.inj (Option.some.inj h)
  clear h
  go_enter Try.func30, Try.ntmps30
  go_wp2
  go_ret2
  exact ⟨rfl, HB.out⟩
 rw [if_neg c2] at h
 have d2 : decide (6 < a2) = false := decide_eq_false c2
 by_cases c3 : a1 < 0
 ·rw [if_pos c3] at h
  obtain ⟨rfl, rfl⟩ := Prod.mk.inj (Option.some.inj h)
  clear h
  go_enter Try.func30, Try.ntmps30
  go_wp2
  go_ret2
  exact ⟨rfl, HB.out⟩
 rw [if_neg c3] at h
 have d3 : decide (a1 < 0) = false := decide_eq_false c3
 by_cases c4 : wrap64 ((a0.size : Int) - a2) < a1
 ·rw [if_pos c4] at h
  obtain ⟨rfl, rfl⟩ := Prod.mk.inj (Option.some.inj h)
  clear h
  have d4 : decide (wrap64 ((a0.size : Int) - a2) < a1) = true := decide_eq_true c4
  go_enter Try.func30, Try.ntmps30
  go_wp2
  go_ret2
  exact ⟨rfl, HB.out⟩
 rw [if_neg c4] at h
 have d4 : decide (wrap64 ((a0.size : Int) - a2) < a1) = false := decide_eq_false c4
 by_cases c5 : 0 ≤ wrap64 (a1 + a2) ∧ a1 ≤ wrap64 (a1 + a2) ∧ wrap64 (a1 + a2) ≤ (a0.size : Int)
 ·rw [if_pos c5] at h
  obtain ⟨rfl, rfl⟩ := Prod.mk.inj (Option.some.inj h)
  clear h
  obtain ⟨m, hm⟩ : ∃ m, wrap64 (a1 + a2) = m := ⟨_, rfl⟩
  rw [hm] at c5 ⊢
  obtain ⟨c5, c6, c7⟩ := c5
  have p0 : 0 ≤ a1 := by omega
  have hcv := fun (W : World) (s : ByteArray) => Go.Lib.run_convert_string_bytes (P := Try.prog) W 9 40 5 s Try.underlying9 Try.underlying40 Try.underlying5
  clear c1 c2 c3 c4
  go_enter Try.func30, Try.ntmps30
  go_wp2
  have hm2 : m ≤ 9223372036854775807 := by rw [← hm]; unfold wrap64; omega
  have hsz : (cutS a0 a1.toNat m.toNat).size ≤ 9223372036854775807 := by unfold cutS; rw [ByteArray.size_extract]; omega
  clear hm hm2
  have HBW := Aside0.mk (below_bytes (cutS a0 a1.toNat m.toNat) w 5)
  have HC := fun j hj => Go.Lib.bytesWorld_cell w 5 (cutS a0 a1.toNat m.toNat) j hj
  generalize Lib.bytesWorld w 5 (cutS a0 a1.toNat m.toNat) = W at HBW HC ⊢
  generalize hS : cutS a0 a1.toNat m.toNat = S at hsz HC ⊢
  have HC' := Aside0.mk HC
  have HS0 := Aside0.mk hS
  clear HC hS
  go_loop [8, 37] (fun n i => ∃ k : Nat, k ≤ S.size ∧ i = .int .i64 k ∧ n = .int .i64 (orNum (S.data.toList.take k))) (fun _ i => S.size - (intOf i).toNat)
  case atStart => exact ⟨0, Nat.zero_le _, rfl, rfl⟩
  case round =>
   obtain ⟨k, hk, rfl, rfl⟩ := hrel
   by_cases hlt : k < S.size
   ·have hcell := HC'.out k hlt
    have HS := Aside0.mk (take_snoc S k hlt)
    go_wp2
    go_round
    case rel => exact ⟨k + 1, by omega, by go_num, by rw [HS.out, orNum_snoc]; simp [List.getD, hlt]⟩
    case measure => simp [intOf]; omega
   ·go_wp2
    go_ret2
    exact ⟨by rw [HS0.out, List.take_of_length_le (by simp; omega)]; rfl, HBW.out⟩
 ·rw [if_neg c5] at h
  cases h


/-! ### sum_Whole: function 31 -/
def sum_Whole.f (k : Nat) (a0 : ByteArray) : Option (Bool) := (sum_total.f k (([a0] : List ByteArray))).bind fun t156 => (some (t156 == 65535))
theorem sum_Whole.mono : ∀ a0 k, LeO (sum_Whole.f k a0) (sum_Whole.f (k + 1) a0) := by
 intro a0 k
 unfold sum_Whole.f
 repeat' first
   | (with_reducible exact sum_total.mono _ _)
   | (with_reducible exact LeO.refl _)
   | (with_reducible exact LeO.none _)
   | (with_reducible refine LeO.ite ?_ ?_)
   | (with_reducible refine LeO.bind ?_ (fun _ => ?_))
   | exact sum_total.mono _ _
   | exact LeO.none _
   | refine LeO.ite ?_ ?_
   | refine LeO.bind ?_ (fun _ => ?_)
set_option maxHeartbeats 8000000 in
set_option maxRecDepth 100000 in
theorem sum_Whole.calls (k : Nat) (a0 : ByteArray) (r : Bool) (w : World) (h : sum_Whole.f k a0 = some r) :
  Calls Try.prog 31 #[.string a0] w fun e w' => e = .returned (.bool r) ∧ Below w.heap.size w w' := by
 have HB := Aside0.mk (Below.refl w.heap.size w)
 have H : ((sum_total.f k (([a0] : List ByteArray))).bind fun t156 => (some (t156 == 65535))) = some r := h
 clear h
 obtain ⟨y153, hy153⟩ : ∃ y_ : List ByteArray, y_ = (([a0] : List ByteArray)) := ⟨_, rfl⟩
 replace H : ((sum_total.f k y153).bind fun t156 => (some (t156 == 65535))) = some r := by first | (rw [hy153]; with_reducible exact H) | (have H2_ := (Option.bind_some _ _).symm.trans H; rw [hy153]; with_reducible exact H2_) | (have H2_ := (Option.bind_some _ _).symm.trans H; with_reducible exact H2_) | with_reducible exact H | (rw [hy153]; exact H) | exact H
 have Ny153 := Aside0.mk hy153
 clear hy153
 replace H := Option.bind_eq_some_iff.mp H
 obtain ⟨t156, A20, H⟩ := H
 replace H : (some (t156 == 65535)) = some r := H
 have A2 := Aside0.mk A20
 clear A20
 obtain rfl := Option.some.inj H
 go_enter Try.func31, Try.ntmps31
 go_wp2_with (first | ((with_reducible refine gate_dst (N := 4) rfl ?_); refine Kd.R_lit Kd.string _ 9 ?hg (N := 4) ?hd (xs := ([a0] : List ByteArray)) (inner := [.string a0]) (ok := fun _ => True) (okp := fun _ => True) ?hr ?hp (fun _ hk => hk) trivial (Below.refl _ _) (Nat.le_refl _) (by simp) ?_; (case hd => rfl); (case hg => rfl); (case hr => first | (go_simp; done) | (go_simp; rfl)); (case hp => exact (Reps.one (show Kd.M Kd.string _ _ _ a0 [.string a0] from rfl) (Reps.none _ _))); intro v154 w3 ho4 hb hg_ hnew_; clear hg_ hnew_; (first | rw [← Ny153.out] at ho4 | (simp only [Int.reduceToNat] at ho4; rw [← Ny153.out] at ho4)); have n0_ := Aside0.mk (Kd.R_lower ho4 (below_size (by repeat (first | (with_reducible first | exact HB.out | apply below_alloc | apply pw_below_drewN | apply below_drew1) | exact HB.out)))); have n1_ := Aside0.mk (below_step (by repeat (first | (with_reducible first | exact HB.out | apply below_alloc | apply pw_below_drewN | apply below_drew1) | exact HB.out)) hb); clear HB; have HO155 := n0_; have HB := n1_; clear n0_ n1_; clear hb ho4; obtain ⟨Ao5, co5, eo5⟩ := Kd.R_slice HO155.out; subst eo5) | ((with_reducible refine gate_callee (f := 35) rfl ?_); refine goesL_ (some 5) rfl rfl Try.func35 (by kernel_rfl) rfl #[.slice Ao5 y153.length co5] rfl (by (try simp only [List.map_toArray, List.map_cons, List.map_nil]); first | done | rfl | (simp only [List.length_drop, List.length_take]; rfl)) ?_; (with_reducible refine (sum_total.calls k _ _ y153 t156 _ ?side1 ?side2 A2.out).mono ?_); (case side1 => repeat (first | exact (Kd.R_reads' HO155.out).2.2 | (with_reducible refine Kd.C_alloc ?_ _) | (with_reducible refine Kd.C_drewN ?_ _) | (with_reducible refine Kd.C_drew ?_))); (case side2 => exact (Kd.R_reads' HO155.out).2.1); rintro e w' ⟨rfl, ⟨nd, rfl⟩⟩; refine ⟨_, rfl, ?_⟩))
 go_ret
 exact ⟨by first | rfl | (simp [errW_none, errW_some] <;> rfl) | (simp [*, errW_none, errW_some] <;> rfl), by repeat (first | (with_reducible first | exact HB.out | apply below_alloc | apply pw_below_drewN | apply below_drew1) | exact HB.out)⟩


/-! ### ip_Decode: function 18 (by hand) -/
set_option maxHeartbeats 1000000 in
set_option maxRecDepth 100000 in
theorem ip_Decode.get (a0 : ByteArray) (g : Nat) (a1 a2 : Int) (r1 r2 : Int) (w : World) (hb : w.heap[g]? = some (.cells #[.string a0] 9 (0, 0))) (h : sum_Get.f a0 a1 a2 = some (r1, r2)) :
  Calls Try.prog 29 #[.int .i64 a1, .int .i64 a2, .pointer (some ⟨g, 0, none⟩)] w fun e w' => e = .returned (.int .i64 r1) ∧ Below w.heap.size w w' := by
 have hcz : w.cell? ⟨g, 0, none⟩ = some (.string a0) := (blk_cell hb 0).trans rfl
 go_enter Try.func29, Try.ntmps29
 go_wp2_with fail
 refine (sum_Get.calls a0 a1 a2 r1 r2 _ h).mono ?_
 rintro e w3 ⟨rfl, hb3⟩
 go_wp2
 go_ret
 exact ⟨by first | rfl | simp, hb3⟩
def ip_Decode.f (k : Nat) (a0 : ByteArray) : Option (Int × Int × Int × Int × Int × Int × Bool × Bool × ByteArray × ByteArray × Int) :=
 if (a0.size : Int) < 20 then some (0, 0, 0, 0, 0, 0, false, false, (⟨#[]⟩ : ByteArray), (⟨#[]⟩ : ByteArray), 50) else if bt a0 0 / 16 = 4 then
 (sum_Get.f a0 2 2).bind fun g1 =>
 if (wrap64 ((wrap64 (Go.bits .and .u8 (bt a0 0) 15)) * 4)) < 20 then some (0, 0, 0, 0, 0, 0, false, false, (⟨#[]⟩ : ByteArray), (⟨#[]⟩ : ByteArray), 50) else if (wrap64 ((wrap64 (Go.bits .and .u8 (bt a0 0) 15)) * 4)) > (a0.size : Int) then some (0, 0, 0, 0, 0, 0, false, false, (⟨#[]⟩ : ByteArray), (⟨#[]⟩ : ByteArray), 50) else if g1.1 < (wrap64 ((wrap64 (Go.bits .and .u8 (bt a0 0) 15)) * 4)) then some (0, 0, 0, 0, 0, 0, false, false, (⟨#[]⟩ : ByteArray), (⟨#[]⟩ : ByteArray), 50) else if g1.1 > (a0.size : Int) then some (0, 0, 0, 0, 0, 0, false, false, (⟨#[]⟩ : ByteArray), (⟨#[]⟩ : ByteArray), 50) else
 (sum_Whole.f k (cutS a0 0 (wrap64 ((wrap64 (Go.bits .and .u8 (bt a0 0) 15)) * 4)).toNat)).bind fun wh => if wh = true then
(sum_Get.f a0 6 2).bind fun g2 => (sum_Get.f a0 12 4).bind fun g3 => (sum_Get.f a0 16 4).bind fun g4 => (sum_Get.f a0 8 1).bind fun g5 => (sum_Get.f a0 9 1).bind fun g6 => (sum_Get.f a0 4 2).bind fun g7 => if bt a0 1 > 0 then some (0, 0, 0, 0, 0, 0, false, false, (⟨#[]⟩ : ByteArray), (⟨#[]⟩ : ByteArray), 50) else if (Go.bits .and .i64 g2.1 32768) > 0 then some (0, 0, 0, 0, 0, 0, false, false, (⟨#[]⟩ : ByteArray), (⟨#[]⟩ : ByteArray), 50) else (ip_Check.f k g3.1 g4.1 g5.1 g6.1 g7.1 (Go.bits .and .i64 g2.1 8191) (decide ((Go.bits .and .i64 g2.1 8192) > 0)) (decide ((Go.bits .and .i64 g2.1 16384) > 0)) (cutS a0 20 (wrap64 ((wrap64 (Go.bits .and .u8 (bt a0 0) 15)) * 4)).toNat) (cutS a0 (wrap64 ((wrap64 (Go.bits .and .u8 (bt a0 0) 15)) * 4)).toNat g1.1.toNat)).bind fun c => if c = 0 then some (g3.1, g4.1, g5.1, g6.1, g7.1, (Go.bits .and .i64 g2.1 8191), decide ((Go.bits .and .i64 g2.1 8192) > 0), decide ((Go.bits .and .i64 g2.1 16384) > 0), cutS a0 20 (wrap64 ((wrap64 (Go.bits .and .u8 (bt a0 0) 15)) * 4)).toNat, cutS a0 (wrap64 ((wrap64 (Go.bits .and .u8 (bt a0 0) 15)) * 4)).toNat g1.1.toNat, 0) else some (0, 0, 0, 0, 0, 0, false, false, (⟨#[]⟩ : ByteArray), (⟨#[]⟩ : ByteArray), 50)
  else some (0, 0, 0, 0, 0, 0, false, false, (⟨#[]⟩ : ByteArray), (⟨#[]⟩ : ByteArray), 20)
 else some (0, 0, 0, 0, 0, 0, false, false, (⟨#[]⟩ : ByteArray), (⟨#[]⟩ : ByteArray), 50)

theorem ip_Decode.mono : ∀ a0 k, LeO (ip_Decode.f k a0) (ip_Decode.f (k + 1) a0) := by
 intro a0 k
 unfold ip_Decode.f
 exact LeO.ite (LeO.refl _) (LeO.ite (LeO.bind (LeO.refl _) fun _ => LeO.ite (LeO.refl _) (LeO.ite (LeO.refl _) (LeO.ite (LeO.refl _) (LeO.ite (LeO.refl _) (LeO.bind (sum_Whole.mono _ _) fun _ => LeO.ite (LeO.bind (LeO.refl _) fun _ => LeO.bind (LeO.refl _) fun _ => LeO.bind (LeO.refl _) fun _ => LeO.bind (LeO.refl _) fun _ => LeO.bind (LeO.refl _) fun _ => LeO.bind (LeO.refl _) fun _ => LeO.ite (LeO.refl _) (LeO.ite (LeO.refl _) (LeO.bind (ip_Check.mono _ _ _ _ _ _ _ _ _ _ _) fun _ => LeO.refl _))) (LeO.refl _)))))) (LeO.refl _))
set_option maxHeartbeats 8000000 in
set_option maxRecDepth 100000 in
theorem ip_Decode.calls (k : Nat) (a0 : ByteArray) (r1 : Int) (r2 : Int) (r3 : Int) (r4 : Int) (r5 : Int) (r6 : Int) (r7 : Bool) (r8 : Bool) (r9 : ByteArray) (r10 : ByteArray) (r11 : Int) (w : World) (h : ip_Decode.f k a0 = some (r1, r2, r3, r4, r5, r6, r7, r8, r9, r10, r11)) :
  Calls Try.prog 18 #[.string a0] w fun e w' => e = .returned (.tuple #[.agg #[.int .i64 r1, .int .i64 r2, .int .i64 r3, .int .i64 r4, .int .i64 r5, .int .i64 r6, .bool r7, .bool r8, .string r9, .string r10], .int .i64 r11]) ∧ Below w.heap.size w w' := by
 have hu23 := Try.underlying23
 have HB := Aside0.mk (Below.refl w.heap.size w)
 have hmf : ∀ (fn : Fn) (first cap : Array Value) (w : World), (Instr.makeFunc fn first cap).run Try.prog w = .ok (.func fn first cap) w := fun _ _ _ _ => rfl
 unfold ip_Decode.f at h
 by_cases c1 : (a0.size : Int) < 20
 ·rw [if_pos c1] at h
  simp only [Option.some.injEq, Prod.mk.injEq] at h
  obtain ⟨rfl, rfl, rfl, rfl, rfl, rfl, rfl, rfl, rfl, rfl, rfl⟩ := h
  go_enter Try.func18, Try.ntmps18
  go_wp2_with (first | ((with_reducible refine gate_dst (N := 1) rfl ?_); refine box_event ?hg (N := 1) ?hd (cs := #[.string a0]) (t := 9) ?hr ?_; (case hd => rfl); (case hg => rfl); (case hr => first | (go_simp; done) | (go_simp; rfl)); intro gs hg w1 hbox hb; have n0_ := Aside0.mk (below_step HB.out hb); have BS := Aside0.mk hbox; have GS := Aside0.mk ((by rw [hg]; exact below_size HB.out) : w.heap.size ≤ gs); clear HB; have HB := n0_; clear n0_ hb hbox hg) | ((with_reducible refine gate_dst (N := 2) rfl ?_); refine box_event ?hg (N := 2) ?hd (cs := #[.int .i64 0, .int .i64 0, .int .i64 0, .int .i64 0, .int .i64 0, .int .i64 0, .bool false, .bool false, .string (⟨#[]⟩ : ByteArray), .string (⟨#[]⟩ : ByteArray)]) (t := 23) ?hr ?_; (case hd => rfl); (case hg => rfl); (case hr => first | (go_simp; done) | (go_simp; rfl)); intro gr hg w2 hbox hb; have NB := Aside0.mk ((by rw [hg]; exact Nat.ne_of_lt (blk_lt BS.out)) : gs ≠ gr); have n1_ := Aside0.mk (blk_below BS.out hb); clear BS; have BS := n1_; have n0_ := Aside0.mk (below_step HB.out hb); have BR := Aside0.mk hbox; have GR := Aside0.mk ((by rw [hg]; exact below_size HB.out) : w.heap.size ≤ gr); clear HB; have HB := n0_; clear n0_ n1_ hb hbox hg; have hnb := NB.out; have hnc := Ne.symm NB.out; have hsc0 : w2.cell? ⟨gs, 0, none⟩ = some (.string a0) := (blk_cell BS.out 0).trans rfl; have hsf0 := blk_frozen BS.out 0; have hrc0 : w2.cell? ⟨gr, 0, none⟩ = some (.int .i64 0) := (blk_cell BR.out 0).trans rfl; have hrf0 := blk_frozen BR.out 0; have hrc1 : w2.cell? ⟨gr, 1, none⟩ = some (.int .i64 0) := (blk_cell BR.out 1).trans rfl; have hrf1 := blk_frozen BR.out 1; have hrc2 : w2.cell? ⟨gr, 2, none⟩ = some (.int .i64 0) := (blk_cell BR.out 2).trans rfl; have hrf2 := blk_frozen BR.out 2; have hrc3 : w2.cell? ⟨gr, 3, none⟩ = some (.int .i64 0) := (blk_cell BR.out 3).trans rfl; have hrf3 := blk_frozen BR.out 3; have hrc4 : w2.cell? ⟨gr, 4, none⟩ = some (.int .i64 0) := (blk_cell BR.out 4).trans rfl; have hrf4 := blk_frozen BR.out 4; have hrc5 : w2.cell? ⟨gr, 5, none⟩ = some (.int .i64 0) := (blk_cell BR.out 5).trans rfl; have hrf5 := blk_frozen BR.out 5; have hrc6 : w2.cell? ⟨gr, 6, none⟩ = some (.bool false) := (blk_cell BR.out 6).trans rfl; have hrf6 := blk_frozen BR.out 6; have hrc7 : w2.cell? ⟨gr, 7, none⟩ = some (.bool false) := (blk_cell BR.out 7).trans rfl; have hrf7 := blk_frozen BR.out 7; have hrc8 : w2.cell? ⟨gr, 8, none⟩ = some (.string (⟨#[]⟩ : ByteArray)) := (blk_cell BR.out 8).trans rfl; have hrf8 := blk_frozen BR.out 8; have hrc9 : w2.cell? ⟨gr, 9, none⟩ = some (.string (⟨#[]⟩ : ByteArray)) := (blk_cell BR.out 9).trans rfl; have hrf9 := blk_frozen BR.out 9))
  refine bodyPost_ret (results_ct rfl _ _ gr 23 #[.int .i64 0, .int .i64 0, .int .i64 0, .int .i64 0, .int .i64 0, .int .i64 0, .bool false, .bool false, .string (⟨#[]⟩ : ByteArray), .string (⟨#[]⟩ : ByteArray)] (0, 0) _ rfl (by (with_reducible repeat (first | refine blk_drewN ?_ _ | refine blk_drew ?_ | refine blk_alloc ?_ _)); refine blk_put (cs := #[.int .i64 0, .int .i64 0, .int .i64 0, .int .i64 0, .int .i64 0, .int .i64 0, .bool false, .bool false, .string (⟨#[]⟩ : ByteArray), .string (⟨#[]⟩ : ByteArray)]) ?_ 9 _ rfl; refine blk_put (cs := #[.int .i64 0, .int .i64 0, .int .i64 0, .int .i64 0, .int .i64 0, .int .i64 0, .bool false, .bool false, .string (⟨#[]⟩ : ByteArray), .string (⟨#[]⟩ : ByteArray)]) ?_ 8 _ rfl; refine blk_put (cs := #[.int .i64 0, .int .i64 0, .int .i64 0, .int .i64 0, .int .i64 0, .int .i64 0, .bool false, .bool false, .string (⟨#[]⟩ : ByteArray), .string (⟨#[]⟩ : ByteArray)]) ?_ 7 _ rfl; refine blk_put (cs := #[.int .i64 0, .int .i64 0, .int .i64 0, .int .i64 0, .int .i64 0, .int .i64 0, .bool false, .bool false, .string (⟨#[]⟩ : ByteArray), .string (⟨#[]⟩ : ByteArray)]) ?_ 6 _ rfl; refine blk_put (cs := #[.int .i64 0, .int .i64 0, .int .i64 0, .int .i64 0, .int .i64 0, .int .i64 0, .bool false, .bool false, .string (⟨#[]⟩ : ByteArray), .string (⟨#[]⟩ : ByteArray)]) ?_ 5 _ rfl; refine blk_put (cs := #[.int .i64 0, .int .i64 0, .int .i64 0, .int .i64 0, .int .i64 0, .int .i64 0, .bool false, .bool false, .string (⟨#[]⟩ : ByteArray), .string (⟨#[]⟩ : ByteArray)]) ?_ 4 _ rfl; refine blk_put (cs := #[.int .i64 0, .int .i64 0, .int .i64 0, .int .i64 0, .int .i64 0, .int .i64 0, .bool false, .bool false, .string (⟨#[]⟩ : ByteArray), .string (⟨#[]⟩ : ByteArray)]) ?_ 3 _ rfl; refine blk_put (cs := #[.int .i64 0, .int .i64 0, .int .i64 0, .int .i64 0, .int .i64 0, .int .i64 0, .bool false, .bool false, .string (⟨#[]⟩ : ByteArray), .string (⟨#[]⟩ : ByteArray)]) ?_ 2 _ rfl; refine blk_put (cs := #[.int .i64 0, .int .i64 0, .int .i64 0, .int .i64 0, .int .i64 0, .int .i64 0, .bool false, .bool false, .string (⟨#[]⟩ : ByteArray), .string (⟨#[]⟩ : ByteArray)]) ?_ 1 _ rfl; refine blk_put (cs := #[.int .i64 0, .int .i64 0, .int .i64 0, .int .i64 0, .int .i64 0, .int .i64 0, .bool false, .bool false, .string (⟨#[]⟩ : ByteArray), .string (⟨#[]⟩ : ByteArray)]) ?_ 0 _ rfl; (with_reducible repeat (first | refine blk_drewN ?_ _ | refine blk_drew ?_ | refine blk_alloc ?_ _)); exact BR.out) Try.underlying23 rfl (by kernel_rfl)) rfl ?_
  exact ⟨by first | rfl | (simp; done) | (simp [*]; done), by repeat (first | (with_reducible first | exact HB.out | apply below_alloc | apply pw_below_drewN | apply below_drew1 | refine below_set ?_ GR.out) | exact HB.out)⟩
 rw [if_neg c1] at h
 have d1 : decide ((a0.size : Int) < 20) = false := decide_eq_false c1
 have q0 : (0 < a0.size) = True := eq_true (by omega)
 have q1 : (1 < a0.size) = True := eq_true (by omega)
 have hx0 : ∀ h : 0 < a0.size, ((a0[0]'h).toNat : Int) = bt a0 0 := bt_at a0 0
 have hx1 : ∀ h : 1 < a0.size, ((a0[1]'h).toNat : Int) = bt a0 1 := bt_at a0 1
 by_cases c2 : bt a0 0 / 16 = 4
 case neg =>
  rw [if_neg c2] at h
  simp only [Option.some.injEq, Prod.mk.injEq] at h
  obtain ⟨rfl, rfl, rfl, rfl, rfl, rfl, rfl, rfl, rfl, rfl, rfl⟩ := h
  have d2 : (bt a0 0 / 16 != 4) = true := bne_iff_ne.mpr c2
  clear c2
  go_enter Try.func18, Try.ntmps18
  go_wp2_with (first | ((with_reducible refine gate_dst (N := 1) rfl ?_); refine box_event ?hg (N := 1) ?hd (cs := #[.string a0]) (t := 9) ?hr ?_; (case hd => rfl); (case hg => rfl); (case hr => first | (go_simp; done) | (go_simp; rfl)); intro gs hg w1 hbox hb; have n0_ := Aside0.mk (below_step HB.out hb); have BS := Aside0.mk hbox; have GS := Aside0.mk ((by rw [hg]; exact below_size HB.out) : w.heap.size ≤ gs); clear HB; have HB := n0_; clear n0_ hb hbox hg) | ((with_reducible refine gate_dst (N := 2) rfl ?_); refine box_event ?hg (N := 2) ?hd (cs := #[.int .i64 0, .int .i64 0, .int .i64 0, .int .i64 0, .int .i64 0, .int .i64 0, .bool false, .bool false, .string (⟨#[]⟩ : ByteArray), .string (⟨#[]⟩ : ByteArray)]) (t := 23) ?hr ?_; (case hd => rfl); (case hg => rfl); (case hr => first | (go_simp; done) | (go_simp; rfl)); intro gr hg w2 hbox hb; have NB := Aside0.mk ((by rw [hg]; exact Nat.ne_of_lt (blk_lt BS.out)) : gs ≠ gr); have n1_ := Aside0.mk (blk_below BS.out hb); clear BS; have BS := n1_; have n0_ := Aside0.mk (below_step HB.out hb); have BR := Aside0.mk hbox; have GR := Aside0.mk ((by rw [hg]; exact below_size HB.out) : w.heap.size ≤ gr); clear HB; have HB := n0_; clear n0_ n1_ hb hbox hg; have hnb := NB.out; have hnc := Ne.symm NB.out; have hsc0 : w2.cell? ⟨gs, 0, none⟩ = some (.string a0) := (blk_cell BS.out 0).trans rfl; have hsf0 := blk_frozen BS.out 0; have hrc0 : w2.cell? ⟨gr, 0, none⟩ = some (.int .i64 0) := (blk_cell BR.out 0).trans rfl; have hrf0 := blk_frozen BR.out 0; have hrc1 : w2.cell? ⟨gr, 1, none⟩ = some (.int .i64 0) := (blk_cell BR.out 1).trans rfl; have hrf1 := blk_frozen BR.out 1; have hrc2 : w2.cell? ⟨gr, 2, none⟩ = some (.int .i64 0) := (blk_cell BR.out 2).trans rfl; have hrf2 := blk_frozen BR.out 2; have hrc3 : w2.cell? ⟨gr, 3, none⟩ = some (.int .i64 0) := (blk_cell BR.out 3).trans rfl; have hrf3 := blk_frozen BR.out 3; have hrc4 : w2.cell? ⟨gr, 4, none⟩ = some (.int .i64 0) := (blk_cell BR.out 4).trans rfl; have hrf4 := blk_frozen BR.out 4; have hrc5 : w2.cell? ⟨gr, 5, none⟩ = some (.int .i64 0) := (blk_cell BR.out 5).trans rfl; have hrf5 := blk_frozen BR.out 5; have hrc6 : w2.cell? ⟨gr, 6, none⟩ = some (.bool false) := (blk_cell BR.out 6).trans rfl; have hrf6 := blk_frozen BR.out 6; have hrc7 : w2.cell? ⟨gr, 7, none⟩ = some (.bool false) := (blk_cell BR.out 7).trans rfl; have hrf7 := blk_frozen BR.out 7; have hrc8 : w2.cell? ⟨gr, 8, none⟩ = some (.string (⟨#[]⟩ : ByteArray)) := (blk_cell BR.out 8).trans rfl; have hrf8 := blk_frozen BR.out 8; have hrc9 : w2.cell? ⟨gr, 9, none⟩ = some (.string (⟨#[]⟩ : ByteArray)) := (blk_cell BR.out 9).trans rfl; have hrf9 := blk_frozen BR.out 9))
  refine bodyPost_ret (results_ct rfl _ _ gr 23 #[.int .i64 0, .int .i64 0, .int .i64 0, .int .i64 0, .int .i64 0, .int .i64 0, .bool false, .bool false, .string (⟨#[]⟩ : ByteArray), .string (⟨#[]⟩ : ByteArray)] (0, 0) _ rfl (by (with_reducible repeat (first | refine blk_drewN ?_ _ | refine blk_drew ?_ | refine blk_alloc ?_ _)); refine blk_put (cs := #[.int .i64 0, .int .i64 0, .int .i64 0, .int .i64 0, .int .i64 0, .int .i64 0, .bool false, .bool false, .string (⟨#[]⟩ : ByteArray), .string (⟨#[]⟩ : ByteArray)]) ?_ 9 _ rfl; refine blk_put (cs := #[.int .i64 0, .int .i64 0, .int .i64 0, .int .i64 0, .int .i64 0, .int .i64 0, .bool false, .bool false, .string (⟨#[]⟩ : ByteArray), .string (⟨#[]⟩ : ByteArray)]) ?_ 8 _ rfl; refine blk_put (cs := #[.int .i64 0, .int .i64 0, .int .i64 0, .int .i64 0, .int .i64 0, .int .i64 0, .bool false, .bool false, .string (⟨#[]⟩ : ByteArray), .string (⟨#[]⟩ : ByteArray)]) ?_ 7 _ rfl; refine blk_put (cs := #[.int .i64 0, .int .i64 0, .int .i64 0, .int .i64 0, .int .i64 0, .int .i64 0, .bool false, .bool false, .string (⟨#[]⟩ : ByteArray), .string (⟨#[]⟩ : ByteArray)]) ?_ 6 _ rfl; refine blk_put (cs := #[.int .i64 0, .int .i64 0, .int .i64 0, .int .i64 0, .int .i64 0, .int .i64 0, .bool false, .bool false, .string (⟨#[]⟩ : ByteArray), .string (⟨#[]⟩ : ByteArray)]) ?_ 5 _ rfl; refine blk_put (cs := #[.int .i64 0, .int .i64 0, .int .i64 0, .int .i64 0, .int .i64 0, .int .i64 0, .bool false, .bool false, .string (⟨#[]⟩ : ByteArray), .string (⟨#[]⟩ : ByteArray)]) ?_ 4 _ rfl; refine blk_put (cs := #[.int .i64 0, .int .i64 0, .int .i64 0, .int .i64 0, .int .i64 0, .int .i64 0, .bool false, .bool false, .string (⟨#[]⟩ : ByteArray), .string (⟨#[]⟩ : ByteArray)]) ?_ 3 _ rfl; refine blk_put (cs := #[.int .i64 0, .int .i64 0, .int .i64 0, .int .i64 0, .int .i64 0, .int .i64 0, .bool false, .bool false, .string (⟨#[]⟩ : ByteArray), .string (⟨#[]⟩ : ByteArray)]) ?_ 2 _ rfl; refine blk_put (cs := #[.int .i64 0, .int .i64 0, .int .i64 0, .int .i64 0, .int .i64 0, .int .i64 0, .bool false, .bool false, .string (⟨#[]⟩ : ByteArray), .string (⟨#[]⟩ : ByteArray)]) ?_ 1 _ rfl; refine blk_put (cs := #[.int .i64 0, .int .i64 0, .int .i64 0, .int .i64 0, .int .i64 0, .int .i64 0, .bool false, .bool false, .string (⟨#[]⟩ : ByteArray), .string (⟨#[]⟩ : ByteArray)]) ?_ 0 _ rfl; (with_reducible repeat (first | refine blk_drewN ?_ _ | refine blk_drew ?_ | refine blk_alloc ?_ _)); exact BR.out) Try.underlying23 rfl (by kernel_rfl)) rfl ?_
  exact ⟨by first | rfl | (simp; done) | (simp [*]; done), by repeat (first | (with_reducible first | exact HB.out | apply below_alloc | apply pw_below_drewN | apply below_drew1 | refine below_set ?_ GR.out) | exact HB.out)⟩
 case pos =>
  rw [if_pos c2] at h
  have d2 : (bt a0 0 / 16 != 4) = false := bne_eq_false_iff_eq.mpr c2
  clear c1 c2
  obtain ⟨⟨g1, e1⟩, hg1, h⟩ := Option.bind_eq_some_iff.mp h
  have G1 := Aside0.mk hg1
  clear hg1
  have HT := Aside0.mk h
  clear h
  go_enter Try.func18, Try.ntmps18
  go_wp2_with (first | ((with_reducible refine gate_dst (N := 1) rfl ?_); refine box_event ?hg (N := 1) ?hd (cs := #[.string a0]) (t := 9) ?hr ?_; (case hd => rfl); (case hg => rfl); (case hr => first | (go_simp; done) | (go_simp; rfl)); intro gs hg w1 hbox hb; have n0_ := Aside0.mk (below_step HB.out hb); have BS := Aside0.mk hbox; have GS := Aside0.mk ((by rw [hg]; exact below_size HB.out) : w.heap.size ≤ gs); clear HB; have HB := n0_; clear n0_ hb hbox hg) | ((with_reducible refine gate_dst (N := 2) rfl ?_); refine box_event ?hg (N := 2) ?hd (cs := #[.int .i64 0, .int .i64 0, .int .i64 0, .int .i64 0, .int .i64 0, .int .i64 0, .bool false, .bool false, .string (⟨#[]⟩ : ByteArray), .string (⟨#[]⟩ : ByteArray)]) (t := 23) ?hr ?_; (case hd => rfl); (case hg => rfl); (case hr => first | (go_simp; done) | (go_simp; rfl)); intro gr hg w2 hbox hb; have NB := Aside0.mk ((by rw [hg]; exact Nat.ne_of_lt (blk_lt BS.out)) : gs ≠ gr); have n1_ := Aside0.mk (blk_below BS.out hb); clear BS; have BS := n1_; have n0_ := Aside0.mk (below_step HB.out hb); have BR := Aside0.mk hbox; have GR := Aside0.mk ((by rw [hg]; exact below_size HB.out) : w.heap.size ≤ gr); clear HB; have HB := n0_; clear n0_ n1_ hb hbox hg; have hnb := NB.out; have hnc := Ne.symm NB.out; have hsc0 : w2.cell? ⟨gs, 0, none⟩ = some (.string a0) := (blk_cell BS.out 0).trans rfl; have hsf0 := blk_frozen BS.out 0; have hrc0 : w2.cell? ⟨gr, 0, none⟩ = some (.int .i64 0) := (blk_cell BR.out 0).trans rfl; have hrf0 := blk_frozen BR.out 0; have hrc1 : w2.cell? ⟨gr, 1, none⟩ = some (.int .i64 0) := (blk_cell BR.out 1).trans rfl; have hrf1 := blk_frozen BR.out 1; have hrc2 : w2.cell? ⟨gr, 2, none⟩ = some (.int .i64 0) := (blk_cell BR.out 2).trans rfl; have hrf2 := blk_frozen BR.out 2; have hrc3 : w2.cell? ⟨gr, 3, none⟩ = some (.int .i64 0) := (blk_cell BR.out 3).trans rfl; have hrf3 := blk_frozen BR.out 3; have hrc4 : w2.cell? ⟨gr, 4, none⟩ = some (.int .i64 0) := (blk_cell BR.out 4).trans rfl; have hrf4 := blk_frozen BR.out 4; have hrc5 : w2.cell? ⟨gr, 5, none⟩ = some (.int .i64 0) := (blk_cell BR.out 5).trans rfl; have hrf5 := blk_frozen BR.out 5; have hrc6 : w2.cell? ⟨gr, 6, none⟩ = some (.bool false) := (blk_cell BR.out 6).trans rfl; have hrf6 := blk_frozen BR.out 6; have hrc7 : w2.cell? ⟨gr, 7, none⟩ = some (.bool false) := (blk_cell BR.out 7).trans rfl; have hrf7 := blk_frozen BR.out 7; have hrc8 : w2.cell? ⟨gr, 8, none⟩ = some (.string (⟨#[]⟩ : ByteArray)) := (blk_cell BR.out 8).trans rfl; have hrf8 := blk_frozen BR.out 8; have hrc9 : w2.cell? ⟨gr, 9, none⟩ = some (.string (⟨#[]⟩ : ByteArray)) := (blk_cell BR.out 9).trans rfl; have hrf9 := blk_frozen BR.out 9))
  have G4 := fun (W : World) (hb : W.heap[gs]? = some (.cells #[.string a0] 9 (0, 0))) => ip_Decode.get a0 gs 2 2 g1 e1 W hb G1.out
  have same : ∀ W', Below w2.heap.size w2 W' → Below W'.heap.size W' W' := fun W' _ => Below.refl _ _
  refine AnyOrder.region_then 9 (C := fun W' => Below w2.heap.size w2 W') (G := fun W1 W2 => Below W1.heap.size W1 W2) (T := []) (R := fun _ _ _ => True) (vs := [.string a0, .int .u8 (bt a0 0), .int .u8 (Go.bits .and .u8 (bt a0 0) 15), .int .i64 (wrap64 (Go.bits .and .u8 (bt a0 0) 15)), .int .i64 (wrap64 ((wrap64 (Go.bits .and .u8 (bt a0 0) 15)) * 4)), (.func (.func 29) #[] #[.pointer (some ⟨gs, 0, none⟩)]), .int .i64 g1, .int .i64 (wrap64 ((wrap64 (Go.bits .and .u8 (bt a0 0) 15)) * 4)), .int .i64 g1]) (by kernel_rfl) rfl (by kernel_rfl) (below_drew1 (Below.refl _ _)) same (fun _ _ _ _ _ _ => trivial) (fun x => ?obs) ?fin
  case obs =>
   refine AnyOrder.obs_cons (.string a0) rfl (AnyOrder.ob_quiet (d := 20) rfl (show (20 : Nat) < 98 by omega) rfl rfl same (fun _ => ⟨_, rfl⟩) ?_) ?_
   ·refine ⟨_, fun W' hW => ?_, rfl⟩; have hcz := (blk_cell (blk_below BS.out hW) 0).trans rfl; unfold Oper.quietAt; go_simp; first | done | rfl | exact ⟨rfl, rfl⟩
   try simp only [Act.put, List.setIfInBounds_toArray, List.set_cons_zero, List.set_cons_succ]
   refine AnyOrder.obs_cons (.int .u8 (bt a0 0)) rfl (AnyOrder.ob_quiet (d := 21) rfl (show (21 : Nat) < 98 by omega) rfl rfl same (fun _ => ⟨_, rfl⟩) ?_) ?_
   ·refine ⟨_, fun W' hW => ?_, rfl⟩; unfold Oper.quietAt; go_simp; first | done | rfl | exact ⟨rfl, rfl⟩
   try simp only [Act.put, List.setIfInBounds_toArray, List.set_cons_zero, List.set_cons_succ]
   refine AnyOrder.obs_cons (.int .u8 (Go.bits .and .u8 (bt a0 0) 15)) rfl (AnyOrder.ob_quiet (d := 22) rfl (show (22 : Nat) < 98 by omega) rfl rfl same (fun _ => ⟨_, rfl⟩) ?_) ?_
   ·go_big_quiet_op; first | rfl | exact ⟨_, fun _ _ => rfl, rfl⟩
   try simp only [Act.put, List.setIfInBounds_toArray, List.set_cons_zero, List.set_cons_succ]
   refine AnyOrder.obs_cons (.int .i64 (wrap64 (Go.bits .and .u8 (bt a0 0) 15))) rfl (AnyOrder.ob_quiet (d := 23) rfl (show (23 : Nat) < 98 by omega) rfl rfl same (fun _ => ⟨_, rfl⟩) ?_) ?_
   ·go_big_quiet_op; first | rfl | exact ⟨_, fun _ _ => rfl, rfl⟩
   try simp only [Act.put, List.setIfInBounds_toArray, List.set_cons_zero, List.set_cons_succ]
   refine AnyOrder.obs_cons (.int .i64 (wrap64 ((wrap64 (Go.bits .and .u8 (bt a0 0) 15)) * 4))) rfl (AnyOrder.ob_quiet (d := 24) rfl (show (24 : Nat) < 98 by omega) rfl rfl same (fun _ => ⟨_, rfl⟩) ?_) ?_
   ·go_big_quiet_op; first | rfl | exact ⟨_, fun _ _ => rfl, rfl⟩
   try simp only [Act.put, List.setIfInBounds_toArray, List.set_cons_zero, List.set_cons_succ]
   refine AnyOrder.obs_cons ((.func (.func 29) #[] #[.pointer (some ⟨gs, 0, none⟩)])) rfl (AnyOrder.ob_quiet (d := 25) rfl (show (25 : Nat) < 98 by omega) rfl rfl same (fun _ => ⟨pure _, rfl⟩) ?_) ?_
   ·go_big_quiet_op; first | rfl | exact ⟨_, fun _ _ => rfl, rfl⟩
   try simp only [Act.put, List.setIfInBounds_toArray, List.set_cons_zero, List.set_cons_succ]
   refine AnyOrder.obs_cons (.int .i64 g1) rfl (AnyOrder.ob_call rfl rfl rfl 29 #[.int .i64 2, .int .i64 2, .pointer (some ⟨gs, 0, none⟩)] (fun W' hW => ?_) (fun W' hW => ?_)) ?_
   ·go_simp
   ·exact (G4 W' (blk_below BS.out hW)).mono fun e w2 h2 => ⟨h2.1, below_step hW h2.2, h2.2⟩
   try simp only [Act.put, List.setIfInBounds_toArray, List.set_cons_zero, List.set_cons_succ]
   refine AnyOrder.obs_cons (.int .i64 (wrap64 ((wrap64 (Go.bits .and .u8 (bt a0 0) 15)) * 4))) rfl (AnyOrder.ob_quiet (d := 5) rfl (show (5 : Nat) < 98 by omega) rfl rfl same (fun _ => ⟨pure _, rfl⟩) ?_) ?_
   ·go_big_quiet_op; first | rfl | exact ⟨_, fun _ _ => rfl, rfl⟩
   try simp only [Act.put, List.setIfInBounds_toArray, List.set_cons_zero, List.set_cons_succ]
   refine AnyOrder.obs_cons (.int .i64 g1) rfl (AnyOrder.ob_quiet (d := 6) rfl (show (6 : Nat) < 98 by omega) rfl rfl same (fun _ => ⟨pure _, rfl⟩) ?_) ?_
   ·go_big_quiet_op; first | rfl | exact ⟨_, fun _ _ => rfl, rfl⟩
   try simp only [Act.put, List.setIfInBounds_toArray, List.set_cons_zero, List.set_cons_succ]
   trivial
  case fin =>
   intro x W hW hR
   simp only [List.take_succ_cons, List.take_zero, List.drop_succ_cons, List.drop_zero]
   rw [AnyOrder.lexAt_cons (.string a0) rfl]
   try simp only [Act.put, List.setIfInBounds_toArray, List.set_cons_zero, List.set_cons_succ]
   rw [AnyOrder.lexAt_cons (.int .u8 (bt a0 0)) rfl]
   try simp only [Act.put, List.setIfInBounds_toArray, List.set_cons_zero, List.set_cons_succ]
   rw [AnyOrder.lexAt_cons (.int .u8 (Go.bits .and .u8 (bt a0 0) 15)) rfl]
   try simp only [Act.put, List.setIfInBounds_toArray, List.set_cons_zero, List.set_cons_succ]
   rw [AnyOrder.lexAt_cons (.int .i64 (wrap64 (Go.bits .and .u8 (bt a0 0) 15))) rfl]
   try simp only [Act.put, List.setIfInBounds_toArray, List.set_cons_zero, List.set_cons_succ]
   rw [AnyOrder.lexAt_cons (.int .i64 (wrap64 ((wrap64 (Go.bits .and .u8 (bt a0 0) 15)) * 4))) rfl]
   try simp only [Act.put, List.setIfInBounds_toArray, List.set_cons_zero, List.set_cons_succ]
   rw [AnyOrder.lexAt_cons ((.func (.func 29) #[] #[.pointer (some ⟨gs, 0, none⟩)])) rfl]
   try simp only [Act.put, List.setIfInBounds_toArray, List.set_cons_zero, List.set_cons_succ]
   rw [AnyOrder.lexAt_cons (.int .i64 g1) rfl]
   try simp only [Act.put, List.setIfInBounds_toArray, List.set_cons_zero, List.set_cons_succ]
   rw [AnyOrder.lexAt_cons (.int .i64 (wrap64 ((wrap64 (Go.bits .and .u8 (bt a0 0) 15)) * 4))) rfl]
   try simp only [Act.put, List.setIfInBounds_toArray, List.set_cons_zero, List.set_cons_succ]
   rw [AnyOrder.lexAt_cons (.int .i64 g1) rfl]
   try simp only [Act.put, List.setIfInBounds_toArray, List.set_cons_zero, List.set_cons_succ]
   clear hsc0 hsf0 hrc0 hrf0 hrc1 hrf1 hrc2 hrf2 hrc3 hrf3 hrc4 hrf4 hrc5 hrf5 hrc6 hrf6 hrc7 hrf7 hrc8 hrf8 hrc9 hrf9
   rw [AnyOrder.lexAt_nil]
   have n0_ := Aside0.mk (below_step HB.out hW); have n1_ := Aside0.mk (blk_below BS.out hW); have n2_ := Aside0.mk (blk_below BR.out hW); clear HB BS BR same hW hR; have HB := n0_; have BS := n1_; have BR := n2_; clear n0_ n1_ n2_
   have hsc0 : W.cell? ⟨gs, 0, none⟩ = some (.string a0) := (blk_cell BS.out 0).trans rfl; have hsf0 := blk_frozen BS.out 0; have hrc0 : W.cell? ⟨gr, 0, none⟩ = some (.int .i64 0) := (blk_cell BR.out 0).trans rfl; have hrf0 := blk_frozen BR.out 0; have hrc1 : W.cell? ⟨gr, 1, none⟩ = some (.int .i64 0) := (blk_cell BR.out 1).trans rfl; have hrf1 := blk_frozen BR.out 1; have hrc2 : W.cell? ⟨gr, 2, none⟩ = some (.int .i64 0) := (blk_cell BR.out 2).trans rfl; have hrf2 := blk_frozen BR.out 2; have hrc3 : W.cell? ⟨gr, 3, none⟩ = some (.int .i64 0) := (blk_cell BR.out 3).trans rfl; have hrf3 := blk_frozen BR.out 3; have hrc4 : W.cell? ⟨gr, 4, none⟩ = some (.int .i64 0) := (blk_cell BR.out 4).trans rfl; have hrf4 := blk_frozen BR.out 4; have hrc5 : W.cell? ⟨gr, 5, none⟩ = some (.int .i64 0) := (blk_cell BR.out 5).trans rfl; have hrf5 := blk_frozen BR.out 5; have hrc6 : W.cell? ⟨gr, 6, none⟩ = some (.bool false) := (blk_cell BR.out 6).trans rfl; have hrf6 := blk_frozen BR.out 6; have hrc7 : W.cell? ⟨gr, 7, none⟩ = some (.bool false) := (blk_cell BR.out 7).trans rfl; have hrf7 := blk_frozen BR.out 7; have hrc8 : W.cell? ⟨gr, 8, none⟩ = some (.string (⟨#[]⟩ : ByteArray)) := (blk_cell BR.out 8).trans rfl; have hrf8 := blk_frozen BR.out 8; have hrc9 : W.cell? ⟨gr, 9, none⟩ = some (.string (⟨#[]⟩ : ByteArray)) := (blk_cell BR.out 9).trans rfl; have hrf9 := blk_frozen BR.out 9
   try simp only [wpList]
   have H := HT.out
   clear HT
   generalize hhd : (wrap64 ((wrap64 (Go.bits .and .u8 (bt a0 0) 15)) * 4)) = hd at H ⊢
   have HHD := Aside0.mk hhd
   clear hhd
   by_cases c3 : hd < 20
   case pos =>
    rw [if_pos c3] at H
    have h := H
    simp only [Option.some.injEq, Prod.mk.injEq] at h
    obtain ⟨rfl, rfl, rfl, rfl, rfl, rfl, rfl, rfl, rfl, rfl, rfl⟩ := h
    have d3 := decide_eq_true c3
    go_wp2
    refine bodyPost_ret (results_ct rfl _ _ gr 23 #[.int .i64 0, .int .i64 0, .int .i64 0, .int .i64 0, .int .i64 0, .int .i64 0, .bool false, .bool false, .string (⟨#[]⟩ : ByteArray), .string (⟨#[]⟩ : ByteArray)] (0, 0) _ rfl (by (with_reducible repeat (first | refine blk_drewN ?_ _ | refine blk_drew ?_ | refine blk_alloc ?_ _)); refine blk_put (cs := #[.int .i64 0, .int .i64 0, .int .i64 0, .int .i64 0, .int .i64 0, .int .i64 0, .bool false, .bool false, .string (⟨#[]⟩ : ByteArray), .string (⟨#[]⟩ : ByteArray)]) ?_ 9 _ rfl; refine blk_put (cs := #[.int .i64 0, .int .i64 0, .int .i64 0, .int .i64 0, .int .i64 0, .int .i64 0, .bool false, .bool false, .string (⟨#[]⟩ : ByteArray), .string (⟨#[]⟩ : ByteArray)]) ?_ 8 _ rfl; refine blk_put (cs := #[.int .i64 0, .int .i64 0, .int .i64 0, .int .i64 0, .int .i64 0, .int .i64 0, .bool false, .bool false, .string (⟨#[]⟩ : ByteArray), .string (⟨#[]⟩ : ByteArray)]) ?_ 7 _ rfl; refine blk_put (cs := #[.int .i64 0, .int .i64 0, .int .i64 0, .int .i64 0, .int .i64 0, .int .i64 0, .bool false, .bool false, .string (⟨#[]⟩ : ByteArray), .string (⟨#[]⟩ : ByteArray)]) ?_ 6 _ rfl; refine blk_put (cs := #[.int .i64 0, .int .i64 0, .int .i64 0, .int .i64 0, .int .i64 0, .int .i64 0, .bool false, .bool false, .string (⟨#[]⟩ : ByteArray), .string (⟨#[]⟩ : ByteArray)]) ?_ 5 _ rfl; refine blk_put (cs := #[.int .i64 0, .int .i64 0, .int .i64 0, .int .i64 0, .int .i64 0, .int .i64 0, .bool false, .bool false, .string (⟨#[]⟩ : ByteArray), .string (⟨#[]⟩ : ByteArray)]) ?_ 4 _ rfl; refine blk_put (cs := #[.int .i64 0, .int .i64 0, .int .i64 0, .int .i64 0, .int .i64 0, .int .i64 0, .bool false, .bool false, .string (⟨#[]⟩ : ByteArray), .string (⟨#[]⟩ : ByteArray)]) ?_ 3 _ rfl; refine blk_put (cs := #[.int .i64 0, .int .i64 0, .int .i64 0, .int .i64 0, .int .i64 0, .int .i64 0, .bool false, .bool false, .string (⟨#[]⟩ : ByteArray), .string (⟨#[]⟩ : ByteArray)]) ?_ 2 _ rfl; refine blk_put (cs := #[.int .i64 0, .int .i64 0, .int .i64 0, .int .i64 0, .int .i64 0, .int .i64 0, .bool false, .bool false, .string (⟨#[]⟩ : ByteArray), .string (⟨#[]⟩ : ByteArray)]) ?_ 1 _ rfl; refine blk_put (cs := #[.int .i64 0, .int .i64 0, .int .i64 0, .int .i64 0, .int .i64 0, .int .i64 0, .bool false, .bool false, .string (⟨#[]⟩ : ByteArray), .string (⟨#[]⟩ : ByteArray)]) ?_ 0 _ rfl; (with_reducible repeat (first | refine blk_drewN ?_ _ | refine blk_drew ?_ | refine blk_alloc ?_ _)); exact BR.out) Try.underlying23 rfl (by kernel_rfl)) rfl ?_
    exact ⟨by first | rfl | (simp; done) | (simp [*]; done), by repeat (first | (with_reducible first | exact HB.out | apply below_alloc | apply pw_below_drewN | apply below_drew1 | refine below_set ?_ GR.out) | exact HB.out)⟩
   rw [if_neg c3] at H
   have d3 := decide_eq_false c3
   by_cases c4 : hd > (a0.size : Int)
   case pos =>
    rw [if_pos c4] at H
    have h := H
    simp only [Option.some.injEq, Prod.mk.injEq] at h
    obtain ⟨rfl, rfl, rfl, rfl, rfl, rfl, rfl, rfl, rfl, rfl, rfl⟩ := h
    have d4 := decide_eq_true c4
    go_wp2
    refine bodyPost_ret (results_ct rfl _ _ gr 23 #[.int .i64 0, .int .i64 0, .int .i64 0, .int .i64 0, .int .i64 0, .int .i64 0, .bool false, .bool false, .string (⟨#[]⟩ : ByteArray), .string (⟨#[]⟩ : ByteArray)] (0, 0) _ rfl (by (with_reducible repeat (first | refine blk_drewN ?_ _ | refine blk_drew ?_ | refine blk_alloc ?_ _)); refine blk_put (cs := #[.int .i64 0, .int .i64 0, .int .i64 0, .int .i64 0, .int .i64 0, .int .i64 0, .bool false, .bool false, .string (⟨#[]⟩ : ByteArray), .string (⟨#[]⟩ : ByteArray)]) ?_ 9 _ rfl; refine blk_put (cs := #[.int .i64 0, .int .i64 0, .int .i64 0, .int .i64 0, .int .i64 0, .int .i64 0, .bool false, .bool false, .string (⟨#[]⟩ : ByteArray), .string (⟨#[]⟩ : ByteArray)]) ?_ 8 _ rfl; refine blk_put (cs := #[.int .i64 0, .int .i64 0, .int .i64 0, .int .i64 0, .int .i64 0, .int .i64 0, .bool false, .bool false, .string (⟨#[]⟩ : ByteArray), .string (⟨#[]⟩ : ByteArray)]) ?_ 7 _ rfl; refine blk_put (cs := #[.int .i64 0, .int .i64 0, .int .i64 0, .int .i64 0, .int .i64 0, .int .i64 0, .bool false, .bool false, .string (⟨#[]⟩ : ByteArray), .string (⟨#[]⟩ : ByteArray)]) ?_ 6 _ rfl; refine blk_put (cs := #[.int .i64 0, .int .i64 0, .int .i64 0, .int .i64 0, .int .i64 0, .int .i64 0, .bool false, .bool false, .string (⟨#[]⟩ : ByteArray), .string (⟨#[]⟩ : ByteArray)]) ?_ 5 _ rfl; refine blk_put (cs := #[.int .i64 0, .int .i64 0, .int .i64 0, .int .i64 0, .int .i64 0, .int .i64 0, .bool false, .bool false, .string (⟨#[]⟩ : ByteArray), .string (⟨#[]⟩ : ByteArray)]) ?_ 4 _ rfl; refine blk_put (cs := #[.int .i64 0, .int .i64 0, .int .i64 0, .int .i64 0, .int .i64 0, .int .i64 0, .bool false, .bool false, .string (⟨#[]⟩ : ByteArray), .string (⟨#[]⟩ : ByteArray)]) ?_ 3 _ rfl; refine blk_put (cs := #[.int .i64 0, .int .i64 0, .int .i64 0, .int .i64 0, .int .i64 0, .int .i64 0, .bool false, .bool false, .string (⟨#[]⟩ : ByteArray), .string (⟨#[]⟩ : ByteArray)]) ?_ 2 _ rfl; refine blk_put (cs := #[.int .i64 0, .int .i64 0, .int .i64 0, .int .i64 0, .int .i64 0, .int .i64 0, .bool false, .bool false, .string (⟨#[]⟩ : ByteArray), .string (⟨#[]⟩ : ByteArray)]) ?_ 1 _ rfl; refine blk_put (cs := #[.int .i64 0, .int .i64 0, .int .i64 0, .int .i64 0, .int .i64 0, .int .i64 0, .bool false, .bool false, .string (⟨#[]⟩ : ByteArray), .string (⟨#[]⟩ : ByteArray)]) ?_ 0 _ rfl; (with_reducible repeat (first | refine blk_drewN ?_ _ | refine blk_drew ?_ | refine blk_alloc ?_ _)); exact BR.out) Try.underlying23 rfl (by kernel_rfl)) rfl ?_
    exact ⟨by first | rfl | (simp; done) | (simp [*]; done), by repeat (first | (with_reducible first | exact HB.out | apply below_alloc | apply pw_below_drewN | apply below_drew1 | refine below_set ?_ GR.out) | exact HB.out)⟩
   rw [if_neg c4] at H
   have d4 := decide_eq_false c4
   by_cases c5 : g1 < hd
   case pos =>
    rw [if_pos c5] at H
    have h := H
    simp only [Option.some.injEq, Prod.mk.injEq] at h
    obtain ⟨rfl, rfl, rfl, rfl, rfl, rfl, rfl, rfl, rfl, rfl, rfl⟩ := h
    have d5 := decide_eq_true c5
    go_wp2
    refine bodyPost_ret (results_ct rfl _ _ gr 23 #[.int .i64 0, .int .i64 0, .int .i64 0, .int .i64 0, .int .i64 0, .int .i64 0, .bool false, .bool false, .string (⟨#[]⟩ : ByteArray), .string (⟨#[]⟩ : ByteArray)] (0, 0) _ rfl (by (with_reducible repeat (first | refine blk_drewN ?_ _ | refine blk_drew ?_ | refine blk_alloc ?_ _)); refine blk_put (cs := #[.int .i64 0, .int .i64 0, .int .i64 0, .int .i64 0, .int .i64 0, .int .i64 0, .bool false, .bool false, .string (⟨#[]⟩ : ByteArray), .string (⟨#[]⟩ : ByteArray)]) ?_ 9 _ rfl; refine blk_put (cs := #[.int .i64 0, .int .i64 0, .int .i64 0, .int .i64 0, .int .i64 0, .int .i64 0, .bool false, .bool false, .string (⟨#[]⟩ : ByteArray), .string (⟨#[]⟩ : ByteArray)]) ?_ 8 _ rfl; refine blk_put (cs := #[.int .i64 0, .int .i64 0, .int .i64 0, .int .i64 0, .int .i64 0, .int .i64 0, .bool false, .bool false, .string (⟨#[]⟩ : ByteArray), .string (⟨#[]⟩ : ByteArray)]) ?_ 7 _ rfl; refine blk_put (cs := #[.int .i64 0, .int .i64 0, .int .i64 0, .int .i64 0, .int .i64 0, .int .i64 0, .bool false, .bool false, .string (⟨#[]⟩ : ByteArray), .string (⟨#[]⟩ : ByteArray)]) ?_ 6 _ rfl; refine blk_put (cs := #[.int .i64 0, .int .i64 0, .int .i64 0, .int .i64 0, .int .i64 0, .int .i64 0, .bool false, .bool false, .string (⟨#[]⟩ : ByteArray), .string (⟨#[]⟩ : ByteArray)]) ?_ 5 _ rfl; refine blk_put (cs := #[.int .i64 0, .int .i64 0, .int .i64 0, .int .i64 0, .int .i64 0, .int .i64 0, .bool false, .bool false, .string (⟨#[]⟩ : ByteArray), .string (⟨#[]⟩ : ByteArray)]) ?_ 4 _ rfl; refine blk_put (cs := #[.int .i64 0, .int .i64 0, .int .i64 0, .int .i64 0, .int .i64 0, .int .i64 0, .bool false, .bool false, .string (⟨#[]⟩ : ByteArray), .string (⟨#[]⟩ : ByteArray)]) ?_ 3 _ rfl; refine blk_put (cs := #[.int .i64 0, .int .i64 0, .int .i64 0, .int .i64 0, .int .i64 0, .int .i64 0, .bool false, .bool false, .string (⟨#[]⟩ : ByteArray), .string (⟨#[]⟩ : ByteArray)]) ?_ 2 _ rfl; refine blk_put (cs := #[.int .i64 0, .int .i64 0, .int .i64 0, .int .i64 0, .int .i64 0, .int .i64 0, .bool false, .bool false, .string (⟨#[]⟩ : ByteArray), .string (⟨#[]⟩ : ByteArray)]) ?_ 1 _ rfl; refine blk_put (cs := #[.int .i64 0, .int .i64 0, .int .i64 0, .int .i64 0, .int .i64 0, .int .i64 0, .bool false, .bool false, .string (⟨#[]⟩ : ByteArray), .string (⟨#[]⟩ : ByteArray)]) ?_ 0 _ rfl; (with_reducible repeat (first | refine blk_drewN ?_ _ | refine blk_drew ?_ | refine blk_alloc ?_ _)); exact BR.out) Try.underlying23 rfl (by kernel_rfl)) rfl ?_
    exact ⟨by first | rfl | (simp; done) | (simp [*]; done), by repeat (first | (with_reducible first | exact HB.out | apply below_alloc | apply pw_below_drewN | apply below_drew1 | refine below_set ?_ GR.out) | exact HB.out)⟩
   rw [if_neg c5] at H
   have d5 := decide_eq_false c5
   by_cases c6 : g1 > (a0.size : Int)
   case pos =>
    rw [if_pos c6] at H
    have h := H
    simp only [Option.some.injEq, Prod.mk.injEq] at h
    obtain ⟨rfl, rfl, rfl, rfl, rfl, rfl, rfl, rfl, rfl, rfl, rfl⟩ := h
    have d6 := decide_eq_true c6
    go_wp2
    refine bodyPost_ret (results_ct rfl _ _ gr 23 #[.int .i64 0, .int .i64 0, .int .i64 0, .int .i64 0, .int .i64 0, .int .i64 0, .bool false, .bool false, .string (⟨#[]⟩ : ByteArray), .string (⟨#[]⟩ : ByteArray)] (0, 0) _ rfl (by (with_reducible repeat (first | refine blk_drewN ?_ _ | refine blk_drew ?_ | refine blk_alloc ?_ _)); refine blk_put (cs := #[.int .i64 0, .int .i64 0, .int .i64 0, .int .i64 0, .int .i64 0, .int .i64 0, .bool false, .bool false, .string (⟨#[]⟩ : ByteArray), .string (⟨#[]⟩ : ByteArray)]) ?_ 9 _ rfl; refine blk_put (cs := #[.int .i64 0, .int .i64 0, .int .i64 0, .int .i64 0, .int .i64 0, .int .i64 0, .bool false, .bool false, .string (⟨#[]⟩ : ByteArray), .string (⟨#[]⟩ : ByteArray)]) ?_ 8 _ rfl; refine blk_put (cs := #[.int .i64 0, .int .i64 0, .int .i64 0, .int .i64 0, .int .i64 0, .int .i64 0, .bool false, .bool false, .string (⟨#[]⟩ : ByteArray), .string (⟨#[]⟩ : ByteArray)]) ?_ 7 _ rfl; refine blk_put (cs := #[.int .i64 0, .int .i64 0, .int .i64 0, .int .i64 0, .int .i64 0, .int .i64 0, .bool false, .bool false, .string (⟨#[]⟩ : ByteArray), .string (⟨#[]⟩ : ByteArray)]) ?_ 6 _ rfl; refine blk_put (cs := #[.int .i64 0, .int .i64 0, .int .i64 0, .int .i64 0, .int .i64 0, .int .i64 0, .bool false, .bool false, .string (⟨#[]⟩ : ByteArray), .string (⟨#[]⟩ : ByteArray)]) ?_ 5 _ rfl; refine blk_put (cs := #[.int .i64 0, .int .i64 0, .int .i64 0, .int .i64 0, .int .i64 0, .int .i64 0, .bool false, .bool false, .string (⟨#[]⟩ : ByteArray), .string (⟨#[]⟩ : ByteArray)]) ?_ 4 _ rfl; refine blk_put (cs := #[.int .i64 0, .int .i64 0, .int .i64 0, .int .i64 0, .int .i64 0, .int .i64 0, .bool false, .bool false, .string (⟨#[]⟩ : ByteArray), .string (⟨#[]⟩ : ByteArray)]) ?_ 3 _ rfl; refine blk_put (cs := #[.int .i64 0, .int .i64 0, .int .i64 0, .int .i64 0, .int .i64 0, .int .i64 0, .bool false, .bool false, .string (⟨#[]⟩ : ByteArray), .string (⟨#[]⟩ : ByteArray)]) ?_ 2 _ rfl; refine blk_put (cs := #[.int .i64 0, .int .i64 0, .int .i64 0, .int .i64 0, .int .i64 0, .int .i64 0, .bool false, .bool false, .string (⟨#[]⟩ : ByteArray), .string (⟨#[]⟩ : ByteArray)]) ?_ 1 _ rfl; refine blk_put (cs := #[.int .i64 0, .int .i64 0, .int .i64 0, .int .i64 0, .int .i64 0, .int .i64 0, .bool false, .bool false, .string (⟨#[]⟩ : ByteArray), .string (⟨#[]⟩ : ByteArray)]) ?_ 0 _ rfl; (with_reducible repeat (first | refine blk_drewN ?_ _ | refine blk_drew ?_ | refine blk_alloc ?_ _)); exact BR.out) Try.underlying23 rfl (by kernel_rfl)) rfl ?_
    exact ⟨by first | rfl | (simp; done) | (simp [*]; done), by repeat (first | (with_reducible first | exact HB.out | apply below_alloc | apply pw_below_drewN | apply below_drew1 | refine below_set ?_ GR.out) | exact HB.out)⟩
   rw [if_neg c6] at H
   have d6 := decide_eq_false c6
   have sl0 : (0 ≤ hd) = True := eq_true (by omega)
   have sl1 : (hd ≤ (a0.size : Int)) = True := eq_true (by omega)
   obtain ⟨wh, hwh, H⟩ := Option.bind_eq_some_iff.mp H
   have HW := Aside0.mk hwh
   have HT := Aside0.mk H
   clear hwh H
   go_wp2_with fail
   refine (sum_Whole.calls k (cutS a0 0 hd.toNat) wh _ HW.out).mono ?_
   rintro e W2 ⟨rfl, hW⟩
   clear hsc0 hsf0 hrc0 hrf0 hrc1 hrf1 hrc2 hrf2 hrc3 hrf3 hrc4 hrf4 hrc5 hrf5 hrc6 hrf6 hrc7 hrf7 hrc8 hrf8 hrc9 hrf9
   have n0_ := Aside0.mk (below_step HB.out hW); have n1_ := Aside0.mk (blk_below BS.out hW); have n2_ := Aside0.mk (blk_below BR.out hW); clear HB BS BR hW; have HB := n0_; have BS := n1_; have BR := n2_; clear n0_ n1_ n2_
   have hsc0 : W2.cell? ⟨gs, 0, none⟩ = some (.string a0) := (blk_cell BS.out 0).trans rfl; have hsf0 := blk_frozen BS.out 0; have hrc0 : W2.cell? ⟨gr, 0, none⟩ = some (.int .i64 0) := (blk_cell BR.out 0).trans rfl; have hrf0 := blk_frozen BR.out 0; have hrc1 : W2.cell? ⟨gr, 1, none⟩ = some (.int .i64 0) := (blk_cell BR.out 1).trans rfl; have hrf1 := blk_frozen BR.out 1; have hrc2 : W2.cell? ⟨gr, 2, none⟩ = some (.int .i64 0) := (blk_cell BR.out 2).trans rfl; have hrf2 := blk_frozen BR.out 2; have hrc3 : W2.cell? ⟨gr, 3, none⟩ = some (.int .i64 0) := (blk_cell BR.out 3).trans rfl; have hrf3 := blk_frozen BR.out 3; have hrc4 : W2.cell? ⟨gr, 4, none⟩ = some (.int .i64 0) := (blk_cell BR.out 4).trans rfl; have hrf4 := blk_frozen BR.out 4; have hrc5 : W2.cell? ⟨gr, 5, none⟩ = some (.int .i64 0) := (blk_cell BR.out 5).trans rfl; have hrf5 := blk_frozen BR.out 5; have hrc6 : W2.cell? ⟨gr, 6, none⟩ = some (.bool false) := (blk_cell BR.out 6).trans rfl; have hrf6 := blk_frozen BR.out 6; have hrc7 : W2.cell? ⟨gr, 7, none⟩ = some (.bool false) := (blk_cell BR.out 7).trans rfl; have hrf7 := blk_frozen BR.out 7; have hrc8 : W2.cell? ⟨gr, 8, none⟩ = some (.string (⟨#[]⟩ : ByteArray)) := (blk_cell BR.out 8).trans rfl; have hrf8 := blk_frozen BR.out 8; have hrc9 : W2.cell? ⟨gr, 9, none⟩ = some (.string (⟨#[]⟩ : ByteArray)) := (blk_cell BR.out 9).trans rfl; have hrf9 := blk_frozen BR.out 9
   cases wh with
   | false =>
    have h := HT.out
    simp only [Bool.false_eq_true, if_false, Option.some.injEq, Prod.mk.injEq] at h
    obtain ⟨rfl, rfl, rfl, rfl, rfl, rfl, rfl, rfl, rfl, rfl, rfl⟩ := h
    go_wp2
    refine bodyPost_ret (results_ct rfl _ _ gr 23 #[.int .i64 0, .int .i64 0, .int .i64 0, .int .i64 0, .int .i64 0, .int .i64 0, .bool false, .bool false, .string (⟨#[]⟩ : ByteArray), .string (⟨#[]⟩ : ByteArray)] (0, 0) _ rfl (by (with_reducible repeat (first | refine blk_drewN ?_ _ | refine blk_drew ?_ | refine blk_alloc ?_ _)); refine blk_put (cs := #[.int .i64 0, .int .i64 0, .int .i64 0, .int .i64 0, .int .i64 0, .int .i64 0, .bool false, .bool false, .string (⟨#[]⟩ : ByteArray), .string (⟨#[]⟩ : ByteArray)]) ?_ 9 _ rfl; refine blk_put (cs := #[.int .i64 0, .int .i64 0, .int .i64 0, .int .i64 0, .int .i64 0, .int .i64 0, .bool false, .bool false, .string (⟨#[]⟩ : ByteArray), .string (⟨#[]⟩ : ByteArray)]) ?_ 8 _ rfl; refine blk_put (cs := #[.int .i64 0, .int .i64 0, .int .i64 0, .int .i64 0, .int .i64 0, .int .i64 0, .bool false, .bool false, .string (⟨#[]⟩ : ByteArray), .string (⟨#[]⟩ : ByteArray)]) ?_ 7 _ rfl; refine blk_put (cs := #[.int .i64 0, .int .i64 0, .int .i64 0, .int .i64 0, .int .i64 0, .int .i64 0, .bool false, .bool false, .string (⟨#[]⟩ : ByteArray), .string (⟨#[]⟩ : ByteArray)]) ?_ 6 _ rfl; refine blk_put (cs := #[.int .i64 0, .int .i64 0, .int .i64 0, .int .i64 0, .int .i64 0, .int .i64 0, .bool false, .bool false, .string (⟨#[]⟩ : ByteArray), .string (⟨#[]⟩ : ByteArray)]) ?_ 5 _ rfl; refine blk_put (cs := #[.int .i64 0, .int .i64 0, .int .i64 0, .int .i64 0, .int .i64 0, .int .i64 0, .bool false, .bool false, .string (⟨#[]⟩ : ByteArray), .string (⟨#[]⟩ : ByteArray)]) ?_ 4 _ rfl; refine blk_put (cs := #[.int .i64 0, .int .i64 0, .int .i64 0, .int .i64 0, .int .i64 0, .int .i64 0, .bool false, .bool false, .string (⟨#[]⟩ : ByteArray), .string (⟨#[]⟩ : ByteArray)]) ?_ 3 _ rfl; refine blk_put (cs := #[.int .i64 0, .int .i64 0, .int .i64 0, .int .i64 0, .int .i64 0, .int .i64 0, .bool false, .bool false, .string (⟨#[]⟩ : ByteArray), .string (⟨#[]⟩ : ByteArray)]) ?_ 2 _ rfl; refine blk_put (cs := #[.int .i64 0, .int .i64 0, .int .i64 0, .int .i64 0, .int .i64 0, .int .i64 0, .bool false, .bool false, .string (⟨#[]⟩ : ByteArray), .string (⟨#[]⟩ : ByteArray)]) ?_ 1 _ rfl; refine blk_put (cs := #[.int .i64 0, .int .i64 0, .int .i64 0, .int .i64 0, .int .i64 0, .int .i64 0, .bool false, .bool false, .string (⟨#[]⟩ : ByteArray), .string (⟨#[]⟩ : ByteArray)]) ?_ 0 _ rfl; (with_reducible repeat (first | refine blk_drewN ?_ _ | refine blk_drew ?_ | refine blk_alloc ?_ _)); exact BR.out) Try.underlying23 rfl (by kernel_rfl)) rfl ?_
    exact ⟨by first | rfl | (simp; done) | (simp [*]; done), by repeat (first | (with_reducible first | exact HB.out | apply below_alloc | apply pw_below_drewN | apply below_drew1 | refine below_set ?_ GR.out) | exact HB.out)⟩
   | true =>
    have H := HT.out
    clear HT
    rw [if_pos rfl] at H
    obtain ⟨⟨g2, e2⟩, hg2, H⟩ := Option.bind_eq_some_iff.mp H
    have G2 := Aside0.mk hg2
    clear hg2
    obtain ⟨⟨g3, e3⟩, hg3, H⟩ := Option.bind_eq_some_iff.mp H
    have G3 := Aside0.mk hg3
    clear hg3
    obtain ⟨⟨g4, e4⟩, hg4, H⟩ := Option.bind_eq_some_iff.mp H
    have G4 := Aside0.mk hg4
    clear hg4
    obtain ⟨⟨g5, e5⟩, hg5, H⟩ := Option.bind_eq_some_iff.mp H
    have G5 := Aside0.mk hg5
    clear hg5
    obtain ⟨⟨g6, e6⟩, hg6, H⟩ := Option.bind_eq_some_iff.mp H
    have G6 := Aside0.mk hg6
    clear hg6
    obtain ⟨⟨g7, e7⟩, hg7, H⟩ := Option.bind_eq_some_iff.mp H
    have G7 := Aside0.mk hg7
    clear hg7
    have HT := Aside0.mk H
    clear H
    go_wp2_with fail
    refine (ip_Decode.get a0 gs 6 2 g2 e2 _ BS.out G2.out).mono ?_
    rintro e W3 ⟨rfl, hW⟩
    clear hsc0 hsf0 hrc0 hrf0 hrc1 hrf1 hrc2 hrf2 hrc3 hrf3 hrc4 hrf4 hrc5 hrf5 hrc6 hrf6 hrc7 hrf7 hrc8 hrf8 hrc9 hrf9
    have n0_ := Aside0.mk (below_step HB.out hW); have n1_ := Aside0.mk (blk_below BS.out hW); have n2_ := Aside0.mk (blk_below BR.out hW); clear HB BS BR hW; have HB := n0_; have BS := n1_; have BR := n2_; clear n0_ n1_ n2_
    have hsc0 : W3.cell? ⟨gs, 0, none⟩ = some (.string a0) := (blk_cell BS.out 0).trans rfl; have hsf0 := blk_frozen BS.out 0; have hrc0 : W3.cell? ⟨gr, 0, none⟩ = some (.int .i64 0) := (blk_cell BR.out 0).trans rfl; have hrf0 := blk_frozen BR.out 0; have hrc1 : W3.cell? ⟨gr, 1, none⟩ = some (.int .i64 0) := (blk_cell BR.out 1).trans rfl; have hrf1 := blk_frozen BR.out 1; have hrc2 : W3.cell? ⟨gr, 2, none⟩ = some (.int .i64 0) := (blk_cell BR.out 2).trans rfl; have hrf2 := blk_frozen BR.out 2; have hrc3 : W3.cell? ⟨gr, 3, none⟩ = some (.int .i64 0) := (blk_cell BR.out 3).trans rfl; have hrf3 := blk_frozen BR.out 3; have hrc4 : W3.cell? ⟨gr, 4, none⟩ = some (.int .i64 0) := (blk_cell BR.out 4).trans rfl; have hrf4 := blk_frozen BR.out 4; have hrc5 : W3.cell? ⟨gr, 5, none⟩ = some (.int .i64 0) := (blk_cell BR.out 5).trans rfl; have hrf5 := blk_frozen BR.out 5; have hrc6 : W3.cell? ⟨gr, 6, none⟩ = some (.bool false) := (blk_cell BR.out 6).trans rfl; have hrf6 := blk_frozen BR.out 6; have hrc7 : W3.cell? ⟨gr, 7, none⟩ = some (.bool false) := (blk_cell BR.out 7).trans rfl; have hrf7 := blk_frozen BR.out 7; have hrc8 : W3.cell? ⟨gr, 8, none⟩ = some (.string (⟨#[]⟩ : ByteArray)) := (blk_cell BR.out 8).trans rfl; have hrf8 := blk_frozen BR.out 8; have hrc9 : W3.cell? ⟨gr, 9, none⟩ = some (.string (⟨#[]⟩ : ByteArray)) := (blk_cell BR.out 9).trans rfl; have hrf9 := blk_frozen BR.out 9
    go_wp2
    have same : ∀ W', Below W3.heap.size W3 W' → Below W'.heap.size W' W' := fun W' _ => Below.refl _ _
    refine AnyOrder.region_then 27 (C := fun W' => Below W3.heap.size W3 W') (G := fun W1 W2 => Below W1.heap.size W1 W2) (T := [26]) (R := fun _ w v => ∃ g, v = .pointer (some ⟨g, 0, none⟩) ∧ W3.heap.size ≤ g ∧ w.heap[g]? = some (.cells #[.int .i64 0, .int .i64 0, .int .i64 0, .int .i64 0, .int .i64 0, .int .i64 0, .bool false, .bool false, .string (⟨#[]⟩ : ByteArray), .string (⟨#[]⟩ : ByteArray)] 23 (0, 0))) (vs := [(.func (.func 29) #[] #[.pointer (some ⟨gs, 0, none⟩)]), .int .i64 g3, (.func (.func 29) #[] #[.pointer (some ⟨gs, 0, none⟩)]), .int .i64 g4, (.func (.func 29) #[] #[.pointer (some ⟨gs, 0, none⟩)]), .int .i64 g5, (.func (.func 29) #[] #[.pointer (some ⟨gs, 0, none⟩)]), .int .i64 g6, (.func (.func 29) #[] #[.pointer (some ⟨gs, 0, none⟩)]), .int .i64 g7, .int .i64 g2, .int .i64 (Go.bits .and .i64 g2 8191), .int .i64 g2, .int .i64 (Go.bits .and .i64 g2 8192), .bool (decide ((Go.bits .and .i64 g2 8192) > 0)), .int .i64 g2, .int .i64 (Go.bits .and .i64 g2 16384), .bool (decide ((Go.bits .and .i64 g2 16384) > 0)), .string a0, .int .i64 hd, .string (cutS a0 20 hd.toNat), .string a0, .int .i64 hd, .int .i64 g1, .string (cutS a0 hd.toNat g1.toNat), .agg #[.int .i64 g3, .int .i64 g4, .int .i64 g5, .int .i64 g6, .int .i64 g7, .int .i64 (Go.bits .and .i64 g2 8191), .bool (decide ((Go.bits .and .i64 g2 8192) > 0)), .bool (decide ((Go.bits .and .i64 g2 16384) > 0)), .string (cutS a0 20 hd.toNat), .string (cutS a0 hd.toNat g1.toNat)], undef]) (by kernel_rfl) rfl (by kernel_rfl) (below_drew1 (Below.refl _ _)) same (fun _ _ _ _ hb ⟨g, h1, h2, h3⟩ => ⟨g, h1, h2, blk_below h3 hb⟩) (fun x => ?obs) ?fin
    case obs =>
     refine AnyOrder.obs_cons ((.func (.func 29) #[] #[.pointer (some ⟨gs, 0, none⟩)])) rfl (AnyOrder.ob_quiet (d := 57) rfl (show (57 : Nat) < 98 by omega) rfl rfl same (fun _ => ⟨pure _, rfl⟩) ?_) ?_
     ·go_big_quiet_op; first | rfl | exact ⟨_, fun _ _ => rfl, rfl⟩
     try simp only [Act.put, List.setIfInBounds_toArray, List.set_cons_zero, List.set_cons_succ]
     refine AnyOrder.obs_cons (.int .i64 g3) rfl (AnyOrder.ob_call rfl rfl rfl 29 #[.int .i64 12, .int .i64 4, .pointer (some ⟨gs, 0, none⟩)] (fun W' hW => ?_) (fun W' hW => ?_)) ?_
     ·go_simp
     ·exact (ip_Decode.get a0 gs 12 4 g3 e3 W' (blk_below BS.out hW) G3.out).mono fun e w2 h2 => ⟨h2.1, below_step hW h2.2, h2.2⟩
     try simp only [Act.put, List.setIfInBounds_toArray, List.set_cons_zero, List.set_cons_succ]
     refine AnyOrder.obs_cons ((.func (.func 29) #[] #[.pointer (some ⟨gs, 0, none⟩)])) rfl (AnyOrder.ob_quiet (d := 59) rfl (show (59 : Nat) < 98 by omega) rfl rfl same (fun _ => ⟨pure _, rfl⟩) ?_) ?_
     ·go_big_quiet_op; first | rfl | exact ⟨_, fun _ _ => rfl, rfl⟩
     try simp only [Act.put, List.setIfInBounds_toArray, List.set_cons_zero, List.set_cons_succ]
     refine AnyOrder.obs_cons (.int .i64 g4) rfl (AnyOrder.ob_call rfl rfl rfl 29 #[.int .i64 16, .int .i64 4, .pointer (some ⟨gs, 0, none⟩)] (fun W' hW => ?_) (fun W' hW => ?_)) ?_
     ·go_simp
     ·exact (ip_Decode.get a0 gs 16 4 g4 e4 W' (blk_below BS.out hW) G4.out).mono fun e w2 h2 => ⟨h2.1, below_step hW h2.2, h2.2⟩
     try simp only [Act.put, List.setIfInBounds_toArray, List.set_cons_zero, List.set_cons_succ]
     refine AnyOrder.obs_cons ((.func (.func 29) #[] #[.pointer (some ⟨gs, 0, none⟩)])) rfl (AnyOrder.ob_quiet (d := 61) rfl (show (61 : Nat) < 98 by omega) rfl rfl same (fun _ => ⟨pure _, rfl⟩) ?_) ?_
     ·go_big_quiet_op; first | rfl | exact ⟨_, fun _ _ => rfl, rfl⟩
     try simp only [Act.put, List.setIfInBounds_toArray, List.set_cons_zero, List.set_cons_succ]
     refine AnyOrder.obs_cons (.int .i64 g5) rfl (AnyOrder.ob_call rfl rfl rfl 29 #[.int .i64 8, .int .i64 1, .pointer (some ⟨gs, 0, none⟩)] (fun W' hW => ?_) (fun W' hW => ?_)) ?_
     ·go_simp
     ·exact (ip_Decode.get a0 gs 8 1 g5 e5 W' (blk_below BS.out hW) G5.out).mono fun e w2 h2 => ⟨h2.1, below_step hW h2.2, h2.2⟩
     try simp only [Act.put, List.setIfInBounds_toArray, List.set_cons_zero, List.set_cons_succ]
     refine AnyOrder.obs_cons ((.func (.func 29) #[] #[.pointer (some ⟨gs, 0, none⟩)])) rfl (AnyOrder.ob_quiet (d := 63) rfl (show (63 : Nat) < 98 by omega) rfl rfl same (fun _ => ⟨pure _, rfl⟩) ?_) ?_
     ·go_big_quiet_op; first | rfl | exact ⟨_, fun _ _ => rfl, rfl⟩
     try simp only [Act.put, List.setIfInBounds_toArray, List.set_cons_zero, List.set_cons_succ]
     refine AnyOrder.obs_cons (.int .i64 g6) rfl (AnyOrder.ob_call rfl rfl rfl 29 #[.int .i64 9, .int .i64 1, .pointer (some ⟨gs, 0, none⟩)] (fun W' hW => ?_) (fun W' hW => ?_)) ?_
     ·go_simp
     ·exact (ip_Decode.get a0 gs 9 1 g6 e6 W' (blk_below BS.out hW) G6.out).mono fun e w2 h2 => ⟨h2.1, below_step hW h2.2, h2.2⟩
     try simp only [Act.put, List.setIfInBounds_toArray, List.set_cons_zero, List.set_cons_succ]
     refine AnyOrder.obs_cons ((.func (.func 29) #[] #[.pointer (some ⟨gs, 0, none⟩)])) rfl (AnyOrder.ob_quiet (d := 65) rfl (show (65 : Nat) < 98 by omega) rfl rfl same (fun _ => ⟨pure _, rfl⟩) ?_) ?_
     ·go_big_quiet_op; first | rfl | exact ⟨_, fun _ _ => rfl, rfl⟩
     try simp only [Act.put, List.setIfInBounds_toArray, List.set_cons_zero, List.set_cons_succ]
     refine AnyOrder.obs_cons (.int .i64 g7) rfl (AnyOrder.ob_call rfl rfl rfl 29 #[.int .i64 4, .int .i64 2, .pointer (some ⟨gs, 0, none⟩)] (fun W' hW => ?_) (fun W' hW => ?_)) ?_
     ·go_simp
     ·exact (ip_Decode.get a0 gs 4 2 g7 e7 W' (blk_below BS.out hW) G7.out).mono fun e w2 h2 => ⟨h2.1, below_step hW h2.2, h2.2⟩
     try simp only [Act.put, List.setIfInBounds_toArray, List.set_cons_zero, List.set_cons_succ]
     refine AnyOrder.obs_cons (.int .i64 g2) rfl (AnyOrder.ob_quiet (d := 67) rfl (show (67 : Nat) < 98 by omega) rfl rfl same (fun _ => ⟨pure _, rfl⟩) ?_) ?_
     ·go_big_quiet_op; first | rfl | exact ⟨_, fun _ _ => rfl, rfl⟩
     try simp only [Act.put, List.setIfInBounds_toArray, List.set_cons_zero, List.set_cons_succ]
     refine AnyOrder.obs_cons (.int .i64 (Go.bits .and .i64 g2 8191)) rfl (AnyOrder.ob_quiet (d := 68) rfl (show (68 : Nat) < 98 by omega) rfl rfl same (fun _ => ⟨_, rfl⟩) ?_) ?_
     ·go_big_quiet_op; first | rfl | exact ⟨_, fun _ _ => rfl, rfl⟩
     try simp only [Act.put, List.setIfInBounds_toArray, List.set_cons_zero, List.set_cons_succ]
     refine AnyOrder.obs_cons (.int .i64 g2) rfl (AnyOrder.ob_quiet (d := 69) rfl (show (69 : Nat) < 98 by omega) rfl rfl same (fun _ => ⟨pure _, rfl⟩) ?_) ?_
     ·go_big_quiet_op; first | rfl | exact ⟨_, fun _ _ => rfl, rfl⟩
     try simp only [Act.put, List.setIfInBounds_toArray, List.set_cons_zero, List.set_cons_succ]
     refine AnyOrder.obs_cons (.int .i64 (Go.bits .and .i64 g2 8192)) rfl (AnyOrder.ob_quiet (d := 70) rfl (show (70 : Nat) < 98 by omega) rfl rfl same (fun _ => ⟨_, rfl⟩) ?_) ?_
     ·go_big_quiet_op; first | rfl | exact ⟨_, fun _ _ => rfl, rfl⟩
     try simp only [Act.put, List.setIfInBounds_toArray, List.set_cons_zero, List.set_cons_succ]
     refine AnyOrder.obs_cons (.bool (decide ((Go.bits .and .i64 g2 8192) > 0))) rfl (AnyOrder.ob_quiet (d := 71) rfl (show (71 : Nat) < 98 by omega) rfl rfl same (fun _ => ⟨_, rfl⟩) ?_) ?_
     ·go_big_quiet_op; first | rfl | exact ⟨_, fun _ _ => rfl, rfl⟩
     try simp only [Act.put, List.setIfInBounds_toArray, List.set_cons_zero, List.set_cons_succ]
     refine AnyOrder.obs_cons (.int .i64 g2) rfl (AnyOrder.ob_quiet (d := 72) rfl (show (72 : Nat) < 98 by omega) rfl rfl same (fun _ => ⟨pure _, rfl⟩) ?_) ?_
     ·go_big_quiet_op; first | rfl | exact ⟨_, fun _ _ => rfl, rfl⟩
     try simp only [Act.put, List.setIfInBounds_toArray, List.set_cons_zero, List.set_cons_succ]
     refine AnyOrder.obs_cons (.int .i64 (Go.bits .and .i64 g2 16384)) rfl (AnyOrder.ob_quiet (d := 73) rfl (show (73 : Nat) < 98 by omega) rfl rfl same (fun _ => ⟨_, rfl⟩) ?_) ?_
     ·go_big_quiet_op; first | rfl | exact ⟨_, fun _ _ => rfl, rfl⟩
     try simp only [Act.put, List.setIfInBounds_toArray, List.set_cons_zero, List.set_cons_succ]
     refine AnyOrder.obs_cons (.bool (decide ((Go.bits .and .i64 g2 16384) > 0))) rfl (AnyOrder.ob_quiet (d := 74) rfl (show (74 : Nat) < 98 by omega) rfl rfl same (fun _ => ⟨_, rfl⟩) ?_) ?_
     ·go_big_quiet_op; first | rfl | exact ⟨_, fun _ _ => rfl, rfl⟩
     try simp only [Act.put, List.setIfInBounds_toArray, List.set_cons_zero, List.set_cons_succ]
     refine AnyOrder.obs_cons (.string a0) rfl (AnyOrder.ob_quiet (d := 75) rfl (show (75 : Nat) < 98 by omega) rfl rfl same (fun _ => ⟨_, rfl⟩) ?_) ?_
     ·refine ⟨_, fun W' hW => ?_, rfl⟩; have hcz := (blk_cell (blk_below BS.out hW) 0).trans rfl; unfold Oper.quietAt; go_simp; first | done | rfl | exact ⟨rfl, rfl⟩
     try simp only [Act.put, List.setIfInBounds_toArray, List.set_cons_zero, List.set_cons_succ]
     refine AnyOrder.obs_cons (.int .i64 hd) rfl (AnyOrder.ob_quiet (d := 76) rfl (show (76 : Nat) < 98 by omega) rfl rfl same (fun _ => ⟨pure _, rfl⟩) ?_) ?_
     ·go_big_quiet_op; first | rfl | exact ⟨_, fun _ _ => rfl, rfl⟩
     try simp only [Act.put, List.setIfInBounds_toArray, List.set_cons_zero, List.set_cons_succ]
     refine AnyOrder.obs_cons (.string (cutS a0 20 hd.toNat)) rfl (AnyOrder.ob_quiet (d := 77) rfl (show (77 : Nat) < 98 by omega) rfl rfl same (fun _ => ⟨_, rfl⟩) ?_) ?_
     ·go_big_quiet_op; first | rfl | exact ⟨_, fun _ _ => rfl, rfl⟩
     try simp only [Act.put, List.setIfInBounds_toArray, List.set_cons_zero, List.set_cons_succ]
     refine AnyOrder.obs_cons (.string a0) rfl (AnyOrder.ob_quiet (d := 78) rfl (show (78 : Nat) < 98 by omega) rfl rfl same (fun _ => ⟨_, rfl⟩) ?_) ?_
     ·refine ⟨_, fun W' hW => ?_, rfl⟩; have hcz := (blk_cell (blk_below BS.out hW) 0).trans rfl; unfold Oper.quietAt; go_simp; first | done | rfl | exact ⟨rfl, rfl⟩
     try simp only [Act.put, List.setIfInBounds_toArray, List.set_cons_zero, List.set_cons_succ]
     refine AnyOrder.obs_cons (.int .i64 hd) rfl (AnyOrder.ob_quiet (d := 79) rfl (show (79 : Nat) < 98 by omega) rfl rfl same (fun _ => ⟨pure _, rfl⟩) ?_) ?_
     ·go_big_quiet_op; first | rfl | exact ⟨_, fun _ _ => rfl, rfl⟩
     try simp only [Act.put, List.setIfInBounds_toArray, List.set_cons_zero, List.set_cons_succ]
     refine AnyOrder.obs_cons (.int .i64 g1) rfl (AnyOrder.ob_quiet (d := 80) rfl (show (80 : Nat) < 98 by omega) rfl rfl same (fun _ => ⟨pure _, rfl⟩) ?_) ?_
     ·go_big_quiet_op; first | rfl | exact ⟨_, fun _ _ => rfl, rfl⟩
     try simp only [Act.put, List.setIfInBounds_toArray, List.set_cons_zero, List.set_cons_succ]
     refine AnyOrder.obs_cons (.string (cutS a0 hd.toNat g1.toNat)) rfl (AnyOrder.ob_quiet (d := 81) rfl (show (81 : Nat) < 98 by omega) rfl rfl same (fun _ => ⟨_, rfl⟩) ?_) ?_
     ·go_big_quiet_op; first | rfl | exact ⟨_, fun _ _ => rfl, rfl⟩
     try simp only [Act.put, List.setIfInBounds_toArray, List.set_cons_zero, List.set_cons_succ]
     refine AnyOrder.obs_cons (.agg #[.int .i64 g3, .int .i64 g4, .int .i64 g5, .int .i64 g6, .int .i64 g7, .int .i64 (Go.bits .and .i64 g2 8191), .bool (decide ((Go.bits .and .i64 g2 8192) > 0)), .bool (decide ((Go.bits .and .i64 g2 16384) > 0)), .string (cutS a0 20 hd.toNat), .string (cutS a0 hd.toNat g1.toNat)]) rfl (AnyOrder.ob_quiet (d := 82) rfl (show (82 : Nat) < 98 by omega) rfl rfl same (fun _ => ⟨_, rfl⟩) ?_) ?_
     ·go_big_quiet_op; first | rfl | exact ⟨_, fun _ _ => rfl, rfl⟩
     try simp only [Act.put, List.setIfInBounds_toArray, List.set_cons_zero, List.set_cons_succ]
     refine AnyOrder.obs_cons ((x 26)) rfl (AnyOrder.ob_token rfl rfl (fun W' hW => ⟨.pointer (some ⟨W'.heap.size, 0, none⟩), W'.alloc (.cells #[.int .i64 0, .int .i64 0, .int .i64 0, .int .i64 0, .int .i64 0, .int .i64 0, .bool false, .bool false, .string (⟨#[]⟩ : ByteArray), .string (⟨#[]⟩ : ByteArray)] 23 (0, 0)), by first | (go_simp; done) | (go_simp; rfl), below_alloc hW _, below_alloc (Below.refl _ _) _, W'.heap.size, rfl, below_size hW, blk_new _ _⟩)) ?_
     try simp only [Act.put, List.setIfInBounds_toArray, List.set_cons_zero, List.set_cons_succ]
     trivial
    case fin =>
     intro x W hW hR
     simp only [List.take_succ_cons, List.take_zero, List.drop_succ_cons, List.drop_zero]
     rw [AnyOrder.lexAt_cons ((.func (.func 29) #[] #[.pointer (some ⟨gs, 0, none⟩)])) rfl]
     try simp only [Act.put, List.setIfInBounds_toArray, List.set_cons_zero, List.set_cons_succ]
     rw [AnyOrder.lexAt_cons (.int .i64 g3) rfl]
     try simp only [Act.put, List.setIfInBounds_toArray, List.set_cons_zero, List.set_cons_succ]
     rw [AnyOrder.lexAt_cons ((.func (.func 29) #[] #[.pointer (some ⟨gs, 0, none⟩)])) rfl]
     try simp only [Act.put, List.setIfInBounds_toArray, List.set_cons_zero, List.set_cons_succ]
     rw [AnyOrder.lexAt_cons (.int .i64 g4) rfl]
     try simp only [Act.put, List.setIfInBounds_toArray, List.set_cons_zero, List.set_cons_succ]
     rw [AnyOrder.lexAt_cons ((.func (.func 29) #[] #[.pointer (some ⟨gs, 0, none⟩)])) rfl]
     try simp only [Act.put, List.setIfInBounds_toArray, List.set_cons_zero, List.set_cons_succ]
     rw [AnyOrder.lexAt_cons (.int .i64 g5) rfl]
     try simp only [Act.put, List.setIfInBounds_toArray, List.set_cons_zero, List.set_cons_succ]
     rw [AnyOrder.lexAt_cons ((.func (.func 29) #[] #[.pointer (some ⟨gs, 0, none⟩)])) rfl]
     try simp only [Act.put, List.setIfInBounds_toArray, List.set_cons_zero, List.set_cons_succ]
     rw [AnyOrder.lexAt_cons (.int .i64 g6) rfl]
     try simp only [Act.put, List.setIfInBounds_toArray, List.set_cons_zero, List.set_cons_succ]
     rw [AnyOrder.lexAt_cons ((.func (.func 29) #[] #[.pointer (some ⟨gs, 0, none⟩)])) rfl]
     try simp only [Act.put, List.setIfInBounds_toArray, List.set_cons_zero, List.set_cons_succ]
     rw [AnyOrder.lexAt_cons (.int .i64 g7) rfl]
     try simp only [Act.put, List.setIfInBounds_toArray, List.set_cons_zero, List.set_cons_succ]
     rw [AnyOrder.lexAt_cons (.int .i64 g2) rfl]
     try simp only [Act.put, List.setIfInBounds_toArray, List.set_cons_zero, List.set_cons_succ]
     rw [AnyOrder.lexAt_cons (.int .i64 (Go.bits .and .i64 g2 8191)) rfl]
     try simp only [Act.put, List.setIfInBounds_toArray, List.set_cons_zero, List.set_cons_succ]
     rw [AnyOrder.lexAt_cons (.int .i64 g2) rfl]
     try simp only [Act.put, List.setIfInBounds_toArray, List.set_cons_zero, List.set_cons_succ]
     rw [AnyOrder.lexAt_cons (.int .i64 (Go.bits .and .i64 g2 8192)) rfl]
     try simp only [Act.put, List.setIfInBounds_toArray, List.set_cons_zero, List.set_cons_succ]
     rw [AnyOrder.lexAt_cons (.bool (decide ((Go.bits .and .i64 g2 8192) > 0))) rfl]
     try simp only [Act.put, List.setIfInBounds_toArray, List.set_cons_zero, List.set_cons_succ]
     rw [AnyOrder.lexAt_cons (.int .i64 g2) rfl]
     try simp only [Act.put, List.setIfInBounds_toArray, List.set_cons_zero, List.set_cons_succ]
     rw [AnyOrder.lexAt_cons (.int .i64 (Go.bits .and .i64 g2 16384)) rfl]
     try simp only [Act.put, List.setIfInBounds_toArray, List.set_cons_zero, List.set_cons_succ]
     rw [AnyOrder.lexAt_cons (.bool (decide ((Go.bits .and .i64 g2 16384) > 0))) rfl]
     try simp only [Act.put, List.setIfInBounds_toArray, List.set_cons_zero, List.set_cons_succ]
     rw [AnyOrder.lexAt_cons (.string a0) rfl]
     try simp only [Act.put, List.setIfInBounds_toArray, List.set_cons_zero, List.set_cons_succ]
     rw [AnyOrder.lexAt_cons (.int .i64 hd) rfl]
     try simp only [Act.put, List.setIfInBounds_toArray, List.set_cons_zero, List.set_cons_succ]
     rw [AnyOrder.lexAt_cons (.string (cutS a0 20 hd.toNat)) rfl]
     try simp only [Act.put, List.setIfInBounds_toArray, List.set_cons_zero, List.set_cons_succ]
     rw [AnyOrder.lexAt_cons (.string a0) rfl]
     try simp only [Act.put, List.setIfInBounds_toArray, List.set_cons_zero, List.set_cons_succ]
     rw [AnyOrder.lexAt_cons (.int .i64 hd) rfl]
     try simp only [Act.put, List.setIfInBounds_toArray, List.set_cons_zero, List.set_cons_succ]
     rw [AnyOrder.lexAt_cons (.int .i64 g1) rfl]
     try simp only [Act.put, List.setIfInBounds_toArray, List.set_cons_zero, List.set_cons_succ]
     rw [AnyOrder.lexAt_cons (.string (cutS a0 hd.toNat g1.toNat)) rfl]
     try simp only [Act.put, List.setIfInBounds_toArray, List.set_cons_zero, List.set_cons_succ]
     rw [AnyOrder.lexAt_cons (.agg #[.int .i64 g3, .int .i64 g4, .int .i64 g5, .int .i64 g6, .int .i64 g7, .int .i64 (Go.bits .and .i64 g2 8191), .bool (decide ((Go.bits .and .i64 g2 8192) > 0)), .bool (decide ((Go.bits .and .i64 g2 16384) > 0)), .string (cutS a0 20 hd.toNat), .string (cutS a0 hd.toNat g1.toNat)]) rfl]
     try simp only [Act.put, List.setIfInBounds_toArray, List.set_cons_zero, List.set_cons_succ]
     rw [AnyOrder.lexAt_cons ((x 26)) rfl]
     try simp only [Act.put, List.setIfInBounds_toArray, List.set_cons_zero, List.set_cons_succ]
     rw [AnyOrder.lexAt_nil]
     obtain ⟨gp, hx, hge, hbp⟩ := hR 26 _ 8 (by omega) rfl rfl rfl
     rw [hx]
     clear hR same
     clear hsc0 hsf0 hrc0 hrf0 hrc1 hrf1 hrc2 hrf2 hrc3 hrf3 hrc4 hrf4 hrc5 hrf5 hrc6 hrf6 hrc7 hrf7 hrc8 hrf8 hrc9 hrf9
     have hpc0 : W.cell? ⟨gp, 0, none⟩ = some (.int .i64 0) := (blk_cell hbp 0).trans rfl; have hpf0 := blk_frozen hbp 0; have hpc1 : W.cell? ⟨gp, 1, none⟩ = some (.int .i64 0) := (blk_cell hbp 1).trans rfl; have hpf1 := blk_frozen hbp 1; have hpc2 : W.cell? ⟨gp, 2, none⟩ = some (.int .i64 0) := (blk_cell hbp 2).trans rfl; have hpf2 := blk_frozen hbp 2; have hpc3 : W.cell? ⟨gp, 3, none⟩ = some (.int .i64 0) := (blk_cell hbp 3).trans rfl; have hpf3 := blk_frozen hbp 3; have hpc4 : W.cell? ⟨gp, 4, none⟩ = some (.int .i64 0) := (blk_cell hbp 4).trans rfl; have hpf4 := blk_frozen hbp 4; have hpc5 : W.cell? ⟨gp, 5, none⟩ = some (.int .i64 0) := (blk_cell hbp 5).trans rfl; have hpf5 := blk_frozen hbp 5; have hpc6 : W.cell? ⟨gp, 6, none⟩ = some (.bool false) := (blk_cell hbp 6).trans rfl; have hpf6 := blk_frozen hbp 6; have hpc7 : W.cell? ⟨gp, 7, none⟩ = some (.bool false) := (blk_cell hbp 7).trans rfl; have hpf7 := blk_frozen hbp 7; have hpc8 : W.cell? ⟨gp, 8, none⟩ = some (.string (⟨#[]⟩ : ByteArray)) := (blk_cell hbp 8).trans rfl; have hpf8 := blk_frozen hbp 8; have hpc9 : W.cell? ⟨gp, 9, none⟩ = some (.string (⟨#[]⟩ : ByteArray)) := (blk_cell hbp 9).trans rfl; have hpf9 := blk_frozen hbp 9
     generalize hQQ : Exit.then _ _ = QQ
     go_wp2
     generalize hq : World.setCell _ _ _ = W4
     have hb4 : Below W3.heap.size W3 W4 := by rw [← hq]; repeat (first | (with_reducible exact hW) | (with_reducible refine below_set ?_ hge))
     have BP := Aside0.mk (show W4.heap[gp]? = some (.cells #[.int .i64 g3, .int .i64 g4, .int .i64 g5, .int .i64 g6, .int .i64 g7, .int .i64 (Go.bits .and .i64 g2 8191), .bool (decide ((Go.bits .and .i64 g2 8192) > 0)), .bool (decide ((Go.bits .and .i64 g2 16384) > 0)), .string (cutS a0 20 hd.toNat), .string (cutS a0 hd.toNat g1.toNat)] 23 (0, 0)) from by rw [← hq]; refine blk_put (cs := #[.int .i64 g3, .int .i64 g4, .int .i64 g5, .int .i64 g6, .int .i64 g7, .int .i64 (Go.bits .and .i64 g2 8191), .bool (decide ((Go.bits .and .i64 g2 8192) > 0)), .bool (decide ((Go.bits .and .i64 g2 16384) > 0)), .string (cutS a0 20 hd.toNat), .string (⟨#[]⟩ : ByteArray)]) ?_ 9 _ rfl; refine blk_put (cs := #[.int .i64 g3, .int .i64 g4, .int .i64 g5, .int .i64 g6, .int .i64 g7, .int .i64 (Go.bits .and .i64 g2 8191), .bool (decide ((Go.bits .and .i64 g2 8192) > 0)), .bool (decide ((Go.bits .and .i64 g2 16384) > 0)), .string (⟨#[]⟩ : ByteArray), .string (⟨#[]⟩ : ByteArray)]) ?_ 8 _ rfl; refine blk_put (cs := #[.int .i64 g3, .int .i64 g4, .int .i64 g5, .int .i64 g6, .int .i64 g7, .int .i64 (Go.bits .and .i64 g2 8191), .bool (decide ((Go.bits .and .i64 g2 8192) > 0)), .bool false, .string (⟨#[]⟩ : ByteArray), .string (⟨#[]⟩ : ByteArray)]) ?_ 7 _ rfl; refine blk_put (cs := #[.int .i64 g3, .int .i64 g4, .int .i64 g5, .int .i64 g6, .int .i64 g7, .int .i64 (Go.bits .and .i64 g2 8191), .bool false, .bool false, .string (⟨#[]⟩ : ByteArray), .string (⟨#[]⟩ : ByteArray)]) ?_ 6 _ rfl; refine blk_put (cs := #[.int .i64 g3, .int .i64 g4, .int .i64 g5, .int .i64 g6, .int .i64 g7, .int .i64 0, .bool false, .bool false, .string (⟨#[]⟩ : ByteArray), .string (⟨#[]⟩ : ByteArray)]) ?_ 5 _ rfl; refine blk_put (cs := #[.int .i64 g3, .int .i64 g4, .int .i64 g5, .int .i64 g6, .int .i64 0, .int .i64 0, .bool false, .bool false, .string (⟨#[]⟩ : ByteArray), .string (⟨#[]⟩ : ByteArray)]) ?_ 4 _ rfl; refine blk_put (cs := #[.int .i64 g3, .int .i64 g4, .int .i64 g5, .int .i64 0, .int .i64 0, .int .i64 0, .bool false, .bool false, .string (⟨#[]⟩ : ByteArray), .string (⟨#[]⟩ : ByteArray)]) ?_ 3 _ rfl; refine blk_put (cs := #[.int .i64 g3, .int .i64 g4, .int .i64 0, .int .i64 0, .int .i64 0, .int .i64 0, .bool false, .bool false, .string (⟨#[]⟩ : ByteArray), .string (⟨#[]⟩ : ByteArray)]) ?_ 2 _ rfl; refine blk_put (cs := #[.int .i64 g3, .int .i64 0, .int .i64 0, .int .i64 0, .int .i64 0, .int .i64 0, .bool false, .bool false, .string (⟨#[]⟩ : ByteArray), .string (⟨#[]⟩ : ByteArray)]) ?_ 1 _ rfl; refine blk_put (cs := #[.int .i64 0, .int .i64 0, .int .i64 0, .int .i64 0, .int .i64 0, .int .i64 0, .bool false, .bool false, .string (⟨#[]⟩ : ByteArray), .string (⟨#[]⟩ : ByteArray)]) ?_ 0 _ rfl; exact hbp)
     subst hQQ
     have NBS := Aside0.mk (Nat.ne_of_lt (Nat.lt_of_lt_of_le (blk_lt BS.out) hge))
     have NBR := Aside0.mk (Nat.ne_of_lt (Nat.lt_of_lt_of_le (blk_lt BR.out) hge))
     have GP := Aside0.mk (Nat.le_trans (below_size HB.out) hge)
     clear hpc0 hpf0 hpc1 hpf1 hpc2 hpf2 hpc3 hpf3 hpc4 hpf4 hpc5 hpf5 hpc6 hpf6 hpc7 hpf7 hpc8 hpf8 hpc9 hpf9 hq hx hW hbp
     have hW := hb4; clear hb4
     have n0_ := Aside0.mk (below_step HB.out hW); have n1_ := Aside0.mk (blk_below BS.out hW); have n2_ := Aside0.mk (blk_below BR.out hW); clear HB BS BR hW; have HB := n0_; have BS := n1_; have BR := n2_; clear n0_ n1_ n2_
     have hsc0 : W4.cell? ⟨gs, 0, none⟩ = some (.string a0) := (blk_cell BS.out 0).trans rfl; have hsf0 := blk_frozen BS.out 0; have hrc0 : W4.cell? ⟨gr, 0, none⟩ = some (.int .i64 0) := (blk_cell BR.out 0).trans rfl; have hrf0 := blk_frozen BR.out 0; have hrc1 : W4.cell? ⟨gr, 1, none⟩ = some (.int .i64 0) := (blk_cell BR.out 1).trans rfl; have hrf1 := blk_frozen BR.out 1; have hrc2 : W4.cell? ⟨gr, 2, none⟩ = some (.int .i64 0) := (blk_cell BR.out 2).trans rfl; have hrf2 := blk_frozen BR.out 2; have hrc3 : W4.cell? ⟨gr, 3, none⟩ = some (.int .i64 0) := (blk_cell BR.out 3).trans rfl; have hrf3 := blk_frozen BR.out 3; have hrc4 : W4.cell? ⟨gr, 4, none⟩ = some (.int .i64 0) := (blk_cell BR.out 4).trans rfl; have hrf4 := blk_frozen BR.out 4; have hrc5 : W4.cell? ⟨gr, 5, none⟩ = some (.int .i64 0) := (blk_cell BR.out 5).trans rfl; have hrf5 := blk_frozen BR.out 5; have hrc6 : W4.cell? ⟨gr, 6, none⟩ = some (.bool false) := (blk_cell BR.out 6).trans rfl; have hrf6 := blk_frozen BR.out 6; have hrc7 : W4.cell? ⟨gr, 7, none⟩ = some (.bool false) := (blk_cell BR.out 7).trans rfl; have hrf7 := blk_frozen BR.out 7; have hrc8 : W4.cell? ⟨gr, 8, none⟩ = some (.string (⟨#[]⟩ : ByteArray)) := (blk_cell BR.out 8).trans rfl; have hrf8 := blk_frozen BR.out 8; have hrc9 : W4.cell? ⟨gr, 9, none⟩ = some (.string (⟨#[]⟩ : ByteArray)) := (blk_cell BR.out 9).trans rfl; have hrf9 := blk_frozen BR.out 9
     have hpc0 : W4.cell? ⟨gp, 0, none⟩ = some (.int .i64 g3) := (blk_cell BP.out 0).trans rfl; have hpf0 := blk_frozen BP.out 0; have hpc1 : W4.cell? ⟨gp, 1, none⟩ = some (.int .i64 g4) := (blk_cell BP.out 1).trans rfl; have hpf1 := blk_frozen BP.out 1; have hpc2 : W4.cell? ⟨gp, 2, none⟩ = some (.int .i64 g5) := (blk_cell BP.out 2).trans rfl; have hpf2 := blk_frozen BP.out 2; have hpc3 : W4.cell? ⟨gp, 3, none⟩ = some (.int .i64 g6) := (blk_cell BP.out 3).trans rfl; have hpf3 := blk_frozen BP.out 3; have hpc4 : W4.cell? ⟨gp, 4, none⟩ = some (.int .i64 g7) := (blk_cell BP.out 4).trans rfl; have hpf4 := blk_frozen BP.out 4; have hpc5 : W4.cell? ⟨gp, 5, none⟩ = some (.int .i64 (Go.bits .and .i64 g2 8191)) := (blk_cell BP.out 5).trans rfl; have hpf5 := blk_frozen BP.out 5; have hpc6 : W4.cell? ⟨gp, 6, none⟩ = some (.bool (decide ((Go.bits .and .i64 g2 8192) > 0))) := (blk_cell BP.out 6).trans rfl; have hpf6 := blk_frozen BP.out 6; have hpc7 : W4.cell? ⟨gp, 7, none⟩ = some (.bool (decide ((Go.bits .and .i64 g2 16384) > 0))) := (blk_cell BP.out 7).trans rfl; have hpf7 := blk_frozen BP.out 7; have hpc8 : W4.cell? ⟨gp, 8, none⟩ = some (.string (cutS a0 20 hd.toNat)) := (blk_cell BP.out 8).trans rfl; have hpf8 := blk_frozen BP.out 8; have hpc9 : W4.cell? ⟨gp, 9, none⟩ = some (.string (cutS a0 hd.toNat g1.toNat)) := (blk_cell BP.out 9).trans rfl; have hpf9 := blk_frozen BP.out 9
     have hns := NBS.out; have hnr := NBR.out; have hns2 := Ne.symm NBS.out; have hnr2 := Ne.symm NBR.out
     clear hge
     have H := HT.out
     clear HT
     by_cases c7 : bt a0 1 > 0
     case pos =>
      rw [if_pos c7] at H
      have h := H
      simp only [Option.some.injEq, Prod.mk.injEq] at h
      obtain ⟨rfl, rfl, rfl, rfl, rfl, rfl, rfl, rfl, rfl, rfl, rfl⟩ := h
      have d7 := decide_eq_true c7
      go_wp2
      refine bodyPost_ret (results_ct rfl _ _ gr 23 #[.int .i64 0, .int .i64 0, .int .i64 0, .int .i64 0, .int .i64 0, .int .i64 0, .bool false, .bool false, .string (⟨#[]⟩ : ByteArray), .string (⟨#[]⟩ : ByteArray)] (0, 0) _ rfl (by (with_reducible repeat (first | refine blk_drewN ?_ _ | refine blk_drew ?_ | refine blk_alloc ?_ _)); refine blk_put (cs := #[.int .i64 0, .int .i64 0, .int .i64 0, .int .i64 0, .int .i64 0, .int .i64 0, .bool false, .bool false, .string (⟨#[]⟩ : ByteArray), .string (⟨#[]⟩ : ByteArray)]) ?_ 9 _ rfl; refine blk_put (cs := #[.int .i64 0, .int .i64 0, .int .i64 0, .int .i64 0, .int .i64 0, .int .i64 0, .bool false, .bool false, .string (⟨#[]⟩ : ByteArray), .string (⟨#[]⟩ : ByteArray)]) ?_ 8 _ rfl; refine blk_put (cs := #[.int .i64 0, .int .i64 0, .int .i64 0, .int .i64 0, .int .i64 0, .int .i64 0, .bool false, .bool false, .string (⟨#[]⟩ : ByteArray), .string (⟨#[]⟩ : ByteArray)]) ?_ 7 _ rfl; refine blk_put (cs := #[.int .i64 0, .int .i64 0, .int .i64 0, .int .i64 0, .int .i64 0, .int .i64 0, .bool false, .bool false, .string (⟨#[]⟩ : ByteArray), .string (⟨#[]⟩ : ByteArray)]) ?_ 6 _ rfl; refine blk_put (cs := #[.int .i64 0, .int .i64 0, .int .i64 0, .int .i64 0, .int .i64 0, .int .i64 0, .bool false, .bool false, .string (⟨#[]⟩ : ByteArray), .string (⟨#[]⟩ : ByteArray)]) ?_ 5 _ rfl; refine blk_put (cs := #[.int .i64 0, .int .i64 0, .int .i64 0, .int .i64 0, .int .i64 0, .int .i64 0, .bool false, .bool false, .string (⟨#[]⟩ : ByteArray), .string (⟨#[]⟩ : ByteArray)]) ?_ 4 _ rfl; refine blk_put (cs := #[.int .i64 0, .int .i64 0, .int .i64 0, .int .i64 0, .int .i64 0, .int .i64 0, .bool false, .bool false, .string (⟨#[]⟩ : ByteArray), .string (⟨#[]⟩ : ByteArray)]) ?_ 3 _ rfl; refine blk_put (cs := #[.int .i64 0, .int .i64 0, .int .i64 0, .int .i64 0, .int .i64 0, .int .i64 0, .bool false, .bool false, .string (⟨#[]⟩ : ByteArray), .string (⟨#[]⟩ : ByteArray)]) ?_ 2 _ rfl; refine blk_put (cs := #[.int .i64 0, .int .i64 0, .int .i64 0, .int .i64 0, .int .i64 0, .int .i64 0, .bool false, .bool false, .string (⟨#[]⟩ : ByteArray), .string (⟨#[]⟩ : ByteArray)]) ?_ 1 _ rfl; refine blk_put (cs := #[.int .i64 0, .int .i64 0, .int .i64 0, .int .i64 0, .int .i64 0, .int .i64 0, .bool false, .bool false, .string (⟨#[]⟩ : ByteArray), .string (⟨#[]⟩ : ByteArray)]) ?_ 0 _ rfl; (with_reducible repeat (first | refine blk_drewN ?_ _ | refine blk_drew ?_ | refine blk_alloc ?_ _)); exact BR.out) Try.underlying23 rfl (by kernel_rfl)) rfl ?_
      exact ⟨by first | rfl | (simp; done) | (simp [*]; done), by repeat (first | (with_reducible first | exact HB.out | apply below_alloc | apply pw_below_drewN | apply below_drew1 | refine below_set ?_ GR.out) | exact HB.out)⟩
     rw [if_neg c7] at H
     have d7 := decide_eq_false c7
     by_cases c8 : (Go.bits .and .i64 g2 32768) > 0
     case pos =>
      rw [if_pos c8] at H
      have h := H
      simp only [Option.some.injEq, Prod.mk.injEq] at h
      obtain ⟨rfl, rfl, rfl, rfl, rfl, rfl, rfl, rfl, rfl, rfl, rfl⟩ := h
      have d8 := decide_eq_true c8
      go_wp2
      refine bodyPost_ret (results_ct rfl _ _ gr 23 #[.int .i64 0, .int .i64 0, .int .i64 0, .int .i64 0, .int .i64 0, .int .i64 0, .bool false, .bool false, .string (⟨#[]⟩ : ByteArray), .string (⟨#[]⟩ : ByteArray)] (0, 0) _ rfl (by (with_reducible repeat (first | refine blk_drewN ?_ _ | refine blk_drew ?_ | refine blk_alloc ?_ _)); refine blk_put (cs := #[.int .i64 0, .int .i64 0, .int .i64 0, .int .i64 0, .int .i64 0, .int .i64 0, .bool false, .bool false, .string (⟨#[]⟩ : ByteArray), .string (⟨#[]⟩ : ByteArray)]) ?_ 9 _ rfl; refine blk_put (cs := #[.int .i64 0, .int .i64 0, .int .i64 0, .int .i64 0, .int .i64 0, .int .i64 0, .bool false, .bool false, .string (⟨#[]⟩ : ByteArray), .string (⟨#[]⟩ : ByteArray)]) ?_ 8 _ rfl; refine blk_put (cs := #[.int .i64 0, .int .i64 0, .int .i64 0, .int .i64 0, .int .i64 0, .int .i64 0, .bool false, .bool false, .string (⟨#[]⟩ : ByteArray), .string (⟨#[]⟩ : ByteArray)]) ?_ 7 _ rfl; refine blk_put (cs := #[.int .i64 0, .int .i64 0, .int .i64 0, .int .i64 0, .int .i64 0, .int .i64 0, .bool false, .bool false, .string (⟨#[]⟩ : ByteArray), .string (⟨#[]⟩ : ByteArray)]) ?_ 6 _ rfl; refine blk_put (cs := #[.int .i64 0, .int .i64 0, .int .i64 0, .int .i64 0, .int .i64 0, .int .i64 0, .bool false, .bool false, .string (⟨#[]⟩ : ByteArray), .string (⟨#[]⟩ : ByteArray)]) ?_ 5 _ rfl; refine blk_put (cs := #[.int .i64 0, .int .i64 0, .int .i64 0, .int .i64 0, .int .i64 0, .int .i64 0, .bool false, .bool false, .string (⟨#[]⟩ : ByteArray), .string (⟨#[]⟩ : ByteArray)]) ?_ 4 _ rfl; refine blk_put (cs := #[.int .i64 0, .int .i64 0, .int .i64 0, .int .i64 0, .int .i64 0, .int .i64 0, .bool false, .bool false, .string (⟨#[]⟩ : ByteArray), .string (⟨#[]⟩ : ByteArray)]) ?_ 3 _ rfl; refine blk_put (cs := #[.int .i64 0, .int .i64 0, .int .i64 0, .int .i64 0, .int .i64 0, .int .i64 0, .bool false, .bool false, .string (⟨#[]⟩ : ByteArray), .string (⟨#[]⟩ : ByteArray)]) ?_ 2 _ rfl; refine blk_put (cs := #[.int .i64 0, .int .i64 0, .int .i64 0, .int .i64 0, .int .i64 0, .int .i64 0, .bool false, .bool false, .string (⟨#[]⟩ : ByteArray), .string (⟨#[]⟩ : ByteArray)]) ?_ 1 _ rfl; refine blk_put (cs := #[.int .i64 0, .int .i64 0, .int .i64 0, .int .i64 0, .int .i64 0, .int .i64 0, .bool false, .bool false, .string (⟨#[]⟩ : ByteArray), .string (⟨#[]⟩ : ByteArray)]) ?_ 0 _ rfl; (with_reducible repeat (first | refine blk_drewN ?_ _ | refine blk_drew ?_ | refine blk_alloc ?_ _)); exact BR.out) Try.underlying23 rfl (by kernel_rfl)) rfl ?_
      exact ⟨by first | rfl | (simp; done) | (simp [*]; done), by repeat (first | (with_reducible first | exact HB.out | apply below_alloc | apply pw_below_drewN | apply below_drew1 | refine below_set ?_ GR.out) | exact HB.out)⟩
     rw [if_neg c8] at H
     have d8 := decide_eq_false c8
     obtain ⟨cc, hcc, H⟩ := Option.bind_eq_some_iff.mp H
     have HC := Aside0.mk hcc
     have HT := Aside0.mk H
     clear hcc H
     go_wp2_with fail
     refine (ip_Check.calls k g3 g4 g5 g6 g7 (Go.bits .and .i64 g2 8191) (decide ((Go.bits .and .i64 g2 8192) > 0)) (decide ((Go.bits .and .i64 g2 16384) > 0)) (cutS a0 20 hd.toNat) (cutS a0 hd.toNat g1.toNat) cc _ HC.out).mono ?_
     rintro e W5 ⟨rfl, hW⟩
     have n4_ := Aside0.mk (blk_below BP.out hW); clear BP; have BP := n4_; clear n4_
     clear hsc0 hsf0 hrc0 hrf0 hrc1 hrf1 hrc2 hrf2 hrc3 hrf3 hrc4 hrf4 hrc5 hrf5 hrc6 hrf6 hrc7 hrf7 hrc8 hrf8 hrc9 hrf9 hpc0 hpf0 hpc1 hpf1 hpc2 hpf2 hpc3 hpf3 hpc4 hpf4 hpc5 hpf5 hpc6 hpf6 hpc7 hpf7 hpc8 hpf8 hpc9 hpf9
     have n0_ := Aside0.mk (below_step HB.out hW); have n1_ := Aside0.mk (blk_below BS.out hW); have n2_ := Aside0.mk (blk_below BR.out hW); clear HB BS BR hW; have HB := n0_; have BS := n1_; have BR := n2_; clear n0_ n1_ n2_
     have hsc0 : W5.cell? ⟨gs, 0, none⟩ = some (.string a0) := (blk_cell BS.out 0).trans rfl; have hsf0 := blk_frozen BS.out 0; have hrc0 : W5.cell? ⟨gr, 0, none⟩ = some (.int .i64 0) := (blk_cell BR.out 0).trans rfl; have hrf0 := blk_frozen BR.out 0; have hrc1 : W5.cell? ⟨gr, 1, none⟩ = some (.int .i64 0) := (blk_cell BR.out 1).trans rfl; have hrf1 := blk_frozen BR.out 1; have hrc2 : W5.cell? ⟨gr, 2, none⟩ = some (.int .i64 0) := (blk_cell BR.out 2).trans rfl; have hrf2 := blk_frozen BR.out 2; have hrc3 : W5.cell? ⟨gr, 3, none⟩ = some (.int .i64 0) := (blk_cell BR.out 3).trans rfl; have hrf3 := blk_frozen BR.out 3; have hrc4 : W5.cell? ⟨gr, 4, none⟩ = some (.int .i64 0) := (blk_cell BR.out 4).trans rfl; have hrf4 := blk_frozen BR.out 4; have hrc5 : W5.cell? ⟨gr, 5, none⟩ = some (.int .i64 0) := (blk_cell BR.out 5).trans rfl; have hrf5 := blk_frozen BR.out 5; have hrc6 : W5.cell? ⟨gr, 6, none⟩ = some (.bool false) := (blk_cell BR.out 6).trans rfl; have hrf6 := blk_frozen BR.out 6; have hrc7 : W5.cell? ⟨gr, 7, none⟩ = some (.bool false) := (blk_cell BR.out 7).trans rfl; have hrf7 := blk_frozen BR.out 7; have hrc8 : W5.cell? ⟨gr, 8, none⟩ = some (.string (⟨#[]⟩ : ByteArray)) := (blk_cell BR.out 8).trans rfl; have hrf8 := blk_frozen BR.out 8; have hrc9 : W5.cell? ⟨gr, 9, none⟩ = some (.string (⟨#[]⟩ : ByteArray)) := (blk_cell BR.out 9).trans rfl; have hrf9 := blk_frozen BR.out 9
     have hpc0 : W5.cell? ⟨gp, 0, none⟩ = some (.int .i64 g3) := (blk_cell BP.out 0).trans rfl; have hpf0 := blk_frozen BP.out 0; have hpc1 : W5.cell? ⟨gp, 1, none⟩ = some (.int .i64 g4) := (blk_cell BP.out 1).trans rfl; have hpf1 := blk_frozen BP.out 1; have hpc2 : W5.cell? ⟨gp, 2, none⟩ = some (.int .i64 g5) := (blk_cell BP.out 2).trans rfl; have hpf2 := blk_frozen BP.out 2; have hpc3 : W5.cell? ⟨gp, 3, none⟩ = some (.int .i64 g6) := (blk_cell BP.out 3).trans rfl; have hpf3 := blk_frozen BP.out 3; have hpc4 : W5.cell? ⟨gp, 4, none⟩ = some (.int .i64 g7) := (blk_cell BP.out 4).trans rfl; have hpf4 := blk_frozen BP.out 4; have hpc5 : W5.cell? ⟨gp, 5, none⟩ = some (.int .i64 (Go.bits .and .i64 g2 8191)) := (blk_cell BP.out 5).trans rfl; have hpf5 := blk_frozen BP.out 5; have hpc6 : W5.cell? ⟨gp, 6, none⟩ = some (.bool (decide ((Go.bits .and .i64 g2 8192) > 0))) := (blk_cell BP.out 6).trans rfl; have hpf6 := blk_frozen BP.out 6; have hpc7 : W5.cell? ⟨gp, 7, none⟩ = some (.bool (decide ((Go.bits .and .i64 g2 16384) > 0))) := (blk_cell BP.out 7).trans rfl; have hpf7 := blk_frozen BP.out 7; have hpc8 : W5.cell? ⟨gp, 8, none⟩ = some (.string (cutS a0 20 hd.toNat)) := (blk_cell BP.out 8).trans rfl; have hpf8 := blk_frozen BP.out 8; have hpc9 : W5.cell? ⟨gp, 9, none⟩ = some (.string (cutS a0 hd.toNat g1.toNat)) := (blk_cell BP.out 9).trans rfl; have hpf9 := blk_frozen BP.out 9
     have H := HT.out
     clear HT
     by_cases c9 : cc = 0
     case pos =>
      subst c9
      rw [if_pos rfl] at H
      have h := H
      simp only [Option.some.injEq, Prod.mk.injEq] at h
      obtain ⟨rfl, rfl, rfl, rfl, rfl, rfl, rfl, rfl, rfl, rfl, rfl⟩ := h
      go_wp2
      refine bodyPost_ret (results_ct rfl _ _ gr 23 #[.int .i64 g3, .int .i64 g4, .int .i64 g5, .int .i64 g6, .int .i64 g7, .int .i64 (Go.bits .and .i64 g2 8191), .bool (decide ((Go.bits .and .i64 g2 8192) > 0)), .bool (decide ((Go.bits .and .i64 g2 16384) > 0)), .string (cutS a0 20 hd.toNat), .string (cutS a0 hd.toNat g1.toNat)] (0, 0) _ rfl (by (with_reducible repeat (first | refine blk_drewN ?_ _ | refine blk_drew ?_ | refine blk_alloc ?_ _)); refine blk_put (cs := #[.int .i64 g3, .int .i64 g4, .int .i64 g5, .int .i64 g6, .int .i64 g7, .int .i64 (Go.bits .and .i64 g2 8191), .bool (decide ((Go.bits .and .i64 g2 8192) > 0)), .bool (decide ((Go.bits .and .i64 g2 16384) > 0)), .string (cutS a0 20 hd.toNat), .string (⟨#[]⟩ : ByteArray)]) ?_ 9 _ rfl; refine blk_put (cs := #[.int .i64 g3, .int .i64 g4, .int .i64 g5, .int .i64 g6, .int .i64 g7, .int .i64 (Go.bits .and .i64 g2 8191), .bool (decide ((Go.bits .and .i64 g2 8192) > 0)), .bool (decide ((Go.bits .and .i64 g2 16384) > 0)), .string (⟨#[]⟩ : ByteArray), .string (⟨#[]⟩ : ByteArray)]) ?_ 8 _ rfl; refine blk_put (cs := #[.int .i64 g3, .int .i64 g4, .int .i64 g5, .int .i64 g6, .int .i64 g7, .int .i64 (Go.bits .and .i64 g2 8191), .bool (decide ((Go.bits .and .i64 g2 8192) > 0)), .bool false, .string (⟨#[]⟩ : ByteArray), .string (⟨#[]⟩ : ByteArray)]) ?_ 7 _ rfl; refine blk_put (cs := #[.int .i64 g3, .int .i64 g4, .int .i64 g5, .int .i64 g6, .int .i64 g7, .int .i64 (Go.bits .and .i64 g2 8191), .bool false, .bool false, .string (⟨#[]⟩ : ByteArray), .string (⟨#[]⟩ : ByteArray)]) ?_ 6 _ rfl; refine blk_put (cs := #[.int .i64 g3, .int .i64 g4, .int .i64 g5, .int .i64 g6, .int .i64 g7, .int .i64 0, .bool false, .bool false, .string (⟨#[]⟩ : ByteArray), .string (⟨#[]⟩ : ByteArray)]) ?_ 5 _ rfl; refine blk_put (cs := #[.int .i64 g3, .int .i64 g4, .int .i64 g5, .int .i64 g6, .int .i64 0, .int .i64 0, .bool false, .bool false, .string (⟨#[]⟩ : ByteArray), .string (⟨#[]⟩ : ByteArray)]) ?_ 4 _ rfl; refine blk_put (cs := #[.int .i64 g3, .int .i64 g4, .int .i64 g5, .int .i64 0, .int .i64 0, .int .i64 0, .bool false, .bool false, .string (⟨#[]⟩ : ByteArray), .string (⟨#[]⟩ : ByteArray)]) ?_ 3 _ rfl; refine blk_put (cs := #[.int .i64 g3, .int .i64 g4, .int .i64 0, .int .i64 0, .int .i64 0, .int .i64 0, .bool false, .bool false, .string (⟨#[]⟩ : ByteArray), .string (⟨#[]⟩ : ByteArray)]) ?_ 2 _ rfl; refine blk_put (cs := #[.int .i64 g3, .int .i64 0, .int .i64 0, .int .i64 0, .int .i64 0, .int .i64 0, .bool false, .bool false, .string (⟨#[]⟩ : ByteArray), .string (⟨#[]⟩ : ByteArray)]) ?_ 1 _ rfl; refine blk_put (cs := #[.int .i64 0, .int .i64 0, .int .i64 0, .int .i64 0, .int .i64 0, .int .i64 0, .bool false, .bool false, .string (⟨#[]⟩ : ByteArray), .string (⟨#[]⟩ : ByteArray)]) ?_ 0 _ rfl; (with_reducible repeat (first | refine blk_drewN ?_ _ | refine blk_drew ?_ | refine blk_alloc ?_ _)); exact BR.out) Try.underlying23 rfl (by kernel_rfl)) rfl ?_
      exact ⟨by first | rfl | (simp; done) | (simp [*]; done), by repeat (first | (with_reducible first | exact HB.out | apply below_alloc | apply pw_below_drewN | apply below_drew1 | refine below_set ?_ GR.out) | exact HB.out)⟩
     rw [if_neg c9] at H
     have h := H
     simp only [Option.some.injEq, Prod.mk.injEq] at h
     obtain ⟨rfl, rfl, rfl, rfl, rfl, rfl, rfl, rfl, rfl, rfl, rfl⟩ := h
     have d9 : (cc != 0) = true := bne_iff_ne.mpr c9
     go_wp2
     refine bodyPost_ret (results_ct rfl _ _ gr 23 #[.int .i64 0, .int .i64 0, .int .i64 0, .int .i64 0, .int .i64 0, .int .i64 0, .bool false, .bool false, .string (⟨#[]⟩ : ByteArray), .string (⟨#[]⟩ : ByteArray)] (0, 0) _ rfl (by (with_reducible repeat (first | refine blk_drewN ?_ _ | refine blk_drew ?_ | refine blk_alloc ?_ _)); refine blk_put (cs := #[.int .i64 0, .int .i64 0, .int .i64 0, .int .i64 0, .int .i64 0, .int .i64 0, .bool false, .bool false, .string (⟨#[]⟩ : ByteArray), .string (⟨#[]⟩ : ByteArray)]) ?_ 9 _ rfl; refine blk_put (cs := #[.int .i64 0, .int .i64 0, .int .i64 0, .int .i64 0, .int .i64 0, .int .i64 0, .bool false, .bool false, .string (⟨#[]⟩ : ByteArray), .string (⟨#[]⟩ : ByteArray)]) ?_ 8 _ rfl; refine blk_put (cs := #[.int .i64 0, .int .i64 0, .int .i64 0, .int .i64 0, .int .i64 0, .int .i64 0, .bool false, .bool false, .string (⟨#[]⟩ : ByteArray), .string (⟨#[]⟩ : ByteArray)]) ?_ 7 _ rfl; refine blk_put (cs := #[.int .i64 0, .int .i64 0, .int .i64 0, .int .i64 0, .int .i64 0, .int .i64 0, .bool false, .bool false, .string (⟨#[]⟩ : ByteArray), .string (⟨#[]⟩ : ByteArray)]) ?_ 6 _ rfl; refine blk_put (cs := #[.int .i64 0, .int .i64 0, .int .i64 0, .int .i64 0, .int .i64 0, .int .i64 0, .bool false, .bool false, .string (⟨#[]⟩ : ByteArray), .string (⟨#[]⟩ : ByteArray)]) ?_ 5 _ rfl; refine blk_put (cs := #[.int .i64 0, .int .i64 0, .int .i64 0, .int .i64 0, .int .i64 0, .int .i64 0, .bool false, .bool false, .string (⟨#[]⟩ : ByteArray), .string (⟨#[]⟩ : ByteArray)]) ?_ 4 _ rfl; refine blk_put (cs := #[.int .i64 0, .int .i64 0, .int .i64 0, .int .i64 0, .int .i64 0, .int .i64 0, .bool false, .bool false, .string (⟨#[]⟩ : ByteArray), .string (⟨#[]⟩ : ByteArray)]) ?_ 3 _ rfl; refine blk_put (cs := #[.int .i64 0, .int .i64 0, .int .i64 0, .int .i64 0, .int .i64 0, .int .i64 0, .bool false, .bool false, .string (⟨#[]⟩ : ByteArray), .string (⟨#[]⟩ : ByteArray)]) ?_ 2 _ rfl; refine blk_put (cs := #[.int .i64 0, .int .i64 0, .int .i64 0, .int .i64 0, .int .i64 0, .int .i64 0, .bool false, .bool false, .string (⟨#[]⟩ : ByteArray), .string (⟨#[]⟩ : ByteArray)]) ?_ 1 _ rfl; refine blk_put (cs := #[.int .i64 0, .int .i64 0, .int .i64 0, .int .i64 0, .int .i64 0, .int .i64 0, .bool false, .bool false, .string (⟨#[]⟩ : ByteArray), .string (⟨#[]⟩ : ByteArray)]) ?_ 0 _ rfl; (with_reducible repeat (first | refine blk_drewN ?_ _ | refine blk_drew ?_ | refine blk_alloc ?_ _)); exact BR.out) Try.underlying23 rfl (by kernel_rfl)) rfl ?_
     exact ⟨by first | rfl | (simp; done) | (simp [*]; done), by repeat (first | (with_reducible first | exact HB.out | apply below_alloc | apply pw_below_drewN | apply below_drew1 | refine below_set ?_ GR.out) | exact HB.out)⟩


/-! ### sternpostbook_Among: function 20 -/
def sternpostbook_Among.f (a0 : Int) (a1 : Int) : Option (Int) := if a1 = 0 then (none) else (some (Int.tmod (wrap64 ((Int.tmod a0 a1) + a1)) a1))
set_option maxHeartbeats 8000000 in
set_option maxRecDepth 100000 in
theorem sternpostbook_Among.calls (a0 : Int) (a1 : Int) (r : Int) (w : World) (h : sternpostbook_Among.f a0 a1 = some r) :
  Calls Try.prog 20 #[.int .i64 a0, .int .i64 a1] w fun e w' => e = .returned (.int .i64 r) ∧ Drawn0 w w' := by
 have H : (if a1 = 0 then (none) else (some (Int.tmod (wrap64 ((Int.tmod a0 a1) + a1)) a1))) = some r := h
 clear h
 by_cases c3 : a1 = 0
 ·rw [if_pos c3] at H
  exact absurd H (by simp)
 ·rw [if_neg c3] at H
  have c3b0 : (a1 == 0) = false := beq_eq_false_iff_ne.mpr c3
  have c3b1 : (a1 != 0) = true := bne_iff_ne.mpr c3
  obtain rfl := Option.some.inj H
  go_enter Try.func20, Try.ntmps20
  go_wp2
  go_ret
  exact ⟨by first | rfl | (simp; done) | (simp [*]; done), by repeat (first | exact Drawn0.refl _ | apply Drawn0.step)⟩

/-! ### sternpostlaw05_IpTurned: function 7 -/
def sternpostlaw05_IpTurned_none (d : Int × Int × Int × Int × Int × Int × Bool × Bool × ByteArray × ByteArray × Int) : Option Bool :=
 if d.2.2.2.2.2.2.2.2.2.2 = 0 then some false else if d.1 = 0 ∧ d.2.1 = 0 ∧ d.2.2.1 = 0 ∧ d.2.2.2.1 = 0 ∧ d.2.2.2.2.1 = 0 ∧ d.2.2.2.2.2.1 = 0 ∧ d.2.2.2.2.2.2.1 = false ∧ d.2.2.2.2.2.2.2.1 = false ∧ d.2.2.2.2.2.2.2.2.1 = ⟨#[]⟩ ∧ d.2.2.2.2.2.2.2.2.2.1 = ⟨#[]⟩ then some true else some false
def sternpostlaw05_IpTurned_tail.f (k : Nat) (x5 : ByteArray) (x1 : Int) : Option Bool :=
 if 0 ≤ x1 ∧ x1 / 8 < (x5.size : Int) ∧ x1 < 9223372036854775807 then (ip_Decode.f k (flipS x5 (x1 / 8).toNat (x1 % 8).toNat)).bind fun d => sternpostlaw05_IpTurned_none d else none
theorem sternpostlaw05_IpTurned_tail.mono (x5 : ByteArray) (x1 : Int) (k : Nat) : LeO (sternpostlaw05_IpTurned_tail.f k x5 x1) (sternpostlaw05_IpTurned_tail.f (k + 1) x5 x1) := by
 unfold sternpostlaw05_IpTurned_tail.f
 exact LeO.ite (LeO.bind (ip_Decode.mono _ _) (fun _ => LeO.refl _)) (LeO.none _)

def sternpostlaw05_IpTurned.f (k : Nat) (a0_0 : Int) (a0_1 : Int) (a0_2 : Int) (a0_3 : Int) (a0_4 : Int) (a0_5 : Int) (a0_6 : Bool) (a0_7 : Bool) (a0_8 : ByteArray) (a0_9 : ByteArray) (a1 : Int) : Option (Bool) := (sternpostlaw05_works.f k).bind fun t158 => (if t158 = true then ((ip_Encode.f k a0_0 a0_1 a0_2 a0_3 a0_4 a0_5 a0_6 a0_7 a0_8 a0_9).bind fun bt159 => (if bt159.2 = 0 then ((sternpostbook_Among.f a1 (wrap64 ((wrap64 (8 * (wrap64 (20 + (a0_8.size : Int))))) - 4))).bind fun t161 => (sternpostlaw05_IpTurned_tail.f k bt159.1 (wrap64 (4 + t161)))) else (some true))) else (some false))
theorem sternpostlaw05_IpTurned.mono : ∀ a0 a1 a2 a3 a4 a5 a6 a7 a8 a9 a10 k, LeO (sternpostlaw05_IpTurned.f k a0 a1 a2 a3 a4 a5 a6 a7 a8 a9 a10) (sternpostlaw05_IpTurned.f (k + 1) a0 a1 a2 a3 a4 a5 a6 a7 a8 a9 a10) := by
 intro a0 a1 a2 a3 a4 a5 a6 a7 a8 a9 a10 k
 unfold sternpostlaw05_IpTurned.f
 repeat' first
   | (with_reducible exact ip_Encode.mono _ _ _ _ _ _ _ _ _ _ _)
   | (with_reducible exact sternpostlaw05_IpTurned_tail.mono _ _ _)
   | (with_reducible exact sternpostlaw05_works.mono _)
   | (with_reducible exact LeO.refl _)
   | (with_reducible exact LeO.none _)
   | (with_reducible refine LeO.ite ?_ ?_)
   | (with_reducible refine LeO.bind ?_ (fun _ => ?_))
   | exact ip_Encode.mono _ _ _ _ _ _ _ _ _ _ _
   | exact sternpostlaw05_IpTurned_tail.mono _ _ _
   | exact sternpostlaw05_works.mono _
   | exact LeO.none _
   | refine LeO.ite ?_ ?_
   | refine LeO.bind ?_ (fun _ => ?_)
set_option maxHeartbeats 8000000 in
set_option maxRecDepth 100000 in
theorem sternpostlaw05_IpTurned.calls (k : Nat) (a0_0 : Int) (a0_1 : Int) (a0_2 : Int) (a0_3 : Int) (a0_4 : Int) (a0_5 : Int) (a0_6 : Bool) (a0_7 : Bool) (a0_8 : ByteArray) (a0_9 : ByteArray) (a1 : Int) (r : Bool) (w : World) (h : sternpostlaw05_IpTurned.f k a0_0 a0_1 a0_2 a0_3 a0_4 a0_5 a0_6 a0_7 a0_8 a0_9 a1 = some r) (hrT_ : r = true) :
  Calls Try.prog 7 #[.agg #[.int .i64 a0_0, .int .i64 a0_1, .int .i64 a0_2, .int .i64 a0_3, .int .i64 a0_4, .int .i64 a0_5, .bool a0_6, .bool a0_7, .string a0_8, .string a0_9], .int .i64 a1] w fun e w' => e = .returned (.bool r) ∧ Below w.heap.size w w' := by
 have hu23 := Try.underlying23
 have hcvB := fun (W : World) (s : ByteArray) => Go.Lib.run_convert_string_bytes (P := Try.prog) W 9 40 5 s Try.underlying9 Try.underlying40 Try.underlying5
 have HB := Aside0.mk (Below.refl w.heap.size w)
 have H : ((sternpostlaw05_works.f k).bind fun t158 => (if t158 = true then ((ip_Encode.f k a0_0 a0_1 a0_2 a0_3 a0_4 a0_5 a0_6 a0_7 a0_8 a0_9).bind fun bt159 => (if bt159.2 = 0 then ((sternpostbook_Among.f a1 (wrap64 ((wrap64 (8 * (wrap64 (20 + (a0_8.size : Int))))) - 4))).bind fun t161 => (sternpostlaw05_IpTurned_tail.f k bt159.1 (wrap64 (4 + t161)))) else (some true))) else (some false))) = some r := h
 clear h
 replace H := Option.bind_eq_some_iff.mp H
 obtain ⟨t158, A30, H⟩ := H
 replace H : (if t158 = true then ((ip_Encode.f k a0_0 a0_1 a0_2 a0_3 a0_4 a0_5 a0_6 a0_7 a0_8 a0_9).bind fun bt159 => (if bt159.2 = 0 then ((sternpostbook_Among.f a1 (wrap64 ((wrap64 (8 * (wrap64 (20 + (a0_8.size : Int))))) - 4))).bind fun t161 => (sternpostlaw05_IpTurned_tail.f k bt159.1 (wrap64 (4 + t161)))) else (some true))) else (some false)) = some r := H
 have A3 := Aside0.mk A30
 clear A30
 by_cases c4 : t158 = true
 ·subst c4
  have H1 : ((ip_Encode.f k a0_0 a0_1 a0_2 a0_3 a0_4 a0_5 a0_6 a0_7 a0_8 a0_9).bind fun bt159 => (if bt159.2 = 0 then ((sternpostbook_Among.f a1 (wrap64 ((wrap64 (8 * (wrap64 (20 + (a0_8.size : Int))))) - 4))).bind fun t161 => (sternpostlaw05_IpTurned_tail.f k bt159.1 (wrap64 (4 + t161)))) else (some true))) = some r := by rw [if_pos rfl] at H; exact H
  clear H
  have H := H1
  clear H1
  replace H := Option.bind_eq_some_iff.mp H
  obtain ⟨⟨t159, t160⟩, A50, H⟩ := H
  replace H : (if t160 = 0 then ((sternpostbook_Among.f a1 (wrap64 ((wrap64 (8 * (wrap64 (20 + (a0_8.size : Int))))) - 4))).bind fun t161 => (sternpostlaw05_IpTurned_tail.f k t159 (wrap64 (4 + t161)))) else (some true)) = some r := H
  have A5 := Aside0.mk A50
  clear A50
  by_cases c6 : t160 = 0
  ·rw [if_pos c6] at H
   have c6b0 : (t160 == 0) = true := beq_iff_eq.mpr c6
   have c6b1 : (t160 != 0) = false := bne_eq_false_iff_eq.mpr c6
   clear c6
   replace H := Option.bind_eq_some_iff.mp H
   obtain ⟨t161, A70, H⟩ := H
   replace H : (sternpostlaw05_IpTurned_tail.f k t159 (wrap64 (4 + t161))) = some r := H
   have A7 := Aside0.mk A70
   clear A70
   go_enter Try.func7, Try.ntmps7
   go_wp2_with (first | ((with_reducible refine gate_dst (N := 2) rfl ?_); refine box_event ?hg (N := 2) ?hd (cs := #[.int .i64 a0_0, .int .i64 a0_1, .int .i64 a0_2, .int .i64 a0_3, .int .i64 a0_4, .int .i64 a0_5, .bool a0_6, .bool a0_7, .string a0_8, .string a0_9]) (t := 23) ?hr ?_; (case hd => rfl); (case hg => rfl); (case hr => first | (go_simp; done) | (go_simp; rfl)); intro gb157 hg w8 hbox hb; have n0_ := Aside0.mk (below_step (by repeat (first | (with_reducible first | exact HB.out | apply below_alloc | apply pw_below_drewN | apply below_drew1) | exact HB.out)) hb); have n1_ := Aside0.mk (hbox); have n2_ := Aside0.mk ((by rw [hg]; exact (below_size (by repeat (first | (with_reducible first | exact HB.out | apply below_alloc | apply pw_below_drewN | apply below_drew1) | exact HB.out))) : w.heap.size ≤ gb157)); have n3_ := Aside0.mk ((by rw [hg]; exact (below_size (by repeat (first | (with_reducible first | exact HB.out | apply below_alloc | apply pw_below_drewN | apply below_drew1) | exact HB.out))) : w.heap.size ≤ gb157)); clear HB; have HB := n0_; have BK157 := n1_; have GW157 := n2_; have GE157 := n3_; clear n0_ n1_ n2_ n3_; clear hb hbox hg) | ((with_reducible refine gate_callee (f := 16) rfl ?_); refine goesL_ (some 11) rfl rfl Try.func16 (by kernel_rfl) rfl #[] rfl (by (try simp only [List.map_toArray, List.map_cons, List.map_nil]); first | done | rfl | (simp only [List.length_drop, List.length_take]; rfl)) ?_; (with_reducible refine (sternpostlaw05_works.calls k  true _ A3.out).mono ?_); rintro e w9 ⟨rfl, hb⟩; refine ⟨_, rfl, ?_⟩; have n0_ := Aside0.mk (blk_below (g := gb157) (o := .cells #[.int .i64 a0_0, .int .i64 a0_1, .int .i64 a0_2, .int .i64 a0_3, .int .i64 a0_4, .int .i64 a0_5, .bool a0_6, .bool a0_7, .string a0_8, .string a0_9] 23 (0, 0)) (by (with_reducible repeat (first | refine blk_drewN ?_ _ | refine blk_drew ?_ | refine blk_alloc ?_ _)); exact BK157.out) hb); have n1_ := Aside0.mk (below_step (by repeat (first | (with_reducible first | exact HB.out | apply below_alloc | apply pw_below_drewN | apply below_drew1 | refine below_set ?_ GE157.out) | exact HB.out)) hb); clear BK157; clear HB; have BK157 := n0_; have HB := n1_; clear n0_ n1_; (try clear hb); (try clear hb2); (try clear hk); (try clear hi); have hcz10_0 : w9.cell? ⟨gb157, 0, none⟩ = some (.int .i64 a0_0) := (blk_cell BK157.out 0).trans rfl; have hcz10_1 : w9.cell? ⟨gb157, 1, none⟩ = some (.int .i64 a0_1) := (blk_cell BK157.out 1).trans rfl; have hcz10_2 : w9.cell? ⟨gb157, 2, none⟩ = some (.int .i64 a0_2) := (blk_cell BK157.out 2).trans rfl; have hcz10_3 : w9.cell? ⟨gb157, 3, none⟩ = some (.int .i64 a0_3) := (blk_cell BK157.out 3).trans rfl; have hcz10_4 : w9.cell? ⟨gb157, 4, none⟩ = some (.int .i64 a0_4) := (blk_cell BK157.out 4).trans rfl; have hcz10_5 : w9.cell? ⟨gb157, 5, none⟩ = some (.int .i64 a0_5) := (blk_cell BK157.out 5).trans rfl; have hcz10_6 : w9.cell? ⟨gb157, 6, none⟩ = some (.bool a0_6) := (blk_cell BK157.out 6).trans rfl; have hcz10_7 : w9.cell? ⟨gb157, 7, none⟩ = some (.bool a0_7) := (blk_cell BK157.out 7).trans rfl; have hcz10_8 : w9.cell? ⟨gb157, 8, none⟩ = some (.string a0_8) := (blk_cell BK157.out 8).trans rfl; have hcz10_9 : w9.cell? ⟨gb157, 9, none⟩ = some (.string a0_9) := (blk_cell BK157.out 9).trans rfl; have hfz10_0 := blk_frozen BK157.out 0; have hfz10_1 := blk_frozen BK157.out 1; have hfz10_2 := blk_frozen BK157.out 2; have hfz10_3 := blk_frozen BK157.out 3; have hfz10_4 := blk_frozen BK157.out 4; have hfz10_5 := blk_frozen BK157.out 5; have hfz10_6 := blk_frozen BK157.out 6; have hfz10_7 := blk_frozen BK157.out 7; have hfz10_8 := blk_frozen BK157.out 8; have hfz10_9 := blk_frozen BK157.out 9) | ((with_reducible refine gate_callee (f := 8) rfl ?_); refine goesL_ (some 15) rfl rfl Try.func8 (by kernel_rfl) rfl #[.agg #[.int .i64 a0_0, .int .i64 a0_1, .int .i64 a0_2, .int .i64 a0_3, .int .i64 a0_4, .int .i64 a0_5, .bool a0_6, .bool a0_7, .string a0_8, .string a0_9]] rfl (by (try simp only [List.map_toArray, List.map_cons, List.map_nil]); first | done | rfl | (simp only [List.length_drop, List.length_take]; rfl)) ?_; (with_reducible refine (ip_Encode.calls k a0_0 a0_1 a0_2 a0_3 a0_4 a0_5 a0_6 a0_7 a0_8 a0_9 t159 t160 _ A5.out).mono ?_); rintro e w11 ⟨rfl, hb⟩; refine ⟨_, rfl, ?_⟩; have n0_ := Aside0.mk (blk_below (g := gb157) (o := .cells #[.int .i64 a0_0, .int .i64 a0_1, .int .i64 a0_2, .int .i64 a0_3, .int .i64 a0_4, .int .i64 a0_5, .bool a0_6, .bool a0_7, .string a0_8, .string a0_9] 23 (0, 0)) (by (with_reducible repeat (first | refine blk_drewN ?_ _ | refine blk_drew ?_ | refine blk_alloc ?_ _)); exact BK157.out) hb); have n1_ := Aside0.mk (below_step (by repeat (first | (with_reducible first | exact HB.out | apply below_alloc | apply pw_below_drewN | apply below_drew1 | refine below_set ?_ GE157.out) | exact HB.out)) hb); clear BK157; clear HB; have BK157 := n0_; have HB := n1_; clear n0_ n1_; (try clear hb); (try clear hb2); (try clear hk); (try clear hi); have hcz12_0 : w11.cell? ⟨gb157, 0, none⟩ = some (.int .i64 a0_0) := (blk_cell BK157.out 0).trans rfl; have hcz12_1 : w11.cell? ⟨gb157, 1, none⟩ = some (.int .i64 a0_1) := (blk_cell BK157.out 1).trans rfl; have hcz12_2 : w11.cell? ⟨gb157, 2, none⟩ = some (.int .i64 a0_2) := (blk_cell BK157.out 2).trans rfl; have hcz12_3 : w11.cell? ⟨gb157, 3, none⟩ = some (.int .i64 a0_3) := (blk_cell BK157.out 3).trans rfl; have hcz12_4 : w11.cell? ⟨gb157, 4, none⟩ = some (.int .i64 a0_4) := (blk_cell BK157.out 4).trans rfl; have hcz12_5 : w11.cell? ⟨gb157, 5, none⟩ = some (.int .i64 a0_5) := (blk_cell BK157.out 5).trans rfl; have hcz12_6 : w11.cell? ⟨gb157, 6, none⟩ = some (.bool a0_6) := (blk_cell BK157.out 6).trans rfl; have hcz12_7 : w11.cell? ⟨gb157, 7, none⟩ = some (.bool a0_7) := (blk_cell BK157.out 7).trans rfl; have hcz12_8 : w11.cell? ⟨gb157, 8, none⟩ = some (.string a0_8) := (blk_cell BK157.out 8).trans rfl; have hcz12_9 : w11.cell? ⟨gb157, 9, none⟩ = some (.string a0_9) := (blk_cell BK157.out 9).trans rfl; have hfz12_0 := blk_frozen BK157.out 0; have hfz12_1 := blk_frozen BK157.out 1; have hfz12_2 := blk_frozen BK157.out 2; have hfz12_3 := blk_frozen BK157.out 3; have hfz12_4 := blk_frozen BK157.out 4; have hfz12_5 := blk_frozen BK157.out 5; have hfz12_6 := blk_frozen BK157.out 6; have hfz12_7 := blk_frozen BK157.out 7; have hfz12_8 := blk_frozen BK157.out 8; have hfz12_9 := blk_frozen BK157.out 9) | ((with_reducible refine gate_callee (f := 20) rfl ?_); refine goesL_ (some 28) rfl rfl Try.func20 (by kernel_rfl) rfl #[.int .i64 a1, .int .i64 (wrap64 ((wrap64 (8 * (wrap64 (20 + (a0_8.size : Int))))) - 4))] rfl (by (try simp only [List.map_toArray, List.map_cons, List.map_nil]); first | done | rfl | (simp only [List.length_drop, List.length_take]; rfl)) ?_; (with_reducible refine (sternpostbook_Among.calls a1 (wrap64 ((wrap64 (8 * (wrap64 (20 + (a0_8.size : Int))))) - 4)) t161 _ A7.out).mono ?_); rintro e w' ⟨rfl, ⟨nd, rfl⟩⟩; refine ⟨_, rfl, ?_⟩))
   have HBt := Aside0.mk (show Below w.heap.size w _ from by repeat (first | (with_reducible first | exact HB.out | apply below_alloc | apply pw_below_drewN | apply below_drew1 | refine below_set ?_ GE157.out) | exact HB.out))
   subst hrT_
   generalize (wrap64 (4 + t161)) = z1_ at H ⊢
   unfold sternpostlaw05_IpTurned_tail.f at H
   by_cases hcT : 0 ≤ z1_ ∧ z1_ / 8 < (t159.size : Int) ∧ z1_ < 9223372036854775807
   case neg => rw [if_neg hcT] at H; cases H
   case pos =>
    rw [if_pos hcT] at H
    obtain ⟨hx0, hx1, hx2⟩ := hcT
    obtain ⟨j, rfl⟩ := Int.eq_ofNat_of_zero_le hx0
    obtain ⟨q, hq⟩ : ∃ q, j / 8 = q := ⟨_, rfl⟩
    obtain ⟨rm, hr⟩ : ∃ r, j % 8 = r := ⟨_, rfl⟩
    have hqs : q < t159.size := by omega
    have hr8 : rm < 8 := by omega
    have hq0 : ((j : Int) / 8) = (q : Int) := by omega
    have hr0 : ((j : Int) % 8) = (rm : Int) := by omega
    have hqm : (q : Int) < 9223372036854775807 := by omega
    rw [hq0, hr0, Int.toNat_natCast, Int.toNat_natCast] at H
    clear hq hr hx1 hx0 hx2
    obtain ⟨⟨d1, d2, d3, d4, d5, d6, d7, d8, d9, d10, d11⟩, hD, H⟩ := Option.bind_eq_some_iff.mp H
    have HD := Aside0.mk hD
    clear hD
    replace H : (if d11 = 0 then some false else if d1 = 0 ∧ d2 = 0 ∧ d3 = 0 ∧ d4 = 0 ∧ d5 = 0 ∧ d6 = 0 ∧ d7 = false ∧ d8 = false ∧ d9 = ⟨#[]⟩ ∧ d10 = ⟨#[]⟩ then some true else some false) = some true := H
    by_cases h11 : d11 = 0
    ·rw [if_pos h11] at H; exact absurd (Option.some.inj H) Bool.false_ne_true
    rw [if_neg h11] at H
    by_cases hz : d1 = 0 ∧ d2 = 0 ∧ d3 = 0 ∧ d4 = 0 ∧ d5 = 0 ∧ d6 = 0 ∧ d7 = false ∧ d8 = false ∧ d9 = ⟨#[]⟩ ∧ d10 = ⟨#[]⟩
    rotate_left
    ·rw [if_neg hz] at H; exact absurd (Option.some.inj H) Bool.false_ne_true
    obtain ⟨rfl, rfl, rfl, rfl, rfl, rfl, rfl, rfl, rfl, rfl⟩ := hz
    clear H
    have dn : (d11 != 0) = true := bne_iff_ne.mpr h11
    change Code.wp _ _ _ _ (Lib.bytesWorld ?Wv 5 t159)
    have hcb := Lib.bytesWorld_cell ?Wv 5 t159 q hqs
    have hfb := bytesWorld_free ?Wv 5 t159 q hqs
    have HBf := Aside0.mk (below_step (show Below w.heap.size w ?Wv from ⟨HBt.out.os, HBt.out.tape, HBt.out.output, HBt.out.size, HBt.out.block⟩) (below_bytes t159 ?Wv 5))
    have hca := Aside0.mk (Lib.bytesWorld_cell ?Wv 5 t159)
    have hgs := Aside0.mk (show w.heap.size ≤ (?Wv : World).heap.size from HBt.out.size)
    have hsz := Lib.bytesWorld_size ?Wv 5 t159
    simp only [World.heap_drewN] at hcb hfb hsz hca hgs
    generalize Lib.bytesWorld _ 5 t159 = W1 at hcb hfb hsz HBf hca ⊢
    go_region
    change Exit.then _ _ _ _ (World.drew (World.setCell W1 ⟨?gv, q, none⟩ ?xv))
    have hB2 := Aside0.mk (Below.drew ((HBf.out).setCell (p := ⟨?gv, q, none⟩) hgs.out ?xv))
    have hc2 := Aside0.mk (show ∀ i, i < t159.size → (World.drew (World.setCell W1 ⟨?gv, q, none⟩ ?xv)).cell? ⟨?gv, 0 + i, none⟩ = some (.int .u8 ((flipL t159 q rm).getD i 0)) from flip_cells W1 ?gv t159 q rm hqs hca.out _ (by simp [List.getD, hqs]))
    have hg2 := Aside0.mk (show ?gv < (World.drew (World.setCell W1 ⟨?gv, q, none⟩ ?xv)).heap.size by simp; omega)
    clear hcb hfb hsz HBf hca hgs
    generalize World.drew (World.setCell W1 ⟨?gv, q, none⟩ ?xv) = W2 at hB2 hc2 hg2 ⊢
    have hcv3 := fun cap => run_convert_bytes_arg (P := Try.prog) W2 40 5 Try.underlying40 Try.underlying5 ?gv 0 t159.size cap (flipL t159 q rm) (flipL_len _ _ _) hc2.out 9 Try.underlying9
    clear hc2 hg2
    go_wp2_with fail
    refine (ip_Decode.calls k (flipS t159 q rm) 0 0 0 0 0 0 false false ⟨#[]⟩ ⟨#[]⟩ d11 _ HD.out).mono ?_
    rintro e w3 ⟨rfl, hb3⟩
    have hB3 := Aside0.mk (below_step hB2.out hb3)
    clear hb3 hcv3
    go_wp2_with (first | ((with_reducible refine gate_dst (N := 9) rfl ?_); refine box_event ?hg (N := 9) ?hd (cs := #[.int .i64 0, .int .i64 0, .int .i64 0, .int .i64 0, .int .i64 0, .int .i64 0, .bool false, .bool false, .string (⟨#[]⟩ : ByteArray), .string (⟨#[]⟩ : ByteArray)]) (t := 23) ?hr ?_; (case hd => rfl); (case hg => rfl); (case hr => first | (go_simp; done) | (go_simp; rfl)); intro gp hg w4 hbox hb; have hB4 := Aside0.mk (below_step hB3.out hb); have hgp := Aside0.mk ((by rw [hg]; exact below_size hB3.out) : w.heap.size ≤ gp); have hpc0 : w4.cell? ⟨gp, 0, none⟩ = some (.int .i64 0) := (blk_cell hbox 0).trans rfl; have hpf0 := blk_frozen hbox 0; have hpc1 : w4.cell? ⟨gp, 1, none⟩ = some (.int .i64 0) := (blk_cell hbox 1).trans rfl; have hpf1 := blk_frozen hbox 1; have hpc2 : w4.cell? ⟨gp, 2, none⟩ = some (.int .i64 0) := (blk_cell hbox 2).trans rfl; have hpf2 := blk_frozen hbox 2; have hpc3 : w4.cell? ⟨gp, 3, none⟩ = some (.int .i64 0) := (blk_cell hbox 3).trans rfl; have hpf3 := blk_frozen hbox 3; have hpc4 : w4.cell? ⟨gp, 4, none⟩ = some (.int .i64 0) := (blk_cell hbox 4).trans rfl; have hpf4 := blk_frozen hbox 4; have hpc5 : w4.cell? ⟨gp, 5, none⟩ = some (.int .i64 0) := (blk_cell hbox 5).trans rfl; have hpf5 := blk_frozen hbox 5; have hpc6 : w4.cell? ⟨gp, 6, none⟩ = some (.bool false) := (blk_cell hbox 6).trans rfl; have hpf6 := blk_frozen hbox 6; have hpc7 : w4.cell? ⟨gp, 7, none⟩ = some (.bool false) := (blk_cell hbox 7).trans rfl; have hpf7 := blk_frozen hbox 7; have hpc8 : w4.cell? ⟨gp, 8, none⟩ = some (.string (⟨#[]⟩ : ByteArray)) := (blk_cell hbox 8).trans rfl; have hpf8 := blk_frozen hbox 8; have hpc9 : w4.cell? ⟨gp, 9, none⟩ = some (.string (⟨#[]⟩ : ByteArray)) := (blk_cell hbox 9).trans rfl; have hpf9 := blk_frozen hbox 9; clear hb hg))
    go_ret
    exact ⟨by first | rfl | simp, by repeat (first | (with_reducible first | exact hB4.out | apply below_alloc | apply pw_below_drewN | apply below_drew1 | refine below_set ?_ hgp.out) | exact hB4.out)⟩
  ·rw [if_neg c6] at H
   have c6b0 : (t160 == 0) = false := beq_eq_false_iff_ne.mpr c6
   have c6b1 : (t160 != 0) = true := bne_iff_ne.mpr c6
   obtain rfl := Option.some.inj H
   go_enter Try.func7, Try.ntmps7
   go_wp2_with (first | ((with_reducible refine gate_dst (N := 2) rfl ?_); refine box_event ?hg (N := 2) ?hd (cs := #[.int .i64 a0_0, .int .i64 a0_1, .int .i64 a0_2, .int .i64 a0_3, .int .i64 a0_4, .int .i64 a0_5, .bool a0_6, .bool a0_7, .string a0_8, .string a0_9]) (t := 23) ?hr ?_; (case hd => rfl); (case hg => rfl); (case hr => first | (go_simp; done) | (go_simp; rfl)); intro gb157 hg w13 hbox hb; have n0_ := Aside0.mk (below_step (by repeat (first | (with_reducible first | exact HB.out | apply below_alloc | apply pw_below_drewN | apply below_drew1) | exact HB.out)) hb); have n1_ := Aside0.mk (hbox); have n2_ := Aside0.mk ((by rw [hg]; exact (below_size (by repeat (first | (with_reducible first | exact HB.out | apply below_alloc | apply pw_below_drewN | apply below_drew1) | exact HB.out))) : w.heap.size ≤ gb157)); have n3_ := Aside0.mk ((by rw [hg]; exact (below_size (by repeat (first | (with_reducible first | exact HB.out | apply below_alloc | apply pw_below_drewN | apply below_drew1) | exact HB.out))) : w.heap.size ≤ gb157)); clear HB; have HB := n0_; have BK157 := n1_; have GW157 := n2_; have GE157 := n3_; clear n0_ n1_ n2_ n3_; clear hb hbox hg) | ((with_reducible refine gate_callee (f := 16) rfl ?_); refine goesL_ (some 11) rfl rfl Try.func16 (by kernel_rfl) rfl #[] rfl (by (try simp only [List.map_toArray, List.map_cons, List.map_nil]); first | done | rfl | (simp only [List.length_drop, List.length_take]; rfl)) ?_; (with_reducible refine (sternpostlaw05_works.calls k  true _ A3.out).mono ?_); rintro e w14 ⟨rfl, hb⟩; refine ⟨_, rfl, ?_⟩; have n0_ := Aside0.mk (blk_below (g := gb157) (o := .cells #[.int .i64 a0_0, .int .i64 a0_1, .int .i64 a0_2, .int .i64 a0_3, .int .i64 a0_4, .int .i64 a0_5, .bool a0_6, .bool a0_7, .string a0_8, .string a0_9] 23 (0, 0)) (by (with_reducible repeat (first | refine blk_drewN ?_ _ | refine blk_drew ?_ | refine blk_alloc ?_ _)); exact BK157.out) hb); have n1_ := Aside0.mk (below_step (by repeat (first | (with_reducible first | exact HB.out | apply below_alloc | apply pw_below_drewN | apply below_drew1 | refine below_set ?_ GE157.out) | exact HB.out)) hb); clear BK157; clear HB; have BK157 := n0_; have HB := n1_; clear n0_ n1_; (try clear hb); (try clear hb2); (try clear hk); (try clear hi); have hcz15_0 : w14.cell? ⟨gb157, 0, none⟩ = some (.int .i64 a0_0) := (blk_cell BK157.out 0).trans rfl; have hcz15_1 : w14.cell? ⟨gb157, 1, none⟩ = some (.int .i64 a0_1) := (blk_cell BK157.out 1).trans rfl; have hcz15_2 : w14.cell? ⟨gb157, 2, none⟩ = some (.int .i64 a0_2) := (blk_cell BK157.out 2).trans rfl; have hcz15_3 : w14.cell? ⟨gb157, 3, none⟩ = some (.int .i64 a0_3) := (blk_cell BK157.out 3).trans rfl; have hcz15_4 : w14.cell? ⟨gb157, 4, none⟩ = some (.int .i64 a0_4) := (blk_cell BK157.out 4).trans rfl; have hcz15_5 : w14.cell? ⟨gb157, 5, none⟩ = some (.int .i64 a0_5) := (blk_cell BK157.out 5).trans rfl; have hcz15_6 : w14.cell? ⟨gb157, 6, none⟩ = some (.bool a0_6) := (blk_cell BK157.out 6).trans rfl; have hcz15_7 : w14.cell? ⟨gb157, 7, none⟩ = some (.bool a0_7) := (blk_cell BK157.out 7).trans rfl; have hcz15_8 : w14.cell? ⟨gb157, 8, none⟩ = some (.string a0_8) := (blk_cell BK157.out 8).trans rfl; have hcz15_9 : w14.cell? ⟨gb157, 9, none⟩ = some (.string a0_9) := (blk_cell BK157.out 9).trans rfl; have hfz15_0 := blk_frozen BK157.out 0; have hfz15_1 := blk_frozen BK157.out 1; have hfz15_2 := blk_frozen BK157.out 2; have hfz15_3 := blk_frozen BK157.out 3; have hfz15_4 := blk_frozen BK157.out 4; have hfz15_5 := blk_frozen BK157.out 5; have hfz15_6 := blk_frozen BK157.out 6; have hfz15_7 := blk_frozen BK157.out 7; have hfz15_8 := blk_frozen BK157.out 8; have hfz15_9 := blk_frozen BK157.out 9) | ((with_reducible refine gate_callee (f := 8) rfl ?_); refine goesL_ (some 15) rfl rfl Try.func8 (by kernel_rfl) rfl #[.agg #[.int .i64 a0_0, .int .i64 a0_1, .int .i64 a0_2, .int .i64 a0_3, .int .i64 a0_4, .int .i64 a0_5, .bool a0_6, .bool a0_7, .string a0_8, .string a0_9]] rfl (by (try simp only [List.map_toArray, List.map_cons, List.map_nil]); first | done | rfl | (simp only [List.length_drop, List.length_take]; rfl)) ?_; (with_reducible refine (ip_Encode.calls k a0_0 a0_1 a0_2 a0_3 a0_4 a0_5 a0_6 a0_7 a0_8 a0_9 t159 t160 _ A5.out).mono ?_); rintro e w16 ⟨rfl, hb⟩; refine ⟨_, rfl, ?_⟩; have n0_ := Aside0.mk (blk_below (g := gb157) (o := .cells #[.int .i64 a0_0, .int .i64 a0_1, .int .i64 a0_2, .int .i64 a0_3, .int .i64 a0_4, .int .i64 a0_5, .bool a0_6, .bool a0_7, .string a0_8, .string a0_9] 23 (0, 0)) (by (with_reducible repeat (first | refine blk_drewN ?_ _ | refine blk_drew ?_ | refine blk_alloc ?_ _)); exact BK157.out) hb); have n1_ := Aside0.mk (below_step (by repeat (first | (with_reducible first | exact HB.out | apply below_alloc | apply pw_below_drewN | apply below_drew1 | refine below_set ?_ GE157.out) | exact HB.out)) hb); clear BK157; clear HB; have BK157 := n0_; have HB := n1_; clear n0_ n1_; (try clear hb); (try clear hb2); (try clear hk); (try clear hi)))
   go_ret
   exact ⟨by first | rfl | (simp [errW_none, errW_some] <;> rfl) | (simp [*, errW_none, errW_some] <;> rfl), by repeat (first | (with_reducible first | exact HB.out | apply below_alloc | apply pw_below_drewN | apply below_drew1 | refine below_set ?_ GE157.out) | exact HB.out)⟩
 ·replace c4 := Bool.eq_false_iff.mpr c4
  subst c4
  have H1 : (some false) = some r := by rw [if_neg (show ¬ (false = true) by decide)] at H; exact H
  clear H
  have H := H1
  clear H1
  exact absurd ((Option.some.inj H).trans hrT_) Bool.false_ne_true

/-- THE ONE PURE STATEMENT of sternpostlaw05_IpTurned: yours. -/
def fit23 (x : S23) : Prop := ((Lit.int .i64 x.f0).wf = true) ∧ ((Lit.int .i64 x.f1).wf = true) ∧ ((Lit.int .i64 x.f2).wf = true) ∧ ((Lit.int .i64 x.f3).wf = true) ∧ ((Lit.int .i64 x.f4).wf = true) ∧ ((Lit.int .i64 x.f5).wf = true) ∧ (True) ∧ (True) ∧ (x.f8.size ≤ 140737488351232) ∧ x.f9.size ≤ 140737488351232
def sternpostlaw05_IpTurned.Pure : Prop := ∀ (a0_0 : Int) (a0_1 : Int) (a0_2 : Int) (a0_3 : Int) (a0_4 : Int) (a0_5 : Int) (a0_6 : Bool) (a0_7 : Bool) (a0_8 : ByteArray) (a0_9 : ByteArray) (a1 : Int), (Lit.int .i64 a0_0).wf = true → (Lit.int .i64 a0_1).wf = true → (Lit.int .i64 a0_2).wf = true → (Lit.int .i64 a0_3).wf = true → (Lit.int .i64 a0_4).wf = true → (Lit.int .i64 a0_5).wf = true → a0_8.size ≤ 140737488351232 → a0_9.size ≤ 140737488351232 → (Lit.int .i64 a1).wf = true → ∃ k, sternpostlaw05_IpTurned.f k a0_0 a0_1 a0_2 a0_3 a0_4 a0_5 a0_6 a0_7 a0_8 a0_9 a1 = some true
theorem sternpostlaw05_IpTurned.walk (P : sternpostlaw05_IpTurned.Pure) (a0_0 : Int) (a0_1 : Int) (a0_2 : Int) (a0_3 : Int) (a0_4 : Int) (a0_5 : Int) (a0_6 : Bool) (a0_7 : Bool) (a0_8 : ByteArray) (a0_9 : ByteArray) (a1 : Int) (w : World) (w0_0 : (Lit.int .i64 a0_0).wf = true) (w0_1 : (Lit.int .i64 a0_1).wf = true) (w0_2 : (Lit.int .i64 a0_2).wf = true) (w0_3 : (Lit.int .i64 a0_3).wf = true) (w0_4 : (Lit.int .i64 a0_4).wf = true) (w0_5 : (Lit.int .i64 a0_5).wf = true) (w0_8 : a0_8.size ≤ 140737488351232) (w0_9 : a0_9.size ≤ 140737488351232) (w1 : (Lit.int .i64 a1).wf = true) :
  Calls Try.prog 7 #[.agg #[.int .i64 a0_0, .int .i64 a0_1, .int .i64 a0_2, .int .i64 a0_3, .int .i64 a0_4, .int .i64 a0_5, .bool a0_6, .bool a0_7, .string a0_8, .string a0_9], .int .i64 a1] w fun e w' => e = .returned (.bool true) ∧ Below w.heap.size w w' := by
 obtain ⟨k, h⟩ := P a0_0 a0_1 a0_2 a0_3 a0_4 a0_5 a0_6 a0_7 a0_8 a0_9 a1 w0_0 w0_1 w0_2 w0_3 w0_4 w0_5 w0_8 w0_9 w1
 refine (sternpostlaw05_IpTurned.calls k a0_0 a0_1 a0_2 a0_3 a0_4 a0_5 a0_6 a0_7 a0_8 a0_9 a1 true w  h rfl).mono ?_
 rintro e w' ⟨rfl, hd⟩
 exact ⟨rfl, hd⟩

end Go.Proofs.Ytnggabbakhakaaa.PIpTurned

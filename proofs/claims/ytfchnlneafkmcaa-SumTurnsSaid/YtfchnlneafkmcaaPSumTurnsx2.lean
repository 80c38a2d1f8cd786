-- Laid by this claim's own program over the print's words.
import Derived.Test.YtfchnlneafkmcaaPSumTurnsx0
import Derived.Test.YtfchnlneafkmcaaPSumTurnsx1
namespace Go.Proofs.Ytfchnlneafkmcaa.PSumTurns
open Go.RowKit Go.Proofs.YtfchnlneafkmcaaW.PrintWords Go.Proofs.YtfchnlneafkmcaaW.PrintLast Go.Proofs.YtfchnlneafkmcaaW.PrintMore
attribute [local go_sem] max2_int min2_int max_two min_two max_three min_three max_four min_four extract_cut   -- for this text's walks alone
set_option linter.unusedVariables false
set_option linter.unusedSimpArgs false

/-! ### sum_Turn: function 23 -/
def sum_Turn.f (k : Nat) (a0 : Int) (a1 : Int) (a2 : Int) : Option (Int × Int) := if (mn (mn a0 a1) a2) < 0 then (some (0, 1)) else (if (mx (mx a0 a1) a2) > 65535 then (some (0, 1)) else ((sum_carry.f k (wrap64 ((wrap64 ((wrap64 ((wrap64 (65535 - a0)) + 65535)) - a1)) + a2))).bind fun t114 => (some (wrap64 (65535 - t114), 0))))
theorem sum_Turn.mono : ∀ a0 a1 a2 k, LeO (sum_Turn.f k a0 a1 a2) (sum_Turn.f (k + 1) a0 a1 a2) := by
  intro a0 a1 a2 k
  unfold sum_Turn.f
  repeat' first
      | (with_reducible exact sum_carry.mono _ _)
      | (with_reducible exact LeO.refl _)
      | (with_reducible exact LeO.none _)
      | (with_reducible refine LeO.ite ?_ ?_)
      | (with_reducible refine LeO.bind ?_ (fun _ => ?_))
      | exact sum_carry.mono _ _
      | exact LeO.none _
      | refine LeO.ite ?_ ?_
      | refine LeO.bind ?_ (fun _ => ?_)
set_option maxHeartbeats 8000000 in
set_option maxRecDepth 100000 in
theorem sum_Turn.calls (k : Nat) (a0 : Int) (a1 : Int) (a2 : Int) (r1 : Int) (r2 : Int) (w : World) (h : sum_Turn.f k a0 a1 a2 = some (r1, r2)) :
    Calls Try.prog 23 #[.int .i64 a0, .int .i64 a1, .int .i64 a2] w fun e w' => e = .returned (.tuple #[.int .i64 r1, .int .i64 r2]) ∧ Below w.heap.size w w' := by
  have HB := Aside0.mk (Below.refl w.heap.size w)
  have H : (if (mn (mn a0 a1) a2) < 0 then (some (0, 1)) else (if (mx (mx a0 a1) a2) > 65535 then (some (0, 1)) else ((sum_carry.f k (wrap64 ((wrap64 ((wrap64 ((wrap64 (65535 - a0)) + 65535)) - a1)) + a2))).bind fun t114 => (some (wrap64 (65535 - t114), 0))))) = some (r1, r2) := h
  clear h
  obtain ⟨ji4, hji4⟩ : ∃ j_ : Int, (mn a0 a1) = j_ := ⟨_, rfl⟩
  replace H : (if (mn (ji4) a2) < 0 then (some (0, 1)) else (if (mx (mx a0 a1) a2) > 65535 then (some (0, 1)) else ((sum_carry.f k (wrap64 ((wrap64 ((wrap64 ((wrap64 (65535 - a0)) + 65535)) - a1)) + a2))).bind fun t114 => (some (wrap64 (65535 - t114), 0))))) = some (r1, r2) := by first | (rw [hji4] at H; exact H) | (simp only [hji4] at H ⊢; exact H)
  have hji4_ : (if a1 < a0 then a1 else a0) = ji4 := hji4
  obtain ⟨ji5, hji5⟩ : ∃ j_ : Int, (mn (ji4) a2) = j_ := ⟨_, rfl⟩
  replace H : (if (ji5) < 0 then (some (0, 1)) else (if (mx (mx a0 a1) a2) > 65535 then (some (0, 1)) else ((sum_carry.f k (wrap64 ((wrap64 ((wrap64 ((wrap64 (65535 - a0)) + 65535)) - a1)) + a2))).bind fun t114 => (some (wrap64 (65535 - t114), 0))))) = some (r1, r2) := by first | (rw [hji5] at H; exact H) | (simp only [hji5] at H ⊢; exact H)
  have hji5_ : (if a2 < (ji4) then a2 else (ji4)) = ji5 := hji5
  by_cases c6 : (ji5) < 0
  · rw [if_pos c6] at H
    have c6b0 : decide ((ji5) < 0) = true := decide_eq_true c6
    clear c6
    simp only [Option.some.injEq, Prod.mk.injEq] at H
    obtain ⟨rfl, rfl⟩ := H
    go_enter Try.func23, Try.ntmps23
    go_wp2
    go_ret2
    exact ⟨by first | rfl | (simp [errW_none, errW_some] <;> rfl) | (simp only [← hji4, ← hji5]; first | rfl | (simp [errW_none, errW_some] <;> rfl)) | (simp [*, errW_none, errW_some] <;> rfl), by repeat (first | (with_reducible first | exact HB.out | apply below_alloc | apply pw_below_drewN | apply below_drew1) | exact HB.out)⟩
  · rw [if_neg c6] at H
    have c6b0 : decide ((ji5) < 0) = false := decide_eq_false c6
    clear c6
    obtain ⟨ji7, hji7⟩ : ∃ j_ : Int, (mx a0 a1) = j_ := ⟨_, rfl⟩
    replace H : (if (mx (ji7) a2) > 65535 then (some (0, 1)) else ((sum_carry.f k (wrap64 ((wrap64 ((wrap64 ((wrap64 (65535 - a0)) + 65535)) - a1)) + a2))).bind fun t114 => (some (wrap64 (65535 - t114), 0)))) = some (r1, r2) := by first | (rw [hji7] at H; exact H) | (simp only [hji7] at H ⊢; exact H)
    have hji7_ : (if a0 < a1 then a1 else a0) = ji7 := hji7
    obtain ⟨ji8, hji8⟩ : ∃ j_ : Int, (mx (ji7) a2) = j_ := ⟨_, rfl⟩
    replace H : (if (ji8) > 65535 then (some (0, 1)) else ((sum_carry.f k (wrap64 ((wrap64 ((wrap64 ((wrap64 (65535 - a0)) + 65535)) - a1)) + a2))).bind fun t114 => (some (wrap64 (65535 - t114), 0)))) = some (r1, r2) := by first | (rw [hji8] at H; exact H) | (simp only [hji8] at H ⊢; exact H)
    have hji8_ : (if (ji7) < a2 then a2 else (ji7)) = ji8 := hji8
    by_cases c9 : (ji8) > 65535
    · rw [if_pos c9] at H
      have c9b0 : decide (65535 < (ji8)) = true := decide_eq_true c9
      clear c9
      simp only [Option.some.injEq, Prod.mk.injEq] at H
      obtain ⟨rfl, rfl⟩ := H
      go_enter Try.func23, Try.ntmps23
      go_wp2
      go_ret2
      exact ⟨by first | rfl | (simp [errW_none, errW_some] <;> rfl) | (simp only [← hji4, ← hji5, ← hji7, ← hji8]; first | rfl | (simp [errW_none, errW_some] <;> rfl)) | (simp [*, errW_none, errW_some] <;> rfl), by repeat (first | (with_reducible first | exact HB.out | apply below_alloc | apply pw_below_drewN | apply below_drew1) | exact HB.out)⟩
    · rw [if_neg c9] at H
      have c9b0 : decide (65535 < (ji8)) = false := decide_eq_false c9
      clear c9
      replace H := Option.bind_eq_some_iff.mp H
      obtain ⟨t114, A100, H⟩ := H
      replace H : (some (wrap64 (65535 - t114), 0)) = some (r1, r2) := H
      have A10 := Aside0.mk A100
      clear A100
      simp only [Option.some.injEq, Prod.mk.injEq] at H
      obtain ⟨rfl, rfl⟩ := H
      go_enter Try.func23, Try.ntmps23
      go_wp2_with (first | ((with_reducible refine gate_callee (f := 32) rfl ?_); refine goesL_ (some 27) rfl rfl Try.func32 (by kernel_rfl) rfl #[.int .i64 (wrap64 ((wrap64 ((wrap64 ((wrap64 (65535 - a0)) + 65535)) - a1)) + a2))] rfl (by (try simp only [List.map_toArray, List.map_cons, List.map_nil]); first | done | rfl | (simp only [List.length_drop, List.length_take]; rfl)) ?_; (with_reducible refine (sum_carry.calls k (wrap64 ((wrap64 ((wrap64 ((wrap64 (65535 - a0)) + 65535)) - a1)) + a2)) t114 _ A10.out).mono ?_); rintro e w' ⟨rfl, ⟨nd, rfl⟩⟩; refine ⟨_, rfl, ?_⟩))
      go_ret2
      exact ⟨by first | rfl | (simp [errW_none, errW_some] <;> rfl) | (simp only [← hji4, ← hji5, ← hji7, ← hji8]; first | rfl | (simp [errW_none, errW_some] <;> rfl)) | (simp [*, errW_none, errW_some] <;> rfl), by repeat (first | (with_reducible first | exact HB.out | apply below_alloc | apply pw_below_drewN | apply below_drew1) | exact HB.out)⟩

end Go.Proofs.Ytfchnlneafkmcaa.PSumTurns

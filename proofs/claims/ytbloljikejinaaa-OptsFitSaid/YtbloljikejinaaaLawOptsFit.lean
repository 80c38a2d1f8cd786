-- Laid by this claim's own program over the print's words.
import Derived.Test.YtbloljikejinaaaRows
import Derived.Test.YtbloljikejinaaaOpn
import Derived.Test.YtbloljikejinaaaPOptsFitx9
import Derived.Test.YtbloljikejinaaaPureOptsFit
import Derived.WalkKit
import Derived.ProofKit
import Derived.OpenShut
import Derived.ShutString
import Derived.ChangeOld
import Derived.Below
import Derived.SizedLaws
import Derived.Carry
namespace Go.Proofs.Ytbloljikejinaaa.optsFit
open Go.ChangeShapes Go.WideShapes Go.ChangeAt Go.RowKit
open Go.ChangeMaps (open_string shut_string)
open Go.Proofs.YtbloljikejinaaaW.PrintMore Go.Proofs.YtbloljikejinaaaW.PrintWords Go.Proofs.Ytbloljikejinaaa.POptsFit
set_option linter.unusedVariables false
theorem own : ownKnob Try.prog.godebug = none := by kernel_rfl
theorem laidOut : laidOutB Try.prog = true := by kernel_rfl
theorem op_35 : Opens Try.prog 35 k35 fit35 := opens_struct Try.underlying35 (by kernel_rfl) (fun y => ⟨y.1, y.2⟩) (fun _ => rfl) (opensF_cons rfl rfl (by kernel_rfl) (opens_int Try.underlying3 (by kernel_rfl)) (opensF_one rfl (opens_int Try.underlying3 (by kernel_rfl))))
theorem op_24 : Opens Try.prog 24 k24 fit24 := opens_struct Try.underlying24 (by kernel_rfl) (fun y => ⟨y.1, y.2.1, y.2.2.1, y.2.2.2.1, y.2.2.2.2.1, y.2.2.2.2.2.1, y.2.2.2.2.2.2.1, y.2.2.2.2.2.2.2⟩) (fun _ => rfl) (opensF_cons rfl rfl (by kernel_rfl) (opens_int Try.underlying3 (by kernel_rfl)) (opensF_cons rfl rfl (by kernel_rfl) (opens_int Try.underlying3 (by kernel_rfl)) (opensF_cons rfl rfl (by kernel_rfl) (opens_int Try.underlying3 (by kernel_rfl)) (opensF_cons rfl rfl (by kernel_rfl) (opens_int Try.underlying3 (by kernel_rfl)) (opensF_cons rfl rfl (by kernel_rfl) (opens_bool Try.underlying4 (by kernel_rfl)) (opensF_cons rfl rfl (by kernel_rfl) (opens_bool Try.underlying4 (by kernel_rfl)) (opensF_cons rfl rfl (by kernel_rfl) (opens_bool Try.underlying4 (by kernel_rfl)) (opensF_one rfl (opens_slice 16 Try.underlying22 (by kernel_rfl) (by kernel_rfl) (by decide) op_35)))))))))
set_option maxRecDepth 100000 in
theorem lifted (os : Os) (started : os.Started) (H : Type) (enc : TypeId × Value → H) :
    ReturnsInHanded {} Try.checked os 5 .any (Rows.optsFitSpec.pre6 enc Try.prog Try.f5 Rows.optsFitRow.domain false) (Rows.optsFitSpec.post enc Try.prog Try.f5 false true false false) := by
  refine returnsInHanded_of_change_sized (C := Try.checked) own started (by kernel_rfl) Try.func5
    (ChangeSpec.witness6 (enc := enc) (C := Try.checked) false ⟨#[], #[.agg #[(.int .i64 0), (.int .i64 0), (.int .i64 0), (.int .i64 0), (.bool false), (.bool false), (.bool false), (.slice none 0 0)], .int .i64 0], []⟩ 8 (by kernel_rfl) (by kernel_rfl) (by kernel_rfl) (by kernel_rfl)) ?_
  intro W base args ds gs before hval0 hW hcnd hsz0 _
  have hsz : (DataW.weightsEach Try.prog (Try.f5.params.toList ++ Rows.optsFitSpec.plain.varTypes Try.prog) (ds ++ gs)).all (· ≤ reachBytes) = true := hsz0
  have hval : ∀ (j : Nat) t v, Try.f5.params[j]? = some t → args[j]? = some v → Value.okWide Try.prog W .any base t v := hval0
  have hW' := hW
  obtain ⟨p, q, hA0, hV, rfl, hfz, hnd⟩ := hW
  have hA : DataW.TrodAll enc Try.prog W 0 (fun _ => true) true Try.f5.params.toList args.toList ds p := hA0
  rw [Try.params5] at hA hval hsz
  obtain ⟨v0, vs0, d0, ds0, p0, q0, hargs, rfl, rfl, h0, r0⟩ := trodAll_cons hA
  obtain ⟨v1, vs1, d1, ds1, p1, q1, rfl, rfl, rfl, h1, r1⟩ := trodAll_cons r0
  obtain ⟨rfl, rfl, rfl⟩ := trodAll_nil r1
  obtain rfl : args = #[v0, v1] := by cases args; simp_all
  obtain ⟨rfl, rfl⟩ := trodVars_none hV
  have k0 := h0
  have lt0 : ∀ x ∈ p0, x.block < W.heap.size := by obtain ⟨m, hm⟩ := k0; exact DataW.trod_lt m _ _ _ hm
  have hw0 : ∀ n ∈ d0.weights Try.prog 24, n ≤ reachBytes := fun n hn => by simpa using List.all_eq_true.1 hsz n (DataW.weights_mem_each (j := 0) rfl rfl n hn)
  obtain ⟨x0, cs0, rfl, hK0, w0⟩ := arg_struct Try.underlying24 op_24 (hval 0 24 v0 rfl rfl) h0 hw0
  obtain ⟨A0_7, c0_7, rfl, hc0_7, hr0_7⟩ := k24_open hK0
  unfold fit24 at w0
  obtain ⟨a1, rfl, rfl, rfl, w1⟩ := open_int Try.underlying3 (hval 1 3 v1 rfl rfl) h1
  clear hA0 hval0 hsz0 hsz
  refine (POptsFit.sternpostlaw07_OptsFit.walk Pure.OptsFit x0.f0 x0.f1 x0.f2 x0.f3 x0.f4 x0.f5 x0.f6 A0_7 c0_7 x0.f7 a1 W w0.1 w0.2.1 w0.2.2.1 w0.2.2.2.1 hr0_7 hc0_7 w0.2.2.2.2.2.2.2 w1).mono fun e W' ⟨he, bel⟩ => ?_
  subst he
  exact ⟨_, rfl, _, _, _, [], _, [], hW', trodAll_mk1 (shut_bool Try.underlying4 _), (trodAll_cons_mk (Below.trod laidOut (by kernel_rfl) (of_decide_eq_true (by kernel_rfl)) k0 bel lt0) (trodAll_cons_mk (shut_int Try.underlying3 w1) trodAll_mk0)), rfl, bel.frame _, fun h => by cases h⟩
theorem over : Rows.optsFitRow.holds Try.pinned (OpenSpec.ofChange Rows.optsFitSpec) :=
  OpenClaim.holds_of_wide 5 Try.f5 rfl rfl rfl rfl rfl rfl rfl ⟨rfl, rfl, rfl, rfl, rfl⟩ rfl rfl rfl rfl rfl (by kernel_rfl) Try.func5 (by kernel_rfl)
    (of_decide_eq_true (by kernel_rfl)) (by unfold Func.isWrapper; first | (rw [if_pos (by decide +kernel)]; kernel_rfl) | (rw [if_neg (by decide +kernel)]; exact ⟨rfl, rfl⟩))
    (fun os started H enc _ => lifted os started H enc)
theorem proved : Rows.OptsFitSaid := over
#print axioms proved
end Go.Proofs.Ytbloljikejinaaa.optsFit
namespace Go.Proofs.Ytbloljikejinaaa
/-- The row, under a short name, for the claim. -/
theorem optsFit_holds : Rows.OptsFitSaid := optsFit.proved
end Go.Proofs.Ytbloljikejinaaa

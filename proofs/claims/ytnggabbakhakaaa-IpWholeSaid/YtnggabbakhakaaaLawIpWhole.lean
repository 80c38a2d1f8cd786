-- Laid by this claim's own program over the print's words.
import Derived.Test.YtnggabbakhakaaaVIpWhole
import Derived.Test.YtnggabbakhakaaaRows
import Derived.Test.YtnggabbakhakaaaPIpWholex7
import Derived.Test.YtnggabbakhakaaaPureIpWhole
import Derived.WalkKit
import Derived.ProofKit
import Derived.OpenShut
import Derived.ShutString
import Derived.ChangeOld
import Derived.Below
import Derived.SizedLaws
import Derived.Carry
namespace Go.Proofs.Ytnggabbakhakaaa.ipWhole
open Go.ChangeShapes Go.WideShapes Go.ChangeAt Go.RowKit
open Go.ChangeMaps (open_string shut_string)
open Go.Proofs.YtnggabbakhakaaaW.PrintMore Go.Proofs.YtnggabbakhakaaaW.PrintWords Go.Proofs.Ytnggabbakhakaaa.PIpWhole
set_option linter.unusedVariables false
theorem own : ownKnob Try.prog.godebug = none := by kernel_rfl
theorem laidOut : laidOutB Try.prog = true := by kernel_rfl
theorem op_23 : Opens Try.prog 23 k23 fit23 := opens_struct Try.underlying23 (by kernel_rfl) (fun y => ⟨y.1, y.2.1, y.2.2.1, y.2.2.2.1, y.2.2.2.2.1, y.2.2.2.2.2.1, y.2.2.2.2.2.2.1, y.2.2.2.2.2.2.2.1, y.2.2.2.2.2.2.2.2.1, y.2.2.2.2.2.2.2.2.2⟩) (fun _ => rfl) (opensF_cons rfl rfl (by kernel_rfl) (opens_int Try.underlying3 (by kernel_rfl)) (opensF_cons rfl rfl (by kernel_rfl) (opens_int Try.underlying3 (by kernel_rfl)) (opensF_cons rfl rfl (by kernel_rfl) (opens_int Try.underlying3 (by kernel_rfl)) (opensF_cons rfl rfl (by kernel_rfl) (opens_int Try.underlying3 (by kernel_rfl)) (opensF_cons rfl rfl (by kernel_rfl) (opens_int Try.underlying3 (by kernel_rfl)) (opensF_cons rfl rfl (by kernel_rfl) (opens_int Try.underlying3 (by kernel_rfl)) (opensF_cons rfl rfl (by kernel_rfl) (opens_bool Try.underlying4 (by kernel_rfl)) (opensF_cons rfl rfl (by kernel_rfl) (opens_bool Try.underlying4 (by kernel_rfl)) (opensF_cons rfl rfl (by kernel_rfl) (opens_string Try.underlying9 (by kernel_rfl)) (opensF_one rfl (opens_string Try.underlying9 (by kernel_rfl))))))))))))
set_option maxRecDepth 100000 in
theorem lifted (os : Os) (started : os.Started) (H : Type) (enc : TypeId × Value → H) :
    ReturnsInHanded {} Try.checked os 4 .any (Rows.ipWholeSpec.pre6 enc Try.prog Try.f4 Rows.ipWholeRow.domain false) (Rows.ipWholeSpec.post enc Try.prog Try.f4 false true false false) := by
  refine returnsInHanded_of_change_sized (C := Try.checked) own started (by kernel_rfl) Try.func4
    (ChangeSpec.witness6 (enc := enc) (C := Try.checked) false ⟨#[], #[.agg #[(.int .i64 0), (.int .i64 0), (.int .i64 0), (.int .i64 0), (.int .i64 0), (.int .i64 0), (.bool false), (.bool false), (.string ByteArray.empty), (.string ByteArray.empty)], .int .i64 0], []⟩ 8 (by kernel_rfl) (by kernel_rfl) (by kernel_rfl) (by kernel_rfl)) ?_
  intro W base args ds gs before hval0 hW hcnd hsz0 _
  have hsz : (DataW.weightsEach Try.prog (Try.f4.params.toList ++ Rows.ipWholeSpec.plain.varTypes Try.prog) (ds ++ gs)).all (· ≤ reachBytes) = true := hsz0
  have hval : ∀ (j : Nat) t v, Try.f4.params[j]? = some t → args[j]? = some v → Value.okWide Try.prog W .any base t v := hval0
  have hW' := hW
  obtain ⟨p, q, hA0, hV, rfl, hfz, hnd⟩ := hW
  have hA : DataW.TrodAll enc Try.prog W 0 (fun _ => true) true Try.f4.params.toList args.toList ds p := hA0
  rw [Try.params4] at hA hval hsz
  obtain ⟨v0, vs0, d0, ds0, p0, q0, hargs, rfl, rfl, h0, r0⟩ := trodAll_cons hA
  obtain ⟨v1, vs1, d1, ds1, p1, q1, rfl, rfl, rfl, h1, r1⟩ := trodAll_cons r0
  obtain ⟨rfl, rfl, rfl⟩ := trodAll_nil r1
  obtain rfl : args = #[v0, v1] := by cases args; simp_all
  obtain ⟨rfl, rfl⟩ := trodVars_none hV
  have k0 := h0
  have lt0 : ∀ x ∈ p0, x.block < W.heap.size := by obtain ⟨m, hm⟩ := k0; exact DataW.trod_lt m _ _ _ hm
  have hw0 : ∀ n ∈ d0.weights Try.prog 23, n ≤ reachBytes := fun n hn => by simpa using List.all_eq_true.1 hsz n (DataW.weights_mem_each (j := 0) rfl rfl n hn)
  obtain ⟨x0, cs0, rfl, hK0, w0⟩ := arg_struct Try.underlying23 op_23 (hval 0 23 v0 rfl rfl) h0 hw0
  obtain rfl := k23_open hK0
  unfold fit23 at w0
  obtain ⟨a1, rfl, rfl, rfl, w1⟩ := open_int Try.underlying3 (hval 1 3 v1 rfl rfl) h1
  clear hA0 hval0 hsz0 hsz
  refine (PIpWhole.sternpostlaw05_IpWhole.walk Pure.IpWhole x0.f0 x0.f1 x0.f2 x0.f3 x0.f4 x0.f5 x0.f6 x0.f7 x0.f8 x0.f9 a1 W w0.1 w0.2.1 w0.2.2.1 w0.2.2.2.1 w0.2.2.2.2.1 w0.2.2.2.2.2.1 w0.2.2.2.2.2.2.2.2.1 w0.2.2.2.2.2.2.2.2.2 w1).mono fun e W' ⟨he, bel⟩ => ?_
  subst he
  exact ⟨_, rfl, _, _, _, [], _, [], hW', trodAll_mk1 (shut_bool Try.underlying4 _), (trodAll_cons_mk (Below.trod laidOut (by kernel_rfl) (of_decide_eq_true (by kernel_rfl)) k0 bel lt0) (trodAll_cons_mk (shut_int Try.underlying3 w1) trodAll_mk0)), rfl, bel.frame _, fun h => by cases h⟩
theorem over : Rows.ipWholeRow.holds Try.pinned (OpenSpec.ofChange Rows.ipWholeSpec) :=
  OpenClaim.holds_of_wide 4 Try.f4 rfl rfl rfl rfl rfl rfl rfl ⟨rfl, rfl, rfl, rfl, rfl⟩ rfl rfl rfl rfl rfl (by kernel_rfl) Try.func4 (by kernel_rfl)
    (of_decide_eq_true (by kernel_rfl)) (by unfold Func.isWrapper; first | (rw [if_pos (by decide +kernel)]; kernel_rfl) | (rw [if_neg (by decide +kernel)]; exact ⟨rfl, rfl⟩))
    (fun os started H enc _ => lifted os started H enc)
theorem proved : Rows.IpWholeSaid := over
#print axioms proved
end Go.Proofs.Ytnggabbakhakaaa.ipWhole
namespace Go.Proofs.Ytnggabbakhakaaa
/-- The row, under a short name, for the claim. -/
theorem ipWhole_holds : Rows.IpWholeSaid := ipWhole.proved
end Go.Proofs.Ytnggabbakhakaaa

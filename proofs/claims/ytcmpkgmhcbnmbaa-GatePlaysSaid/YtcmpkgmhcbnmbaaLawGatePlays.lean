-- Laid by this claim's own program over the print's words.
import Derived.Test.YtcmpkgmhcbnmbaaVGatePlays
import Derived.Test.YtcmpkgmhcbnmbaaRows
import Derived.Test.YtcmpkgmhcbnmbaaPGatePlaysx5
import Derived.Test.YtcmpkgmhcbnmbaaPureGatePlays
import Derived.WalkKit
import Derived.ProofKit
import Derived.OpenShut
import Derived.ShutString
import Derived.ChangeOld
import Derived.Below
import Derived.SizedLaws
import Derived.Carry
namespace Go.Proofs.Ytcmpkgmhcbnmbaa.gatePlays
open Go.ChangeShapes Go.WideShapes Go.ChangeAt Go.RowKit
open Go.ChangeMaps (open_string shut_string)
open Go.Proofs.YtcmpkgmhcbnmbaaW.PrintMore Go.Proofs.YtcmpkgmhcbnmbaaW.PrintWords Go.Proofs.Ytcmpkgmhcbnmbaa.PGatePlays
set_option linter.unusedVariables false
theorem own : ownKnob Try.prog.godebug = none := by kernel_rfl
theorem laidOut : laidOutB Try.prog = true := by kernel_rfl
theorem op_41 : Opens Try.prog 41 k41 fit41 := opens_struct Try.underlying41 (by kernel_rfl) (fun y => ⟨y.1, y.2.1, y.2.2.1, y.2.2.2⟩) (fun _ => rfl) (opensF_cons rfl rfl (by kernel_rfl) (opens_int Try.underlying3 (by kernel_rfl)) (opensF_cons rfl rfl (by kernel_rfl) (opens_int Try.underlying3 (by kernel_rfl)) (opensF_cons rfl rfl (by kernel_rfl) (opens_slice 16 Try.underlying28 (by kernel_rfl) (by kernel_rfl) (by decide) (opens_string Try.underlying9 (by kernel_rfl))) (opensF_one rfl (opens_bool Try.underlying4 (by kernel_rfl))))))
set_option maxRecDepth 100000 in
theorem lifted (os : Os) (started : os.Started) (H : Type) (enc : TypeId × Value → H) :
    ReturnsInHanded {} Try.checked os 4 .any (Rows.gatePlaysSpec.pre6 enc Try.prog Try.f4 Rows.gatePlaysRow.domain false) (Rows.gatePlaysSpec.post enc Try.prog Try.f4 false true false false) := by
  refine returnsInHanded_of_change_sized (C := Try.checked) own started (by kernel_rfl) Try.func4
    (ChangeSpec.witness6 (enc := enc) (C := Try.checked) false ⟨#[], #[.int .i64 0, .slice none 0 0], []⟩ 8 (by kernel_rfl) (by kernel_rfl) (by kernel_rfl) (by kernel_rfl)) ?_
  intro W base args ds gs before hval0 hW hcnd hsz0 _
  have hsz : (DataW.weightsEach Try.prog (Try.f4.params.toList ++ Rows.gatePlaysSpec.plain.varTypes Try.prog) (ds ++ gs)).all (· ≤ reachBytes) = true := hsz0
  have hval : ∀ (j : Nat) t v, Try.f4.params[j]? = some t → args[j]? = some v → Value.okWide Try.prog W .any base t v := hval0
  have hW' := hW
  obtain ⟨p, q, hA0, hV, rfl, hfz, hnd⟩ := hW
  have hA : DataW.TrodAll enc Try.prog W 0 (fun _ => true) true Try.f4.params.toList args.toList ds p := hA0
  rw [Try.params4] at hA hval hsz
  obtain ⟨v0, vs0, d0, ds0, p0, q0, hargs, rfl, rfl, h0, r0⟩ := trodAll_cons hA
  obtain ⟨v1, vs1, d1, ds1, p1, q1, rfl, rfl, rfl, h1, r1⟩ := trodAll_cons r0
  obtain ⟨rfl, rfl, rfl⟩ := trodAll_nil r1
  obtain rfl : args = #[v0, v1] := by cases args; simp_all
  obtain ⟨rfl, rfl⟩ := trodVars_none hV
  obtain ⟨a0, rfl, rfl, rfl, w0⟩ := open_int Try.underlying3 (hval 0 3 v0 rfl rfl) h0
  have k1 := h1
  have lt1 : ∀ x ∈ p1, x.block < W.heap.size := by obtain ⟨m, hm⟩ := k1; exact DataW.trod_lt m _ _ _ hm
  have hw1 : ∀ n ∈ d1.weights Try.prog 36, n ≤ reachBytes := fun n hn => by simpa using List.all_eq_true.1 hsz n (DataW.weights_mem_each (j := 1) rfl rfl n hn)
  obtain ⟨A1, c1, l1, rfl, hr1, hc1, w1⟩ := arg_slice Try.underlying36 (opens_slice 48 Try.underlying36 (by kernel_rfl) (by kernel_rfl) (by decide) op_41) (hval 1 36 v1 rfl rfl) h1 hw1
  clear hA0 hval0 hsz0 hsz
  refine (PGatePlays.sternpostlaw25_GatePlays.walk Pure.GatePlays a0 A1 c1 l1 W w0 hr1 hc1 w1).mono fun e W' ⟨he, bel⟩ => ?_
  subst he
  exact ⟨_, rfl, _, _, _, [], _, [], hW', trodAll_mk1 (shut_bool Try.underlying4 _), (trodAll_cons_mk (shut_int Try.underlying3 w0) (trodAll_cons_mk (Below.trod laidOut (by kernel_rfl) (of_decide_eq_true (by kernel_rfl)) k1 bel lt1) trodAll_mk0)), rfl, bel.frame _, fun h => by cases h⟩
theorem over : Rows.gatePlaysRow.holds Try.pinned (OpenSpec.ofChange Rows.gatePlaysSpec) :=
  OpenClaim.holds_of_wide 4 Try.f4 rfl rfl rfl rfl rfl rfl rfl ⟨rfl, rfl, rfl, rfl, rfl⟩ rfl rfl rfl rfl rfl (by kernel_rfl) Try.func4 (by kernel_rfl)
    (of_decide_eq_true (by kernel_rfl)) (by unfold Func.isWrapper; first | (rw [if_pos (by decide +kernel)]; kernel_rfl) | (rw [if_neg (by decide +kernel)]; exact ⟨rfl, rfl⟩))
    (fun os started H enc _ => lifted os started H enc)
theorem proved : Rows.GatePlaysSaid := over
#print axioms proved
end Go.Proofs.Ytcmpkgmhcbnmbaa.gatePlays
namespace Go.Proofs.Ytcmpkgmhcbnmbaa
/-- The row, under a short name, for the claim. -/
theorem gatePlays_holds : Rows.GatePlaysSaid := gatePlays.proved
end Go.Proofs.Ytcmpkgmhcbnmbaa

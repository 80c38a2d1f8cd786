-- Laid by this claim's own program over the print's words.
import Derived.Test.YtobndcdohehhbaaPSendqStreamx0
import Derived.Test.YtobndcdohehhbaaPSendqStreamx1
namespace Go.Proofs.Ytobndcdohehhbaa.PSendqStream
open Go.RowKit Go.Proofs.YtobndcdohehhbaaW.PrintWords Go.Proofs.YtobndcdohehhbaaW.PrintLast Go.Proofs.YtobndcdohehhbaaW.PrintMore
attribute [local go_sem] max2_int min2_int max_two min_two max_three min_three max_four min_four max_five min_five extract_cut tmod_nat_lit   -- for this text's walks alone
set_option linter.unusedVariables false
set_option linter.unusedSimpArgs false


/-! ### sendq_Queue_Hole: function 15 (by hand) -/
def sendq_Queue_Hole.f (s0_0 s0_1 s0_2 : Int) (s0_3 : ByteArray) (a1 : Int) : Option (Int × ByteArray) :=
 if (mn s0_1 (wrap64 (0 + (mx 0 (mn a1 s0_1))))) ≤ 0 then some (s0_0, (⟨#[]⟩ : ByteArray)) else if (mn s0_1 (wrap64 (0 + (mx 0 (mn a1 s0_1))))) ≤ (s0_3.size : Int) then (seq_Add.f s0_0 0).bind fun a => some (a.1, cutS s0_3 0 (mn s0_1 (wrap64 (0 + (mx 0 (mn a1 s0_1))))).toNat) else none
set_option maxHeartbeats 4000000 in
set_option maxRecDepth 100000 in
theorem sendq_Queue_Hole.calls (g : Nat) (s0_0 s0_1 s0_2 : Int) (s0_3 : ByteArray) (a1 r1 : Int) (r2 : ByteArray) (w0 w : World) (hI : IsS67 w0 w g s0_0 s0_1 s0_2 s0_3 []) (hB : Below w0.heap.size w0 w) (h : sendq_Queue_Hole.f s0_0 s0_1 s0_2 s0_3 a1 = some (r1, r2)) :
  Calls Try.prog 15 #[.pointer (some ⟨g, 0, none⟩), .int .i64 a1] w fun e w' => e = .returned (.tuple #[.int .i64 r1, .string r2]) ∧ IsS67 w0 w' g s0_0 s0_1 s0_2 s0_3 [] ∧ Below w0.heap.size w0 w' ∧ KeepBut w w' g none := by
 have HI0 := Aside0.mk hI
 have HK := Aside0.mk (KeepBut.refl w g none)
 have HB := Aside0.mk hB
 clear hI hB
 unfold sendq_Queue_Hole.f at h
 obtain ⟨m0, h0⟩ : ∃ m_, mn a1 s0_1 = m_ := ⟨_, rfl⟩
 rw [h0] at h
 have h0_ : (if s0_1 < a1 then s0_1 else a1) = m0 := h0
 obtain ⟨m1, h1⟩ : ∃ m_, mx 0 m0 = m_ := ⟨_, rfl⟩
 rw [h1] at h
 have h1_ : (if 0 < m0 then m0 else 0) = m1 := h1
 obtain ⟨m2, h2⟩ : ∃ m_, wrap64 (0 + m1) = m_ := ⟨_, rfl⟩
 rw [h2] at h
 have h2_ : wrap64 m1 = m2 := by rw [← h2, Int.zero_add]
 obtain ⟨m, h3⟩ : ∃ m_, mn s0_1 m2 = m_ := ⟨_, rfl⟩
 rw [h3] at h
 have h3_ : (if m2 < s0_1 then m2 else s0_1) = m := h3
 clear h0 h1 h2 h3
 replace h := Aside0.mk h
 obtain ⟨Az, cz, HGz, hgz, HSz⟩ := HI0.out
 have hcz_0 := cellS67_0 HGz
 have hcz_1 := cellS67_1 HGz
 have hcz_2 := cellS67_2 HGz
 have hcz_3 := cellS67_3 HGz
 have hcz_4 := cellS67_4 HGz
 clear HGz hgz
 simp only [List.length_nil] at hcz_4
 go_enter Try.func15, Try.ntmps15
 go_wp2
 repeat (go_quiet (fail); try go_wp2)
 go_loopg [6, 7, 19] 0 (fun _ v6 v7 v19 W => v6 = .int .i64 0 ∧ v7 = .int .i64 s0_1 ∧ v19 = .int .i64 0 ∧ Aside0 (IsS67 w0 W g s0_0 s0_1 s0_2 s0_3 []) ∧ Aside0 (Below w0.heap.size w0 W) ∧ Aside0 (KeepBut w W g none))
 case atStart => exact ⟨rfl, rfl, rfl, ⟨by repeat (first | (with_reducible first | exact HI0.out | apply IsS67.alloc | apply IsS67.drewN | apply IsS67.drew | apply IsS67.set_0 | apply IsS67.set_1 | apply IsS67.set_2 | apply IsS67.set_3) | exact HI0.out)⟩, ⟨by repeat (first | (with_reducible first | exact HB.out | apply below_alloc | apply pw_below_drewN | apply below_drew1 | refine below_set ?_ (IsS67.ge HI0.out)) | exact HB.out)⟩, ⟨by repeat (first | (with_reducible first | exact HK.out | apply KeepBut.set_ | apply keep_drewN | apply keep_drew | apply keep_alloc) | exact HK.out)⟩⟩
 case round =>
  clear hcz_0 hcz_1 hcz_2 hcz_3 hcz_4 HI0 HB HK
  obtain ⟨h6, h7, h19, HI0, HB, HK⟩ := hrel
  subst h6 h7 h19
  obtain ⟨Az, cz, HGz, hgz, HSz⟩ := HI0.out
  have hcz_0 := cellS67_0 HGz
  have hcz_1 := cellS67_1 HGz
  have hcz_2 := cellS67_2 HGz
  have hcz_3 := cellS67_3 HGz
  have hcz_4 := cellS67_4 HGz
  clear HGz hgz
  have h := h.out
  by_cases c : m ≤ 0
  case pos =>
   rw [if_pos c] at h
   simp only [Option.some.injEq, Prod.mk.injEq] at h
   obtain ⟨rfl, rfl⟩ := h
   have d := decide_eq_true c
   go_wp2
   go_ret2
   exact ⟨by first | rfl | (simp; done) | (simp [*]; done), by repeat (first | (with_reducible first | exact HI0.out | apply IsS67.alloc | apply IsS67.drewN | apply IsS67.drew | apply IsS67.set_0 | apply IsS67.set_1 | apply IsS67.set_2 | apply IsS67.set_3) | exact HI0.out), by repeat (first | (with_reducible first | exact HB.out | apply below_alloc | apply pw_below_drewN | apply below_drew1 | refine below_set ?_ (IsS67.ge HI0.out)) | exact HB.out), by repeat (first | (with_reducible first | exact HK.out | apply KeepBut.set_ | apply keep_drewN | apply keep_drew | apply keep_alloc) | exact HK.out)⟩
  rw [if_neg c] at h
  by_cases c2 : m ≤ (s0_3.size : Int)
  case neg => rw [if_neg c2] at h; cases h
  rw [if_pos c2] at h
  obtain ⟨⟨r, e⟩, hA, h⟩ := Option.bind_eq_some_iff.mp h
  have HA := Aside0.mk (show sendq_Queue_at.f s0_0 s0_1 s0_2 s0_3 [] 0 = some (r, s0_0, s0_1, s0_2, s0_3) by unfold sendq_Queue_at.f; rw [hA]; rfl)
  clear hA
  simp only [Option.some.injEq, Prod.mk.injEq] at h
  obtain ⟨rfl, rfl⟩ := h
  have KM := Aside0.mk (show 0 ≤ m ∧ m ≤ (s0_3.size : Int) from ⟨by omega, c2⟩)
  have d := decide_eq_false c
  clear c c2
  go_wp2
  have same : ∀ (p : Nat) (W' : World), (fun p W' => IsS67 w0 W' g s0_0 s0_1 s0_2 s0_3 [] ∧ Below w0.heap.size w0 W' ∧ KeepBut w W' g none ∧ p ≤ 0) p W' → True := fun _ _ _ => trivial
  refine AnyEvents.region_then 12 (E := []) (C := fun p W' => IsS67 w0 W' g s0_0 s0_1 s0_2 s0_3 [] ∧ Below w0.heap.size w0 W' ∧ KeepBut w W' g none ∧ p ≤ 0) (G := fun _ _ _ _ => True) (T := []) (R := fun _ _ _ _ => True) (vs := [(.pointer (some ⟨g, 0, none⟩)), (.int .i64 0), (.int .i64 r), (.pointer (some ⟨g, 0, none⟩)), (.pointer (some ⟨g, 0, none⟩)), (.pointer (some ⟨g, 3, none⟩)), (.string s0_3), (.int .i64 0), (.int .i64 m), (.string (cutS s0_3 0 m.toNat)), (.int .i64 r), (.string (cutS s0_3 0 m.toNat))]) (by kernel_rfl) (by kernel_rfl) rfl (by kernel_rfl) ?hc0 same (fun _ _ _ _ _ _ _ _ _ => trivial) (by decide) (fun x => ?obs) ?fin
  case hc0 => exact ⟨by first | exact HI0.out | (exact (IsS67.drewN HI0.out _)), below_drew1 (by repeat (first | (with_reducible first | exact HB.out | apply below_alloc | apply pw_below_drewN | apply below_drew1 | refine below_set ?_ (IsS67.ge HI0.out)) | exact HB.out)), by repeat (first | (with_reducible first | exact HK.out | apply KeepBut.set_ | apply keep_drewN | apply keep_drew | apply keep_alloc) | exact HK.out), by decide⟩
  case obs =>
   refine AnyEvents.obs_cons (.pointer (some ⟨g, 0, none⟩)) rfl (AnyEvents.ob_plain rfl rfl rfl same rfl (fun p W' hwn hC => by first | rfl | (go_simp; done) | (go_simp; rfl) | (go_simp; simp only [i64_w]; done))) ?_
   try simp only [Act.put, List.setIfInBounds_toArray, List.set_cons_zero, List.set_cons_succ]
   refine AnyEvents.obs_cons (.int .i64 0) rfl (AnyEvents.ob_plain rfl rfl rfl same rfl (fun p W' hwn hC => by first | rfl | (go_simp; done) | (go_simp; rfl) | (go_simp; simp only [i64_w]; done))) ?_
   try simp only [Act.put, List.setIfInBounds_toArray, List.set_cons_zero, List.set_cons_succ]
   refine AnyEvents.obs_cons (.int .i64 r) rfl (AnyEvents.ob_call rfl rfl rfl rfl 26 #[.pointer (some ⟨g, 0, none⟩), .int .i64 0] (fun p W' hwn hC => ?_) (fun p W' hwn hC => ?_)) ?_
   ·go_simp
   ·exact (sendq_Queue_at.calls g s0_0 s0_1 s0_2 s0_3 [] 0 r s0_0 s0_1 s0_2 s0_3 w0 W' hC.1 hC.2.1 HA.out).mono fun e w2 h2 => ⟨h2.1, ⟨h2.2.1, h2.2.2.1, hC.2.2.1.trans h2.2.2.2 (.inl rfl), hC.2.2.2⟩, trivial⟩
   try simp only [Act.put, List.setIfInBounds_toArray, List.set_cons_zero, List.set_cons_succ]
   refine AnyEvents.obs_cons (.pointer (some ⟨g, 0, none⟩)) rfl (AnyEvents.ob_plain rfl rfl rfl same rfl (fun p W' hwn hC => by first | rfl | (go_simp; done) | (go_simp; rfl) | (go_simp; simp only [i64_w]; done))) ?_
   try simp only [Act.put, List.setIfInBounds_toArray, List.set_cons_zero, List.set_cons_succ]
   refine AnyEvents.obs_cons (.pointer (some ⟨g, 0, none⟩)) rfl (AnyEvents.ob_plain rfl rfl rfl same rfl (fun p W' hwn hC => by first | rfl | (go_simp; done) | (go_simp; rfl) | (go_simp; simp only [i64_w]; done))) ?_
   try simp only [Act.put, List.setIfInBounds_toArray, List.set_cons_zero, List.set_cons_succ]
   refine AnyEvents.obs_cons (.pointer (some ⟨g, 3, none⟩)) rfl (AnyEvents.ob_plain rfl rfl rfl same rfl (fun p W' hwn hC => by first | rfl | (go_simp; done) | (go_simp; rfl) | (go_simp; simp only [i64_w]; done))) ?_
   try simp only [Act.put, List.setIfInBounds_toArray, List.set_cons_zero, List.set_cons_succ]
   refine AnyEvents.obs_cons (.string s0_3) rfl (AnyEvents.ob_plain rfl rfl rfl same rfl (fun p W' hwn hC => ?_)) ?_
   ·have hp3 : p ≤ 0 := hC.2.2.2; obtain ⟨A_, c_, HG, _, _⟩ := hC.1; have hcz := cellS67_3 HG; obtain rfl : p = 0 := (by omega); all_goals (clear HG; first | (go_simp; done) | (go_simp; rfl))
   try simp only [Act.put, List.setIfInBounds_toArray, List.set_cons_zero, List.set_cons_succ]
   refine AnyEvents.obs_cons (.int .i64 0) rfl (AnyEvents.ob_plain rfl rfl rfl same rfl (fun p W' hwn hC => by first | rfl | (go_simp; done) | (go_simp; rfl) | (go_simp; simp only [i64_w]; done))) ?_
   try simp only [Act.put, List.setIfInBounds_toArray, List.set_cons_zero, List.set_cons_succ]
   refine AnyEvents.obs_cons (.int .i64 m) rfl (AnyEvents.ob_plain rfl rfl rfl same rfl (fun p W' hwn hC => by first | rfl | (go_simp; done) | (go_simp; rfl) | (go_simp; simp only [i64_w]; done))) ?_
   try simp only [Act.put, List.setIfInBounds_toArray, List.set_cons_zero, List.set_cons_succ]
   refine AnyEvents.obs_cons (.string (cutS s0_3 0 m.toNat)) rfl (AnyEvents.ob_plain rfl rfl rfl same rfl (fun p W' hwn hC => run_sl_at (i := 0) (j := m) Try.underlying9 rfl rfl rfl rfl (by decide) KM.out.1 KM.out.2)) ?_
   try simp only [Act.put, List.setIfInBounds_toArray, List.set_cons_zero, List.set_cons_succ]
   refine AnyEvents.obs_cons (.int .i64 r) rfl (AnyEvents.ob_plain rfl rfl rfl same rfl (fun p W' hwn hC => by first | rfl | (go_simp; done) | (go_simp; rfl) | (go_simp; simp only [i64_w]; done))) ?_
   try simp only [Act.put, List.setIfInBounds_toArray, List.set_cons_zero, List.set_cons_succ]
   refine AnyEvents.obs_cons (.string (cutS s0_3 0 m.toNat)) rfl (AnyEvents.ob_plain rfl rfl rfl same rfl (fun p W' hwn hC => by first | rfl | (go_simp; done) | (go_simp; rfl) | (go_simp; simp only [i64_w]; done))) ?_
   try simp only [Act.put, List.setIfInBounds_toArray, List.set_cons_zero, List.set_cons_succ]
   trivial
  case fin =>
   intro x W' hE _
   simp only [List.take_succ_cons, List.take_zero, List.drop_succ_cons, List.drop_zero]
   rw [AnyOrder.lexAt_cons (.pointer (some ⟨g, 0, none⟩)) rfl]
   try simp only [Act.put, List.setIfInBounds_toArray, List.set_cons_zero, List.set_cons_succ]
   rw [AnyOrder.lexAt_cons (.int .i64 0) rfl]
   try simp only [Act.put, List.setIfInBounds_toArray, List.set_cons_zero, List.set_cons_succ]
   rw [AnyOrder.lexAt_cons (.int .i64 r) rfl]
   try simp only [Act.put, List.setIfInBounds_toArray, List.set_cons_zero, List.set_cons_succ]
   rw [AnyOrder.lexAt_cons (.pointer (some ⟨g, 0, none⟩)) rfl]
   try simp only [Act.put, List.setIfInBounds_toArray, List.set_cons_zero, List.set_cons_succ]
   rw [AnyOrder.lexAt_cons (.pointer (some ⟨g, 0, none⟩)) rfl]
   try simp only [Act.put, List.setIfInBounds_toArray, List.set_cons_zero, List.set_cons_succ]
   rw [AnyOrder.lexAt_cons (.pointer (some ⟨g, 3, none⟩)) rfl]
   try simp only [Act.put, List.setIfInBounds_toArray, List.set_cons_zero, List.set_cons_succ]
   rw [AnyOrder.lexAt_cons (.string s0_3) rfl]
   try simp only [Act.put, List.setIfInBounds_toArray, List.set_cons_zero, List.set_cons_succ]
   rw [AnyOrder.lexAt_cons (.int .i64 0) rfl]
   try simp only [Act.put, List.setIfInBounds_toArray, List.set_cons_zero, List.set_cons_succ]
   rw [AnyOrder.lexAt_cons (.int .i64 m) rfl]
   try simp only [Act.put, List.setIfInBounds_toArray, List.set_cons_zero, List.set_cons_succ]
   rw [AnyOrder.lexAt_cons (.string (cutS s0_3 0 m.toNat)) rfl]
   try simp only [Act.put, List.setIfInBounds_toArray, List.set_cons_zero, List.set_cons_succ]
   rw [AnyOrder.lexAt_cons (.int .i64 r) rfl]
   try simp only [Act.put, List.setIfInBounds_toArray, List.set_cons_zero, List.set_cons_succ]
   rw [AnyOrder.lexAt_cons (.string (cutS s0_3 0 m.toNat)) rfl]
   try simp only [Act.put, List.setIfInBounds_toArray, List.set_cons_zero, List.set_cons_succ]
   rw [AnyOrder.lexAt_nil]
   have HE := hE
   clear hE same
   go_wp2
   go_ret2
   exact ⟨rfl, HE.1, HE.2.1, HE.2.2.1⟩



/-! ### sendq_Queue_State: function 16 (by hand) -/
def sendq_Queue_State.f (s0_0 s0_1 s0_2 : Int) (s0_3 : ByteArray) (s0_4 : List S73) : Option (Int × Int × Int) := (seq_Add.f s0_0 s0_1).bind fun a => some (s0_0, a.1, (s0_3.size : Int))
set_option maxHeartbeats 4000000 in
set_option maxRecDepth 100000 in
theorem sendq_Queue_State.calls (g : Nat) (s0_0 s0_1 s0_2 : Int) (s0_3 : ByteArray) (s0_4 : List S73) (r1 r2 r3 : Int) (w0 w : World) (hI : IsS67 w0 w g s0_0 s0_1 s0_2 s0_3 s0_4) (hB : Below w0.heap.size w0 w) (h : sendq_Queue_State.f s0_0 s0_1 s0_2 s0_3 s0_4 = some (r1, r2, r3)) :
  Calls Try.prog 16 #[.pointer (some ⟨g, 0, none⟩)] w fun e w' => e = .returned (.tuple #[.int .i64 r1, .int .i64 r2, .int .i64 r3]) ∧ IsS67 w0 w' g s0_0 s0_1 s0_2 s0_3 s0_4 ∧ Below w0.heap.size w0 w' ∧ KeepBut w w' g none := by
 have HI0 := Aside0.mk hI
 have HK := Aside0.mk (KeepBut.refl w g none)
 have HB := Aside0.mk hB
 clear hI hB
 unfold sendq_Queue_State.f at h
 obtain ⟨⟨r, e⟩, hA, h⟩ := Option.bind_eq_some_iff.mp h
 have HA := Aside0.mk (show sendq_Queue_at.f s0_0 s0_1 s0_2 s0_3 s0_4 s0_1 = some (r, s0_0, s0_1, s0_2, s0_3) by unfold sendq_Queue_at.f; rw [hA]; rfl)
 clear hA
 simp only [Option.some.injEq, Prod.mk.injEq] at h
 obtain ⟨rfl, rfl, rfl⟩ := h
 go_enter Try.func16, Try.ntmps16
 go_wp2
 have same : ∀ (p : Nat) (W' : World), (fun p W' => IsS67 w0 W' g s0_0 s0_1 s0_2 s0_3 s0_4 ∧ Below w0.heap.size w0 W' ∧ KeepBut w W' g none ∧ p ≤ 0) p W' → True := fun _ _ _ => trivial
 refine AnyEvents.region_then 18 (E := []) (C := fun p W' => IsS67 w0 W' g s0_0 s0_1 s0_2 s0_3 s0_4 ∧ Below w0.heap.size w0 W' ∧ KeepBut w W' g none ∧ p ≤ 0) (G := fun _ _ _ _ => True) (T := []) (R := fun _ _ _ _ => True) (vs := [(.pointer (some ⟨g, 0, none⟩)), (.pointer (some ⟨g, 0, none⟩)), (.pointer (some ⟨g, 0, none⟩)), (.int .i64 s0_0), (.pointer (some ⟨g, 0, none⟩)), (.pointer (some ⟨g, 0, none⟩)), (.pointer (some ⟨g, 0, none⟩)), (.pointer (some ⟨g, 1, none⟩)), (.int .i64 s0_1), (.int .i64 r), (.pointer (some ⟨g, 0, none⟩)), (.pointer (some ⟨g, 0, none⟩)), (.pointer (some ⟨g, 3, none⟩)), (.string s0_3), (.int .i64 (s0_3.size : Int)), (.int .i64 s0_0), (.int .i64 r), (.int .i64 (s0_3.size : Int))]) (by kernel_rfl) (by kernel_rfl) rfl (by kernel_rfl) ?hc0 same (fun _ _ _ _ _ _ _ _ _ => trivial) (by decide) (fun x => ?obs) ?fin
 case hc0 => exact ⟨by first | exact HI0.out | (exact (IsS67.drewN HI0.out _)), below_drew1 (by repeat (first | (with_reducible first | exact HB.out | apply below_alloc | apply pw_below_drewN | apply below_drew1 | refine below_set ?_ (IsS67.ge HI0.out)) | exact HB.out)), by repeat (first | (with_reducible first | exact HK.out | apply KeepBut.set_ | apply keep_drewN | apply keep_drew | apply keep_alloc) | exact HK.out), by decide⟩
 case obs =>
  refine AnyEvents.obs_cons (.pointer (some ⟨g, 0, none⟩)) rfl (AnyEvents.ob_plain rfl rfl rfl same rfl (fun p W' hwn hC => by first | rfl | (go_simp; done) | (go_simp; rfl) | (go_simp; simp only [i64_w]; done))) ?_
  try simp only [Act.put, List.setIfInBounds_toArray, List.set_cons_zero, List.set_cons_succ]
  refine AnyEvents.obs_cons (.pointer (some ⟨g, 0, none⟩)) rfl (AnyEvents.ob_plain rfl rfl rfl same rfl (fun p W' hwn hC => by first | rfl | (go_simp; done) | (go_simp; rfl) | (go_simp; simp only [i64_w]; done))) ?_
  try simp only [Act.put, List.setIfInBounds_toArray, List.set_cons_zero, List.set_cons_succ]
  refine AnyEvents.obs_cons (.pointer (some ⟨g, 0, none⟩)) rfl (AnyEvents.ob_plain rfl rfl rfl same rfl (fun p W' hwn hC => by first | rfl | (go_simp; done) | (go_simp; rfl) | (go_simp; simp only [i64_w]; done))) ?_
  try simp only [Act.put, List.setIfInBounds_toArray, List.set_cons_zero, List.set_cons_succ]
  refine AnyEvents.obs_cons (.int .i64 s0_0) rfl (AnyEvents.ob_plain rfl rfl rfl same rfl (fun p W' hwn hC => ?_)) ?_
  ·have hp3 : p ≤ 0 := hC.2.2.2; obtain ⟨A_, c_, HG, _, _⟩ := hC.1; have hcz := cellS67_0 HG; obtain rfl : p = 0 := (by omega); all_goals (clear HG; first | (go_simp; done) | (go_simp; rfl))
  try simp only [Act.put, List.setIfInBounds_toArray, List.set_cons_zero, List.set_cons_succ]
  refine AnyEvents.obs_cons (.pointer (some ⟨g, 0, none⟩)) rfl (AnyEvents.ob_plain rfl rfl rfl same rfl (fun p W' hwn hC => by first | rfl | (go_simp; done) | (go_simp; rfl) | (go_simp; simp only [i64_w]; done))) ?_
  try simp only [Act.put, List.setIfInBounds_toArray, List.set_cons_zero, List.set_cons_succ]
  refine AnyEvents.obs_cons (.pointer (some ⟨g, 0, none⟩)) rfl (AnyEvents.ob_plain rfl rfl rfl same rfl (fun p W' hwn hC => by first | rfl | (go_simp; done) | (go_simp; rfl) | (go_simp; simp only [i64_w]; done))) ?_
  try simp only [Act.put, List.setIfInBounds_toArray, List.set_cons_zero, List.set_cons_succ]
  refine AnyEvents.obs_cons (.pointer (some ⟨g, 0, none⟩)) rfl (AnyEvents.ob_plain rfl rfl rfl same rfl (fun p W' hwn hC => by first | rfl | (go_simp; done) | (go_simp; rfl) | (go_simp; simp only [i64_w]; done))) ?_
  try simp only [Act.put, List.setIfInBounds_toArray, List.set_cons_zero, List.set_cons_succ]
  refine AnyEvents.obs_cons (.pointer (some ⟨g, 1, none⟩)) rfl (AnyEvents.ob_plain rfl rfl rfl same rfl (fun p W' hwn hC => by first | rfl | (go_simp; done) | (go_simp; rfl) | (go_simp; simp only [i64_w]; done))) ?_
  try simp only [Act.put, List.setIfInBounds_toArray, List.set_cons_zero, List.set_cons_succ]
  refine AnyEvents.obs_cons (.int .i64 s0_1) rfl (AnyEvents.ob_plain rfl rfl rfl same rfl (fun p W' hwn hC => ?_)) ?_
  ·have hp3 : p ≤ 0 := hC.2.2.2; obtain ⟨A_, c_, HG, _, _⟩ := hC.1; have hcz := cellS67_1 HG; obtain rfl : p = 0 := (by omega); all_goals (clear HG; first | (go_simp; done) | (go_simp; rfl))
  try simp only [Act.put, List.setIfInBounds_toArray, List.set_cons_zero, List.set_cons_succ]
  refine AnyEvents.obs_cons (.int .i64 r) rfl (AnyEvents.ob_call rfl rfl rfl rfl 26 #[.pointer (some ⟨g, 0, none⟩), .int .i64 s0_1] (fun p W' hwn hC => ?_) (fun p W' hwn hC => ?_)) ?_
  ·go_simp
  ·exact (sendq_Queue_at.calls g s0_0 s0_1 s0_2 s0_3 s0_4 s0_1 r s0_0 s0_1 s0_2 s0_3 w0 W' hC.1 hC.2.1 HA.out).mono fun e w2 h2 => ⟨h2.1, ⟨h2.2.1, h2.2.2.1, hC.2.2.1.trans h2.2.2.2 (.inl rfl), hC.2.2.2⟩, trivial⟩
  try simp only [Act.put, List.setIfInBounds_toArray, List.set_cons_zero, List.set_cons_succ]
  refine AnyEvents.obs_cons (.pointer (some ⟨g, 0, none⟩)) rfl (AnyEvents.ob_plain rfl rfl rfl same rfl (fun p W' hwn hC => by first | rfl | (go_simp; done) | (go_simp; rfl) | (go_simp; simp only [i64_w]; done))) ?_
  try simp only [Act.put, List.setIfInBounds_toArray, List.set_cons_zero, List.set_cons_succ]
  refine AnyEvents.obs_cons (.pointer (some ⟨g, 0, none⟩)) rfl (AnyEvents.ob_plain rfl rfl rfl same rfl (fun p W' hwn hC => by first | rfl | (go_simp; done) | (go_simp; rfl) | (go_simp; simp only [i64_w]; done))) ?_
  try simp only [Act.put, List.setIfInBounds_toArray, List.set_cons_zero, List.set_cons_succ]
  refine AnyEvents.obs_cons (.pointer (some ⟨g, 3, none⟩)) rfl (AnyEvents.ob_plain rfl rfl rfl same rfl (fun p W' hwn hC => by first | rfl | (go_simp; done) | (go_simp; rfl) | (go_simp; simp only [i64_w]; done))) ?_
  try simp only [Act.put, List.setIfInBounds_toArray, List.set_cons_zero, List.set_cons_succ]
  refine AnyEvents.obs_cons (.string s0_3) rfl (AnyEvents.ob_plain rfl rfl rfl same rfl (fun p W' hwn hC => ?_)) ?_
  ·have hp3 : p ≤ 0 := hC.2.2.2; obtain ⟨A_, c_, HG, _, _⟩ := hC.1; have hcz := cellS67_3 HG; obtain rfl : p = 0 := (by omega); all_goals (clear HG; first | (go_simp; done) | (go_simp; rfl))
  try simp only [Act.put, List.setIfInBounds_toArray, List.set_cons_zero, List.set_cons_succ]
  refine AnyEvents.obs_cons (.int .i64 (s0_3.size : Int)) rfl (AnyEvents.ob_plain rfl rfl rfl same rfl (fun p W' hwn hC => by first | rfl | (go_simp; done) | (go_simp; rfl) | (go_simp; simp only [i64_w]; done))) ?_
  try simp only [Act.put, List.setIfInBounds_toArray, List.set_cons_zero, List.set_cons_succ]
  refine AnyEvents.obs_cons (.int .i64 s0_0) rfl (AnyEvents.ob_plain rfl rfl rfl same rfl (fun p W' hwn hC => by first | rfl | (go_simp; done) | (go_simp; rfl) | (go_simp; simp only [i64_w]; done))) ?_
  try simp only [Act.put, List.setIfInBounds_toArray, List.set_cons_zero, List.set_cons_succ]
  refine AnyEvents.obs_cons (.int .i64 r) rfl (AnyEvents.ob_plain rfl rfl rfl same rfl (fun p W' hwn hC => by first | rfl | (go_simp; done) | (go_simp; rfl) | (go_simp; simp only [i64_w]; done))) ?_
  try simp only [Act.put, List.setIfInBounds_toArray, List.set_cons_zero, List.set_cons_succ]
  refine AnyEvents.obs_cons (.int .i64 (s0_3.size : Int)) rfl (AnyEvents.ob_plain rfl rfl rfl same rfl (fun p W' hwn hC => by first | rfl | (go_simp; done) | (go_simp; rfl) | (go_simp; simp only [i64_w]; done))) ?_
  try simp only [Act.put, List.setIfInBounds_toArray, List.set_cons_zero, List.set_cons_succ]
  trivial
 case fin =>
  intro x W' hE _
  simp only [List.take_succ_cons, List.take_zero, List.drop_succ_cons, List.drop_zero]
  rw [AnyOrder.lexAt_cons (.pointer (some ⟨g, 0, none⟩)) rfl]
  try simp only [Act.put, List.setIfInBounds_toArray, List.set_cons_zero, List.set_cons_succ]
  rw [AnyOrder.lexAt_cons (.pointer (some ⟨g, 0, none⟩)) rfl]
  try simp only [Act.put, List.setIfInBounds_toArray, List.set_cons_zero, List.set_cons_succ]
  rw [AnyOrder.lexAt_cons (.pointer (some ⟨g, 0, none⟩)) rfl]
  try simp only [Act.put, List.setIfInBounds_toArray, List.set_cons_zero, List.set_cons_succ]
  rw [AnyOrder.lexAt_cons (.int .i64 s0_0) rfl]
  try simp only [Act.put, List.setIfInBounds_toArray, List.set_cons_zero, List.set_cons_succ]
  rw [AnyOrder.lexAt_cons (.pointer (some ⟨g, 0, none⟩)) rfl]
  try simp only [Act.put, List.setIfInBounds_toArray, List.set_cons_zero, List.set_cons_succ]
  rw [AnyOrder.lexAt_cons (.pointer (some ⟨g, 0, none⟩)) rfl]
  try simp only [Act.put, List.setIfInBounds_toArray, List.set_cons_zero, List.set_cons_succ]
  rw [AnyOrder.lexAt_cons (.pointer (some ⟨g, 0, none⟩)) rfl]
  try simp only [Act.put, List.setIfInBounds_toArray, List.set_cons_zero, List.set_cons_succ]
  rw [AnyOrder.lexAt_cons (.pointer (some ⟨g, 1, none⟩)) rfl]
  try simp only [Act.put, List.setIfInBounds_toArray, List.set_cons_zero, List.set_cons_succ]
  rw [AnyOrder.lexAt_cons (.int .i64 s0_1) rfl]
  try simp only [Act.put, List.setIfInBounds_toArray, List.set_cons_zero, List.set_cons_succ]
  rw [AnyOrder.lexAt_cons (.int .i64 r) rfl]
  try simp only [Act.put, List.setIfInBounds_toArray, List.set_cons_zero, List.set_cons_succ]
  rw [AnyOrder.lexAt_cons (.pointer (some ⟨g, 0, none⟩)) rfl]
  try simp only [Act.put, List.setIfInBounds_toArray, List.set_cons_zero, List.set_cons_succ]
  rw [AnyOrder.lexAt_cons (.pointer (some ⟨g, 0, none⟩)) rfl]
  try simp only [Act.put, List.setIfInBounds_toArray, List.set_cons_zero, List.set_cons_succ]
  rw [AnyOrder.lexAt_cons (.pointer (some ⟨g, 3, none⟩)) rfl]
  try simp only [Act.put, List.setIfInBounds_toArray, List.set_cons_zero, List.set_cons_succ]
  rw [AnyOrder.lexAt_cons (.string s0_3) rfl]
  try simp only [Act.put, List.setIfInBounds_toArray, List.set_cons_zero, List.set_cons_succ]
  rw [AnyOrder.lexAt_cons (.int .i64 (s0_3.size : Int)) rfl]
  try simp only [Act.put, List.setIfInBounds_toArray, List.set_cons_zero, List.set_cons_succ]
  rw [AnyOrder.lexAt_cons (.int .i64 s0_0) rfl]
  try simp only [Act.put, List.setIfInBounds_toArray, List.set_cons_zero, List.set_cons_succ]
  rw [AnyOrder.lexAt_cons (.int .i64 r) rfl]
  try simp only [Act.put, List.setIfInBounds_toArray, List.set_cons_zero, List.set_cons_succ]
  rw [AnyOrder.lexAt_cons (.int .i64 (s0_3.size : Int)) rfl]
  try simp only [Act.put, List.setIfInBounds_toArray, List.set_cons_zero, List.set_cons_succ]
  rw [AnyOrder.lexAt_nil]
  have HE := hE
  clear hE same
  go_wp2
  go_ret3
  exact ⟨rfl, HE.1, HE.2.1, HE.2.2.1⟩


/-! ### sternpostlaw15_SendqStream: function 4 -/
def sternpostlaw15_SendqStream_tail.C1 (x wr : ByteArray) (ac n e : Int) : Prop := (0 ≤ n ∧ n ≤ (x.size : Int)) ∧ (e = 0 ∨ n = 0) ∧ (n = (x.size : Int) ∨ wrap64 (wrap64 ((wr.size : Int) - ac) + n) = 1000) ∧ wr.size + (cutS x 0 n.toNat).size ≤ 9223372036854775807
instance (x wr : ByteArray) (ac n e : Int) : Decidable (sternpostlaw15_SendqStream_tail.C1 x wr ac n e) := inferInstanceAs (Decidable (_ ∧ _))
def sternpostlaw15_SendqStream_tail.C2 (wr sn t : ByteArray) (ac at_ want e win : Int) : Prop := (e = 0 ∧ at_ = want) ∧ (wrap64 ((sn.size : Int) + (t.size : Int)) = ((sn.size + t.size : Nat) : Int) ∧ sn.size + t.size ≤ wr.size) ∧ cutS wr sn.size (sn.size + t.size) = t ∧ (t.toList = [] ∨ wrap64 (wrap64 ((sn.size : Int) - ac) + (t.size : Int)) ≤ win) ∧ sn.size + t.size ≤ 9223372036854775807
instance (wr sn t : ByteArray) (ac at_ want e win : Int) : Decidable (sternpostlaw15_SendqStream_tail.C2 wr sn t ac at_ want e win) := inferInstanceAs (Decidable (_ ∧ _))
def sternpostlaw15_SendqStream_tail.C3 (k got e f : Int) : Prop := (e = 0 ∧ f = 0) ∧ got = k
instance (k got e f : Int) : Decidable (sternpostlaw15_SendqStream_tail.C3 k got e f) := inferInstanceAs (Decidable (_ ∧ _))
def sternpostlaw15_SendqStream_tail.C4 (wr sn : ByteArray) (ac tt hole : Int) (t : ByteArray) (left long : Int) : Prop := (left = tt ∧ hole = left) ∧ long = wrap64 ((wr.size : Int) - ac) ∧ (0 ≤ ac ∧ ac ≤ (sn.size : Int)) ∧ t = cutS sn ac.toNat sn.size
instance (wr sn : ByteArray) (ac tt hole : Int) (t : ByteArray) (left long : Int) : Decidable (sternpostlaw15_SendqStream_tail.C4 wr sn ac tt hole t left long) := inferInstanceAs (Decidable (_ ∧ _))
def sternpostlaw15_SendqStream_tail.if_ {α : Type} (p : Prop) [Decidable p] (x y : Option α) : Option α := if p then x else y
theorem sternpostlaw15_SendqStream_tail.if_pos {α : Type} {p : Prop} [Decidable p] {x y : Option α} (h : p) : sternpostlaw15_SendqStream_tail.if_ p x y = x := by unfold sternpostlaw15_SendqStream_tail.if_; rw [_root_.if_pos h]
theorem sternpostlaw15_SendqStream_tail.if_some {α : Type} {p : Prop} [Decidable p] {x : Option α} {r : α} (h : sternpostlaw15_SendqStream_tail.if_ p x none = some r) : p ∧ x = some r := by
 unfold sternpostlaw15_SendqStream_tail.if_ at h
 by_cases hp : p
 ·rw [_root_.if_pos hp] at h; exact ⟨hp, h⟩
 ·rw [if_neg hp] at h; cases h
theorem sternpostlaw15_SendqStream_tail.if_mono {α : Type} {p : Prop} [Decidable p] {x y : Option α} (h : LeO x y) : LeO (sternpostlaw15_SendqStream_tail.if_ p x none) (sternpostlaw15_SendqStream_tail.if_ p y none) := by
 intro r hr
 obtain ⟨hp, hx⟩ := sternpostlaw15_SendqStream_tail.if_some hr
 rw [sternpostlaw15_SendqStream_tail.if_pos hp]; exact h _ hx
def sternpostlaw15_SendqStream_tail.r (rec : ByteArray → ByteArray → Int → Int → Int → Int → ByteArray → Option Bool) (n : Int) (wr sn : ByteArray) (ac k le se ro : Int) (s : ByteArray) : Option Bool :=
 (seq_Add.f n (wrap64 (ac + k))).bind fun tt => (sendq_Queue_Ack.f le se ro s tt.1).bind fun d => sternpostlaw15_SendqStream_tail.if_ (sternpostlaw15_SendqStream_tail.C3 k d.1 tt.2 d.2.1)
  ((sendq_Queue_Hole.f d.2.2.1 d.2.2.2.1 ro d.2.2.2.2 1000).bind fun h => (sendq_Queue_State.f d.2.2.1 d.2.2.2.1 ro d.2.2.2.2 []).bind fun q => sternpostlaw15_SendqStream_tail.if_ (sternpostlaw15_SendqStream_tail.C4 wr sn (wrap64 (ac + k)) tt.1 h.1 h.2 q.1 q.2.2)
   ((seq_Distance.f q.1 q.2.1).bind fun ds => if ds.2 = 0 ∧ ds.1 = wrap64 ((sn.size : Int) - wrap64 (ac + k)) then rec wr sn (wrap64 (ac + k)) d.2.2.1 d.2.2.2.1 ro d.2.2.2.2 else none) none) none
def sternpostlaw15_SendqStream_tail.b (rec : ByteArray → ByteArray → Int → Int → Int → Int → ByteArray → Option Bool) (n : Int) (x : S38) (wr sn : ByteArray) (ac le se ro : Int) (s : ByteArray) : Option Bool :=
 if (x.f0.size : Int) > 500 then rec wr sn ac le se ro s else
 (sendq_Queue_Write.f le se ro s [] x.f0).bind fun a => sternpostlaw15_SendqStream_tail.if_ (sternpostlaw15_SendqStream_tail.C1 x.f0 wr ac a.1 a.2.1)
  ((sternpostbook_Among.f x.f1 600).bind fun win => (sternpostbook_Among.f x.f2 100).bind fun mo => (sendq_Queue_Next.f le se ro a.2.2 [] win (wrap64 (1 + mo))).bind fun b => (seq_Add.f n (sn.size : Int)).bind fun want =>
   sternpostlaw15_SendqStream_tail.if_ (sternpostlaw15_SendqStream_tail.C2 (wr ++ cutS x.f0 0 a.1.toNat) sn b.2.1 ac b.1 want.1 want.2 win)
    (if ac < ((sn ++ b.2.1).size : Int) then (sternpostbook_Among.f x.f3 (wrap64 (wrap64 (((sn ++ b.2.1).size : Int) - ac) + 1))).bind fun k => sternpostlaw15_SendqStream_tail.r rec n (wr ++ cutS x.f0 0 a.1.toNat) (sn ++ b.2.1) ac k b.2.2.1 b.2.2.2.1 b.2.2.2.2.1 b.2.2.2.2.2 else
    sternpostlaw15_SendqStream_tail.r rec n (wr ++ cutS x.f0 0 a.1.toNat) (sn ++ b.2.1) ac 0 b.2.2.1 b.2.2.2.1 b.2.2.2.2.1 b.2.2.2.2.2) none) none
def sternpostlaw15_SendqStream_tail.l : Nat → Int → List S38 → Nat → ByteArray → ByteArray → Int → Int → Int → Int → ByteArray → Option Bool
 | 0, _, _, _, _, _, _, _, _, _, _ => none
 | k + 1, n, l, i, wr, sn, ac, le, se, ro, s => if (i : Int) < (l.length : Int) ∧ i < 40 then sternpostlaw15_SendqStream_tail.b (sternpostlaw15_SendqStream_tail.l k n l (i + 1)) n (rd_T38 l (i : Int)) wr sn ac le se ro s else some true
theorem sternpostlaw15_SendqStream_tail.l_mono : ∀ k n l i wr sn ac le se ro s, LeO (sternpostlaw15_SendqStream_tail.l k n l i wr sn ac le se ro s) (sternpostlaw15_SendqStream_tail.l (k + 1) n l i wr sn ac le se ro s)
 | 0 => fun _ _ _ _ _ _ _ _ _ _ r h => by simp [sternpostlaw15_SendqStream_tail.l] at h
 | k + 1 => fun n l i wr sn ac le se ro s => by
  have ih := sternpostlaw15_SendqStream_tail.l_mono k n l (i + 1)
  have hr : ∀ n wr sn ac k' le se ro s, LeO (sternpostlaw15_SendqStream_tail.r (sternpostlaw15_SendqStream_tail.l k n l (i + 1)) n wr sn ac k' le se ro s) (sternpostlaw15_SendqStream_tail.r (sternpostlaw15_SendqStream_tail.l (k + 1) n l (i + 1)) n wr sn ac k' le se ro s) := by
   intro n wr sn ac k' le se ro s
   unfold sternpostlaw15_SendqStream_tail.r
   exact LeO.bind (LeO.refl _) fun _ => LeO.bind (LeO.refl _) fun _ => sternpostlaw15_SendqStream_tail.if_mono (LeO.bind (LeO.refl _) fun _ => LeO.bind (LeO.refl _) fun _ => sternpostlaw15_SendqStream_tail.if_mono (LeO.bind (LeO.refl _) fun _ => LeO.ite (sternpostlaw15_SendqStream_tail.l_mono k n l (i + 1) _ _ _ _ _ _ _) (LeO.refl _)))
  unfold sternpostlaw15_SendqStream_tail.l
  refine LeO.ite ?_ (LeO.refl _)
  unfold sternpostlaw15_SendqStream_tail.b
  exact LeO.ite (ih _ _ _ _ _ _ _) (LeO.bind (LeO.refl _) fun _ => sternpostlaw15_SendqStream_tail.if_mono (LeO.bind (LeO.refl _) fun _ => LeO.bind (LeO.refl _) fun _ => LeO.bind (LeO.refl _) fun _ => LeO.bind (LeO.refl _) fun _ => sternpostlaw15_SendqStream_tail.if_mono (LeO.ite (LeO.bind (LeO.refl _) fun _ => hr _ _ _ _ _ _ _ _ _) (hr _ _ _ _ _ _ _ _ _))))
def sternpostlaw15_SendqStream_tail.f (k : Nat) (x0 : Int) (x1 : List S38) : Option Bool :=
 (sternpostlaw15_works.f).bind fun t => if t = true then (sternpostbook_Among.f x0 4294967296).bind fun n => (seq_Check.f n).bind fun c => if c = 0 then sternpostlaw15_SendqStream_tail.l k n x1 0 (⟨#[]⟩ : ByteArray) (⟨#[]⟩ : ByteArray) 0 n 0 1000 (⟨#[]⟩ : ByteArray) else none else none
theorem sternpostlaw15_SendqStream_tail.mono (x0 : Int) (x1 : List S38) (k : Nat) : LeO (sternpostlaw15_SendqStream_tail.f k x0 x1) (sternpostlaw15_SendqStream_tail.f (k + 1) x0 x1) := by
 unfold sternpostlaw15_SendqStream_tail.f
 exact LeO.bind (LeO.refl _) fun _ => LeO.ite (LeO.bind (LeO.refl _) fun _ => LeO.bind (LeO.refl _) fun _ => LeO.ite (sternpostlaw15_SendqStream_tail.l_mono _ _ _ _ _ _ _ _ _ _ _) (LeO.none _)) (LeO.none _)

def sternpostlaw15_SendqStream.f (k : Nat) (a0 : Int) (l1 : List (S38)) : Option (Bool) := sternpostlaw15_SendqStream_tail.f k a0 l1
theorem sternpostlaw15_SendqStream.mono : ∀ a0 a1 k, LeO (sternpostlaw15_SendqStream.f k a0 a1) (sternpostlaw15_SendqStream.f (k + 1) a0 a1) := by
 intro a0 a1 k
 unfold sternpostlaw15_SendqStream.f
 repeat' first
   | (with_reducible exact sternpostlaw15_SendqStream_tail.mono _ _ _)
   | (with_reducible exact LeO.refl _)
   | (with_reducible exact LeO.none _)
   | (with_reducible refine LeO.ite ?_ ?_)
   | (with_reducible refine LeO.bind ?_ (fun _ => ?_))
   | exact sternpostlaw15_SendqStream_tail.mono _ _ _
   | exact LeO.none _
   | refine LeO.ite ?_ ?_
   | refine LeO.bind ?_ (fun _ => ?_)
set_option maxHeartbeats 8000000 in
set_option maxRecDepth 100000 in
theorem sternpostlaw15_SendqStream.calls (k : Nat) (a0 : Int) (A1 : Option Addr) (c1 : Nat) (l1 : List (S38)) (r : Bool) (w : World) (hr1 : Kd.C k38 w A1 l1.length l1) (hc1 : l1.length ≤ c1) (h : sternpostlaw15_SendqStream.f k a0 l1 = some r) (hrT_ : r = true) :
  Calls Try.prog 4 #[.int .i64 a0, .slice A1 l1.length c1] w fun e w' => e = .returned (.bool r) ∧ Below w.heap.size w w' := by
 have hu38 := Try.underlying38
 have HR1 := Aside0.mk hr1
 have HC1 := Aside0.mk hc1
 clear hr1 hc1
 have HB := Aside0.mk (Below.refl w.heap.size w)
 have H : (sternpostlaw15_SendqStream_tail.f k a0 l1) = some r := h
 clear h
 go_enter Try.func4, Try.ntmps4
 go_upto_region 1 with (fail)
 have HBt := Aside0.mk (show Below w.heap.size w _ from by repeat (first | (with_reducible first | exact HB.out | apply below_alloc | apply pw_below_drewN | apply below_drew1) | exact HB.out))
 -- UPTO
 subst hrT_
 unfold sternpostlaw15_SendqStream_tail.f at H
 replace H := Option.bind_eq_some_iff.mp H
 obtain ⟨t, hq_, H⟩ := H
 have AT := Aside0.mk hq_
 clear hq_
 try dsimp only at H
 by_cases c0 : t = true
 case neg => rw [if_neg c0] at H; cases H
 rw [if_pos c0] at H
 subst c0
 replace H := Option.bind_eq_some_iff.mp H
 obtain ⟨n, hq_, H⟩ := H
 have AN := Aside0.mk hq_
 clear hq_
 try dsimp only at H
 replace H := Option.bind_eq_some_iff.mp H
 obtain ⟨c, hq_, H⟩ := H
 have AC := Aside0.mk hq_
 clear hq_
 try dsimp only at H
 by_cases c0 : c = 0
 case neg => rw [if_neg c0] at H; cases H
 rw [if_pos c0] at H
 subst c0
 have HT := Aside0.mk H
 clear H
 go_wp2_with fail
 refine (sternpostlaw15_works.calls _ AT.out).mono ?_
 rintro e w1 ⟨rfl, hb⟩
 have HB1 := Aside0.mk (below_step HBt.out hb)
 clear hb
 go_wp2_with fail
 refine (sternpostbook_Among.calls a0 4294967296 n _ AN.out).mono ?_
 rintro e w2 ⟨rfl, hd⟩
 obtain ⟨nd, rfl⟩ := hd
 have hb : Below w.heap.size w (w1.drewN nd) := pw_below_drewN HB1.out nd
 generalize w1.drewN nd = w2 at hb ⊢
 have HB2 := Aside0.mk hb
 clear hb
 go_wp2_with fail
 refine (sendq_New.calls n 1000 w _ HB2.out AC.out (by decide) (by decide)).mono ?_
 rintro e w3 ⟨g, rfl, i1, b1, k1⟩
 have HI := Aside0.mk i1; have HB := Aside0.mk b1; clear i1 b1 k1
 go_wp2
 go_loopg [7, 8, 9, 10] k (fun kq v7 v8 v9 v10 W => ∃ (i : Nat) (wr sn : ByteArray) (ac le se ro : Int) (s : ByteArray), v7 = .string wr ∧ v8 = .string sn ∧ v9 = .int .i64 ac ∧ v10 = .int .i64 (i : Int) ∧ Aside0 (sternpostlaw15_SendqStream_tail.l kq n l1 i wr sn ac le se ro s = some true) ∧ Aside0 (kq ≤ k) ∧ Aside0 (IsS67 w W g le se ro s []) ∧ Aside0 (Below w.heap.size w W))
 case atStart => exact ⟨0, _, _, 0, n, 0, 1000, _, rfl, rfl, rfl, rfl, HT, ⟨Nat.le_refl _⟩, HI, HB⟩
 case round =>
  clear HT HI HB AN AC AT HB1 HB2
  obtain ⟨i, wr, sn, ac, le, se, ro, s, h7, h8, h9, h10, HL, HK1, HI, HB⟩ := hrel
  subst h7 h8 h9 h10
  cases gk with
  | zero => exact absurd HL.out (by simp [sternpostlaw15_SendqStream_tail.l])
  | succ k1 =>
   have H := HL.out
   clear HL
   simp only [sternpostlaw15_SendqStream_tail.l] at H
   by_cases c : (i : Int) < (l1.length : Int) ∧ i < 40
   case neg =>
    rw [if_neg c] at H
    clear H
    by_cases h : i < l1.length
    case pos =>
     have e1 := eq_true h; have e2 : (i < 40) = False := eq_false (fun h2 => c ⟨by omega, h2⟩); have e3 : ((i : Int) < (l1.length : Int)) = True := eq_true (by omega); have e4 : ((i : Int) < 40) = False := eq_false (fun h2 => c ⟨by omega, by omega⟩)
     clear h c
     go_wp2
     go_ret
     exact ⟨by first | rfl | (simp; done), HB.out⟩
    case neg =>
     have e1 := eq_false h; have e3 : ((i : Int) < (l1.length : Int)) = False := eq_false (by omega)
     clear h c
     go_wp2
     go_ret
     exact ⟨by first | rfl | (simp; done), HB.out⟩
   case pos =>
    rw [if_pos c] at H
    obtain ⟨c1, c2⟩ := c
    have HT := Aside0.mk H
    clear H
    have b1 : decide ((i : Int) < (l1.length : Int)) = true := decide_eq_true c1
    have b2 : decide (i < l1.length) = true := decide_eq_true (by omega)
    have b3 : decide ((i : Int) < 40) = true := decide_eq_true (by omega)
    have b4 : decide (i < 40) = true := decide_eq_true c2
    obtain ⟨ad, he, hx_0, hx_1, hx_2, hx_3⟩ := at_T38 HR1.out (i : Int) (by omega) c1
    cases he
    replace hx_0 := (HB.out.cell (World.block_lt_of_cell? w _ hx_0)).trans hx_0
    replace hx_1 := (HB.out.cell (World.block_lt_of_cell? w _ hx_1)).trans hx_1
    replace hx_2 := (HB.out.cell (World.block_lt_of_cell? w _ hx_2)).trans hx_2
    replace hx_3 := (HB.out.cell (World.block_lt_of_cell? w _ hx_3)).trans hx_3
    simp only [Int.toNat_natCast] at hx_0 hx_1 hx_2 hx_3
    generalize rd_T38 l1 (i : Int) = x at HT hx_0 hx_1 hx_2 hx_3
    have p1 : (0 ≤ (i : Int)) = True := eq_true (by omega)
    have p2 : ((i : Int) < (l1.length : Int)) = True := eq_true c1
    have p3 : (i < l1.length) = True := eq_true (by omega)
    have C12 := Aside0.mk (And.intro c1 c2)
    clear c1 c2
    go_upto_region 12 with (first | ((with_reducible refine gate_dst (N := 11) rfl ?_); refine box_event ?hg (N := 11) ?hd (cs := #[.string (⟨#[]⟩ : ByteArray), .int .i64 0, .int .i64 0, .int .i64 0]) (t := 38) ?hr ?_; (case hd => rfl); (case hg => rfl); (case hr => first | (go_simp; done) | (go_simp; rfl)); intro gx hg w4 hbox hb; have HX := Aside0.mk (below_step HB.out hb); have HIX := Aside0.mk (IsS67.below HI.out hb); have NGX := Aside0.mk (show g ≠ gx by rw [hg]; exact Nat.ne_of_lt (IsS67.lt HI.out)); have GX := Aside0.mk (show w.heap.size ≤ gx by rw [hg]; exact HB.out.size); have BX := Aside0.mk hbox; have hzf0 := blk_frozen hbox 0; have hzf1 := blk_frozen hbox 1; have hzf2 := blk_frozen hbox 2; have hzf3 := blk_frozen hbox 3; have hzc0 := (blk_cell hbox 0).trans rfl; have hzc1 := (blk_cell hbox 1).trans rfl; have hzc2 := (blk_cell hbox 2).trans rfl; have hzc3 := (blk_cell hbox 3).trans rfl; clear hbox hb hg))
    generalize hq_ : World.setCell _ _ _ = w5
    have i1 : IsS67 w w5 g le se ro s [] := by rw [← hq_]; (iterate 4 (refine IsS67.far ?_ NGX.out _)); exact HIX.out
    have b1' : Below w.heap.size w w5 := by rw [← hq_]; (iterate 4 (refine below_set ?_ GX.out)); exact HX.out
    have bx : w5.heap[gx]? = some (.cells #[.string x.f0, .int .i64 x.f1, .int .i64 x.f2, .int .i64 x.f3] 38 (0, 0)) := by rw [← hq_]; exact blk_put (blk_put (blk_put (blk_put BX.out 0 _ rfl) 1 _ rfl) 2 _ rfl) 3 _ rfl
    clear hq_ HX HIX HI HB BX hzf0 hzf1 hzf2 hzf3 hzc0 hzc1 hzc2 hzc3 hx_0 hx_1 hx_2 hx_3 p1 p2 p3 b1 b2 b3 b4
    have HI := Aside0.mk i1; have HB := Aside0.mk b1'; have BX := Aside0.mk bx; clear i1 b1' bx
    have H := HT.out
    clear HT
    unfold sternpostlaw15_SendqStream_tail.b at H
    by_cases c5 : (x.f0.size : Int) > 500
    case pos =>
     rw [if_pos c5] at H
     have HT := Aside0.mk H
     clear H
     have d1 : decide (500 < (x.f0.size : Int)) = true := decide_eq_true c5
     have d2 : decide (500 < x.f0.size) = true := decide_eq_true (by omega)
     have x0 := (blk_cell BX.out 0).trans rfl; have x1 := (blk_cell BX.out 1).trans rfl; have x2 := (blk_cell BX.out 2).trans rfl; have x3 := (blk_cell BX.out 3).trans rfl
     have f1 : wrap64 ((i : Int) + 1) = ((i + 1 : Nat) : Int) := by unfold wrap64; have := C12.out; omega
     go_wp2
     go_roundg k1
     case measure => have := HK1.out; omega
     case rel => exact ⟨i + 1, wr, sn, ac, le, se, ro, s, rfl, rfl, rfl, (by first | rfl | (rw [f1]) | (simp [f1]; done)), HT, ⟨by have := HK1.out; omega⟩, HI, HB⟩
    rw [if_neg c5] at H
    have d1 : decide (500 < (x.f0.size : Int)) = false := decide_eq_false c5
    have d2 : decide (500 < x.f0.size) = false := decide_eq_false (by omega)
    clear c5
    replace H := Option.bind_eq_some_iff.mp H
    obtain ⟨⟨a1_, a2_, a3_⟩, hq_, H⟩ := H
    have AA := Aside0.mk hq_
    clear hq_
    try dsimp only at H
    obtain ⟨K1, H⟩ := sternpostlaw15_SendqStream_tail.if_some H
    replace H := Option.bind_eq_some_iff.mp H
    obtain ⟨win, hq_, H⟩ := H
    have AW := Aside0.mk hq_
    clear hq_
    try dsimp only at H
    replace H := Option.bind_eq_some_iff.mp H
    obtain ⟨mo, hq_, H⟩ := H
    have AM := Aside0.mk hq_
    clear hq_
    try dsimp only at H
    replace H := Option.bind_eq_some_iff.mp H
    obtain ⟨⟨m1, m2, m3, m4, m5, m6⟩, hq_, H⟩ := H
    have AX := Aside0.mk hq_
    clear hq_
    try dsimp only at H
    replace H := Option.bind_eq_some_iff.mp H
    obtain ⟨⟨z1, z2⟩, hq_, H⟩ := H
    have AZ := Aside0.mk hq_
    clear hq_
    try dsimp only at H
    obtain ⟨K2, H⟩ := sternpostlaw15_SendqStream_tail.if_some H
    have HT := Aside0.mk H
    have KA := Aside0.mk K1
    have KB := Aside0.mk K2
    clear H K1 K2
    have x0 := (blk_cell BX.out 0).trans rfl; have x1 := (blk_cell BX.out 1).trans rfl; have x2 := (blk_cell BX.out 2).trans rfl; have x3 := (blk_cell BX.out 3).trans rfl
    go_wp2_with fail
    refine (sendq_Queue_Write.calls g le se ro s [] x.f0 a1_ a2_ a3_ w _ HI.out HB.out AA.out).mono ?_
    rintro e W1 ⟨rfl, i1, b1, k1⟩
    try clear x0 x1 x2 x3
    have bx := k1.blk BX.out (Ne.symm NGX.out) (by simp)
    have HIn := Aside0.mk i1; have HBn := Aside0.mk b1; have BXn := Aside0.mk bx; clear i1 b1 k1 bx HI HB BX; have HI := HIn; have HB := HBn; have BX := BXn; clear HIn HBn BXn
    clear d1 d2
    have x0 := (blk_cell BX.out 0).trans rfl; have x1 := (blk_cell BX.out 1).trans rfl; have x2 := (blk_cell BX.out 2).trans rfl; have x3 := (blk_cell BX.out 3).trans rfl
    go_upto_region 14 with fail
    go_cut [98] (fun v98 W => v98 = .bool false ∧ W = W1)
    case first =>
     as_aux_lemma =>
      have k := KA.out
      have e1 : decide ((x.f0.size : Int) < a1_) = false := decide_eq_false (by have := k.1; omega)
      have F1 : (a2_ != 0) = false ∨ ((a2_ != 0) = true ∧ decide (0 < a1_) = false) := by
       by_cases h : a2_ = 0
       ·exact .inl (bne_eq_false_iff_eq.mpr h)
       ·exact .inr ⟨bne_iff_ne.mpr h, decide_eq_false (by have := k.2.1.resolve_left h; omega)⟩
      have F2 : decide (a1_ < (x.f0.size : Int)) = false ∨ (decide (a1_ < (x.f0.size : Int)) = true ∧ (wrap64 (wrap64 ((wr.size : Int) - ac) + a1_) != 1000) = false) := by
       by_cases h : a1_ < (x.f0.size : Int)
       ·exact .inr ⟨decide_eq_true h, bne_eq_false_iff_eq.mpr (k.2.2.1.resolve_left (by omega))⟩
       ·exact .inl (decide_eq_false h)
      clear k
      rcases F1 with f1 | ⟨f1, f2⟩ <;> rcases F2 with h1 | ⟨h1, h2⟩
      all_goals
       go_wp2
       go_meet
       case rel => exact ⟨by first | rfl | (simp; done), rfl⟩
    case rest =>
     as_aux_lemma =>
      obtain ⟨h98, hw_⟩ := hcut
      subst h98 hw_
      clear x0 x1 x2 x3
      have x0 := (blk_cell BX.out 0).trans rfl; have x1 := (blk_cell BX.out 1).trans rfl; have x2 := (blk_cell BX.out 2).trans rfl; have x3 := (blk_cell BX.out 3).trans rfl
      have cz := KA.out.2.2.2
      go_wp2_with (first | ((with_reducible refine gate_slice rfl ?_); refine step_run (by first | rfl | (go_simp; done)) (run_sl_to (j := a1_) Try.underlying9 rfl rfl rfl KA.out.1.1 KA.out.1.2) ?_; simp only [Act.put, List.setIfInBounds_toArray, List.set_cons_zero, List.set_cons_succ]))
      refine (sternpostbook_Among.calls x.f1 600 win _ AW.out).mono ?_
      rintro e W2 ⟨rfl, hd⟩
      obtain ⟨nd, rfl⟩ := hd
      try clear x0 x1 x2 x3
      have i1 := IsS67.drewN HI.out nd; have b1 := pw_below_drewN HB.out nd; have bx := blk_drewN BX.out nd; have k1 := trivial
      generalize World.drewN _ nd = W2 at i1 b1 bx ⊢
      have HIn := Aside0.mk i1; have HBn := Aside0.mk b1; have BXn := Aside0.mk bx; clear i1 b1 k1 bx HI HB BX; have HI := HIn; have HB := HBn; have BX := BXn; clear HIn HBn BXn
      clear cz
      generalize hwr1 : wr ++ cutS x.f0 0 a1_.toNat = wr1 at HT KB ⊢
      have x0 := (blk_cell BX.out 0).trans rfl; have x1 := (blk_cell BX.out 1).trans rfl; have x2 := (blk_cell BX.out 2).trans rfl; have x3 := (blk_cell BX.out 3).trans rfl
      go_wp2_with fail
      refine (sternpostbook_Among.calls x.f2 100 mo _ AM.out).mono ?_
      rintro e W3 ⟨rfl, hd⟩
      obtain ⟨nd, rfl⟩ := hd
      try clear x0 x1 x2 x3
      have i1 := IsS67.drewN HI.out nd; have b1 := pw_below_drewN HB.out nd; have bx := blk_drewN BX.out nd; have k1 := trivial
      generalize World.drewN _ nd = W3 at i1 b1 bx ⊢
      have HIn := Aside0.mk i1; have HBn := Aside0.mk b1; have BXn := Aside0.mk bx; clear i1 b1 k1 bx HI HB BX; have HI := HIn; have HB := HBn; have BX := BXn; clear HIn HBn BXn
      have x0 := (blk_cell BX.out 0).trans rfl; have x1 := (blk_cell BX.out 1).trans rfl; have x2 := (blk_cell BX.out 2).trans rfl; have x3 := (blk_cell BX.out 3).trans rfl
      go_wp2_with fail
      refine (sendq_Queue_Next.calls g le se ro a3_ [] win (wrap64 (1 + mo)) m1 m2 m3 m4 m5 m6 w _ HI.out HB.out AX.out).mono ?_
      rintro e W4 ⟨rfl, i1, b1, k1⟩
      try clear x0 x1 x2 x3
      have bx := k1.blk BX.out (Ne.symm NGX.out) (by simp)
      have HIn := Aside0.mk i1; have HBn := Aside0.mk b1; have BXn := Aside0.mk bx; clear i1 b1 k1 bx HI HB BX; have HI := HIn; have HB := HBn; have BX := BXn; clear HIn HBn BXn
      have x0 := (blk_cell BX.out 0).trans rfl; have x1 := (blk_cell BX.out 1).trans rfl; have x2 := (blk_cell BX.out 2).trans rfl; have x3 := (blk_cell BX.out 3).trans rfl
      go_wp2_with fail
      refine (seq_Add.calls n (sn.size : Int) z1 z2 _ AZ.out).mono ?_
      rintro e W5 ⟨rfl, hd⟩
      obtain ⟨nd, rfl⟩ := hd
      try clear x0 x1 x2 x3
      have i1 := IsS67.drewN HI.out nd; have b1 := pw_below_drewN HB.out nd; have bx := blk_drewN BX.out nd; have k1 := trivial
      generalize World.drewN _ nd = W5 at i1 b1 bx ⊢
      have HIn := Aside0.mk i1; have HBn := Aside0.mk b1; have BXn := Aside0.mk bx; clear i1 b1 k1 bx HI HB BX; have HI := HIn; have HB := HBn; have BX := BXn; clear HIn HBn BXn
      go_upto_region 20 with fail
      go_cut [169] (fun v169 W => v169 = .bool false ∧ W = W5)
      case first =>
       as_aux_lemma =>
        have k := KB.out
        have e1 : (z2 != 0) = false := bne_eq_false_iff_eq.mpr k.1.1
        have e2 : (m1 != z1) = false := bne_eq_false_iff_eq.mpr k.1.2
        have f := k.2.1.1
        have e3 : decide ((wr1.size : Int) < wrap64 ((sn.size : Int) + (m2.size : Int))) = false := decide_eq_false (by rw [f]; have := k.2.1.2; omega)
        have f2 : cutS wr1 sn.size (sn.size + m2.size) = m2 := k.2.2.1
        have f3 := k.2.1.2
        have F1 : m2.toList.isEmpty = true ∨ (m2.toList.isEmpty = false ∧ decide (win < wrap64 (wrap64 ((sn.size : Int) - ac) + (m2.size : Int))) = false) := by
         by_cases h : m2.toList = []
         ·exact .inl (by rw [h]; rfl)
         ·exact .inr ⟨by cases h3 : m2.toList with | nil => exact absurd h3 h | cons _ _ => rfl, decide_eq_false (by have := k.2.2.2.1.resolve_left h; omega)⟩
        have FF := Aside0.mk f; have FF2 := Aside0.mk f2; have FF3 := Aside0.mk f3
        clear k f f2 f3
        rcases F1 with g1 | ⟨g1, g2⟩
        all_goals
         go_wp2_with (first | ((with_reducible refine gate_slice rfl ?_); refine step_run (by first | rfl | (go_simp; done)) (run_sl_at (i := (sn.size : Int)) (j := wrap64 ((sn.size : Int) + (m2.size : Int))) Try.underlying9 rfl rfl rfl rfl (by omega) (by rw [FF.out]; omega) (by rw [FF.out]; have := FF3.out; omega)) ?_; simp only [Act.put, List.setIfInBounds_toArray, List.set_cons_zero, List.set_cons_succ, FF.out, Int.toNat_natCast, FF2.out]))
         go_meet
         case rel => exact ⟨by first | rfl | (simp; done), rfl⟩
      case rest =>
       as_aux_lemma =>
        obtain ⟨h169, hw_⟩ := hcut
        subst h169 hw_
        have cz := KB.out.2.2.2.2
        have x0 := (blk_cell BX.out 0).trans rfl; have x1 := (blk_cell BX.out 1).trans rfl; have x2 := (blk_cell BX.out 2).trans rfl; have x3 := (blk_cell BX.out 3).trans rfl
        go_upto_region 24 with fail
        clear cz
        generalize hsn1 : sn ++ m2 = sn1 at HT ⊢
        go_upto_if 176 with fail
        go_cut [19] (fun v19 W => ∃ kk : Int, v19 = .int .i64 kk ∧ Aside0 (sternpostlaw15_SendqStream_tail.r (sternpostlaw15_SendqStream_tail.l k1 n l1 (i + 1)) n wr1 sn1 ac kk m3 m4 m5 m6 = some true) ∧ Aside0 (IsS67 w W g m3 m4 m5 m6 []) ∧ Aside0 (Below w.heap.size w W) ∧ Aside0 (W.heap[gx]? = some (.cells #[.string x.f0, .int .i64 x.f1, .int .i64 x.f2, .int .i64 x.f3] 38 (0, 0))))
        case first =>
         as_aux_lemma =>
          have H := HT.out
          clear HT
          by_cases c9 : ac < (sn1.size : Int)
          case pos =>
           rw [if_pos c9] at H
           replace H := Option.bind_eq_some_iff.mp H
           obtain ⟨kk, hq_, H⟩ := H
           have AK := Aside0.mk hq_
           clear hq_
           try dsimp only at H
           have HT := Aside0.mk H
           clear H
           have e1 : decide (ac < (sn1.size : Int)) = true := decide_eq_true c9
           clear c9
           rw [e1]
           have x0 := (blk_cell BX.out 0).trans rfl; have x1 := (blk_cell BX.out 1).trans rfl; have x2 := (blk_cell BX.out 2).trans rfl; have x3 := (blk_cell BX.out 3).trans rfl
           go_wp2_with fail
           refine (sternpostbook_Among.calls x.f3 (wrap64 (wrap64 ((sn1.size : Int) - ac) + 1)) kk _ AK.out).mono ?_
           rintro e W6 ⟨rfl, hd⟩
           obtain ⟨nd, rfl⟩ := hd
           try clear x0 x1 x2 x3
           have i1 := IsS67.drewN HI.out nd; have b1 := pw_below_drewN HB.out nd; have bx := blk_drewN BX.out nd; have k1 := trivial
           generalize World.drewN _ nd = W6 at i1 b1 bx ⊢
           have HIn := Aside0.mk i1; have HBn := Aside0.mk b1; have BXn := Aside0.mk bx; clear i1 b1 k1 bx HI HB BX; have HI := HIn; have HB := HBn; have BX := BXn; clear HIn HBn BXn
           go_wp2
           go_meet
           case rel => exact ⟨kk, rfl, HT, HI, HB, BX⟩
          case neg =>
           rw [if_neg c9] at H
           have HT := Aside0.mk H
           clear H
           have e1 : decide (ac < (sn1.size : Int)) = false := decide_eq_false c9
           clear c9
           rw [e1]
           go_wp2
           go_meet
           case rel => exact ⟨0, rfl, HT, HI, HB, BX⟩
        case rest =>
         as_aux_lemma =>
          clear x0 x1 x2 x3 HT HI HB BX
          obtain ⟨kk, h19, HT, HI, HB, BX⟩ := hcut
          subst h19
          have H := HT.out
          clear HT
          unfold sternpostlaw15_SendqStream_tail.r at H
          obtain ⟨acn, facn⟩ : ∃ a_, wrap64 (ac + kk) = a_ := ⟨_, rfl⟩
          rw [facn] at H
          replace H := Option.bind_eq_some_iff.mp H
          obtain ⟨⟨y1, y2⟩, hq_, H⟩ := H
          have AY := Aside0.mk hq_
          clear hq_
          try dsimp only at H
          replace H := Option.bind_eq_some_iff.mp H
          obtain ⟨⟨d1, d2, d3, d4, d5⟩, hq_, H⟩ := H
          have AD := Aside0.mk hq_
          clear hq_
          try dsimp only at H
          obtain ⟨K3, H⟩ := sternpostlaw15_SendqStream_tail.if_some H
          replace H := Option.bind_eq_some_iff.mp H
          obtain ⟨⟨q1, q2⟩, hq_, H⟩ := H
          have AHo := Aside0.mk hq_
          clear hq_
          try dsimp only at H
          replace H := Option.bind_eq_some_iff.mp H
          obtain ⟨⟨r1, r2, r3⟩, hq_, H⟩ := H
          have AS := Aside0.mk hq_
          clear hq_
          try dsimp only at H
          obtain ⟨K4, H⟩ := sternpostlaw15_SendqStream_tail.if_some H
          replace H := Option.bind_eq_some_iff.mp H
          obtain ⟨⟨g1, g2⟩, hq_, H⟩ := H
          have ADi := Aside0.mk hq_
          clear hq_
          try dsimp only at H
          by_cases c5 : g2 = 0 ∧ g1 = wrap64 ((sn1.size : Int) - acn)
          case neg => rw [if_neg c5] at H; cases H
          rw [if_pos c5] at H
          obtain ⟨j1, j2⟩ := c5
          subst j1 j2
          have HT := Aside0.mk H
          clear H
          obtain ⟨⟨j1, j2⟩, j3⟩ := K3
          subst j1 j2 j3
          obtain ⟨⟨j1, j2⟩, j3, j4, j5⟩ := K4
          subst j2
          subst j1
          subst j3 j5
          have KC := Aside0.mk j4
          clear j4
          have x0 := (blk_cell BX.out 0).trans rfl; have x1 := (blk_cell BX.out 1).trans rfl; have x2 := (blk_cell BX.out 2).trans rfl; have x3 := (blk_cell BX.out 3).trans rfl
          go_wp2_with fail
          refine (seq_Add.calls n acn _ 0 _ AY.out).mono ?_
          rintro e W7 ⟨rfl, hd⟩
          obtain ⟨nd, rfl⟩ := hd
          try clear x0 x1 x2 x3
          have i1 := IsS67.drewN HI.out nd; have b1 := pw_below_drewN HB.out nd; have bx := blk_drewN BX.out nd; have k1 := trivial
          generalize World.drewN _ nd = W7 at i1 b1 bx ⊢
          have HIn := Aside0.mk i1; have HBn := Aside0.mk b1; have BXn := Aside0.mk bx; clear i1 b1 k1 bx HI HB BX; have HI := HIn; have HB := HBn; have BX := BXn; clear HIn HBn BXn
          have x0 := (blk_cell BX.out 0).trans rfl; have x1 := (blk_cell BX.out 1).trans rfl; have x2 := (blk_cell BX.out 2).trans rfl; have x3 := (blk_cell BX.out 3).trans rfl
          go_wp2_with fail
          refine (sendq_Queue_Ack.calls g m3 m4 m5 m6 _ _ 0 d3 d4 d5 w _ HI.out HB.out AD.out).mono ?_
          rintro e W8 ⟨rfl, i1, b1, k1⟩
          try clear x0 x1 x2 x3
          have bx := k1.blk BX.out (Ne.symm NGX.out) (by simp)
          have HIn := Aside0.mk i1; have HBn := Aside0.mk b1; have BXn := Aside0.mk bx; clear i1 b1 k1 bx HI HB BX; have HI := HIn; have HB := HBn; have BX := BXn; clear HIn HBn BXn
          have x0 := (blk_cell BX.out 0).trans rfl; have x1 := (blk_cell BX.out 1).trans rfl; have x2 := (blk_cell BX.out 2).trans rfl; have x3 := (blk_cell BX.out 3).trans rfl
          go_wp2_with fail
          refine (sendq_Queue_Hole.calls g d3 d4 m5 d5 1000 _ _ w _ HI.out HB.out AHo.out).mono ?_
          rintro e W9 ⟨rfl, i1, b1, k1⟩
          try clear x0 x1 x2 x3
          have bx := k1.blk BX.out (Ne.symm NGX.out) (by simp)
          have HIn := Aside0.mk i1; have HBn := Aside0.mk b1; have BXn := Aside0.mk bx; clear i1 b1 k1 bx HI HB BX; have HI := HIn; have HB := HBn; have BX := BXn; clear HIn HBn BXn
          have x0 := (blk_cell BX.out 0).trans rfl; have x1 := (blk_cell BX.out 1).trans rfl; have x2 := (blk_cell BX.out 2).trans rfl; have x3 := (blk_cell BX.out 3).trans rfl
          go_wp2_with fail
          refine (sendq_Queue_State.calls g d3 d4 m5 d5 [] _ r2 _ w _ HI.out HB.out AS.out).mono ?_
          rintro e W10 ⟨rfl, i1, b1, k1⟩
          try clear x0 x1 x2 x3
          have bx := k1.blk BX.out (Ne.symm NGX.out) (by simp)
          have HIn := Aside0.mk i1; have HBn := Aside0.mk b1; have BXn := Aside0.mk bx; clear i1 b1 k1 bx HI HB BX; have HI := HIn; have HB := HBn; have BX := BXn; clear HIn HBn BXn
          go_wp2_with (first | ((with_reducible refine gate_slice rfl ?_); refine step_run (by first | rfl | (go_simp; done)) (run_sl_from (i := acn) Try.underlying9 rfl rfl rfl KC.out.1 KC.out.2) ?_; simp only [Act.put, List.setIfInBounds_toArray, List.set_cons_zero, List.set_cons_succ]))
          refine (seq_Distance.calls _ r2 _ 0 _ ADi.out).mono ?_
          rintro e W11 ⟨rfl, hb⟩
          have i1 := IsS67.below HI.out hb; have b1 := below_step HB.out hb; clear HI HB BX; have HI := Aside0.mk i1; have HB := Aside0.mk b1; clear i1 b1 hb
          have f1 : wrap64 ((i : Int) + 1) = ((i + 1 : Nat) : Int) := by unfold wrap64; have := C12.out; omega
          go_wp2
          go_roundg k1
          case measure => have := HK1.out; omega
          case rel => exact ⟨i + 1, wr1, sn1, acn, d3, d4, m5, d5, rfl, rfl, rfl, (by first | rfl | (rw [f1]) | (simp [f1]; done)), HT, ⟨by have := HK1.out; omega⟩, HI, HB⟩

/-- THE ONE PURE STATEMENT of sternpostlaw15_SendqStream: yours. -/
def fit38 (x : S38) : Prop := (x.f0.size ≤ 140737488351232) ∧ ((Lit.int .i64 x.f1).wf = true) ∧ ((Lit.int .i64 x.f2).wf = true) ∧ (Lit.int .i64 x.f3).wf = true
def sternpostlaw15_SendqStream.Pure : Prop := ∀ (a0 : Int) (l1 : List (S38)), (Lit.int .i64 a0).wf = true → (l1.length * 40 ≤ 140737488351232 ∧ ∀ x_ ∈ l1, fit38 x_) → ∃ k, sternpostlaw15_SendqStream.f k a0 l1 = some true
theorem sternpostlaw15_SendqStream.walk (P : sternpostlaw15_SendqStream.Pure) (a0 : Int) (A1 : Option Addr) (c1 : Nat) (l1 : List (S38)) (w : World) (w0 : (Lit.int .i64 a0).wf = true) (hr1 : Kd.C k38 w A1 l1.length l1) (hc1 : l1.length ≤ c1) (w1 : (l1.length * 40 ≤ 140737488351232 ∧ ∀ x_ ∈ l1, fit38 x_)) :
  Calls Try.prog 4 #[.int .i64 a0, .slice A1 l1.length c1] w fun e w' => e = .returned (.bool true) ∧ Below w.heap.size w w' := by
 obtain ⟨k, h⟩ := P a0 l1 w0 w1
 refine (sternpostlaw15_SendqStream.calls k a0 _ _ l1 true w hr1 hc1 h rfl).mono ?_
 rintro e w' ⟨rfl, hd⟩
 exact ⟨rfl, hd⟩

end Go.Proofs.Ytobndcdohehhbaa.PSendqStream

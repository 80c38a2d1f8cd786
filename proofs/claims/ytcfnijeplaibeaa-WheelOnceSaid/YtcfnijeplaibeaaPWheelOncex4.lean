-- Laid by this claim's own program over the print's words.
import Derived.Test.YtcfnijeplaibeaaPWheelOncex0
import Derived.Test.YtcfnijeplaibeaaPWheelOncex1
import Derived.Test.YtcfnijeplaibeaaPWheelOncex2
import Derived.Test.YtcfnijeplaibeaaPWheelOncex3
namespace Go.Proofs.Ytcfnijeplaibeaa.PWheelOnce
open Go.RowKit Go.Proofs.YtcfnijeplaibeaaW.PrintWords Go.Proofs.YtcfnijeplaibeaaW.PrintLast Go.Proofs.YtcfnijeplaibeaaW.PrintMore
attribute [local go_sem] max2_int min2_int max_two min_two max_three min_three max_four min_four max_five min_five extract_cut tmod_nat_lit   -- for this text's walks alone
set_option linter.unusedVariables false
set_option linter.unusedSimpArgs false

/-! ### sternpostlaw14_WheelOnce: function 3 -/
def sternpostlaw14_WheelOnce_tail.f (k : Nat) (l0 : List S30) : Option Bool := some true
theorem sternpostlaw14_WheelOnce_tail.mono (l0 : List S30) (k : Nat) : LeO (sternpostlaw14_WheelOnce_tail.f k l0) (sternpostlaw14_WheelOnce_tail.f (k + 1) l0) := LeO.refl _
theorem among_lt {a n : Int} (hn : 0 < n) (hn2 : n < 4611686018427387904) : ∃ c : Int, sternpostbook_Among.f a n = some c ∧ 0 ≤ c ∧ c < n := by
 unfold sternpostbook_Among.f
 rw [if_neg (by omega)]
 have h1 := Int.tmod_lt_of_pos a hn
 have h2 : -n < Int.tmod a n := Int.lt_tmod_of_pos a hn
 rw [w64p (by omega) (by omega), Int.tmod_eq_emod_of_nonneg (show 0 ≤ Int.tmod a n + n by omega)]
 have h3 := Int.emod_nonneg (Int.tmod a n + n) (show n ≠ 0 by omega)
 have h4 := Int.emod_lt_of_pos (Int.tmod a n + n) hn
 exact ⟨_, rfl, h3, h4⟩
theorem keys_len : ∀ (n : Nat) (m : List (Int × Int)), KD m → (∀ x ∈ m, 0 ≤ x.1 ∧ x.1 < (n : Int)) → m.length ≤ n
 | 0, m, _, h => by
  cases m with
  | nil => exact Nat.le_refl _
  | cons x m => have := h x List.mem_cons_self; omega
 | n + 1, m, hk, h => by
  have h1 := filter_keys hk (n : Int)
  have h2 := keys_len n (delM m (n : Int)) (delM_kd hk) (fun x hx => by obtain ⟨h3, h4⟩ := delM_mem.1 hx; have := h x h3; omega)
  split at h1 <;> omega
theorem dueK_len (m : List (Int × Int)) (now : Int) : (dueK m now).length ≤ m.length := by unfold dueK; rw [List.length_map]; exact List.length_filter_le _ _
theorem dueK_nodup {m : List (Int × Int)} (h : KD m) (now : Int) : (dueK m now).Nodup := by
 unfold dueK
 have : (m.filter (fun x => decide (x.2 ≤ now))).Pairwise (fun a b => a.1 ≠ b.1) := List.Pairwise.sublist List.filter_sublist h
 exact List.pairwise_map.2 this
theorem late_get {m : List (Int × Int)} {now k : Int} (hk : KD m) (h : hasM (lateM m now) k = true) : now < getM (lateM m now) k := by
 have hkd : KD (lateM m now) := List.Pairwise.sublist List.filter_sublist hk
 have := hasM_get hkd h
 unfold lateM at this ⊢
 exact of_decide_eq_true (List.mem_filter.1 this).2

def sternpostlaw14_WheelOnce.f (k : Nat) (l0 : List (S30)) : Option (Bool) := sternpostlaw14_WheelOnce_tail.f k l0
theorem sternpostlaw14_WheelOnce.mono : ∀ a0 k, LeO (sternpostlaw14_WheelOnce.f k a0) (sternpostlaw14_WheelOnce.f (k + 1) a0) := by
 intro a0 k
 unfold sternpostlaw14_WheelOnce.f
 repeat' first
   | (with_reducible exact sternpostlaw14_WheelOnce_tail.mono _ _)
   | (with_reducible exact LeO.refl _)
   | (with_reducible exact LeO.none _)
   | (with_reducible refine LeO.ite ?_ ?_)
   | (with_reducible refine LeO.bind ?_ (fun _ => ?_))
   | exact sternpostlaw14_WheelOnce_tail.mono _ _
   | exact LeO.none _
   | refine LeO.ite ?_ ?_
   | refine LeO.bind ?_ (fun _ => ?_)
set_option maxHeartbeats 8000000 in
set_option maxRecDepth 100000 in
theorem sternpostlaw14_WheelOnce.calls (k : Nat) (A0 : Option Addr) (c0 : Nat) (l0 : List (S30)) (r : Bool) (w : World) (hr0 : Kd.C k30 w A0 l0.length l0) (hc0 : l0.length ≤ c0) (h : sternpostlaw14_WheelOnce.f k l0 = some r) (hrT_ : r = true) :
  Calls Try.prog 3 #[.slice A0 l0.length c0] w fun e w' => e = .returned (.bool r) ∧ Below w.heap.size w w' := by
 have hu30 := Try.underlying30
 have HR0 := Aside0.mk hr0
 have HC0 := Aside0.mk hc0
 clear hr0 hc0
 have HB := Aside0.mk (Below.refl w.heap.size w)
 have H : (sternpostlaw14_WheelOnce_tail.f k l0) = some r := h
 clear h
 go_enter Try.func3, Try.ntmps3
 go_upto_region 1 with fail
 -- UPTO BARE
 obtain rfl : r = true := hrT_
 clear H
 go_wp2_with fail
 refine (wheel_New.calls 10 w _ (Below.refl _ _) (by decide) (by decide)).mono ?_
 rintro e W1 ⟨g, rfl, hI, hB, _⟩
 obtain ⟨hi, hhi⟩ : ∃ h_, W1.heap.size = h_ := ⟨_, rfl⟩
 rw [hhi] at hI
 have HI := Aside0.mk hI
 clear HB
 have HB := Aside0.mk hB
 have HH := Aside0.mk (show hi ≤ W1.heap.size by omega)
 have HLW := Aside0.mk (show w.heap.size ≤ hi by rw [← hhi]; exact hB.size)
 clear hI hB hhi
 go_wp2_with fail
 refine (sternpostlaw14_works.calls _).mono ?_
 rintro e W2 ⟨rfl, hb⟩
 have nHI_ := Aside0.mk (HI.out.below hb); have nHB_ := Aside0.mk (below_step HB.out hb); have nHH_ := Aside0.mk (Nat.le_trans HH.out (hb).size)
 clear HI HB HH
 have HI := nHI_; have HB := nHB_; have HH := nHH_
 clear nHI_ nHB_ nHH_
 clear hb
 have hmm := @run_makeMap Try.prog
 have HDH := Aside0.mk HH.out
 have hb := below_alloc (Below.refl W2.heap.size W2) (.map #[] 0)
 have HM := Aside0.mk (MapAt.made W2)
 have nHI_ := Aside0.mk (HI.out.below hb); have nHB_ := Aside0.mk (below_step HB.out hb); have nHH_ := Aside0.mk (Nat.le_trans HH.out hb.size)
 clear HI HB HH
 have HI := nHI_; have HB := nHB_; have HH := nHH_
 clear nHI_ nHB_ nHH_
 clear hb
 obtain ⟨dm, hdm⟩ : ∃ d_, W2.heap.size = d_ := ⟨_, rfl⟩
 have HDM := Aside0.mk (show hi ≤ dm ∧ w.heap.size ≤ hi ∧ dm < (W2.alloc (.map #[] 0)).heap.size by have := HLW.out; rw [alloc_size_]; have h := HDH.out; omega)
 rw [hdm] at HM
 go_wp2_with fail
 clear hmm hdm
 generalize W2.alloc (.map #[] 0) = W3 at HI HB HH HM HDM ⊢
 go_loopg [6, 7] 80 (fun kq v6 v7 W => ∃ (i : Nat) (iz nz : Int) (m : List (Int × Int)), v6 = .int .i64 nz ∧ v7 = .int .i64 iz ∧ Aside0 (iz = (i : Int) ∧ kq + i = 80) ∧ Aside0 (10 ≤ nz ∧ nz ≤ 10 + 100 * (i : Int)) ∧ Aside0 (∀ x ∈ m, 0 ≤ x.1 ∧ x.1 < 12) ∧ Aside0 (WAt W w.heap.size hi g i ⟨nz, m⟩) ∧ Aside0 (MapAt W dm m) ∧ Aside0 (Below w.heap.size w W) ∧ Aside0 (hi ≤ W.heap.size))
 case atStart => exact ⟨0, 0, 10, [], rfl, rfl, ⟨rfl, rfl⟩, ⟨by decide⟩, ⟨fun _ h => nomatch h⟩, HI, HM, HB, HH⟩
 case round =>
  clear HI HM HB HH
  obtain ⟨i, iz, nz, m, rfl, rfl, HK, HN, HKY, HI, HM, HB, HH⟩ := hrel
  have hk := HK.out
  by_cases hlt : iz < (l0.length : Int)
  rotate_left
  ·have d1 : decide (iz < (l0.length : Int)) = false := decide_eq_false hlt
   clear hlt hk
   go_wp2
   go_ret
   exact ⟨rfl, HB.out⟩
  have d1 : decide (iz < (l0.length : Int)) = true := decide_eq_true hlt
  by_cases h80 : iz < 80
  rotate_left
  ·have d2 : decide (iz < 80) = false := decide_eq_false h80
   clear hlt h80 hk
   go_wp2
   go_ret
   exact ⟨rfl, HB.out⟩
  have d2 : decide (iz < 80) = true := decide_eq_true h80
  obtain ⟨k1, rfl⟩ : ∃ k1, gk = k1 + 1 := ⟨gk - 1, by omega⟩
  have p0 : 0 ≤ iz := by omega
  have hii : wrap64 (iz + 1) = ((i + 1 : Nat) : Int) := by rw [w64p (by omega) (by omega)]; omega
  have HII := Aside0.mk hii
  have HI80 := Aside0.mk (show i < 80 by omega)
  clear hii
  obtain ⟨ad, ead, hx0, hx1, hx2⟩ := at_T30 HR0.out iz p0 hlt
  subst ead
  replace hx0 := pw_cell_below HB.out hx0
  replace hx1 := pw_cell_below HB.out hx1
  replace hx2 := pw_cell_below HB.out hx2
  obtain ⟨ac, hac⟩ : ∃ a_, rd_T30 l0 iz = a_ := ⟨_, rfl⟩
  rw [hac] at hx0 hx1 hx2
  obtain ⟨f0, f1, f2⟩ := ac
  dsimp only at hx0 hx1 hx2
  obtain ⟨n, hn, hn0, hn12⟩ := among_lt (a := f1) (n := 12) (by decide) (by decide)
  obtain ⟨kd, hkd, hkd0, hkd3⟩ := among_lt (a := f0) (n := 3) (by decide) (by decide)
  obtain ⟨d200, h200, h200a, h200b⟩ := among_lt (a := f2) (n := 200) (by decide) (by decide)
  obtain ⟨d100, h100, h100a, h100b⟩ := among_lt (a := f2) (n := 100) (by decide) (by decide)
  have HNM := Aside0.mk hn; have HKD := Aside0.mk hkd; have H200 := Aside0.mk h200; have H100 := Aside0.mk h100
  have HNB := Aside0.mk (And.intro hn0 hn12); have HKB := Aside0.mk (And.intro hkd0 hkd3); have H2B := Aside0.mk (And.intro h200a h200b); have H1B := Aside0.mk (And.intro h100a h100b)
  clear hn hn0 hn12 hkd hkd0 hkd3 h200 h200a h200b h100 h100a h100b hac hk h80
  replace p0 := eq_true p0
  replace hlt := eq_true hlt
  go_upto_region 10 with fail
  have HBX := Aside0.mk (show dm < wr.heap.size from HM.out.lt)
  have hbx := blk_new wr (Obj.cells #[.int .i64 f0, .int .i64 f1, .int .i64 f2] 30)
  have hb := below_alloc (Below.refl wr.heap.size wr) (Obj.cells #[.int .i64 f0, .int .i64 f1, .int .i64 f2] 30)
  clear hx0 hx1 hx2 d1 d2 p0 hlt
  have HX := Aside0.mk hbx
  clear hbx
  have nHI := Aside0.mk (HI.out.below hb); have nHM := Aside0.mk (HM.out.below hb); have nHB := Aside0.mk (below_step HB.out hb); have nHH := Aside0.mk (Nat.le_trans HH.out hb.size); have HBH := Aside0.mk (show hi ≤ wr.heap.size from HH.out)
  clear HI HM HB HH hb
  have HI := nHI; have HM := nHM; have HB := nHB; have HH := nHH
  clear nHI nHM nHB nHH
  generalize wr.heap.size = bx at HX HBX HBH ⊢
  generalize wr.alloc (Obj.cells #[.int .i64 f0, .int .i64 f1, .int .i64 f2] 30) = Wb at HX HI HM HB HH ⊢
  have hx1 := blk_cell HX.out 1
  change _ = some (Value.int .i64 f1) at hx1
  go_wp2_with fail
  refine (sternpostbook_Among.calls f1 12 n _ HNM.out).mono ?_
  rintro e W4 ⟨rfl, hd⟩
  have hb := hd.below
  clear hd
  have nHI := Aside0.mk (HI.out.below hb); have nHM := Aside0.mk (HM.out.below hb); have nHB := Aside0.mk (below_step HB.out hb); have nHH := Aside0.mk (Nat.le_trans HH.out hb.size); have nHX := Aside0.mk (blk_below HX.out hb)
  clear HI HM HB HH HX hb
  have HI := nHI; have HM := nHM; have HB := nHB; have HH := nHH; have HX := nHX
  clear nHI nHM nHB nHH nHX
  clear hx1
  have hx0 := blk_cell HX.out 0
  change _ = some (Value.int .i64 f0) at hx0
  go_wp2_with fail
  refine (sternpostbook_Among.calls f0 3 kd _ HKD.out).mono ?_
  rintro e W5 ⟨rfl, hd⟩
  have hb := hd.below
  clear hd
  have nHI := Aside0.mk (HI.out.below hb); have nHM := Aside0.mk (HM.out.below hb); have nHB := Aside0.mk (below_step HB.out hb); have nHH := Aside0.mk (Nat.le_trans HH.out hb.size); have nHX := Aside0.mk (blk_below HX.out hb)
  clear HI HM HB HH HX hb
  have HI := nHI; have HM := nHM; have HB := nHB; have HH := nHH; have HX := nHX
  clear nHI nHM nHB nHH nHX
  clear hx0
  have hkd3 := HKB.out
  rcases (show kd = 0 ∨ kd = 1 ∨ kd = 2 by omega) with rfl | rfl | rfl
  ·clear hkd3
   have hx2 := blk_cell HX.out 2
   change _ = some (Value.int .i64 f2) at hx2
   obtain ⟨at_, hat⟩ : ∃ a_, nz + d200 - 20 = a_ := ⟨_, rfl⟩
   obtain ⟨mx, hmx⟩ : ∃ m_, (if 0 < at_ then at_ else 0) = m_ := ⟨_, rfl⟩
   have hnb := HN.out; have h2b := H2B.out; have h80 := HI80.out
   have ha1 : wrap64 (nz + d200) = nz + d200 := w64p (by omega) (by omega)
   have ha2 : wrap64 (nz + d200 - 20) = at_ := by rw [w64p (by omega) (by omega)]; exact hat
   have hmb : 0 ≤ mx ∧ mx ≤ 20000 := by rw [← hmx]; split <;> omega
   have HMB := Aside0.mk hmb
   have HLEN := Aside0.mk (show m.length ≤ 1024 by have := keys_len 12 m HM.out.kd HKY.out; omega)
   have HSET := Aside0.mk (show WS.set ⟨nz, m⟩ n mx = (⟨nz, putM m n mx⟩, 0) by
    have h1 := HNB.out; have h2 := HLEN.out
    unfold WS.set
    rw [if_neg (by unfold badT; omega)]
    by_cases hx : hasM m n = false ∧ 1024 ≤ m.length
    ·exact absurd hx.2 (by have := keys_len 12 m HM.out.kd HKY.out; omega)
    ·rw [if_neg hx])
   clear hnb h2b h80 hmb hat
   go_wp2_with fail
   refine (sternpostbook_Among.calls f2 200 d200 _ H200.out).mono ?_
   rintro e W6 ⟨rfl, hd⟩
   have hb := hd.below
   clear hd
   have nHI := Aside0.mk (HI.out.below hb); have nHM := Aside0.mk (HM.out.below hb); have nHB := Aside0.mk (below_step HB.out hb); have nHH := Aside0.mk (Nat.le_trans HH.out hb.size); have nHX := Aside0.mk (blk_below HX.out hb)
   clear HI HM HB HH HX hb
   have HI := nHI; have HM := nHM; have HB := nHB; have HH := nHH; have HX := nHX
   clear nHI nHM nHB nHH nHX
   clear hx2
   go_wp2_with fail
   refine (wheel_Wheel_Set.calls w.heap.size hi g i ⟨nz, m⟩ n mx w _ HI.out HB.out (Nat.le_refl _) (by have := HI80.out; omega) HLEN.out).mono ?_
   rw [HSET.out]
   rintro e W7 ⟨rfl, hI, hB, hK⟩
   have nHM := Aside0.mk (HM.out.same (hK.2 dm HM.out.lt (.inr HDM.out.1)))
   have nHH := Aside0.mk (Nat.le_trans HH.out hK.1)
   clear HI HM HB HH HX hK
   have HI := Aside0.mk hI; have HM := nHM; have HB := Aside0.mk hB; have HH := nHH
   clear hI hB nHM nHH
   have hwn : wfI n := by have := HNB.out; unfold wfI; omega
   obtain ⟨W8, hrun, hM8, hg8⟩ := HM.out.put (k := n) (v := mx) hwn (by have := HMB.out; unfold wfI; omega) (by have := HLEN.out; omega)
   have HI8 := Aside0.mk (HI.out.grown hg8 (fun r e => by rw [← Option.some.inj e]; exact HDM.out.1) HH.out)
   have HM8 := Aside0.mk hM8
   have HB8 := Aside0.mk (below_grown HB.out hg8 HB.out.size (by have := HDM.out; omega))
   have HH8 := Aside0.mk (Nat.le_trans HH.out hg8.size)
   clear hM8 hg8 HI HM HB HH hwn
   go_wp2
   go_roundg k1
   case measure => omega
   case rel =>
    refine ⟨i + 1, _, nz, putM m n mx, rfl, rfl, ⟨HII.out, by have := HK.out; omega⟩, ⟨by have := HN.out; omega⟩, ⟨fun x hx => ?_⟩, HI8, HM8, HB8, HH8⟩
    rcases List.mem_cons.1 hx with rfl | hx
    ·exact HNB.out
    ·exact HKY.out x (delM_mem.1 hx).1
  ·clear hkd3 HX
   have hwn : wfI n := by have := HNB.out; unfold wfI; omega
   have HWN := Aside0.mk hwn
   have hlk := HM.out.look_ok hwn
   clear hwn
   cases hmb : hasM m n with
   | false =>
    rw [hmb] at hlk
    have HMB := Aside0.mk (show (if hasM (WS.mk nz m).m n = true then (0 : Int) else 5) = 5 by rw [show hasM (WS.mk nz m).m n = false from hmb]; rfl)
    clear hmb
    go_wp2_with fail
    refine (wheel_Wheel_Drop.calls w.heap.size hi g i ⟨nz, m⟩ n w _ HI.out HB.out (Nat.le_refl _) HWN.out).mono ?_
    rw [HMB.out]
    rintro e W7 ⟨rfl, hI, hB, hK⟩
    have nHM := Aside0.mk (HM.out.same (hK.2 dm HM.out.lt (.inr HDM.out.1)))
    have nHH := Aside0.mk (Nat.le_trans HH.out hK.1)
    clear HI HM HB HH hK hlk
    have HI := Aside0.mk hI; have HM := nHM; have HB := Aside0.mk hB; have HH := nHH
    clear hI hB nHM nHH
    obtain ⟨W8, hrun, hM8, hg8⟩ := HM.out.del (k := n) HWN.out 0
    have HI8 := Aside0.mk ((HI.out.grown hg8 (fun r e => by rw [← Option.some.inj e]; exact HDM.out.1) HH.out).mono (Nat.le_succ i))
    have HM8 := Aside0.mk hM8
    have HB8 := Aside0.mk (below_grown HB.out hg8 HB.out.size (by have := HDM.out; omega))
    have HH8 := Aside0.mk (Nat.le_trans HH.out hg8.size)
    clear hM8 hg8 HI HM HB HH
    go_wp2
    go_roundg k1
    case measure => omega
    case rel => exact ⟨i + 1, _, nz, delM m n, rfl, rfl, ⟨HII.out, by have := HK.out; omega⟩, ⟨by have := HN.out; omega⟩, ⟨fun x hx => HKY.out x (delM_mem.1 hx).1⟩, HI8, HM8, HB8, HH8⟩
   | true =>
    rw [hmb] at hlk
    have HMB := Aside0.mk (show (if hasM (WS.mk nz m).m n = true then (0 : Int) else 5) = 0 by rw [show hasM (WS.mk nz m).m n = true from hmb]; rfl)
    clear hmb
    go_wp2_with fail
    refine (wheel_Wheel_Drop.calls w.heap.size hi g i ⟨nz, m⟩ n w _ HI.out HB.out (Nat.le_refl _) HWN.out).mono ?_
    rw [HMB.out]
    rintro e W7 ⟨rfl, hI, hB, hK⟩
    have nHM := Aside0.mk (HM.out.same (hK.2 dm HM.out.lt (.inr HDM.out.1)))
    have nHH := Aside0.mk (Nat.le_trans HH.out hK.1)
    clear HI HM HB HH hK hlk
    have HI := Aside0.mk hI; have HM := nHM; have HB := Aside0.mk hB; have HH := nHH
    clear hI hB nHM nHH
    obtain ⟨W8, hrun, hM8, hg8⟩ := HM.out.del (k := n) HWN.out 0
    have HI8 := Aside0.mk ((HI.out.grown hg8 (fun r e => by rw [← Option.some.inj e]; exact HDM.out.1) HH.out).mono (Nat.le_succ i))
    have HM8 := Aside0.mk hM8
    have HB8 := Aside0.mk (below_grown HB.out hg8 HB.out.size (by have := HDM.out; omega))
    have HH8 := Aside0.mk (Nat.le_trans HH.out hg8.size)
    clear hM8 hg8 HI HM HB HH
    go_wp2
    go_roundg k1
    case measure => omega
    case rel => exact ⟨i + 1, _, nz, delM m n, rfl, rfl, ⟨HII.out, by have := HK.out; omega⟩, ⟨by have := HN.out; omega⟩, ⟨fun x hx => HKY.out x (delM_mem.1 hx).1⟩, HI8, HM8, HB8, HH8⟩
  ·clear hkd3
   have hx2 := blk_cell HX.out 2
   change _ = some (Value.int .i64 f2) at hx2
   obtain ⟨nz2, hnz⟩ : ∃ a_, nz + d100 = a_ := ⟨_, rfl⟩
   have hnb := HN.out; have h1b := H1B.out; have h80 := HI80.out
   have ha1 : wrap64 (nz + d100) = nz2 := by rw [w64p (by omega) (by omega)]; exact hnz
   have HNZ := Aside0.mk (show nz ≤ nz2 ∧ nz2 ≤ nz + 100 ∧ nz2 ≤ 20000 by omega)
   have HLEN := Aside0.mk (show m.length ≤ 12 by exact keys_len 12 m HM.out.kd HKY.out)
   clear hnb h1b h80 hnz
   go_wp2_with fail
   refine (sternpostbook_Among.calls f2 100 d100 _ H100.out).mono ?_
   rintro e W6 ⟨rfl, hd⟩
   have hb := hd.below
   clear hd
   have nHI := Aside0.mk (HI.out.below hb); have nHM := Aside0.mk (HM.out.below hb); have nHB := Aside0.mk (below_step HB.out hb); have nHH := Aside0.mk (Nat.le_trans HH.out hb.size); have nHX := Aside0.mk (blk_below HX.out hb)
   clear HI HM HB HH HX hb
   have HI := nHI; have HM := nHM; have HB := nHB; have HH := nHH; have HX := nHX
   clear nHI nHM nHB nHH nHX
   clear hx2
   go_wp2_with fail
   refine (wheel_Wheel_Go.calls w.heap.size hi g i ⟨nz, m⟩ nz2 w _ HI.out HB.out (Nat.le_refl _) HH.out HNZ.out.1 (by have := HNZ.out; omega) (by have := dueK_len m nz2; have := HLEN.out; exact Nat.le_trans (dueK_len m nz2) HLEN.out) (by have := HLEN.out; show m.length ≤ 1000000; omega)).mono ?_
   rintro e W7 ⟨v, r, rfl, hp, hs, hv, hI, hB, hK⟩
   change r.Perm (dueK m nz2) at hp
   change Srt m r r.length at hs
   have HV := Aside0.mk (ownsAt_base hv HH.out)
   have nHM := Aside0.mk (HM.out.same (hK.2 dm HM.out.lt (.inr HDM.out.1)))
   have nHH := Aside0.mk (Nat.le_trans HH.out hK.1)
   clear HI HM HB HH HX hK hv
   have HI := Aside0.mk (hI.mono (Nat.le_succ i)); have HM := nHM; have HB := Aside0.mk hB; have HH := nHH
   change Aside0 (WAt W7 w.heap.size hi g (i + 1) ⟨nz2, lateM m nz2⟩) at HI
   clear hI hB nHM nHH
   have HKDm := Aside0.mk (show KD m from HM.out.kd)
   have HP := Aside0.mk hp
   have HS := Aside0.mk hs
   have HND := Aside0.mk (show r.Nodup from hp.nodup_iff.2 (dueK_nodup HKDm.out nz2))
   have HRL := Aside0.mk (show r.length ≤ 12 by rw [hp.length_eq]; exact Nat.le_trans (dueK_len m nz2) HLEN.out)
   have HMEM := Aside0.mk (show ∀ x ∈ r, hasM m x = true ∧ getM m x ≤ nz2 ∧ wfI x from fun x hx => by
    obtain ⟨y, hy, rfl, h2⟩ := dueK_mem.1 (hp.mem_iff.1 hx)
    refine ⟨hasM_iff.2 ⟨y, hy, rfl⟩, by rw [getM_of HKDm.out hy]; exact h2, ?_⟩
    have := HKY.out y hy
    unfold wfI; omega)
   obtain ⟨Av, cv, ev, _⟩ := ownsAt_len HV.out
   subst ev
   clear hp hs
   go_wp2_with fail
   go_loopg [74] r.length (fun kq v74 W => ∃ (j : Nat) (jz : Int), v74 = .int .i64 jz ∧ Aside0 (jz = (j : Int) ∧ kq + j = r.length) ∧ Aside0 (ownsAt W hi 3 1 (.slice Av r.length cv) r.length (ints r)) ∧ Aside0 (WAt W w.heap.size hi g (i + 1) ⟨nz2, lateM m nz2⟩) ∧ Aside0 (MapAt W dm m) ∧ Aside0 (Below w.heap.size w W) ∧ Aside0 (hi ≤ W.heap.size))
   case atStart => exact ⟨0, 0, rfl, ⟨rfl, by simp⟩, HV, HI, HM, HB, HH⟩
   case round =>
    clear HV HI HM HB HH
    obtain ⟨j, jz, rfl, HJ, HV, HI, HM, HB, HH⟩ := hrel
    have hj := HJ.out
    by_cases hlt : jz < (r.length : Int)
    ·have d1 : decide (jz < (r.length : Int)) = true := decide_eq_true hlt
     obtain ⟨k2, hk2⟩ : ∃ k2, gk = k2 + 1 := ⟨gk - 1, by omega⟩
     subst hk2
     have hjl : j < r.length := by omega
     obtain ⟨x, hx⟩ : ∃ x_, r[j]? = some x_ := ⟨_, List.getElem?_eq_getElem hjl⟩
     obtain ⟨b_, o_, eb, hcells⟩ := ownsAt_cells HV.out (by omega)
     subst eb
     have hq := hcells _ _ (ints_get hx)
     obtain ⟨hh, hgl, hwx⟩ := HMEM.out x (List.mem_of_getElem? hx)
     have hlk := HM.out.look_ok hwx
     rw [hh] at hlk
     have hn : wrap64 (jz + 1) = ((j + 1 : Nat) : Int) := by have := HRL.out; rw [w64p (by omega) (by omega)]; omega
     have HN2 := Aside0.mk hn
     have p0 : 0 ≤ jz := by omega
     have tn : jz.toNat = j := by omega
     obtain ⟨gx, hgx⟩ : ∃ g_, getM m x = g_ := ⟨_, rfl⟩
     rw [hgx] at hlk hgl
     have e2 : decide (nz2 < gx) = false := decide_eq_false (by omega)
     rcases (show j = 0 ∨ 0 < j by omega) with h0 | h0
     ·have e3 : decide (0 < jz) = false := decide_eq_false (by omega)
      replace p0 := eq_true p0
      replace hlt := eq_true hlt
      clear hcells hx hn hj hjl hh hgl hwx hgx h0
      go_wp2
      go_roundg k2
      case measure => omega
      case rel => exact ⟨j + 1, _, rfl, ⟨HN2.out, by have := HJ.out; omega⟩, HV, HI, HM, HB, HH⟩
     ·have e3 : decide (0 < jz) = true := decide_eq_true (by omega)
      obtain ⟨j1, hj1⟩ : ∃ j1, j = j1 + 1 := ⟨j - 1, by omega⟩
      subst hj1
      obtain ⟨y, hy⟩ : ∃ y_, r[j1]? = some y_ := ⟨_, List.getElem?_eq_getElem (by omega)⟩
      have hq1 := hcells _ _ (ints_get hy)
      obtain ⟨hh1, hgl1, hwy⟩ := HMEM.out y (List.mem_of_getElem? hy)
      have hlk1 := HM.out.look hwy
      have hle := HS.out j1 (j1 + 1) y x (by omega) hjl hy hx
      unfold leT at hle
      have hne : y ≠ x := fun e => by
       subst e
       obtain ⟨h3, e3⟩ := List.getElem?_eq_some_iff.1 hy
       obtain ⟨h4, e4⟩ := List.getElem?_eq_some_iff.1 hx
       exact List.pairwise_iff_getElem.1 HND.out j1 (j1 + 1) h3 h4 (by omega) (e3.trans e4.symm)
      obtain ⟨gy, hgy⟩ : ∃ g_, getM m y = g_ := ⟨_, rfl⟩
      rw [hgx, hgy] at hle
      rw [hgy] at hlk1
      have hm1 : wrap64 (jz - 1) = ((j1 : Nat) : Int) := by have := HRL.out; rw [w64p (by omega) (by omega)]; omega
      have p1 : (0 : Int) ≤ ((j1 : Nat) : Int) := by omega
      have p2 : ((j1 : Nat) : Int) < (r.length : Int) := by omega
      have tn1 : ((j1 : Nat) : Int).toNat = j1 := Int.toNat_natCast _
      have e4 : decide (gx < gy) = false := decide_eq_false (by omega)
      replace p0 := eq_true p0
      replace p1 := eq_true p1
      replace p2 := eq_true p2
      replace hlt := eq_true hlt
      rcases (show gy < gx ∨ (gy = gx ∧ y < x) by omega) with h5 | h5
      ·have e5 : (gy == gx) = false := by rw [beq_eq_false_iff_ne]; omega
       clear hcells hx hy hn hj hjl hh hgl hwx hgx h0 hh1 hgl1 hwy hle hne hgy h5
       go_wp2
       go_roundg k2
       case measure => omega
       case rel => exact ⟨j1 + 1 + 1, _, rfl, ⟨HN2.out, by have := HJ.out; omega⟩, HV, HI, HM, HB, HH⟩
      ·have e5 : (gy == gx) = true := by rw [beq_iff_eq]; omega
       have e6 : decide (x ≤ y) = false := decide_eq_false (by omega)
       clear hcells hx hy hn hj hjl hh hgl hwx hgx h0 hh1 hgl1 hwy hle hne hgy h5
       go_wp2
       go_roundg k2
       case measure => omega
       case rel => exact ⟨j1 + 1 + 1, _, rfl, ⟨HN2.out, by have := HJ.out; omega⟩, HV, HI, HM, HB, HH⟩
    ·have d1 : decide (jz < (r.length : Int)) = false := decide_eq_false hlt
     clear hlt hj
     have HM1 := Aside0.mk (show MapAt wr dm ((r.take 0).foldl delM m) from HM.out)
     go_wp2_with fail
     go_loopg [130] r.length (fun kq v130 W => ∃ (j : Nat) (jz : Int), v130 = .int .i64 jz ∧ Aside0 (jz = (j : Int) ∧ kq + j = r.length) ∧ Aside0 (ownsAt W hi 3 1 (.slice Av r.length cv) r.length (ints r)) ∧ Aside0 (WAt W w.heap.size hi g (i + 1) ⟨nz2, lateM m nz2⟩) ∧ Aside0 (MapAt W dm ((r.take j).foldl delM m)) ∧ Aside0 (Below w.heap.size w W) ∧ Aside0 (hi ≤ W.heap.size))
     case atStart => exact ⟨0, 0, rfl, ⟨rfl, by simp⟩, HV, HI, HM1, HB, HH⟩
     case round =>
      clear HV HI HM HM1 HB HH d1
      obtain ⟨j, jz, rfl, HJ, HV, HI, HM, HB, HH⟩ := hrel
      have hj := HJ.out
      by_cases hlt : jz < (r.length : Int)
      ·have d1 : decide (jz < (r.length : Int)) = true := decide_eq_true hlt
       obtain ⟨k2, hk2⟩ : ∃ k2, gk = k2 + 1 := ⟨gk - 1, by omega⟩
       subst hk2
       have hjl : j < r.length := by omega
       obtain ⟨x, hx⟩ : ∃ x_, r[j]? = some x_ := ⟨_, List.getElem?_eq_getElem hjl⟩
       obtain ⟨b_, o_, eb, hcells⟩ := ownsAt_cells HV.out (by omega)
       subst eb
       have hq := hcells _ _ (ints_get hx)
       have hwx := (HMEM.out x (List.mem_of_getElem? hx)).2.2
       have HTK := Aside0.mk (show (r.take (j + 1)).foldl delM m = delM ((r.take j).foldl delM m) x by rw [List.take_add_one, hx, List.foldl_append]; rfl)
       obtain ⟨W8, hrun, hM8, hg8⟩ := HM.out.del (k := x) hwx 0
       have hne8 : ∀ b cur, Value.ownBlock (.slice (some ⟨b_, o_, none⟩) r.length cv) = some b → wr.heap[b]? = some (Obj.cells cur 3 (0, 0)) → some b ≠ some dm := fun b cur _ hc e => by
        obtain ⟨es, c, hm⟩ := HM.out.map
        rw [Option.some.inj e] at hc
        rw [hm] at hc
        cases hc
       have HI8 := Aside0.mk (HI.out.grown hg8 (fun r e => by rw [← Option.some.inj e]; exact HDM.out.1) HH.out)
       have HM8 := Aside0.mk (show MapAt W8 dm ((r.take (j + 1)).foldl delM m) by rw [HTK.out]; exact hM8)
       have HB8 := Aside0.mk (below_grown HB.out hg8 HB.out.size (by have := HDM.out; omega))
       have HH8 := Aside0.mk (Nat.le_trans HH.out hg8.size)
       have HV8 := Aside0.mk (ownsAt_kept HV.out (w' := W8) (fun b cur hb hc => hg8.block b (blk_lt hc) (hne8 b cur hb hc)))
       have hn : wrap64 (jz + 1) = ((j + 1 : Nat) : Int) := by have := HRL.out; rw [w64p (by omega) (by omega)]; omega
       have HN2 := Aside0.mk hn
       have p0 : 0 ≤ jz := by omega
       have tn : jz.toNat = j := by omega
       replace p0 := eq_true p0
       replace hlt := eq_true hlt
       clear hcells hx hn hj hjl hwx hM8 hg8 hne8 HV HI HM HB HH
       go_wp2
       go_roundg k2
       case measure => omega
       case rel => exact ⟨j + 1, _, rfl, ⟨HN2.out, by have := HJ.out; omega⟩, HV8, HI8, HM8, HB8, HH8⟩
      ·have d1 : decide (jz < (r.length : Int)) = false := decide_eq_false hlt
       have HM1 := Aside0.mk (show MapAt wr dm (lateM m nz2) by have h := HM.out; rw [List.take_of_length_le (by omega), drop_due HKDm.out HP.out] at h; exact h)
       clear hlt hj HM HV
       have HM := HM1
       clear HM1
       go_wp2_with fail
       go_loopg [137] 12 (fun kq v137 W => ∃ (j : Nat) (jz : Int), v137 = .int .i64 jz ∧ Aside0 (jz = (j : Int) ∧ kq + j = 12) ∧ Aside0 (WAt W w.heap.size hi g (i + 1) ⟨nz2, lateM m nz2⟩) ∧ Aside0 (MapAt W dm (lateM m nz2)) ∧ Aside0 (Below w.heap.size w W) ∧ Aside0 (hi ≤ W.heap.size))
       case atStart => exact ⟨0, 0, rfl, ⟨rfl, rfl⟩, HI, HM, HB, HH⟩
       case round =>
        clear HI HM HB HH d1
        obtain ⟨j, jz, rfl, HJ, HI, HM, HB, HH⟩ := hrel
        have hj := HJ.out
        by_cases hlt : jz < 12
        ·have d1 : decide (jz < 12) = true := decide_eq_true hlt
         obtain ⟨k2, hk2⟩ : ∃ k2, gk = k2 + 1 := ⟨gk - 1, by omega⟩
         subst hk2
         have hwj : wfI jz := by unfold wfI; omega
         have hlk := HM.out.look_ok hwj
         have hn : wrap64 (jz + 1) = ((j + 1 : Nat) : Int) := by rw [w64p (by omega) (by omega)]; omega
         have HN2 := Aside0.mk hn
         have hlg := late_get (m := m) (now := nz2) (k := jz) HKDm.out
         obtain ⟨gx, hgx⟩ : ∃ g_, getM (lateM m nz2) jz = g_ := ⟨_, rfl⟩
         rw [hgx] at hlk hlg
         cases hmb : hasM (lateM m nz2) jz with
         | false =>
          rw [hmb] at hlk
          clear hmb hlg hgx hn hj hlt hwj
          go_wp2
          go_roundg k2
          case measure => omega
          case rel => exact ⟨j + 1, _, rfl, ⟨HN2.out, by have := HJ.out; omega⟩, HI, HM, HB, HH⟩
         | true =>
          rw [hmb] at hlk
          have e2 : decide (gx ≤ nz2) = false := decide_eq_false (by have := hlg hmb; omega)
          clear hmb hlg hgx hn hj hlt hwj
          go_wp2
          go_roundg k2
          case measure => omega
          case rel => exact ⟨j + 1, _, rfl, ⟨HN2.out, by have := HJ.out; omega⟩, HI, HM, HB, HH⟩
        ·have d1 : decide (jz < 12) = false := decide_eq_false hlt
         clear hlt hj
         go_wp2
         go_roundg k1
         case measure => omega
         case rel => exact ⟨i + 1, _, nz2, lateM m nz2, rfl, rfl, ⟨HII.out, by have := HK.out; omega⟩, ⟨by have := HN.out; have := HNZ.out; omega⟩, ⟨fun x hx => HKY.out x (List.mem_filter.1 hx).1⟩, HI, HM, HB, HH⟩

/-- THE ONE PURE STATEMENT of sternpostlaw14_WheelOnce: yours. -/
def fit30 (x : S30) : Prop := ((Lit.int .i64 x.f0).wf = true) ∧ ((Lit.int .i64 x.f1).wf = true) ∧ (Lit.int .i64 x.f2).wf = true
def sternpostlaw14_WheelOnce.Pure : Prop := ∀ (l0 : List (S30)), (l0.length * 24 ≤ 140737488351232 ∧ ∀ x_ ∈ l0, fit30 x_) → ∃ k, sternpostlaw14_WheelOnce.f k l0 = some true
theorem sternpostlaw14_WheelOnce.walk (P : sternpostlaw14_WheelOnce.Pure) (A0 : Option Addr) (c0 : Nat) (l0 : List (S30)) (w : World) (hr0 : Kd.C k30 w A0 l0.length l0) (hc0 : l0.length ≤ c0) (w0 : (l0.length * 24 ≤ 140737488351232 ∧ ∀ x_ ∈ l0, fit30 x_)) :
  Calls Try.prog 3 #[.slice A0 l0.length c0] w fun e w' => e = .returned (.bool true) ∧ Below w.heap.size w w' := by
 obtain ⟨k, h⟩ := P l0 w0
 refine (sternpostlaw14_WheelOnce.calls k _ _ l0 true w hr0 hc0 h rfl).mono ?_
 rintro e w' ⟨rfl, hd⟩
 exact ⟨rfl, hd⟩

end Go.Proofs.Ytcfnijeplaibeaa.PWheelOnce

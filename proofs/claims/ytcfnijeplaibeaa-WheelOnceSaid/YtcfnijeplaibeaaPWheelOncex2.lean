-- Laid by this claim's own program over the print's words.
import Derived.Test.YtcfnijeplaibeaaPWheelOncex0
import Derived.Test.YtcfnijeplaibeaaPWheelOncex1
namespace Go.Proofs.Ytcfnijeplaibeaa.PWheelOnce
open Go.RowKit Go.Proofs.YtcfnijeplaibeaaW.PrintWords Go.Proofs.YtcfnijeplaibeaaW.PrintLast Go.Proofs.YtcfnijeplaibeaaW.PrintMore
attribute [local go_sem] max2_int min2_int max_two min_two max_three min_three max_four min_four max_five min_five extract_cut tmod_nat_lit   -- for this text's walks alone
set_option linter.unusedVariables false
set_option linter.unusedSimpArgs false


/-! ### slices_insertionSortCmpFunc_int: function 35 (by hand) -/
-- over wheel_Wheel_order.calls wheel_Wheel_order.callsR
def ints (l : List Int) : List Value := l.map (Value.int .i64)
theorem ints_get {l : List Int} {i : Nat} {x : Int} (h : l[i]? = some x) : (ints l)[i]? = some (.int .i64 x) := by unfold ints; simp [h]
theorem ints_set (l : List Int) (k : Nat) (x : Int) : (ints l).set k (.int .i64 x) = ints (l.set k x) := by unfold ints; rw [List.map_set]
/-- a timer is due no later than another one -/
def leT (m : List (Int × Int)) (a b : Int) : Prop := getM m a < getM m b ∨ (getM m a = getM m b ∧ a ≤ b)
theorem leT.trans {m : List (Int × Int)} {a b c : Int} (h : leT m a b) (k : leT m b c) : leT m a c := by unfold leT at *; omega
theorem cfO_neg {m : List (Int × Int)} {a b : Int} : cfO m a b < 0 ↔ ¬ leT m b a := by
 unfold cfO cmpI leT
 by_cases h1 : getM m a < getM m b
 ·rw [if_pos h1, if_neg (by omega)]; constructor
  ·intro _; omega
  ·intro _; omega
 ·rw [if_neg h1]
  by_cases h2 : getM m b < getM m a
  ·rw [if_pos h2, if_neg (by omega)]; constructor
   ·intro h; omega
   ·intro h; omega
  ·rw [if_neg h2, if_pos rfl]
   by_cases h3 : a < b
   ·rw [if_pos h3]; constructor
    ·intro _; omega
    ·intro _; omega
   ·rw [if_neg h3]
    split
    ·constructor
     ·intro h; omega
     ·intro h; omega
    ·constructor
     ·intro h; omega
     ·intro h; omega
theorem leT_of {m : List (Int × Int)} {a b : Int} (h : cfO m a b < 0) : leT m a b := by
 have := cfO_neg.1 h
 unfold leT at *; omega
/-- in order up to a place, but for what comes ahead of one place -/
def SrtB (m : List (Int × Int)) (r : List Int) (i j : Nat) : Prop := ∀ p q x y, p < q → q ≤ i → q ≠ j → r[p]? = some x → r[q]? = some y → leT m x y
def Srt (m : List (Int × Int)) (r : List Int) (i : Nat) : Prop := ∀ p q x y, p < q → q < i → r[p]? = some x → r[q]? = some y → leT m x y
theorem Srt.but {m : List (Int × Int)} {r : List Int} {i : Nat} (h : Srt m r i) : SrtB m r i i := fun p q x y h1 h2 h3 => h p q x y h1 (by omega)
theorem SrtB.zero {m : List (Int × Int)} {r : List Int} {i : Nat} (h : SrtB m r i 0) : Srt m r (i + 1) := fun p q x y h1 h2 => h p q x y h1 (by omega) (by omega)
theorem SrtB.stop {m : List (Int × Int)} {r : List Int} {i j : Nat} (h : SrtB m r i (j + 1)) {x y : Int} (hx : r[j]? = some x) (hy : r[j + 1]? = some y) (hle : leT m x y) : Srt m r (i + 1) := fun p q u v h1 h2 hu hv => by
 by_cases e : q = j + 1
 ·subst e
  rw [hy] at hv
  obtain rfl := Option.some.inj hv
  by_cases e2 : p = j
  ·subst e2
   rw [hx] at hu
   obtain rfl := Option.some.inj hu
   exact hle
  ·exact (h p j u x (by omega) (by omega) (by omega) hu hx).trans hle
 ·exact h p q u v h1 (by omega) e hu hv
theorem swap_get {r : List Int} {j : Nat} {x y : Int} (hx : r[j]? = some x) (hy : r[j + 1]? = some y) (p : Nat) : ((r.set (j + 1) x).set j y)[p]? = if p = j then some y else if p = j + 1 then some x else r[p]? := by
 have h1 := (List.getElem?_eq_some_iff.1 hx).1
 have h2 := (List.getElem?_eq_some_iff.1 hy).1
 rw [List.getElem?_set, List.getElem?_set, List.length_set]
 by_cases e : p = j
 ·subst e; simp [h1]
 ·rw [if_neg (fun h => e h.symm), if_neg e]
  by_cases e2 : p = j + 1
  ·subst e2; simp [h2]
  ·rw [if_neg (fun h => e2 h.symm), if_neg e2]
theorem SrtB.swap {m : List (Int × Int)} {r : List Int} {i j : Nat} (h : SrtB m r i (j + 1)) (hj : j + 1 ≤ i) {x y : Int} (hx : r[j]? = some x) (hy : r[j + 1]? = some y) (hle : leT m y x) : SrtB m ((r.set (j + 1) x).set j y) i j := fun p q u v h1 h2 h3 hu hv => by
 rw [swap_get hx hy] at hu hv
 rw [if_neg h3] at hv
 by_cases e1 : q = j + 1
 ·rw [if_pos e1] at hv
  obtain rfl := Option.some.inj hv
  by_cases e2 : p = j
  ·rw [if_pos e2] at hu
   obtain rfl := Option.some.inj hu
   exact hle
  ·rw [if_neg e2, if_neg (by omega)] at hu
   exact h p j u x (by omega) (by omega) (by omega) hu hx
 ·rw [if_neg e1] at hv
  by_cases e2 : p = j
  ·rw [if_pos e2] at hu
   obtain rfl := Option.some.inj hu
   exact h (j + 1) q y v (by omega) h2 e1 hy hv
  ·rw [if_neg e2] at hu
   by_cases e3 : p = j + 1
   ·rw [if_pos e3] at hu
    obtain rfl := Option.some.inj hu
    exact h j q x v (by omega) h2 e1 hx hv
   ·rw [if_neg e3] at hu
    exact h p q u v h1 h2 e1 hu hv
theorem swap_perm : ∀ (r : List Int) (j : Nat) (x y : Int), r[j]? = some x → r[j + 1]? = some y → ((r.set (j + 1) x).set j y).Perm r
 | [], j, x, y, h, _ => by simp at h
 | [a], j, x, y, h, h2 => by simp at h2
 | a :: b :: r, 0, x, y, h, h2 => by
  simp at h h2
  subst h h2
  simp only [List.set_cons_succ, List.set_cons_zero]
  exact List.Perm.swap _ _ _
 | a :: b :: r, j + 1, x, y, h, h2 => by
  simp only [List.set_cons_succ]
  exact (swap_perm (b :: r) j x y (by simpa using h) (by simpa using h2)).cons a
theorem own_put1 {w : World} {base : Nat} {e : TypeId} {size g o n c j : Nat} {xs : List Value} {u : Value} (h : ownsAt w base e size (.slice (some ⟨g, o, none⟩) n c) n xs) : ownsAt (w.setCell ⟨g, o + j, none⟩ u) base e size (.slice (some ⟨g, o, none⟩) n c) n (xs.set j u) := by
 rcases h with ⟨hl, ⟨hv, h0⟩ | ⟨g', o', cap, cur, hv, hb, hg, hc, hm, hs, ht⟩⟩
 ·simp at hv
 ·injection hv with h1 h2 h3
  injection h1 with h1
  injection h1 with h1 h4 _
  subst h1 h3 h4
  refine ⟨by rw [List.length_set, hl], .inr ⟨g, o, c, cur.setIfInBounds (o + j) u, rfl, hb, blk_put hg (o + j) u rfl, hc, hm, by simpa using hs, ?_⟩⟩
  rw [Array.toList_setIfInBounds, List.drop_set, if_neg (by omega), List.take_set, ht, Nat.add_sub_cancel_left]
theorem own_lt {w : World} {base : Nat} {e : TypeId} {g o n c k : Nat} {xs : List Value} (h : ownsAt w base e 1 (.slice (some ⟨g, o, none⟩) n c) n xs) (hk : k < n) : ∃ cur, w.heap[g]? = some (.cells cur e (0, 0)) ∧ o + k < cur.size := by
 rcases h with ⟨hl, ⟨hv, h0⟩ | ⟨g', o', cap, cur, hv, hb, hg, hc, hm, hs, ht⟩⟩
 ·simp at hv
 ·injection hv with h1 h2 h3
  injection h1 with h1
  injection h1 with h1 h4 _
  subst h1 h3 h4
  exact ⟨cur, hg, by omega⟩
theorem own_drawn {w : World} {base nd : Nat} {e : TypeId} {size n : Nat} {v : Value} {xs : List Value} (h : ownsAt w base e size v n xs) : ownsAt (w.drewN nd) base e size v n xs := ownsAt_kept h (fun _ _ _ _ => rfl)
theorem grown_set {w a : World} {b k : Nat} {v : Value} (h : w.grownBy a (some b)) : w.grownBy (a.setCell ⟨b, k, none⟩ v) (some b) := ⟨h.os, h.tape, h.output, by rw [setCell_size_]; exact h.size, fun i hi hn => (heap_setCell_other _ _ _ _ (fun e => hn (by rw [e]))).trans (h.block i hi hn)⟩
theorem grown_below {w a a' : World} {r : Option Nat} (h : w.grownBy a r) (hb : Below a.heap.size a a') : w.grownBy a' r := ⟨hb.os.trans h.os, hb.tape.trans h.tape, hb.output.trans h.output, Nat.le_trans h.size hb.size, fun i hi hn => (hb.block i (Nat.lt_of_lt_of_le hi h.size)).trans (h.block i hi hn)⟩
theorem WAt.set {w : World} {lo hi g c b k : Nat} {s : WS} {v : Value} (h : WAt w lo hi g c s) (hb : hi ≤ b) : WAt (w.setCell ⟨b, k, none⟩ v) lo hi g c s := h.keep (fun i _ h2 => heap_setCell_other _ _ _ _ (show i ≠ b by omega))
abbrev OrdV (g : Nat) : Value := .func (.func 24) #[.pointer (some ⟨g, 0, none⟩)] #[]
set_option maxHeartbeats 4000000 in
set_option maxRecDepth 100000 in
theorem slices_insertionSortCmpFunc_int.calls (lo hi g c b o cap base : Nat) (s : WS) (l : List Int) (w : World) (hI : WAt w lo hi g c s) (hv : ownsAt w base 3 1 (.slice (some ⟨b, o, none⟩) l.length cap) l.length (ints l)) (hn : l.length ≤ 1000000) (hw : ∀ x ∈ l, wfI x) (hb : hi ≤ b) :
  Calls Try.prog 35 #[.slice (some ⟨b, o, none⟩) l.length cap, .int .i64 0, .int .i64 (l.length : Int), OrdV g] w fun e w' => e = .returned (.tuple #[]) ∧ ∃ r : List Int, r.Perm l ∧ Srt s.m r r.length ∧ ownsAt w' base 3 1 (.slice (some ⟨b, o, none⟩) l.length cap) l.length (ints r) ∧ WAt w' lo hi g c s ∧ w.grownBy w' (some b) := by
 have HI := Aside0.mk hI
 have HV := Aside0.mk hv
 have HN := Aside0.mk hn
 have HW := Aside0.mk hw
 have HBH := Aside0.mk hb
 have HG := Aside0.mk (show w.grownBy w (some b) from ⟨rfl, rfl, rfl, Nat.le_refl _, fun _ _ _ => rfl⟩)
 clear hI hv hn hw hb
 go_enter Try.func35, Try.ntmps35
 go_wp2_with fail
 go_loopg [8] l.length (fun kq v8 W => ∃ (i : Nat) (iz : Int) (r : List Int), v8 = .int .i64 iz ∧ Aside0 (iz = (i : Int) ∧ kq + i = l.length + 1 ∧ 1 ≤ i) ∧ Aside0 (r.Perm l ∧ r.length = l.length) ∧ Aside0 (Srt s.m r i) ∧ Aside0 (ownsAt W base 3 1 (.slice (some ⟨b, o, none⟩) l.length cap) l.length (ints r)) ∧ Aside0 (WAt W lo hi g c s) ∧ Aside0 (w.grownBy W (some b)))
 case atStart => exact ⟨1, 1, l, rfl, ⟨rfl, rfl, Nat.le_refl _⟩, ⟨List.Perm.refl _, rfl⟩, ⟨fun p q x y h1 h2 => by omega⟩, HV, HI, HG⟩
 case round =>
  clear HV HI HG
  obtain ⟨i, iz, r, rfl, HK, HP, HS, HV, HI, HG⟩ := hrel
  have hk := HK.out
  by_cases hlt : iz < (l.length : Int)
  rotate_left
  ·have d1 : decide (iz < (l.length : Int)) = false := decide_eq_false hlt
   have HE := Aside0.mk (show r.length ≤ i by have := HP.out.2; omega)
   clear hlt hk
   go_wp2
   go_end0
   exact ⟨rfl, r, HP.out.1, (fun p q x y h1 h2 => HS.out p q x y h1 (by have := HE.out; omega)), HV.out, HI.out, HG.out⟩
  have d1 : decide (iz < (l.length : Int)) = true := decide_eq_true hlt
  obtain ⟨k1, rfl⟩ : ∃ k1, gk = k1 + 1 := ⟨gk - 1, by omega⟩
  have hn : wrap64 (iz + 1) = ((i + 1 : Nat) : Int) := by have := HN.out; rw [w64p (by omega) (by omega)]; omega
  have HN1 := Aside0.mk hn
  have HIL := Aside0.mk (show i < l.length by omega)
  have HIZ := Aside0.mk hk.1
  clear hlt hk hn
  go_wp2_with fail
  clear d1
  go_loopg [9] i (fun kq v9 W => ∃ (j : Nat) (jz : Int) (r : List Int), v9 = .int .i64 jz ∧ Aside0 (jz = (j : Int) ∧ kq = j ∧ j ≤ i) ∧ Aside0 (r.Perm l ∧ r.length = l.length) ∧ Aside0 (SrtB s.m r i j) ∧ Aside0 (ownsAt W base 3 1 (.slice (some ⟨b, o, none⟩) l.length cap) l.length (ints r)) ∧ Aside0 (WAt W lo hi g c s) ∧ Aside0 (w.grownBy W (some b)))
  case atStart => exact ⟨i, iz, r, rfl, ⟨HIZ.out, rfl, Nat.le_refl _⟩, HP, ⟨HS.out.but⟩, HV, HI, HG⟩
  case round =>
   clear HP HS HV HI HG
   obtain ⟨j, jz, r, rfl, HJ, HP, HS, HV, HI, HG⟩ := hrel
   have hj := HJ.out
   by_cases hlt : 0 < jz
   rotate_left
   ·have d1 : decide (0 < jz) = false := decide_eq_false hlt
    obtain rfl : j = 0 := by omega
    clear hlt hj
    go_upto_region 4 with fail
    have same : ∀ (ph : Nat) W', Below wr.heap.size wr W' → True := fun _ _ _ => trivial
    refine AnyEvents.region_then 17 (E := []) (C := fun (_ : Nat) W' => Below wr.heap.size wr W') (G := fun _ _ _ _ => True) (T := []) (R := fun _ _ _ _ => True) (vs := [?v2_0, ?v2_1, ?v2_2, ?v2_3, undef, undef, undef, undef, undef, undef, undef, undef, undef, undef, undef, undef, ?v2_16]) (by kernel_rfl) (by kernel_rfl) rfl (by kernel_rfl) ?hc2r same (fun _ _ _ _ _ _ _ _ _ => trivial) (fun _ h => nomatch h) (fun x => ?obs2r) ?fin2r
    case hc2r => exact ⟨rfl, rfl, rfl, Nat.le_refl _, fun _ _ => rfl⟩
    case obs2r =>
     refine AnyEvents.obs_cons ?v2_0 (val_hole (by simp only [List.getD_cons_zero, List.getD_cons_succ])) (AnyEvents.ob_plain (v := ?v2_0) rfl rfl rfl same (by simp only [List.getD_cons_zero, List.getD_cons_succ]) (fun ph W' hwn hW => ?_)) ?_
     ·first | (go_simp; done) | (go_simp; (try simp only [i64_w]); rfl) | (go_simp; simp; rfl)
     try simp only [Act.put, List.setIfInBounds_toArray, List.set_cons_zero, List.set_cons_succ]
     refine AnyEvents.obs_cons ?v2_1 (val_hole (by simp only [List.getD_cons_zero, List.getD_cons_succ])) (AnyEvents.ob_plain (v := ?v2_1) rfl rfl rfl same (by simp only [List.getD_cons_zero, List.getD_cons_succ]) (fun ph W' hwn hW => ?_)) ?_
     ·first | (go_simp; done) | (go_simp; (try simp only [i64_w]); rfl) | (go_simp; simp; rfl)
     try simp only [Act.put, List.setIfInBounds_toArray, List.set_cons_zero, List.set_cons_succ]
     refine AnyEvents.obs_cons ?v2_2 (val_hole (by simp only [List.getD_cons_zero, List.getD_cons_succ])) (AnyEvents.ob_plain (v := ?v2_2) rfl rfl rfl same (by simp only [List.getD_cons_zero, List.getD_cons_succ]) (fun ph W' hwn hW => ?_)) ?_
     ·first | (go_simp; done) | (go_simp; (try simp only [i64_w]); rfl) | (go_simp; simp; rfl)
     try simp only [Act.put, List.setIfInBounds_toArray, List.set_cons_zero, List.set_cons_succ]
     refine AnyEvents.obs_cons ?v2_3 (val_hole (by simp only [List.getD_cons_zero, List.getD_cons_succ])) (AnyEvents.ob_plain (v := ?v2_3) rfl rfl rfl same (by simp only [List.getD_cons_zero, List.getD_cons_succ]) (fun ph W' hwn hW => ?_)) ?_
     ·first | (go_simp; done) | (go_simp; (try simp only [i64_w]); rfl) | (go_simp; simp; rfl)
     try simp only [Act.put, List.setIfInBounds_toArray, List.set_cons_zero, List.set_cons_succ]
     refine AnyEvents.obs_cons undef rfl (AnyEvents.ob_off rfl rfl rfl rfl) ?_
     try simp only [Act.put, List.setIfInBounds_toArray, List.set_cons_zero, List.set_cons_succ]
     refine AnyEvents.obs_cons undef rfl (AnyEvents.ob_off rfl rfl rfl rfl) ?_
     try simp only [Act.put, List.setIfInBounds_toArray, List.set_cons_zero, List.set_cons_succ]
     refine AnyEvents.obs_cons undef rfl (AnyEvents.ob_off rfl rfl rfl rfl) ?_
     try simp only [Act.put, List.setIfInBounds_toArray, List.set_cons_zero, List.set_cons_succ]
     refine AnyEvents.obs_cons undef rfl (AnyEvents.ob_off rfl rfl rfl rfl) ?_
     try simp only [Act.put, List.setIfInBounds_toArray, List.set_cons_zero, List.set_cons_succ]
     refine AnyEvents.obs_cons undef rfl (AnyEvents.ob_off rfl rfl rfl rfl) ?_
     try simp only [Act.put, List.setIfInBounds_toArray, List.set_cons_zero, List.set_cons_succ]
     refine AnyEvents.obs_cons undef rfl (AnyEvents.ob_off rfl rfl rfl rfl) ?_
     try simp only [Act.put, List.setIfInBounds_toArray, List.set_cons_zero, List.set_cons_succ]
     refine AnyEvents.obs_cons undef rfl (AnyEvents.ob_off rfl rfl rfl rfl) ?_
     try simp only [Act.put, List.setIfInBounds_toArray, List.set_cons_zero, List.set_cons_succ]
     refine AnyEvents.obs_cons undef rfl (AnyEvents.ob_off rfl rfl rfl rfl) ?_
     try simp only [Act.put, List.setIfInBounds_toArray, List.set_cons_zero, List.set_cons_succ]
     refine AnyEvents.obs_cons undef rfl (AnyEvents.ob_off rfl rfl rfl rfl) ?_
     try simp only [Act.put, List.setIfInBounds_toArray, List.set_cons_zero, List.set_cons_succ]
     refine AnyEvents.obs_cons undef rfl (AnyEvents.ob_off rfl rfl rfl rfl) ?_
     try simp only [Act.put, List.setIfInBounds_toArray, List.set_cons_zero, List.set_cons_succ]
     refine AnyEvents.obs_cons undef rfl (AnyEvents.ob_off rfl rfl rfl rfl) ?_
     try simp only [Act.put, List.setIfInBounds_toArray, List.set_cons_zero, List.set_cons_succ]
     refine AnyEvents.obs_cons undef rfl (AnyEvents.ob_off rfl rfl rfl rfl) ?_
     try simp only [Act.put, List.setIfInBounds_toArray, List.set_cons_zero, List.set_cons_succ]
     refine AnyEvents.obs_cons ?v2_16 (val_hole (by simp only [List.getD_cons_zero, List.getD_cons_succ])) (AnyEvents.ob_plain (v := ?v2_16) rfl rfl rfl same (by simp only [List.getD_cons_zero, List.getD_cons_succ]) (fun ph W' hwn hW => ?_)) ?_
     ·first | (go_simp; done) | (go_simp; (try simp only [i64_w]); rfl) | (go_simp; simp; rfl)
     try simp only [Act.put, List.setIfInBounds_toArray, List.set_cons_zero, List.set_cons_succ]
     trivial
    case fin2r =>
     intro x W' hD _
     simp only [List.take_succ_cons, List.take_zero, List.drop_succ_cons, List.drop_zero]
     rw [AnyOrder.lexAt_cons ?v2_0 (val_hole (by simp only [List.getD_cons_zero, List.getD_cons_succ]))]
     try simp only [Act.put, List.setIfInBounds_toArray, List.set_cons_zero, List.set_cons_succ]
     rw [AnyOrder.lexAt_cons ?v2_1 (val_hole (by simp only [List.getD_cons_zero, List.getD_cons_succ]))]
     try simp only [Act.put, List.setIfInBounds_toArray, List.set_cons_zero, List.set_cons_succ]
     rw [AnyOrder.lexAt_cons ?v2_2 (val_hole (by simp only [List.getD_cons_zero, List.getD_cons_succ]))]
     try simp only [Act.put, List.setIfInBounds_toArray, List.set_cons_zero, List.set_cons_succ]
     rw [AnyOrder.lexAt_cons ?v2_3 (val_hole (by simp only [List.getD_cons_zero, List.getD_cons_succ]))]
     try simp only [Act.put, List.setIfInBounds_toArray, List.set_cons_zero, List.set_cons_succ]
     rw [AnyOrder.lexAt_cons undef rfl]
     try simp only [Act.put, List.setIfInBounds_toArray, List.set_cons_zero, List.set_cons_succ]
     rw [AnyOrder.lexAt_cons undef rfl]
     try simp only [Act.put, List.setIfInBounds_toArray, List.set_cons_zero, List.set_cons_succ]
     rw [AnyOrder.lexAt_cons undef rfl]
     try simp only [Act.put, List.setIfInBounds_toArray, List.set_cons_zero, List.set_cons_succ]
     rw [AnyOrder.lexAt_cons undef rfl]
     try simp only [Act.put, List.setIfInBounds_toArray, List.set_cons_zero, List.set_cons_succ]
     rw [AnyOrder.lexAt_cons undef rfl]
     try simp only [Act.put, List.setIfInBounds_toArray, List.set_cons_zero, List.set_cons_succ]
     rw [AnyOrder.lexAt_cons undef rfl]
     try simp only [Act.put, List.setIfInBounds_toArray, List.set_cons_zero, List.set_cons_succ]
     rw [AnyOrder.lexAt_cons undef rfl]
     try simp only [Act.put, List.setIfInBounds_toArray, List.set_cons_zero, List.set_cons_succ]
     rw [AnyOrder.lexAt_cons undef rfl]
     try simp only [Act.put, List.setIfInBounds_toArray, List.set_cons_zero, List.set_cons_succ]
     rw [AnyOrder.lexAt_cons undef rfl]
     try simp only [Act.put, List.setIfInBounds_toArray, List.set_cons_zero, List.set_cons_succ]
     rw [AnyOrder.lexAt_cons undef rfl]
     try simp only [Act.put, List.setIfInBounds_toArray, List.set_cons_zero, List.set_cons_succ]
     rw [AnyOrder.lexAt_cons undef rfl]
     try simp only [Act.put, List.setIfInBounds_toArray, List.set_cons_zero, List.set_cons_succ]
     rw [AnyOrder.lexAt_cons undef rfl]
     try simp only [Act.put, List.setIfInBounds_toArray, List.set_cons_zero, List.set_cons_succ]
     rw [AnyOrder.lexAt_cons ?v2_16 (val_hole (by simp only [List.getD_cons_zero, List.getD_cons_succ]))]
     try simp only [Act.put, List.setIfInBounds_toArray, List.set_cons_zero, List.set_cons_succ]
     rw [AnyOrder.lexAt_nil]
     clear same
     clear d1
     go_wp2
     go_roundg k1
     case measure => omega
     case rel => exact ⟨i + 1, _, r, rfl, ⟨HN1.out, by have := HK.out; omega, by omega⟩, HP, ⟨HS.out.zero⟩, ⟨ownsAt_below HV.out hD⟩, ⟨HI.out.below hD⟩, ⟨grown_below HG.out hD⟩⟩
   have d1 : decide (0 < jz) = true := decide_eq_true hlt
   obtain ⟨j1, rfl⟩ : ∃ j1, j = j1 + 1 := ⟨j - 1, by omega⟩
   have hjl : j1 + 1 < r.length := by have := HIL.out; have := HP.out.2; omega
   obtain ⟨yv, hy⟩ : ∃ yv_, r[j1 + 1]? = some yv_ := ⟨_, List.getElem?_eq_getElem hjl⟩
   obtain ⟨xv, hx⟩ : ∃ xv_, r[j1]? = some xv_ := ⟨_, List.getElem?_eq_getElem (by omega)⟩
   obtain ⟨b_, o_, eb, hcells⟩ := ownsAt_cells HV.out (by have := HIL.out; omega)
   obtain ⟨rfl, rfl⟩ : b = b_ ∧ o = o_ := by simpa using eb
   have hq1 := hcells _ _ (ints_get hy)
   have hq0 := hcells _ _ (ints_get hx)
   have hm1 : wrap64 (jz - 1) = ((j1 : Nat) : Int) := by have := HN.out; have := HIL.out; rw [w64p (by omega) (by omega)]; omega
   have HM1 := Aside0.mk hm1
   obtain ⟨cv, hcv⟩ : ∃ c_, cfO s.m yv xv = c_ := ⟨_, rfl⟩
   have HCV := Aside0.mk hcv
   have HXY := Aside0.mk (And.intro hx hy)
   have HWX := Aside0.mk (And.intro (HW.out yv (HP.out.1.mem_iff.1 (List.mem_of_getElem? hy))) (HW.out xv (HP.out.1.mem_iff.1 (List.mem_of_getElem? hx))))
   have HJI := Aside0.mk (show j1 + 1 ≤ i by omega)
   have p0 : 0 ≤ jz := by omega
   have p1 : jz < (l.length : Int) := by have := HIL.out; omega
   have p2 : ((j1 : Nat) : Int) < (l.length : Int) := by have := HIL.out; omega
   have tn : jz.toNat = j1 + 1 := by omega
   have HF := Aside0.mk (And.intro hq1 hq0)
   replace p0 := eq_true p0
   replace p1 := eq_true p1
   replace p2 := eq_true p2
   clear hlt hj hjl hx hy hcells hcv eb
   go_upto_region 4 with fail
   have same : ∀ (ph : Nat) W', Below wr.heap.size wr W' → True := fun _ _ _ => trivial
   refine AnyEvents.region_then 17 (E := []) (C := fun (_ : Nat) W' => Below wr.heap.size wr W') (G := fun _ _ _ _ => True) (T := []) (R := fun _ _ _ _ => True) (vs := [?v3_0, ?v3_1, ?v3_2, ?v3_3, ?v3_4, ?v3_5, ?v3_6, ?v3_7, ?v3_8, ?v3_9, ?v3_10, ?v3_11, ?v3_12, ?v3_13, (.int .i64 cv), ?v3_15, ?v3_16]) (by kernel_rfl) (by kernel_rfl) rfl (by kernel_rfl) ?hc3r same (fun _ _ _ _ _ _ _ _ _ => trivial) (fun _ h => nomatch h) (fun x => ?obs3r) ?fin3r
   case hc3r => exact ⟨rfl, rfl, rfl, Nat.le_refl _, fun _ _ => rfl⟩
   case obs3r =>
    refine AnyEvents.obs_cons ?v3_0 (val_hole (by simp only [List.getD_cons_zero, List.getD_cons_succ])) (AnyEvents.ob_plain (v := ?v3_0) rfl rfl rfl same (by simp only [List.getD_cons_zero, List.getD_cons_succ]) (fun ph W' hwn hW => ?_)) ?_
    ·have z0 := pw_cell_below hW hq1; have z1 := pw_cell_below hW hq0; first | (go_simp; done) | (go_simp; (try simp only [i64_w]); rfl) | (go_simp; simp; rfl)
    try simp only [Act.put, List.setIfInBounds_toArray, List.set_cons_zero, List.set_cons_succ]
    refine AnyEvents.obs_cons ?v3_1 (val_hole (by simp only [List.getD_cons_zero, List.getD_cons_succ])) (AnyEvents.ob_plain (v := ?v3_1) rfl rfl rfl same (by simp only [List.getD_cons_zero, List.getD_cons_succ]) (fun ph W' hwn hW => ?_)) ?_
    ·have z0 := pw_cell_below hW hq1; have z1 := pw_cell_below hW hq0; first | (go_simp; done) | (go_simp; (try simp only [i64_w]); rfl) | (go_simp; simp; rfl)
    try simp only [Act.put, List.setIfInBounds_toArray, List.set_cons_zero, List.set_cons_succ]
    refine AnyEvents.obs_cons ?v3_2 (val_hole (by simp only [List.getD_cons_zero, List.getD_cons_succ])) (AnyEvents.ob_plain (v := ?v3_2) rfl rfl rfl same (by simp only [List.getD_cons_zero, List.getD_cons_succ]) (fun ph W' hwn hW => ?_)) ?_
    ·have z0 := pw_cell_below hW hq1; have z1 := pw_cell_below hW hq0; first | (go_simp; done) | (go_simp; (try simp only [i64_w]); rfl) | (go_simp; simp; rfl)
    try simp only [Act.put, List.setIfInBounds_toArray, List.set_cons_zero, List.set_cons_succ]
    refine AnyEvents.obs_cons ?v3_3 (val_hole (by simp only [List.getD_cons_zero, List.getD_cons_succ])) (AnyEvents.ob_plain (v := ?v3_3) rfl rfl rfl same (by simp only [List.getD_cons_zero, List.getD_cons_succ]) (fun ph W' hwn hW => ?_)) ?_
    ·have z0 := pw_cell_below hW hq1; have z1 := pw_cell_below hW hq0; first | (go_simp; done) | (go_simp; (try simp only [i64_w]); rfl) | (go_simp; simp; rfl)
    try simp only [Act.put, List.setIfInBounds_toArray, List.set_cons_zero, List.set_cons_succ]
    refine AnyEvents.obs_cons ?v3_4 (val_hole (by simp only [List.getD_cons_zero, List.getD_cons_succ])) (AnyEvents.ob_plain (v := ?v3_4) rfl rfl rfl same (by simp only [List.getD_cons_zero, List.getD_cons_succ]) (fun ph W' hwn hW => ?_)) ?_
    ·have z0 := pw_cell_below hW hq1; have z1 := pw_cell_below hW hq0; first | (go_simp; done) | (go_simp; (try simp only [i64_w]); rfl) | (go_simp; simp; rfl)
    try simp only [Act.put, List.setIfInBounds_toArray, List.set_cons_zero, List.set_cons_succ]
    refine AnyEvents.obs_cons ?v3_5 (val_hole (by simp only [List.getD_cons_zero, List.getD_cons_succ])) (AnyEvents.ob_plain (v := ?v3_5) rfl rfl rfl same (by simp only [List.getD_cons_zero, List.getD_cons_succ]) (fun ph W' hwn hW => ?_)) ?_
    ·have z0 := pw_cell_below hW hq1; have z1 := pw_cell_below hW hq0; first | (go_simp; done) | (go_simp; (try simp only [i64_w]); rfl) | (go_simp; simp; rfl)
    try simp only [Act.put, List.setIfInBounds_toArray, List.set_cons_zero, List.set_cons_succ]
    refine AnyEvents.obs_cons ?v3_6 (val_hole (by simp only [List.getD_cons_zero, List.getD_cons_succ])) (AnyEvents.ob_plain (v := ?v3_6) rfl rfl rfl same (by simp only [List.getD_cons_zero, List.getD_cons_succ]) (fun ph W' hwn hW => ?_)) ?_
    ·have z0 := pw_cell_below hW hq1; have z1 := pw_cell_below hW hq0; first | (go_simp; done) | (go_simp; (try simp only [i64_w]); rfl) | (go_simp; simp; rfl)
    try simp only [Act.put, List.setIfInBounds_toArray, List.set_cons_zero, List.set_cons_succ]
    refine AnyEvents.obs_cons ?v3_7 (val_hole (by simp only [List.getD_cons_zero, List.getD_cons_succ])) (AnyEvents.ob_plain (v := ?v3_7) rfl rfl rfl same (by simp only [List.getD_cons_zero, List.getD_cons_succ]) (fun ph W' hwn hW => ?_)) ?_
    ·have z0 := pw_cell_below hW hq1; have z1 := pw_cell_below hW hq0; first | (go_simp; done) | (go_simp; (try simp only [i64_w]); rfl) | (go_simp; simp; rfl)
    try simp only [Act.put, List.setIfInBounds_toArray, List.set_cons_zero, List.set_cons_succ]
    refine AnyEvents.obs_cons ?v3_8 (val_hole (by simp only [List.getD_cons_zero, List.getD_cons_succ])) (AnyEvents.ob_plain (v := ?v3_8) rfl rfl rfl same (by simp only [List.getD_cons_zero, List.getD_cons_succ]) (fun ph W' hwn hW => ?_)) ?_
    ·have z0 := pw_cell_below hW hq1; have z1 := pw_cell_below hW hq0; first | (go_simp; done) | (go_simp; (try simp only [i64_w]); rfl) | (go_simp; simp; rfl)
    try simp only [Act.put, List.setIfInBounds_toArray, List.set_cons_zero, List.set_cons_succ]
    refine AnyEvents.obs_cons ?v3_9 (val_hole (by simp only [List.getD_cons_zero, List.getD_cons_succ])) (AnyEvents.ob_plain (v := ?v3_9) rfl rfl rfl same (by simp only [List.getD_cons_zero, List.getD_cons_succ]) (fun ph W' hwn hW => ?_)) ?_
    ·have z0 := pw_cell_below hW hq1; have z1 := pw_cell_below hW hq0; first | (go_simp; done) | (go_simp; (try simp only [i64_w]); rfl) | (go_simp; simp; rfl)
    try simp only [Act.put, List.setIfInBounds_toArray, List.set_cons_zero, List.set_cons_succ]
    refine AnyEvents.obs_cons ?v3_10 (val_hole (by simp only [List.getD_cons_zero, List.getD_cons_succ])) (AnyEvents.ob_plain (v := ?v3_10) rfl rfl rfl same (by simp only [List.getD_cons_zero, List.getD_cons_succ]) (fun ph W' hwn hW => ?_)) ?_
    ·have z0 := pw_cell_below hW hq1; have z1 := pw_cell_below hW hq0; first | (go_simp; done) | (go_simp; (try simp only [i64_w]); rfl) | (go_simp; simp; rfl)
    try simp only [Act.put, List.setIfInBounds_toArray, List.set_cons_zero, List.set_cons_succ]
    refine AnyEvents.obs_cons ?v3_11 (val_hole (by simp only [List.getD_cons_zero, List.getD_cons_succ])) (AnyEvents.ob_plain (v := ?v3_11) rfl rfl rfl same (by simp only [List.getD_cons_zero, List.getD_cons_succ]) (fun ph W' hwn hW => ?_)) ?_
    ·have z0 := pw_cell_below hW hq1; have z1 := pw_cell_below hW hq0; first | (go_simp; done) | (go_simp; (try simp only [i64_w]); rfl) | (go_simp; simp; rfl)
    try simp only [Act.put, List.setIfInBounds_toArray, List.set_cons_zero, List.set_cons_succ]
    refine AnyEvents.obs_cons ?v3_12 (val_hole (by simp only [List.getD_cons_zero, List.getD_cons_succ])) (AnyEvents.ob_plain (v := ?v3_12) rfl rfl rfl same (by simp only [List.getD_cons_zero, List.getD_cons_succ]) (fun ph W' hwn hW => ?_)) ?_
    ·have z0 := pw_cell_below hW hq1; have z1 := pw_cell_below hW hq0; first | (go_simp; done) | (go_simp; (try simp only [i64_w]); rfl) | (go_simp; simp; rfl)
    try simp only [Act.put, List.setIfInBounds_toArray, List.set_cons_zero, List.set_cons_succ]
    refine AnyEvents.obs_cons ?v3_13 (val_hole (by simp only [List.getD_cons_zero, List.getD_cons_succ])) (AnyEvents.ob_plain (v := ?v3_13) rfl rfl rfl same (by simp only [List.getD_cons_zero, List.getD_cons_succ]) (fun ph W' hwn hW => ?_)) ?_
    ·have z0 := pw_cell_below hW hq1; have z1 := pw_cell_below hW hq0; first | (go_simp; done) | (go_simp; (try simp only [i64_w]); rfl) | (go_simp; simp; rfl)
    try simp only [Act.put, List.setIfInBounds_toArray, List.set_cons_zero, List.set_cons_succ]
    refine AnyEvents.obs_cons (.int .i64 cv) (val_hole (by simp only [List.getD_cons_zero, List.getD_cons_succ])) (AnyEvents.ob_call (v := (.int .i64 cv)) rfl rfl rfl (by simp only [List.getD_cons_zero, List.getD_cons_succ]) 24 #[.pointer (some ⟨g, 0, none⟩), .int .i64 yv, .int .i64 xv] (fun ph W' hwn hW => ?_) (fun ph W' hwn hW => ?_)) ?_
    ·first | (go_simp; done) | (go_simp; rfl)
    ·refine (wheel_Wheel_order.calls lo hi g c s yv xv W' (HI.out.below hW) HWX.out.1 HWX.out.2).mono ?_; rintro e W3 ⟨rfl, hb3⟩; exact ⟨by rw [HCV.out], below_step hW hb3, trivial⟩
    try simp only [Act.put, List.setIfInBounds_toArray, List.set_cons_zero, List.set_cons_succ]
    refine AnyEvents.obs_cons ?v3_15 (val_hole (by simp only [List.getD_cons_zero, List.getD_cons_succ])) (AnyEvents.ob_plain (v := ?v3_15) rfl rfl rfl same (by simp only [List.getD_cons_zero, List.getD_cons_succ]) (fun ph W' hwn hW => ?_)) ?_
    ·have z0 := pw_cell_below hW hq1; have z1 := pw_cell_below hW hq0; first | (go_simp; done) | (go_simp; (try simp only [i64_w]); rfl) | (go_simp; simp; rfl)
    try simp only [Act.put, List.setIfInBounds_toArray, List.set_cons_zero, List.set_cons_succ]
    refine AnyEvents.obs_cons ?v3_16 (val_hole (by simp only [List.getD_cons_zero, List.getD_cons_succ])) (AnyEvents.ob_plain (v := ?v3_16) rfl rfl rfl same (by simp only [List.getD_cons_zero, List.getD_cons_succ]) (fun ph W' hwn hW => ?_)) ?_
    ·have z0 := pw_cell_below hW hq1; have z1 := pw_cell_below hW hq0; first | (go_simp; done) | (go_simp; (try simp only [i64_w]); rfl) | (go_simp; simp; rfl)
    try simp only [Act.put, List.setIfInBounds_toArray, List.set_cons_zero, List.set_cons_succ]
    trivial
   case fin3r =>
    intro x W4 hD _
    simp only [List.take_succ_cons, List.take_zero, List.drop_succ_cons, List.drop_zero]
    rw [AnyOrder.lexAt_cons ?v3_0 (val_hole (by simp only [List.getD_cons_zero, List.getD_cons_succ]))]
    try simp only [Act.put, List.setIfInBounds_toArray, List.set_cons_zero, List.set_cons_succ]
    rw [AnyOrder.lexAt_cons ?v3_1 (val_hole (by simp only [List.getD_cons_zero, List.getD_cons_succ]))]
    try simp only [Act.put, List.setIfInBounds_toArray, List.set_cons_zero, List.set_cons_succ]
    rw [AnyOrder.lexAt_cons ?v3_2 (val_hole (by simp only [List.getD_cons_zero, List.getD_cons_succ]))]
    try simp only [Act.put, List.setIfInBounds_toArray, List.set_cons_zero, List.set_cons_succ]
    rw [AnyOrder.lexAt_cons ?v3_3 (val_hole (by simp only [List.getD_cons_zero, List.getD_cons_succ]))]
    try simp only [Act.put, List.setIfInBounds_toArray, List.set_cons_zero, List.set_cons_succ]
    rw [AnyOrder.lexAt_cons ?v3_4 (val_hole (by simp only [List.getD_cons_zero, List.getD_cons_succ]))]
    try simp only [Act.put, List.setIfInBounds_toArray, List.set_cons_zero, List.set_cons_succ]
    rw [AnyOrder.lexAt_cons ?v3_5 (val_hole (by simp only [List.getD_cons_zero, List.getD_cons_succ]))]
    try simp only [Act.put, List.setIfInBounds_toArray, List.set_cons_zero, List.set_cons_succ]
    rw [AnyOrder.lexAt_cons ?v3_6 (val_hole (by simp only [List.getD_cons_zero, List.getD_cons_succ]))]
    try simp only [Act.put, List.setIfInBounds_toArray, List.set_cons_zero, List.set_cons_succ]
    rw [AnyOrder.lexAt_cons ?v3_7 (val_hole (by simp only [List.getD_cons_zero, List.getD_cons_succ]))]
    try simp only [Act.put, List.setIfInBounds_toArray, List.set_cons_zero, List.set_cons_succ]
    rw [AnyOrder.lexAt_cons ?v3_8 (val_hole (by simp only [List.getD_cons_zero, List.getD_cons_succ]))]
    try simp only [Act.put, List.setIfInBounds_toArray, List.set_cons_zero, List.set_cons_succ]
    rw [AnyOrder.lexAt_cons ?v3_9 (val_hole (by simp only [List.getD_cons_zero, List.getD_cons_succ]))]
    try simp only [Act.put, List.setIfInBounds_toArray, List.set_cons_zero, List.set_cons_succ]
    rw [AnyOrder.lexAt_cons ?v3_10 (val_hole (by simp only [List.getD_cons_zero, List.getD_cons_succ]))]
    try simp only [Act.put, List.setIfInBounds_toArray, List.set_cons_zero, List.set_cons_succ]
    rw [AnyOrder.lexAt_cons ?v3_11 (val_hole (by simp only [List.getD_cons_zero, List.getD_cons_succ]))]
    try simp only [Act.put, List.setIfInBounds_toArray, List.set_cons_zero, List.set_cons_succ]
    rw [AnyOrder.lexAt_cons ?v3_12 (val_hole (by simp only [List.getD_cons_zero, List.getD_cons_succ]))]
    try simp only [Act.put, List.setIfInBounds_toArray, List.set_cons_zero, List.set_cons_succ]
    rw [AnyOrder.lexAt_cons ?v3_13 (val_hole (by simp only [List.getD_cons_zero, List.getD_cons_succ]))]
    try simp only [Act.put, List.setIfInBounds_toArray, List.set_cons_zero, List.set_cons_succ]
    rw [AnyOrder.lexAt_cons (.int .i64 cv) (val_hole (by simp only [List.getD_cons_zero, List.getD_cons_succ]))]
    try simp only [Act.put, List.setIfInBounds_toArray, List.set_cons_zero, List.set_cons_succ]
    rw [AnyOrder.lexAt_cons ?v3_15 (val_hole (by simp only [List.getD_cons_zero, List.getD_cons_succ]))]
    try simp only [Act.put, List.setIfInBounds_toArray, List.set_cons_zero, List.set_cons_succ]
    rw [AnyOrder.lexAt_cons ?v3_16 (val_hole (by simp only [List.getD_cons_zero, List.getD_cons_succ]))]
    try simp only [Act.put, List.setIfInBounds_toArray, List.set_cons_zero, List.set_cons_succ]
    rw [AnyOrder.lexAt_nil]
    clear same
    clear d1
    replace hq1 := pw_cell_below hD hq1
    replace hq0 := pw_cell_below hD hq0
    have HV1 := Aside0.mk (ownsAt_below HV.out hD)
    have HI1 := Aside0.mk (HI.out.below hD)
    have HG1 := Aside0.mk (grown_below HG.out hD)
    clear hD HV HI HG
    have HV := HV1; have HI := HI1; have HG := HG1
    clear HV1 HI1 HG1
    by_cases hc : cv < 0
    rotate_left
    ·have d1 : decide (cv < 0) = false := decide_eq_false hc
     have hle : leT s.m xv yv := by
      have h := HCV.out
      rw [← h] at hc
      exact Classical.not_not.1 (fun hn => hc (cfO_neg.2 hn))
     have HLE := Aside0.mk hle
     rw [d1]
     clear hc hle d1
     go_wp2
     go_roundg k1
     case measure => omega
     case rel => exact ⟨i + 1, _, r, rfl, ⟨HN1.out, by have := HK.out; omega, by omega⟩, HP, ⟨HS.out.stop HXY.out.1 HXY.out.2 HLE.out⟩, HV, HI, HG⟩
    have d1 : decide (cv < 0) = true := decide_eq_true hc
    have HLE := Aside0.mk (show leT s.m yv xv by have h := HCV.out; rw [← h] at hc; exact leT_of hc)
    obtain ⟨k2, hk2⟩ : ∃ k2, gk = k2 + 1 := ⟨gk - 1, by have := HJ.out; omega⟩
    subst hk2
    obtain ⟨_, curz, hblk⟩ := ownsAt_block HV.out (b := b) rfl
    have HBL := Aside0.mk (show o + (j1 + 1) < curz.size ∧ o + j1 < curz.size by
     have h := own_lt HV.out (show j1 + 1 < l.length by have := HIL.out; have := HJI.out; omega)
     obtain ⟨cur2, h1, h2⟩ := h
     rw [hblk] at h1
     injection h1 with h1
     injection h1 with h1
     subst h1
     omega)
    have HBK := Aside0.mk hblk
    rw [d1]
    clear hc hblk d1
    go_upto_region 6 with fail
    refine AnyEvents.region_then (P := Try.prog) 18 (E := [15, 17]) (C := fun ph W' => ∃ nd, W' = (if ph = 0 then W4 else if ph = 1 then W4.setCell ⟨b, o + (j1 + 1), none⟩ (.int .i64 xv) else (W4.setCell ⟨b, o + (j1 + 1), none⟩ (.int .i64 xv)).setCell ⟨b, o + j1, none⟩ (.int .i64 yv)).drewN nd) (G := fun _ _ _ _ => True) (T := []) (R := fun _ _ _ _ => True) (vs := [?v4_0, ?v4_1, ?v4_2, ?v4_3, ?v4_4, ?v4_5, ?v4_6, ?v4_7, ?v4_8, ?v4_9, ?v4_10, ?v4_11, ?v4_12, ?v4_13, ?v4_14, undef, ?v4_16, undef]) (by kernel_rfl) (by kernel_rfl) rfl (by kernel_rfl) ?hc4r (fun _ _ _ => trivial) (fun _ _ _ _ _ _ _ _ _ => trivial) ?hc4re (fun x => ?obs4r) ?fin4r
    case hc4re => decide
    case hc4r => exact ⟨1, rfl⟩
    case obs4r =>
     refine AnyEvents.obs_cons ?v4_0 (val_hole (by simp only [List.getD_cons_zero, List.getD_cons_succ])) (AnyEvents.ob_plain (v := ?v4_0) rfl rfl rfl (fun _ _ _ => trivial) (by simp only [List.getD_cons_zero, List.getD_cons_succ]) (fun ph W' hwn hW => ?_)) ?_
     ·first | (go_simp; done) | (go_simp; (try simp only [i64_w]); rfl) | (go_simp; simp; rfl)
     try simp only [Act.put, List.setIfInBounds_toArray, List.set_cons_zero, List.set_cons_succ]
     refine AnyEvents.obs_cons ?v4_1 (val_hole (by simp only [List.getD_cons_zero, List.getD_cons_succ])) (AnyEvents.ob_plain (v := ?v4_1) rfl rfl rfl (fun _ _ _ => trivial) (by simp only [List.getD_cons_zero, List.getD_cons_succ]) (fun ph W' hwn hW => ?_)) ?_
     ·first | (go_simp; done) | (go_simp; (try simp only [i64_w]); rfl) | (go_simp; simp; rfl)
     try simp only [Act.put, List.setIfInBounds_toArray, List.set_cons_zero, List.set_cons_succ]
     refine AnyEvents.obs_cons ?v4_2 (val_hole (by simp only [List.getD_cons_zero, List.getD_cons_succ])) (AnyEvents.ob_plain (v := ?v4_2) rfl rfl rfl (fun _ _ _ => trivial) (by simp only [List.getD_cons_zero, List.getD_cons_succ]) (fun ph W' hwn hW => ?_)) ?_
     ·first | (go_simp; done) | (go_simp; (try simp only [i64_w]); rfl) | (go_simp; simp; rfl)
     try simp only [Act.put, List.setIfInBounds_toArray, List.set_cons_zero, List.set_cons_succ]
     refine AnyEvents.obs_cons ?v4_3 (val_hole (by simp only [List.getD_cons_zero, List.getD_cons_succ])) (AnyEvents.ob_plain (v := ?v4_3) rfl rfl rfl (fun _ _ _ => trivial) (by simp only [List.getD_cons_zero, List.getD_cons_succ]) (fun ph W' hwn hW => ?_)) ?_
     ·first | (go_simp; done) | (go_simp; (try simp only [i64_w]); rfl) | (go_simp; simp; rfl)
     try simp only [Act.put, List.setIfInBounds_toArray, List.set_cons_zero, List.set_cons_succ]
     refine AnyEvents.obs_cons ?v4_4 (val_hole (by simp only [List.getD_cons_zero, List.getD_cons_succ])) (AnyEvents.ob_plain (v := ?v4_4) rfl rfl rfl (fun _ _ _ => trivial) (by simp only [List.getD_cons_zero, List.getD_cons_succ]) (fun ph W' hwn hW => ?_)) ?_
     ·first | (go_simp; done) | (go_simp; (try simp only [i64_w]); rfl) | (go_simp; simp; rfl)
     try simp only [Act.put, List.setIfInBounds_toArray, List.set_cons_zero, List.set_cons_succ]
     refine AnyEvents.obs_cons ?v4_5 (val_hole (by simp only [List.getD_cons_zero, List.getD_cons_succ])) (AnyEvents.ob_plain (v := ?v4_5) rfl rfl rfl (fun _ _ _ => trivial) (by simp only [List.getD_cons_zero, List.getD_cons_succ]) (fun ph W' hwn hW => ?_)) ?_
     ·first | (go_simp; done) | (go_simp; (try simp only [i64_w]); rfl) | (go_simp; simp; rfl)
     try simp only [Act.put, List.setIfInBounds_toArray, List.set_cons_zero, List.set_cons_succ]
     refine AnyEvents.obs_cons ?v4_6 (val_hole (by simp only [List.getD_cons_zero, List.getD_cons_succ])) (AnyEvents.ob_plain (v := ?v4_6) rfl rfl rfl (fun _ _ _ => trivial) (by simp only [List.getD_cons_zero, List.getD_cons_succ]) (fun ph W' hwn hW => ?_)) ?_
     ·first | (go_simp; done) | (go_simp; (try simp only [i64_w]); rfl) | (go_simp; simp; rfl)
     try simp only [Act.put, List.setIfInBounds_toArray, List.set_cons_zero, List.set_cons_succ]
     refine AnyEvents.obs_cons ?v4_7 (val_hole (by simp only [List.getD_cons_zero, List.getD_cons_succ])) (AnyEvents.ob_plain (v := ?v4_7) rfl rfl rfl (fun _ _ _ => trivial) (by simp only [List.getD_cons_zero, List.getD_cons_succ]) (fun ph W' hwn hW => ?_)) ?_
     ·first | (go_simp; done) | (go_simp; (try simp only [i64_w]); rfl) | (go_simp; simp; rfl)
     try simp only [Act.put, List.setIfInBounds_toArray, List.set_cons_zero, List.set_cons_succ]
     refine AnyEvents.obs_cons ?v4_8 (val_hole (by simp only [List.getD_cons_zero, List.getD_cons_succ])) (AnyEvents.ob_plain (v := ?v4_8) rfl rfl rfl (fun _ _ _ => trivial) (by simp only [List.getD_cons_zero, List.getD_cons_succ]) (fun ph W' hwn hW => ?_)) ?_
     ·first | (go_simp; done) | (go_simp; (try simp only [i64_w]); rfl) | (go_simp; simp; rfl)
     try simp only [Act.put, List.setIfInBounds_toArray, List.set_cons_zero, List.set_cons_succ]
     refine AnyEvents.obs_cons ?v4_9 (val_hole (by simp only [List.getD_cons_zero, List.getD_cons_succ])) (AnyEvents.ob_plain (v := ?v4_9) rfl rfl rfl (fun _ _ _ => trivial) (by simp only [List.getD_cons_zero, List.getD_cons_succ]) (fun ph W' hwn hW => ?_)) ?_
     ·have hp := hwn.hi 0 15 rfl (by kernel_rfl); obtain rfl : ph = 0 := (by omega); obtain ⟨nd, hw⟩ := hW; rw [if_pos rfl] at hw; subst hw; have z0 := drew_cell nd hq0; have z1 := drew_cell nd hq1; first | (go_simp; done) | (go_simp; (try simp only [i64_w]); rfl) | (go_simp; simp; rfl)
     try simp only [Act.put, List.setIfInBounds_toArray, List.set_cons_zero, List.set_cons_succ]
     refine AnyEvents.obs_cons ?v4_10 (val_hole (by simp only [List.getD_cons_zero, List.getD_cons_succ])) (AnyEvents.ob_plain (v := ?v4_10) rfl rfl rfl (fun _ _ _ => trivial) (by simp only [List.getD_cons_zero, List.getD_cons_succ]) (fun ph W' hwn hW => ?_)) ?_
     ·first | (go_simp; done) | (go_simp; (try simp only [i64_w]); rfl) | (go_simp; simp; rfl)
     try simp only [Act.put, List.setIfInBounds_toArray, List.set_cons_zero, List.set_cons_succ]
     refine AnyEvents.obs_cons ?v4_11 (val_hole (by simp only [List.getD_cons_zero, List.getD_cons_succ])) (AnyEvents.ob_plain (v := ?v4_11) rfl rfl rfl (fun _ _ _ => trivial) (by simp only [List.getD_cons_zero, List.getD_cons_succ]) (fun ph W' hwn hW => ?_)) ?_
     ·first | (go_simp; done) | (go_simp; (try simp only [i64_w]); rfl) | (go_simp; simp; rfl)
     try simp only [Act.put, List.setIfInBounds_toArray, List.set_cons_zero, List.set_cons_succ]
     refine AnyEvents.obs_cons ?v4_12 (val_hole (by simp only [List.getD_cons_zero, List.getD_cons_succ])) (AnyEvents.ob_plain (v := ?v4_12) rfl rfl rfl (fun _ _ _ => trivial) (by simp only [List.getD_cons_zero, List.getD_cons_succ]) (fun ph W' hwn hW => ?_)) ?_
     ·first | (go_simp; done) | (go_simp; (try simp only [i64_w]); rfl) | (go_simp; simp; rfl)
     try simp only [Act.put, List.setIfInBounds_toArray, List.set_cons_zero, List.set_cons_succ]
     refine AnyEvents.obs_cons ?v4_13 (val_hole (by simp only [List.getD_cons_zero, List.getD_cons_succ])) (AnyEvents.ob_plain (v := ?v4_13) rfl rfl rfl (fun _ _ _ => trivial) (by simp only [List.getD_cons_zero, List.getD_cons_succ]) (fun ph W' hwn hW => ?_)) ?_
     ·have hp := hwn.hi 0 15 rfl (by kernel_rfl); obtain rfl : ph = 0 := (by omega); obtain ⟨nd, hw⟩ := hW; rw [if_pos rfl] at hw; subst hw; have z0 := drew_cell nd hq0; have z1 := drew_cell nd hq1; first | (go_simp; done) | (go_simp; (try simp only [i64_w]); rfl) | (go_simp; simp; rfl)
     try simp only [Act.put, List.setIfInBounds_toArray, List.set_cons_zero, List.set_cons_succ]
     refine AnyEvents.obs_cons ?v4_14 (val_hole (by simp only [List.getD_cons_zero, List.getD_cons_succ])) (AnyEvents.ob_plain (v := ?v4_14) rfl rfl rfl (fun _ _ _ => trivial) (by simp only [List.getD_cons_zero, List.getD_cons_succ]) (fun ph W' hwn hW => ?_)) ?_
     ·first | (go_simp; done) | (go_simp; (try simp only [i64_w]); rfl) | (go_simp; simp; rfl)
     try simp only [Act.put, List.setIfInBounds_toArray, List.set_cons_zero, List.set_cons_succ]
     refine AnyEvents.obs_cons undef rfl (AnyEvents.ob_evstore (q := 0) rfl rfl rfl rfl (fun W' hW => ?_)) ?_
     ·obtain ⟨nd, hw⟩ := hW; rw [if_pos rfl] at hw; subst hw; exact ⟨(W4.drewN nd).setCell ⟨b, o + (j1 + 1), none⟩ (.int .i64 xv), run_store1 rfl rfl rfl (show (W4.drewN nd).heap[b]? = _ from HBK.out) HBL.out.1 rfl rfl (by kernel_rfl), ⟨nd, rfl⟩, trivial⟩
     try simp only [Act.put, List.setIfInBounds_toArray, List.set_cons_zero, List.set_cons_succ]
     refine AnyEvents.obs_cons ?v4_16 (val_hole (by simp only [List.getD_cons_zero, List.getD_cons_succ])) (AnyEvents.ob_plain (v := ?v4_16) rfl rfl rfl (fun _ _ _ => trivial) (by simp only [List.getD_cons_zero, List.getD_cons_succ]) (fun ph W' hwn hW => ?_)) ?_
     ·first | (go_simp; done) | (go_simp; (try simp only [i64_w]); rfl) | (go_simp; simp; rfl)
     try simp only [Act.put, List.setIfInBounds_toArray, List.set_cons_zero, List.set_cons_succ]
     refine AnyEvents.obs_cons undef rfl (AnyEvents.ob_evstore (q := 1) rfl rfl rfl rfl (fun W' hW => ?_)) ?_
     ·obtain ⟨nd, hw⟩ := hW; rw [if_neg (by decide), if_pos rfl] at hw; subst hw; exact ⟨(((W4.setCell ⟨b, o + (j1 + 1), none⟩ (.int .i64 xv)).drewN nd).setCell ⟨b, o + j1, none⟩ (.int .i64 yv)), run_store1 rfl rfl rfl (show ((W4.setCell ⟨b, o + (j1 + 1), none⟩ (.int .i64 xv)).drewN nd).heap[b]? = _ from blk_put HBK.out (o + (j1 + 1)) (.int .i64 xv) rfl) (by rw [Array.size_setIfInBounds]; exact HBL.out.2) rfl rfl (by kernel_rfl), ⟨nd, rfl⟩, trivial⟩
     try simp only [Act.put, List.setIfInBounds_toArray, List.set_cons_zero, List.set_cons_succ]
     trivial
    case fin4r =>
     intro x W' hD _
     simp only [List.take_succ_cons, List.take_zero, List.drop_succ_cons, List.drop_zero]
     rw [AnyOrder.lexAt_cons ?v4_0 (val_hole (by simp only [List.getD_cons_zero, List.getD_cons_succ]))]
     try simp only [Act.put, List.setIfInBounds_toArray, List.set_cons_zero, List.set_cons_succ]
     rw [AnyOrder.lexAt_cons ?v4_1 (val_hole (by simp only [List.getD_cons_zero, List.getD_cons_succ]))]
     try simp only [Act.put, List.setIfInBounds_toArray, List.set_cons_zero, List.set_cons_succ]
     rw [AnyOrder.lexAt_cons ?v4_2 (val_hole (by simp only [List.getD_cons_zero, List.getD_cons_succ]))]
     try simp only [Act.put, List.setIfInBounds_toArray, List.set_cons_zero, List.set_cons_succ]
     rw [AnyOrder.lexAt_cons ?v4_3 (val_hole (by simp only [List.getD_cons_zero, List.getD_cons_succ]))]
     try simp only [Act.put, List.setIfInBounds_toArray, List.set_cons_zero, List.set_cons_succ]
     rw [AnyOrder.lexAt_cons ?v4_4 (val_hole (by simp only [List.getD_cons_zero, List.getD_cons_succ]))]
     try simp only [Act.put, List.setIfInBounds_toArray, List.set_cons_zero, List.set_cons_succ]
     rw [AnyOrder.lexAt_cons ?v4_5 (val_hole (by simp only [List.getD_cons_zero, List.getD_cons_succ]))]
     try simp only [Act.put, List.setIfInBounds_toArray, List.set_cons_zero, List.set_cons_succ]
     rw [AnyOrder.lexAt_cons ?v4_6 (val_hole (by simp only [List.getD_cons_zero, List.getD_cons_succ]))]
     try simp only [Act.put, List.setIfInBounds_toArray, List.set_cons_zero, List.set_cons_succ]
     rw [AnyOrder.lexAt_cons ?v4_7 (val_hole (by simp only [List.getD_cons_zero, List.getD_cons_succ]))]
     try simp only [Act.put, List.setIfInBounds_toArray, List.set_cons_zero, List.set_cons_succ]
     rw [AnyOrder.lexAt_cons ?v4_8 (val_hole (by simp only [List.getD_cons_zero, List.getD_cons_succ]))]
     try simp only [Act.put, List.setIfInBounds_toArray, List.set_cons_zero, List.set_cons_succ]
     rw [AnyOrder.lexAt_cons ?v4_9 (val_hole (by simp only [List.getD_cons_zero, List.getD_cons_succ]))]
     try simp only [Act.put, List.setIfInBounds_toArray, List.set_cons_zero, List.set_cons_succ]
     rw [AnyOrder.lexAt_cons ?v4_10 (val_hole (by simp only [List.getD_cons_zero, List.getD_cons_succ]))]
     try simp only [Act.put, List.setIfInBounds_toArray, List.set_cons_zero, List.set_cons_succ]
     rw [AnyOrder.lexAt_cons ?v4_11 (val_hole (by simp only [List.getD_cons_zero, List.getD_cons_succ]))]
     try simp only [Act.put, List.setIfInBounds_toArray, List.set_cons_zero, List.set_cons_succ]
     rw [AnyOrder.lexAt_cons ?v4_12 (val_hole (by simp only [List.getD_cons_zero, List.getD_cons_succ]))]
     try simp only [Act.put, List.setIfInBounds_toArray, List.set_cons_zero, List.set_cons_succ]
     rw [AnyOrder.lexAt_cons ?v4_13 (val_hole (by simp only [List.getD_cons_zero, List.getD_cons_succ]))]
     try simp only [Act.put, List.setIfInBounds_toArray, List.set_cons_zero, List.set_cons_succ]
     rw [AnyOrder.lexAt_cons ?v4_14 (val_hole (by simp only [List.getD_cons_zero, List.getD_cons_succ]))]
     try simp only [Act.put, List.setIfInBounds_toArray, List.set_cons_zero, List.set_cons_succ]
     rw [AnyOrder.lexAt_cons undef rfl]
     try simp only [Act.put, List.setIfInBounds_toArray, List.set_cons_zero, List.set_cons_succ]
     rw [AnyOrder.lexAt_cons ?v4_16 (val_hole (by simp only [List.getD_cons_zero, List.getD_cons_succ]))]
     try simp only [Act.put, List.setIfInBounds_toArray, List.set_cons_zero, List.set_cons_succ]
     rw [AnyOrder.lexAt_cons undef rfl]
     try simp only [Act.put, List.setIfInBounds_toArray, List.set_cons_zero, List.set_cons_succ]
     rw [AnyOrder.lexAt_nil]
     obtain ⟨nd, hw⟩ := hD
     rw [if_neg (by decide), if_neg (by decide)] at hw
     subst hw
     have HV2 := Aside0.mk (own_drawn (nd := nd) (own_put1 (j := j1) (u := .int .i64 yv) (own_put1 (j := j1 + 1) (u := .int .i64 xv) HV.out)))
     have HI2 := Aside0.mk (((HI.out.set (k := o + (j1 + 1)) (v := .int .i64 xv) HBH.out).set (k := o + j1) (v := .int .i64 yv) HBH.out).keep (w' := ((W4.setCell ⟨b, o + (j1 + 1), none⟩ (.int .i64 xv)).setCell ⟨b, o + j1, none⟩ (.int .i64 yv)).drewN nd) (fun _ _ _ => rfl))
     have HG3 := grown_set (k := o + j1) (v := .int .i64 yv) (grown_set (k := o + (j1 + 1)) (v := .int .i64 xv) HG.out)
     have HG2 := Aside0.mk (show w.grownBy (((W4.setCell ⟨b, o + (j1 + 1), none⟩ (.int .i64 xv)).setCell ⟨b, o + j1, none⟩ (.int .i64 yv)).drewN nd) (some b) from ⟨HG3.os, HG3.tape, HG3.output, HG3.size, HG3.block⟩)
     clear HG3 hq1 hq0
     clear HV HI HG
     go_wp2
     go_roundg k2
     case measure => omega
     case rel => exact ⟨j1, _, (r.set (j1 + 1) xv).set j1 yv, rfl, ⟨HM1.out, by have := HJ.out; omega, by have := HJ.out; omega⟩, ⟨(swap_perm r j1 xv yv HXY.out.1 HXY.out.2).trans HP.out.1, by rw [List.length_set, List.length_set]; exact HP.out.2⟩, ⟨HS.out.swap HJI.out HXY.out.1 HXY.out.2 HLE.out⟩, ⟨by have h := HV2.out; rw [ints_set, ints_set] at h; exact h⟩, HI2, HG2⟩
set_option maxHeartbeats 4000000 in
set_option maxRecDepth 100000 in
theorem slices_insertionSortCmpFunc_int.calls0 (A : Option Addr) (cap : Nat) (fv : Value) (w : World) : Calls Try.prog 35 #[.slice A 0 cap, .int .i64 0, .int .i64 0, fv] w fun e w' => e = .returned (.tuple #[]) ∧ w' = w := by
 go_enter Try.func35, Try.ntmps35
 go_wp2_with fail
 go_loopg [8] 0 (fun kq v8 W => v8 = .int .i64 1 ∧ W = w)
 case atStart => exact ⟨rfl, rfl⟩
 case round =>
  obtain ⟨rfl, rfl⟩ := hrel
  go_wp2
  go_end0
  exact ⟨rfl, rfl⟩



/-! ### slices_pdqsortCmpFunc_int: function 29 (by hand) -/
-- over slices_insertionSortCmpFunc_int.calls slices_insertionSortCmpFunc_int.callsR
-- CUT
set_option maxHeartbeats 4000000 in
set_option maxRecDepth 100000 in
theorem slices_pdqsortCmpFunc_int.calls (A : Option Addr) (n cap : Nat) (lim : Int) (fv : Value) (w : World) (hn : n ≤ 12) (Q : Ending → World → Prop) (h : Calls Try.prog 35 #[.slice A n cap, .int .i64 0, .int .i64 (n : Int), fv] w fun e w' => e = .returned (.tuple #[]) ∧ Q (.returned (.tuple #[])) w') :
  Calls Try.prog 29 #[.slice A n cap, .int .i64 0, .int .i64 (n : Int), .int .i64 lim, fv] w fun e w' => e = .returned (.tuple #[]) ∧ Q (.returned (.tuple #[])) w' := by
 have hw : wrap64 (n : Int) = (n : Int) := w64p (by omega) (by omega)
 have d1 : decide ((n : Int) ≤ 12) = true := decide_eq_true (by omega)
 clear hn
 go_enter Try.func29, Try.ntmps29
 go_wp2_with fail
 go_loopg [1, 2] 0 (fun kq v1 v2 W => v1 = .int .i64 0 ∧ v2 = .int .i64 (n : Int) ∧ W = w)
 case atStart => exact ⟨rfl, rfl, rfl⟩
 case round =>
  obtain ⟨rfl, rfl, rfl⟩ := hrel
  go_wp2_with fail
  refine h.mono ?_
  rintro e W1 ⟨rfl, hq⟩
  have HQ := Aside0.mk hq
  clear hq h
  go_wp2
  (try simp only [Exit.inBlock, Exit.then])
  refine bodyPost_ret (results_none rfl _ _ _) rfl ?_
  exact ⟨rfl, HQ.out⟩



/-! ### slices_SortFunc_int_int: function 23 (by hand) -/
-- over slices_pdqsortCmpFunc_int.calls slices_pdqsortCmpFunc_int.callsR
section
open Go.Shelf Go.Lib
def laid_lays125_ren : Go.Shelf.Ren := ⟨fun | 125 => 30 | 128 => 43 | 129 => 44 | n => n, fun | 46 => 67 | 3 => 3 | 51 => 79 | 53 => 81 | 4 => 4 | 5 => 5 | 9 => 9 | n => n, fun | n => n⟩
theorem laid_lays125 : Go.Proofs.Lays.n125 Try.prog laid_lays125_ren := {
 mixed := by kernel_rfl
 f125 := Try.func30.trans (congrArg some (by kernel_rfl))
 f128 := Try.func43.trans (congrArg some (by kernel_rfl))
 f129 := Try.func44.trans (congrArg some (by kernel_rfl))
 t3 := Try.underlying3
 a3 := Try.isAgg3
 z3 := Try.sizeOf3
 v3 := Try.zeroValue3
 t4 := Try.underlying4
 a4 := Try.isAgg4
 z4 := Try.sizeOf4
 v4 := Try.zeroValue4
 t5 := Try.underlying5
 a5 := Try.isAgg5
 z5 := Try.sizeOf5
 v5 := Try.zeroValue5
 t9 := Try.underlying9
 a9 := Try.isAgg9
 z9 := Try.sizeOf9
 v9 := Try.zeroValue9
 t46 := Try.underlying67
 a46 := Try.isAgg67
 z46 := Try.sizeOf67
 v46 := Try.zeroValue67
 t51 := Try.underlying79
 a51 := Try.isAgg79
 z51 := Try.sizeOf79
 v51 := Try.zeroValue79
 t53 := Try.underlying81
 a53 := Try.isAgg81
 z53 := Try.sizeOf81
 v53 := Try.zeroValue81 }
theorem laid_bits_Len (x : Int) (w : World) (h0 : 0 ≤ x) (h1 : x ≤ 18446744073709551615) :
  Calls Try.prog 30 #[.int .u64 x] w fun e w' => e = .returned (.int .i64 (Lib.bitLen x.toNat)) ∧ w' = w := Any.bits_Len laid_lays125 x w h0 h1
set_option maxHeartbeats 4000000 in
set_option maxRecDepth 100000 in
theorem slices_SortFunc_int_int.calls12 (A : Option Addr) (n cap : Nat) (fv : Value) (w : World) (hn : n ≤ 12) (Q : Ending → World → Prop) (h : Calls Try.prog 35 #[.slice A n cap, .int .i64 0, .int .i64 (n : Int), fv] w fun e w' => e = .returned (.tuple #[]) ∧ Q (.returned (.tuple #[])) w') :
  Calls Try.prog 23 #[.slice A n cap, fv] w fun e w' => e = .returned (.tuple #[]) ∧ Q (.returned (.tuple #[])) w' := by
 have HN := Aside0.mk hn
 have hu : IntKind.u64.wrap (n : Int) = (n : Int) := by simp [IntKind.wrap, IntKind.bits, IntKind.signed]; omega
 clear hn
 go_enter Try.func23, Try.ntmps23
 go_wp2_with fail
 refine (laid_bits_Len (n : Int) w (by omega) (by have := HN.out; omega)).mono ?_
 rintro e W1 ⟨rfl, rfl⟩
 go_wp2_with fail
 refine (slices_pdqsortCmpFunc_int.calls A n cap _ fv _ HN.out Q h).mono ?_
 rintro e W2 ⟨rfl, hq⟩
 have HQ := Aside0.mk hq
 clear hq h
 go_wp2
 go_end0
 exact ⟨rfl, HQ.out⟩
end


end Go.Proofs.Ytcfnijeplaibeaa.PWheelOnce

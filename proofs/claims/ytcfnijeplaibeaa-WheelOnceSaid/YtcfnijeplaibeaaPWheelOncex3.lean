-- Laid by this claim's own program over the print's words.
import Derived.Maps.OwnOps
import Derived.Maps.Views
import Derived.Test.YtcfnijeplaibeaaPWheelOncex0
import Derived.Test.YtcfnijeplaibeaaPWheelOncex1
import Derived.Test.YtcfnijeplaibeaaPWheelOncex2
namespace Go.Proofs.Ytcfnijeplaibeaa.PWheelOnce
open Go.RowKit Go.Proofs.YtcfnijeplaibeaaW.PrintWords Go.Proofs.YtcfnijeplaibeaaW.PrintLast Go.Proofs.YtcfnijeplaibeaaW.PrintMore
attribute [local go_sem] max2_int min2_int max_two min_two max_three min_three max_four min_four max_five min_five extract_cut tmod_nat_lit   -- for this text's walks alone
set_option linter.unusedVariables false
set_option linter.unusedSimpArgs false


/-! ### wheel_Wheel_Go: function 11 (by hand) -/
-- over wheel_Wheel_Set.calls wheel_Wheel_Set.callsR
theorem WAt.slot {w : World} {lo hi g c : Nat} {s : WS} (h : WAt w lo hi g c s) {i : Nat} (hi64 : i < 64) : ∃ t, w.cell? ⟨g, 2 + i, none⟩ = some (.map (some t)) ∧ SlotAt w t c ∧ (lo ≤ t ∧ t < hi) ∧ ∀ w' c', c ≤ c' → w.grownBy w' (some t) → SlotAt w' t c' → WAt w' lo hi g c' s := by
 obtain ⟨ma, ts, hX, hL, hM, hOK, hTS, hR⟩ := h
 have hil : i < ts.length := by omega
 have hm := List.getElem_mem hil
 refine ⟨ts[i], ?_, (hTS _ hm).1, (hTS _ hm).2.2, fun w' c' hc hg hs => ?_⟩
 ·rw [blk_cell hX (2 + i), Nat.add_comm]; exact tcell_get hil s.now ma
 ·exact ⟨ma, ts, WAt.cells hX (hTS _ hm).1.map hg, hL, hM.same (hg.block ma hM.lt (fun e => (hTS _ hm).2.1 (Option.some.inj e).symm)), hOK, slots_grown (fun t ht => ⟨(hTS t ht).1.mono hc, (hTS t ht).2⟩) hg (.inl hs), hR⟩
theorem WAt.atmap {w : World} {lo hi g c : Nat} {s : WS} (h : WAt w lo hi g c s) : ∃ ma, w.cell? ⟨g, 1, none⟩ = some (.map (some ma)) ∧ MapAt w ma s.m ∧ (lo ≤ ma ∧ ma < hi) ∧ ∀ w' m', w.grownBy w' (some ma) → MapAt w' ma m' → TOk m' → WAt w' lo hi g c { s with m := m' } := by
 obtain ⟨ma, ts, hX, hL, hM, hOK, hTS, hR⟩ := h
 exact ⟨ma, blk_cell hX 1, hM, hR.2.2, fun w' m' hg hm hok => ⟨ma, ts, WAt.cells hX hM.map hg, hL, hm, hok, slots_grown hTS hg (.inr (fun hm => (hTS ma hm).2.1 rfl)), hR⟩⟩
theorem WAt.tok {w : World} {lo hi g c : Nat} {s : WS} (h : WAt w lo hi g c s) : TOk s.m := h.choose_spec.choose_spec.2.2.2.1
theorem WAt.kd {w : World} {lo hi g c : Nat} {s : WS} (h : WAt w lo hi g c s) : KD s.m := h.choose_spec.choose_spec.2.2.1.kd
theorem WAt.setnow {w : World} {lo hi g c : Nat} {s : WS} (h : WAt w lo hi g c s) (now : Int) : WAt (w.setCell ⟨g, 0, none⟩ (.int .i64 now)) lo hi g c { s with now := now } := by
 obtain ⟨ma, ts, hX, hL, hM, hOK, hTS, hR⟩ := h
 have hne : ∀ k, k ≠ g → (w.setCell ⟨g, 0, none⟩ (.int .i64 now)).heap[k]? = w.heap[k]? := fun k hk => heap_setCell_other _ _ _ _ hk
 exact ⟨ma, ts, blk_put hX 0 (.int .i64 now) rfl, hL, hM.same (hne ma (cells_ne_map hX hM.map).symm), hOK, fun t ht => ⟨(hTS t ht).1.same (hne t (cells_ne_map hX (hTS t ht).1.map).symm), (hTS t ht).2⟩, hR⟩
theorem WAt.cell0 {w : World} {lo hi g c : Nat} {s : WS} (h : WAt w lo hi g c s) : w.cell? ⟨g, 0, none⟩ = some (.int .i64 s.now) ∧ w.frozen? ⟨g, 0, none⟩ = false ∧ lo ≤ g ∧ g < hi := by
 obtain ⟨ma, ts, hX, hL, hM, hOK, hTS, hR⟩ := h
 exact ⟨blk_cell hX 0, blk_frozen hX 0, hR.1, hR.2.1⟩
theorem WAt.grown {w w' : World} {lo hi g c : Nat} {row : Option Nat} {s : WS} (h : WAt w lo hi g c s) (hg : w.grownBy w' row) (hr : ∀ r, row = some r → hi ≤ r) (hh : hi ≤ w.heap.size) : WAt w' lo hi g c s := h.keep (fun k _ h2 => hg.block k (by omega) (fun e => by have := hr k e.symm; omega))
theorem KeepI.new {lo hi : Nat} {w a b : World} {row : Option Nat} (h : KeepI lo hi w a) (hg : a.grownBy b row) (hr : ∀ r, row = some r → w.heap.size ≤ r) : KeepI lo hi w b := ⟨Nat.le_trans h.1 hg.size, fun k hk hc => (hg.block k (Nat.lt_of_lt_of_le hk h.1) (fun e => by have := hr k e.symm; omega)).trans (h.2 k hk hc)⟩
theorem run_clear_map {P : Program} {w : World} {t ty k e : TypeId} {b : Nat} {es : Array MapEntry} {c : Nat} (ht : P.underlying t = some (.map k e)) (hb : w.heap[b]? = some (.map es c)) : (Builtin.clear_ #[t] ty #[.map (some b)]).run P w = .ok (.tuple #[]) (Go.ChangeMaps.setBlock w b (.map #[] c)) := by
 simp [Builtin.clear_, run_underlying ht, Go.MapKept.run_getObj_map hb, Go.MapKept.run_setObj_map _ hb, Result.andThen, Go.ChangeMaps.setBlock]
theorem clear_own {w : World} {k : TypeId} {R : Value → Option (DU × List MemPlace)} {b n : Nat} {E : DU} {t e ty : TypeId} (ht : Try.prog.underlying t = some (.map k e)) (h : w.ownsMap Try.prog k R b n E) : ∃ w', (Builtin.clear_ #[t] ty #[.map (some b)]).run Try.prog w = .ok (.tuple #[]) w' ∧ w'.ownsMap Try.prog k R b 0 (.map []) ∧ w.grownBy w' (some b) := by
 obtain ⟨es, c, hb, F, hs, rfl⟩ := h
 refine ⟨_, run_clear_map ht hb, ⟨#[], c, Go.ChangeMaps.heap_setBlock_same hb _, ⟨by simp, by have := F.stamped; exact ⟨by simp, by simp⟩, by simp⟩, Nat.le_refl _, rfl⟩, ?_⟩
 exact ⟨rfl, rfl, rfl, by simp [Go.ChangeMaps.setBlock], fun i _ hi => Go.ChangeMaps.heap_setBlock_other hb _ (fun e => hi (by rw [e]))⟩
theorem MapAt.clear {w : World} {b : Nat} {m : List (Int × Int)} (h : MapAt w b m) (ty : TypeId) : ∃ w', (Builtin.clear_ #[28] ty #[.map (some b)]).run Try.prog w = .ok (.tuple #[]) w' ∧ MapAt w' b [] ∧ w.grownBy w' (some b) := by
 obtain ⟨E, hE, hr⟩ := h
 obtain ⟨w', h1, h2, h3⟩ := clear_own (ty := ty) Try.underlying28 hE
 exact ⟨w', h1, ⟨.map [], h2, MReads.nil⟩, h3⟩
theorem SlotAt.clear {w : World} {b c : Nat} (h : SlotAt w b c) (ty : TypeId) : ∃ w', (Builtin.clear_ #[52] ty #[.map (some b)]).run Try.prog w = .ok (.tuple #[]) w' ∧ SlotAt w' b c ∧ w.grownBy w' (some b) := by
 obtain ⟨n, E, hn, hE⟩ := h
 obtain ⟨w', h1, h2, h3⟩ := clear_own (ty := ty) Try.underlying52 hE
 exact ⟨w', h1, ⟨0, .map [], Nat.zero_le _, h2⟩, h3⟩
def dueK (m : List (Int × Int)) (now : Int) : List Int := (m.filter (fun x => decide (x.2 ≤ now))).map Prod.fst
def lateM (m : List (Int × Int)) (now : Int) : List (Int × Int) := m.filter (fun x => decide (now < x.2))
theorem dueK_snoc (m : List (Int × Int)) (x : Int × Int) (now : Int) : dueK (m ++ [x]) now = dueK m now ++ (if x.2 ≤ now then [x.1] else []) := by
 unfold dueK
 rw [List.filter_append, List.map_append]
 congr 1
 by_cases h : x.2 ≤ now <;> simp [h]
theorem dueK_perm {a b : List (Int × Int)} (h : a.Perm b) (now : Int) : (dueK a now).Perm (dueK b now) := (h.filter _).map _
theorem dueK_mem {m : List (Int × Int)} {now k : Int} : k ∈ dueK m now ↔ ∃ x ∈ m, x.1 = k ∧ x.2 ≤ now := by
 unfold dueK
 simp only [List.mem_map, List.mem_filter, decide_eq_true_eq]
 constructor
 ·rintro ⟨x, ⟨h1, h2⟩, h3⟩; exact ⟨x, h1, h3, h2⟩
 ·rintro ⟨x, h1, h3, h2⟩; exact ⟨x, ⟨h1, h2⟩, h3⟩
theorem perm_delM {m : List (Int × Int)} (h : KD m) {k v : Int} (hk : (k, v) ∈ m) : m.Perm ((k, v) :: delM m k) := by
 induction m with
 | nil => cases hk
 | cons y m ih =>
  obtain ⟨h1, h2⟩ := List.pairwise_cons.1 h
  by_cases e : y.1 = k
  ·have e0 : y = (k, v) := KD.one h List.mem_cons_self hk e
   have hm : hasM m k = false := by
    cases hh : hasM m k with
    | false => rfl
    | true => obtain ⟨z, hz, hz2⟩ := hasM_iff.1 hh; exact absurd (e.trans hz2.symm) (h1 z hz)
   have e1 : delM (y :: m) k = m := by
    have : delM (y :: m) k = delM m k := by unfold delM; simp [e]
    rw [this, delM_none hm]
   rw [e1, e0]
  ·have e1 : delM (y :: m) k = y :: delM m k := by unfold delM; simp [e]
   rw [e1]
   have hk2 : (k, v) ∈ m := by rcases List.mem_cons.1 hk with h3 | h3; exact absurd (by rw [← h3]) e; exact h3
   exact ((ih h2 hk2).cons y).trans (List.Perm.swap _ _ _)
theorem hasM_del {m : List (Int × Int)} {k j : Int} : hasM (delM m k) j = (hasM m j && !(j == k)) := by
 rw [Bool.eq_iff_iff, hasM_iff, Bool.and_eq_true, hasM_iff]
 constructor
 ·rintro ⟨x, hx, rfl⟩; obtain ⟨h1, h2⟩ := delM_mem.1 hx; exact ⟨⟨x, h1, rfl⟩, by simpa using h2⟩
 ·rintro ⟨⟨x, hx, rfl⟩, h2⟩; exact ⟨x, delM_mem.2 ⟨hx, by simpa using h2⟩, rfl⟩
theorem KD.perm {a b : List (Int × Int)} (h : a.Perm b) (k : KD a) : KD b := (h.pairwise_iff (fun hn => Ne.symm hn)).1 k
theorem foldl_delM : ∀ (r : List Int) (m : List (Int × Int)), r.foldl delM m = m.filter (fun x => !(r.contains x.1))
 | [], m => (List.filter_eq_self.2 (fun x _ => by simp)).symm
 | k :: r, m => by
  rw [List.foldl_cons, foldl_delM r, delM, List.filter_filter]
  refine List.filter_congr fun x _ => ?_
  simp only [List.contains_cons, Bool.not_or]
  rw [Bool.and_comm]
theorem drop_due {m : List (Int × Int)} {r : List Int} {now : Int} (hk : KD m) (hr : r.Perm (dueK m now)) : r.foldl delM m = lateM m now := by
 rw [foldl_delM]
 unfold lateM
 refine List.filter_congr fun x hx => ?_
 have h1 : r.contains x.1 = true ↔ x.2 ≤ now := by
  rw [List.contains_iff_mem, hr.mem_iff, dueK_mem]
  constructor
  ·rintro ⟨y, hy, e, h⟩; rw [KD.one hk hy hx e] at h; exact h
  ·intro h; exact ⟨x, hx, rfl, h⟩
 by_cases h : x.2 ≤ now
 ·rw [h1.2 h]; simp; omega
 ·have : r.contains x.1 = false := by cases hc : r.contains x.1 with | false => rfl | true => exact absurd (h1.1 hc) h
  rw [this]; simp; omega
theorem all_due {m : List (Int × Int)} {now : Int} (h : (dueK m now).length = m.length) : lateM m now = [] := by
 unfold dueK at h
 rw [List.length_map, List.length_filter_eq_length_iff] at h
 unfold lateM
 refine List.filter_eq_nil_iff.2 fun x hx => ?_
 have := h x hx
 simp at this ⊢; omega
theorem lateM_ok {m : List (Int × Int)} (h : TOk m) (now : Int) : TOk (lateM m now) := fun x hx => h x (List.mem_filter.1 hx).1
set_option maxHeartbeats 4000000 in
set_option maxRecDepth 100000 in
theorem sort_out (lo hi g c base : Nat) (s : WS) (v : Value) (l : List Int) (w : World) (hI : WAt w lo hi g c s) (hv : ownsAt w base 3 1 v l.length (ints l)) (hn : l.length ≤ 12) (hw : ∀ x ∈ l, wfI x) (hb : hi ≤ base) :
  Calls Try.prog 23 #[v, OrdV g] w fun e w' => e = .returned (.tuple #[]) ∧ ∃ r : List Int, r.Perm l ∧ Srt s.m r r.length ∧ ownsAt w' base 3 1 v l.length (ints r) ∧ WAt w' lo hi g c s ∧ w.grownBy w' v.ownBlock := by
 rcases hv.2 with ⟨rfl, h0⟩ | ⟨b, o, cap, cur, rfl, hb2, _⟩
 ·obtain rfl : l = [] := List.eq_nil_of_length_eq_zero h0
  refine (slices_SortFunc_int_int.calls12 none 0 0 (OrdV g) w (by decide) (fun _ w' => w' = w) ?_).mono ?_
  ·exact (slices_insertionSortCmpFunc_int.calls0 none 0 (OrdV g) w).mono (fun e w' h => h)
  ·rintro e w' ⟨rfl, rfl⟩
   exact ⟨rfl, [], List.Perm.refl _, (fun p q x y _ _ h => by simp at h), hv, hI, rfl, rfl, rfl, Nat.le_refl _, fun _ _ _ => rfl⟩
 ·refine (slices_SortFunc_int_int.calls12 (some ⟨b, o, none⟩) l.length cap (OrdV g) w hn (fun _ w' => ∃ r : List Int, r.Perm l ∧ Srt s.m r r.length ∧ ownsAt w' base 3 1 (.slice (some ⟨b, o, none⟩) l.length cap) l.length (ints r) ∧ WAt w' lo hi g c s ∧ w.grownBy w' (some b)) ?_).mono ?_
  ·exact slices_insertionSortCmpFunc_int.calls lo hi g c b o cap base s l w hI hv (by omega) hw (by omega)
  ·rintro e w' ⟨rfl, h⟩
   exact ⟨rfl, h⟩
set_option maxHeartbeats 4000000 in
set_option maxRecDepth 100000 in
theorem wheel_Wheel_Go.bad (lo hi g c : Nat) (s : WS) (now : Int) (w : World) (hI : WAt w lo hi g c s) (hb : now < s.now ∨ 1099511627776 < now) :
  Calls Try.prog 11 #[.pointer (some ⟨g, 0, none⟩), .int .i64 now] w fun e w' => e = .returned (.tuple #[.slice none 0 0, .int .i64 1]) ∧ w' = w := by
 have hc0 := hI.cell0.1
 by_cases h1 : now < s.now
 ·have d1 : decide (now < s.now) = true := decide_eq_true h1
  clear hI hb h1
  go_enter Try.func11, Try.ntmps11
  go_wp2
  go_ret2
  exact ⟨rfl, rfl⟩
 ·have d1 : decide (now < s.now) = false := decide_eq_false h1
  have d2 : decide (1099511627776 < now) = true := decide_eq_true (by omega)
  clear hI hb h1
  go_enter Try.func11, Try.ntmps11
  go_wp2
  go_ret2
  exact ⟨rfl, rfl⟩
set_option maxHeartbeats 4000000 in
set_option maxRecDepth 100000 in
theorem wheel_Wheel_Go.calls (lo hi g c : Nat) (s : WS) (now : Int) (w0 w : World) (hI : WAt w lo hi g c s) (hB : Below w0.heap.size w0 w) (hlo : w0.heap.size ≤ lo) (hhi : hi ≤ w.heap.size) (h1 : s.now ≤ now) (h2 : now ≤ 1099511627776) (hn : (dueK s.m now).length ≤ 12) (hl : s.m.length ≤ 1000000) :
  Calls Try.prog 11 #[.pointer (some ⟨g, 0, none⟩), .int .i64 now] w fun e w' => ∃ (v : Value) (r : List Int), e = .returned (.tuple #[v, .int .i64 0]) ∧ r.Perm (dueK s.m now) ∧ Srt s.m r r.length ∧ ownsAt w' w.heap.size 3 1 v r.length (ints r) ∧ WAt w' lo hi g c ⟨now, lateM s.m now⟩ ∧ Below w0.heap.size w0 w' ∧ KeepI lo hi w w' := by
 have HLO := Aside0.mk hlo
 have HHI := Aside0.mk hhi
 have HDL := Aside0.mk hn
 have HML := Aside0.mk hl
 have hc0 := hI.cell0.1
 have hf0 := hI.cell0.2.1
 have HGR := Aside0.mk hI.cell0.2.2
 have HI := Aside0.mk (hI.setnow now)
 have HB := Aside0.mk (show Below w0.heap.size w0 (w.setCell ⟨g, 0, none⟩ (.int .i64 now)) from below_set hB (by have := hI.cell0.2.2; omega))
 have HK := Aside0.mk (KeepI.set lo hi hI.cell0.2.2.1 hI.cell0.2.2.2 0 w (.int .i64 now))
 have HHI1 := Aside0.mk (show hi ≤ (w.setCell ⟨g, 0, none⟩ (.int .i64 now)).heap.size by rw [setCell_size_]; exact hhi)
 have HWS := Aside0.mk (show w.heap.size ≤ (w.setCell ⟨g, 0, none⟩ (.int .i64 now)).heap.size by rw [setCell_size_]; exact Nat.le_refl _)
 have d1 : decide (now < s.now) = false := decide_eq_false (by omega)
 have d2 : decide (1099511627776 < now) = false := decide_eq_false (by omega)
 clear hI hB hlo hhi hn hl h1 h2
 go_enter Try.func11, Try.ntmps11
 go_upto_region 5 with fail
 clear hc0 hf0 d1 d2
 generalize w.setCell ⟨g, 0, none⟩ (.int .i64 now) = W1 at HI HB HK HHI1 HWS ⊢
 obtain ⟨ma, hc1, hM, hmr, hclose⟩ := HI.out.atmap
 dsimp only at hM hclose
 have HMR := Aside0.mk hmr
 have HKD := Aside0.mk hM.kd
 have HOK := Aside0.mk (show TOk s.m from HI.out.tok)
 obtain ⟨E, hE, hrd⟩ := hM
 have HRD := Aside0.mk hrd
 clear hmr hclose hrd
 go_wp2_with (first | ((with_reducible refine gate_dst (N := 30) rfl ?_); refine stop_ ?_))
 unfold Stop_
 refine wpList_range_own _ rfl _ 28 rfl 3 3 mkeyed_ Try.underlying28 (plainElem Try.prog 3) ma s.m.length E rfl hE ?_
 intro W2 hrg hgr hsz
 have HRG := Aside0.mk hrg
 have HI2 := Aside0.mk (HI.out.grown hgr (fun r e => by cases e) HHI1.out)
 have HB2 := Aside0.mk (below_of_grown HB.out hgr HB.out.size (fun g e => by cases e))
 have HK2 := Aside0.mk (HK.out.new hgr (fun r e => by cases e))
 have HSZ := Aside0.mk hsz
 clear hc1 hE hrg hgr hsz HI HB HK
 obtain ⟨rb, hrb⟩ : ∃ r_, W1.heap.size = r_ := ⟨_, rfl⟩
 rw [hrb] at HRG HSZ HHI1 HWS ⊢
 clear hrb
 obtain ⟨B0, hB0⟩ : ∃ b_, W2.heap.size = b_ := ⟨_, rfl⟩
 rw [hB0] at HSZ
 have HB0 := Aside0.mk (show B0 ≤ W2.heap.size by omega)
 clear hB0
 go_wp2_with fail
 go_frame
 have hl0 : (⟨.map [], 0⟩ : DU × Nat).2 = 0 := rfl
 go_loopg [6] s.m.length (fun kq v6 W => ∃ (acc : List Int) (done rest : List (Int × Int)) (left : Lit → Bool) (cnt : Nat) (A6 : Option Addr) (c6 : Nat), v6 = .slice A6 acc.length c6 ∧ Aside0 (kq = rest.length ∧ (done ++ rest).Perm s.m ∧ acc = dueK done now ∧ ∀ k, left (.int .i64 k) = hasM rest k) ∧ Aside0 (W.ranges Try.prog 3 (plainElem Try.prog 3) ma rb s.m.length E left cnt) ∧ Aside0 (ownsAt W B0 3 1 (.slice A6 acc.length c6) acc.length (ints acc)) ∧ Aside0 (WAt W lo hi g c ⟨now, s.m⟩) ∧ Aside0 (Below w0.heap.size w0 W) ∧ Aside0 (KeepI lo hi w W) ∧ Aside0 (B0 ≤ W.heap.size))
 case atStart => exact ⟨[], [], s.m, _, _, none, 0, rfl, ⟨rfl, List.Perm.refl _, rfl, fun k => HRD.out.has k⟩, HRG, ⟨ownsAt_nil _ _ _ _⟩, HI2, HB2, HK2, HB0⟩
 case round =>
  clear HRG HI2 HB2 HK2 HB0 hl0
  obtain ⟨acc, done, rest, left, cnt, A6, c6, rfl, HJ, HRG, HV, HI, HB, HK, HB0⟩ := hrel
  go_wp2_with (first | ((with_reducible refine gate_dst (N := 31) rfl ?_); refine stop_ ?_))
  unfold Stop_
  refine wpList_next_ranges_ii _ rfl _ rfl 3 3 .i64 .i64 mkeyed_ Try.underlying3 Try.underlying3 ma rb s.m.length E left cnt rfl HRG.out ?_ ?_
  ·intro hcn hall
   have hrest : rest = [] := by
    cases rest with
    | nil => rfl
    | cons y rest =>
     have h := HJ.out.2.2.2 y.1
     rw [hall] at h
     have : hasM (y :: rest) y.1 = true := hasM_iff.2 ⟨y, List.mem_cons_self, rfl⟩
     rw [this] at h; cases h
   subst hrest
   have HP := Aside0.mk (show acc.Perm (dueK s.m now) by rw [HJ.out.2.2.1]; have := HJ.out.2.1; rw [List.append_nil] at this; exact dueK_perm this now)
   clear hcn hall HRG HJ
   have HACC := Aside0.mk (show acc.length ≤ 12 ∧ ∀ x ∈ acc, wfI x from ⟨by rw [HP.out.length_eq]; exact HDL.out, fun x hx => by obtain ⟨y, hy, e, _⟩ := dueK_mem.1 (HP.out.mem_iff.1 hx); rw [← e]; exact (HOK.out.wf y hy).1⟩)
   go_wp2_with fail
   refine (sort_out lo hi g c B0 ⟨now, s.m⟩ (.slice A6 acc.length c6) acc _ HI.out HV.out HACC.out.1 HACC.out.2 (by have := HSZ.out; have := HHI1.out; omega)).mono ?_
   rintro e W4 ⟨rfl, r, hp, hs, hv, hI4, hg4⟩
   have HR := Aside0.mk hp
   have HS := Aside0.mk hs
   have HV4 := Aside0.mk hv
   have HI4 := Aside0.mk hI4
   have HB4 := Aside0.mk (below_of_grown HB.out hg4 HB.out.size (fun b hb => by have := (ownsAt_block HV.out hb).1; have := HSZ.out; have := HHI1.out; have := HLO.out; have := HGR.out; omega))
   have HK4 := Aside0.mk (HK.out.new hg4 (fun b hb => by have := (ownsAt_block HV.out hb).1; have := HSZ.out; have := HWS.out; omega))
   clear hp hs hv hI4 hg4 HV HI HB HK HB0
   dsimp only at HS
   obtain ⟨ma2, hc1, hM2, hmr2, hcl2⟩ := HI4.out.atmap
   have hln := hM2.len 3
   dsimp only at hln
   clear hM2 hmr2 hcl2
   have HRL := Aside0.mk (show r.length = acc.length from HR.out.length_eq)
   have HRD2 := Aside0.mk (HR.out.trans HP.out)
   have HB0w := Aside0.mk (show w.heap.size ≤ B0 by have := HSZ.out; have := HWS.out; omega)
   have HB0h := Aside0.mk (show hi ≤ B0 by have := HSZ.out; have := HHI1.out; omega)
   by_cases heq : acc.length = s.m.length
   ·have b1 : ((acc.length : Int) == (s.m.length : Int)) = true := by rw [heq]; simp
    have HLATE := Aside0.mk (show lateM s.m now = [] from all_due (by rw [← HP.out.length_eq]; exact heq))
    clear heq
    go_wp2_with fail
    clear b1 hln hc1
    go_loopg [55] 64 (fun kq v55 W => ∃ (i : Nat) (iz : Int), v55 = .int .i64 iz ∧ Aside0 (iz = (i : Int) ∧ kq + i = 64) ∧ Aside0 (ownsAt W B0 3 1 (.slice A6 acc.length c6) acc.length (ints r)) ∧ Aside0 (WAt W lo hi g c ⟨now, s.m⟩) ∧ Aside0 (Below w0.heap.size w0 W) ∧ Aside0 (KeepI lo hi w W))
    case atStart => exact ⟨0, 0, rfl, ⟨rfl, rfl⟩, HV4, HI4, HB4, HK4⟩
    case round =>
     clear HV4 HI4 HB4 HK4
     obtain ⟨i, iz, rfl, HJ, HV, HI, HB, HK⟩ := hrel
     have hj := HJ.out
     by_cases hlt : iz < 64
     ·have d1 : decide (iz < 64) = true := decide_eq_true hlt
      obtain ⟨k1, rfl⟩ : ∃ k1, gk = k1 + 1 := ⟨gk - 1, by omega⟩
      obtain ⟨t, hz, hS, ht, hcl⟩ := HI.out.slot (i := i) (by omega)
      obtain ⟨W5, hrun, hS5, hg5⟩ := hS.clear 0
      have HI5 := Aside0.mk (hcl W5 c (Nat.le_refl _) hg5 hS5)
      have HV5 := Aside0.mk (ownsAt_kept HV.out (w' := W5) (fun b cur hb hc => hg5.block b (blk_lt hc) (fun e => by have := (ownsAt_block HV.out hb).1; have := HB0h.out; have := Option.some.inj e; omega)))
      have HB5 := Aside0.mk (below_grown HB.out hg5 HB.out.size (by have := HLO.out; omega))
      have HK5 := Aside0.mk (HK.out.trans (KeepI.of_grown hg5 ht.1 ht.2))
      have hn : wrap64 (iz + 1) = ((i + 1 : Nat) : Int) := by rw [w64p (by omega) (by omega)]; omega
      have HN := Aside0.mk hn
      have p0 : 0 ≤ iz := by omega
      have tn : iz.toNat = i := by omega
      replace p0 := eq_true p0
      replace hlt := eq_true hlt
      clear hS ht hcl hS5 hg5 hn hj HV HI HB HK
      go_wp2
      go_roundg k1
      case measure => omega
      case rel => exact ⟨i + 1, _, rfl, ⟨HN.out, by have := HJ.out; omega⟩, HV5, HI5, HB5, HK5⟩
     ·have d1 : decide (iz < 64) = false := decide_eq_false hlt
      clear hlt hj HJ
      obtain ⟨ma3, hc1, hM3, hmr3, hcl3⟩ := HI.out.atmap
      obtain ⟨W6, hrun, hM6, hg6⟩ := hM3.clear 0
      have HI6 := Aside0.mk (hcl3 W6 [] hg6 hM6 (fun _ h => nomatch h))
      have HV6 := Aside0.mk (ownsAt_kept HV.out (w' := W6) (fun b cur hb hc => hg6.block b (blk_lt hc) (fun e => by have := (ownsAt_block HV.out hb).1; have := HB0h.out; have := Option.some.inj e; omega)))
      have HB6 := Aside0.mk (below_grown HB.out hg6 HB.out.size (by have := HLO.out; omega))
      have HK6 := Aside0.mk (HK.out.trans (KeepI.of_grown hg6 hmr3.1 hmr3.2))
      clear hM3 hmr3 hcl3 hM6 hg6 HV HI HB HK
      go_wp2
      go_ret2
      exact ⟨_, rfl, r, HRD2.out, HS.out, by rw [HRL.out]; exact ownsAt_base HV6.out HB0w.out, by rw [HLATE.out]; exact HI6.out, HB6.out, HK6.out⟩
   ·have b1 : ((acc.length : Int) == (s.m.length : Int)) = false := by simp; omega
    clear heq
    go_wp2_with fail
    clear b1 hln hc1
    go_loopg [72] acc.length (fun kq v72 W => ∃ (j : Nat) (jz : Int), v72 = .int .i64 jz ∧ Aside0 (jz = (j : Int) ∧ kq + j = acc.length) ∧ Aside0 (ownsAt W B0 3 1 (.slice A6 acc.length c6) acc.length (ints r)) ∧ Aside0 (WAt W lo hi g c ⟨now, (r.take j).foldl delM s.m⟩) ∧ Aside0 (Below w0.heap.size w0 W) ∧ Aside0 (KeepI lo hi w W))
    case atStart => exact ⟨0, 0, rfl, ⟨rfl, rfl⟩, HV4, HI4, HB4, HK4⟩
    case round =>
     clear HV4 HI4 HB4 HK4
     obtain ⟨j, jz, rfl, HJ, HV, HI, HB, HK⟩ := hrel
     have hj := HJ.out
     by_cases hlt : jz < (acc.length : Int)
     ·have d1 : decide (jz < (acc.length : Int)) = true := decide_eq_true hlt
      obtain ⟨k1, rfl⟩ : ∃ k1, gk = k1 + 1 := ⟨gk - 1, by omega⟩
      have hjl : j < r.length := by rw [HRL.out]; omega
      obtain ⟨x, hx⟩ : ∃ x_, r[j]? = some x_ := ⟨_, List.getElem?_eq_getElem hjl⟩
      obtain ⟨b_, o_, eb, hcells⟩ := ownsAt_cells HV.out (by omega)
      subst eb
      have hq := hcells _ _ (ints_get hx)
      have HWX := Aside0.mk (HACC.out.2 x (HR.out.mem_iff.1 (List.mem_of_getElem? hx)))
      have HTK := Aside0.mk (show (r.take (j + 1)).foldl delM s.m = delM ((r.take j).foldl delM s.m) x by rw [List.take_add_one, hx, List.foldl_append]; rfl)
      have hn : wrap64 (jz + 1) = ((j + 1 : Nat) : Int) := by have := HACC.out.1; rw [w64p (by omega) (by omega)]; omega
      have HN := Aside0.mk hn
      have p0 : 0 ≤ jz := by omega
      have tn : jz.toNat = j := by omega
      replace p0 := eq_true p0
      replace hlt := eq_true hlt
      clear hcells hx hjl hn hj
      go_wp2_with fail
      refine (wheel_Wheel_Drop.calls lo hi g c ⟨now, (r.take j).foldl delM s.m⟩ x w0 _ HI.out HB.out HLO.out HWX.out).mono ?_
      obtain ⟨rv, hrv⟩ : ∃ r_ : Int, (if hasM (WS.mk now ((r.take j).foldl delM s.m)).m x = true then 0 else 5) = r_ := ⟨_, rfl⟩
      rw [hrv]
      clear hrv
      rintro e W5 ⟨rfl, hI5, hB5, hK5⟩
      have HV5 := Aside0.mk (ownsAt_kept HV.out (w' := W5) (fun b cur hb hc => hK5.2 b (blk_lt hc) (.inr (by have := (ownsAt_block HV.out hb).1; have := HB0h.out; omega))))
      have HI5 := Aside0.mk (show WAt W5 lo hi g c ⟨now, (r.take (j + 1)).foldl delM s.m⟩ by rw [HTK.out]; exact hI5)
      have HB5 := Aside0.mk hB5
      have HK5 := Aside0.mk (HK.out.trans hK5)
      clear hI5 hB5 hK5 HV HI HB HK hq
      go_wp2
      go_roundg k1
      case measure => omega
      case rel => exact ⟨j + 1, _, rfl, ⟨HN.out, by have := HJ.out; omega⟩, HV5, HI5, HB5, HK5⟩
     ·have d1 : decide (jz < (acc.length : Int)) = false := decide_eq_false hlt
      have HI5 := Aside0.mk (show WAt wr lo hi g c ⟨now, lateM s.m now⟩ by have h := HI.out; rw [List.take_of_length_le (by rw [HRL.out]; omega), drop_due HKD.out HRD2.out] at h; exact h)
      clear hlt hj HI
      go_wp2
      go_ret2
      exact ⟨_, r, rfl, HRD2.out, HS.out, by rw [HRL.out]; exact ownsAt_base HV.out HB0w.out, HI5.out, HB.out, HK.out⟩
  ·intro x xc W3 cnt2 hwx hwc hlx hat hrg3 hlt hgr3 hsz3 hen
   have hmem : (x, xc) ∈ rest := by
    have h1 := HJ.out.2.2.2 x
    rw [hlx] at h1
    have hkr : KD rest := by have := KD.perm HJ.out.2.1.symm HKD.out; unfold KD at *; exact (List.pairwise_append.1 this).2.1
    have h2 := hasM_get hkr h1.symm
    have h3 : (x, getM rest x) ∈ s.m := HJ.out.2.1.mem_iff.1 (List.mem_append_right _ h2)
    have h4 := HRD.out.at_ x
    rw [hat] at h4
    injection h4 with h4
    injection h4 with _ h4
    rw [getM_of HKD.out h3] at h4
    rw [h4]; exact h2
   have hkr : KD rest := by have := KD.perm HJ.out.2.1.symm HKD.out; unfold KD at *; exact (List.pairwise_append.1 this).2.1
   have hpr := perm_delM hkr hmem
   have HX := Aside0.mk (HOK.out.wf _ (HJ.out.2.1.mem_iff.1 (List.mem_append_right _ hmem)))
   obtain ⟨k1, hk1⟩ : ∃ k1, (delM rest x).length = k1 ∧ gk = k1 + 1 := ⟨_, rfl, by rw [HJ.out.1, hpr.length_eq]; rfl⟩
   have HK1 := Aside0.mk hk1.1
   obtain rfl := hk1.2
   have HJ2 := Aside0.mk (show ((done ++ [(x, xc)]) ++ delM rest x).Perm s.m by rw [List.append_assoc]; exact (List.Perm.append_left done hpr.symm).trans HJ.out.2.1)
   have HJ3 := Aside0.mk (show ∀ k, (fun z => left z && !z.sameKey (.int .i64 x)) (.int .i64 k) = hasM (delM rest x) k from fun k => by show (left _ && !(Lit.int .i64 k).sameKey (.int .i64 x)) = _; rw [HJ.out.2.2.2 k, key_same, hasM_del])
   have HJ4 := Aside0.mk (show dueK (done ++ [(x, xc)]) now = acc ++ (if xc ≤ now then [x] else []) by rw [dueK_snoc, ← HJ.out.2.2.1])
   have HACL := Aside0.mk (show acc.length ≤ 12 by
    have h1 := (dueK_perm HJ.out.2.1 now).length_eq
    have h2 : (dueK (done ++ rest) now).length = (dueK done now).length + (dueK rest now).length := by unfold dueK; rw [List.filter_append, List.map_append, List.length_append]
    rw [HJ.out.2.2.1]; have := HDL.out; omega)
   have HB0h := Aside0.mk (show hi ≤ rb ∧ B0 = rb + 1 ∧ w.heap.size ≤ rb ∧ ma < hi by have := HSZ.out; have := HHI1.out; have := HWS.out; have := HMR.out; omega)
   have HRG3 := Aside0.mk hrg3
   have HI3 := Aside0.mk (HI.out.grown hgr3 (fun r e => by rw [← Option.some.inj e]; exact HB0h.out.1) (by have := HB0.out; have := HB0h.out; omega))
   have HV3 := Aside0.mk (ownsAt_kept HV.out (w' := W3) (fun b cur hb hc => hgr3.block b (blk_lt hc) (fun e => by have := (ownsAt_block HV.out hb).1; have := HB0h.out; have := Option.some.inj e; omega)))
   have HB3 := Aside0.mk (below_grown HB.out hgr3 HB.out.size (by have := HB0h.out; have := HLO.out; have := HGR.out; omega))
   have HK3 := Aside0.mk (HK.out.new hgr3 (fun r e => by rw [← Option.some.inj e]; exact HB0h.out.2.2.1))
   have HB03 := Aside0.mk (show B0 ≤ W3.heap.size by have := HB0.out; omega)
   clear hwx hwc hlx hat hrg3 hlt hgr3 hsz3 hmem hkr hpr hk1 HRG HI HV HB HK HB0
   by_cases hdue : xc ≤ now
   ·have d1 : decide (xc ≤ now) = true := decide_eq_true hdue
    have HJ5 := Aside0.mk (show acc ++ [x] = dueK (done ++ [(x, xc)]) now by rw [HJ4.out, if_pos hdue])
    have hb := below_alloc (Below.refl W3.heap.size W3) (Obj.cells #[.int .i64 x] 3)
    have HLT := Aside0.mk (ownsAt_lit W3 #[.int .i64 x] 3 1 1 rfl (by decide))
    have HV4 := Aside0.mk (ownsAt_below HV3.out hb)
    have HI4 := Aside0.mk (HI3.out.below hb)
    have HB4 := Aside0.mk (below_step HB3.out hb)
    have HK4 := Aside0.mk (HK3.out.trans (KeepI.of_below hb))
    have HRG4 := Aside0.mk (HRG3.out.alloc (Obj.cells #[.int .i64 x] 3))
    have HZ := Aside0.mk (show B0 ≤ (W3.alloc (Obj.cells #[.int .i64 x] 3)).heap.size from Nat.le_trans HB03.out hb.size)
    clear hdue hb HV3 HI3 HB3 HK3 HRG3
    go_wp2_with (first | ((with_reducible refine gate_dst (N := 42) rfl ?_); refine wl_append 35 3 (.int .i64 0) 1 8 rfl rfl Try.underlying35 (by kernel_rfl) rfl (by decide) (v := .slice A6 acc.length c6) rfl rfl HV4.out HLT.out rfl (by have := HACL.out; simp only [maxLen]; omega) (by have := HACL.out; omega) HZ.out (fun v9 W9 hv9 hg9 hr9 => ?_); have HV9 := Aside0.mk hv9; have HG9 := Aside0.mk hg9; clear hv9 hg9 hr9; obtain ⟨A9, c9, e9, _⟩ := ownsAt_len HV9.out; subst e9))
    have hrow : ∀ b, Value.ownBlock (.slice A6 acc.length c6) = some b → B0 ≤ b := fun b hb => (ownsAt_block HV4.out hb).1
    have HI9 := Aside0.mk (HI4.out.grown HG9.out (fun b hb => by have := hrow b hb; have := HB0h.out; omega) (by have := HZ.out; have := HB0h.out; omega))
    have HB9 := Aside0.mk (below_of_grown HB4.out HG9.out HB4.out.size (fun b hb => by have := hrow b hb; have := HB0h.out; have := HLO.out; have := HGR.out; omega))
    have HK9 := Aside0.mk (HK4.out.new HG9.out (fun b hb => by have := hrow b hb; have := HB0h.out; omega))
    have HRG9 := Aside0.mk (HRG4.out.kept HG9.out (fun e => by have := hrow ma e.symm; have := HB0h.out; omega) (fun e => by have := hrow rb e.symm; have := HB0h.out; omega))
    have HZ9 := Aside0.mk (Nat.le_trans HZ.out HG9.out.size)
    clear hrow
    go_roundg k1
    case measure => omega
    case rel =>
     refine ⟨acc ++ [x], done ++ [(x, xc)], delM rest x, _, cnt2, A9, c9, by rw [List.length_append]; rfl, ⟨HK1.out.symm, HJ2.out, HJ5.out, HJ3.out⟩, HRG9, ⟨?_⟩, HI9, HB9, HK9, HZ9⟩
     have h := HV9.out
     rw [List.length_append, show ints (acc ++ [x]) = ints acc ++ [.int .i64 x] by unfold ints; rw [List.map_append]; rfl]; exact h
   ·have d1 : decide (xc ≤ now) = false := decide_eq_false hdue
    have HJ5 := Aside0.mk (show acc = dueK (done ++ [(x, xc)]) now by rw [HJ4.out, if_neg hdue, List.append_nil])
    clear hdue
    go_wp2
    go_roundg k1
    case measure => omega
    case rel => exact ⟨acc, done ++ [(x, xc)], delM rest x, _, cnt2, A6, c6, rfl, ⟨HK1.out.symm, HJ2.out, HJ5.out, HJ3.out⟩, HRG3, HV3, HI3, HB3, HK3, HB03⟩


/-! ### sternpostbook_SameInts: function 17 -/
def sternpostbook_SameInts.l0 : Nat → List Int → List Int → Int → Option (Bool)
 | 0, _, _, _ => none
 | k + 1, x0, x1, x5 => if x5 < (x0.length : Int) then (if 0 ≤ x5 then (if x5 < (x1.length : Int) then (if (rd x0 x5) = (rd x1 x5) then (sternpostbook_SameInts.l0 k x0 x1 (wrap64 (x5 + 1))) else (some false)) else (none)) else (none)) else (some true)
def sternpostbook_SameInts.f (k : Nat) (l0 : List Int) (l1 : List Int) : Option (Bool) := if (l0.length : Int) = (l1.length : Int) then (sternpostbook_SameInts.l0 k l0 l1 0) else (some false)
theorem sternpostbook_SameInts.mono_l : ∀ k, (∀ y0 y1 y2, LeO (sternpostbook_SameInts.l0 k y0 y1 y2) (sternpostbook_SameInts.l0 (k + 1) y0 y1 y2))
 | 0 => fun _ _ _ r h => by simp [sternpostbook_SameInts.l0] at h
 | k + 1 => by
  have ih0 := sternpostbook_SameInts.mono_l k
  ·intro y0 y1 y2
   unfold sternpostbook_SameInts.l0
   repeat' first
   | (with_reducible exact ih0 _ _ _)
   | (with_reducible exact LeO.refl _)
   | (with_reducible exact LeO.none _)
   | (with_reducible refine LeO.ite ?_ ?_)
   | (with_reducible refine LeO.bind ?_ (fun _ => ?_))
   | exact ih0 _ _ _
   | exact LeO.none _
   | refine LeO.ite ?_ ?_
   | refine LeO.bind ?_ (fun _ => ?_)
theorem sternpostbook_SameInts.mono : ∀ a0 a1 k, LeO (sternpostbook_SameInts.f k a0 a1) (sternpostbook_SameInts.f (k + 1) a0 a1) := by
 intro a0 a1 k
 have ih0 := sternpostbook_SameInts.mono_l k
 unfold sternpostbook_SameInts.f
 repeat' first
   | (with_reducible exact ih0 _ _ _)
   | (with_reducible exact LeO.refl _)
   | (with_reducible exact LeO.none _)
   | (with_reducible refine LeO.ite ?_ ?_)
   | (with_reducible refine LeO.bind ?_ (fun _ => ?_))
   | exact ih0 _ _ _
   | exact LeO.none _
   | refine LeO.ite ?_ ?_
   | refine LeO.bind ?_ (fun _ => ?_)
set_option maxHeartbeats 8000000 in
set_option maxRecDepth 100000 in
theorem sternpostbook_SameInts.calls (k : Nat) (A0 : Option Addr) (c0 : Nat) (l0 : List Int) (A1 : Option Addr) (c1 : Nat) (l1 : List Int) (r : Bool) (w : World) (hr0 : Kd.C (Kd.int .i64) w A0 l0.length l0) (hc0 : l0.length ≤ c0) (hr1 : Kd.C (Kd.int .i64) w A1 l1.length l1) (hc1 : l1.length ≤ c1) (h : sternpostbook_SameInts.f k l0 l1 = some r) :
  Calls Try.prog 17 #[.slice A0 l0.length c0, .slice A1 l1.length c1] w fun e w' => e = .returned (.bool r) ∧ Drawn0 w w' := by
 have HR0 := Aside0.mk hr0
 have HC0 := Aside0.mk hc0
 clear hr0 hc0
 have HR1 := Aside0.mk hr1
 have HC1 := Aside0.mk hc1
 clear hr1 hc1
 have H : (if (l0.length : Int) = (l1.length : Int) then (sternpostbook_SameInts.l0 k l0 l1 0) else (some false)) = some r := h
 clear h
 by_cases c3 : (l0.length : Int) = (l1.length : Int)
 ·rw [if_pos c3] at H
  have c3b0 : ((l0.length : Int) == (l1.length : Int)) = true := beq_iff_eq.mpr c3
  have c3b1 : ((l0.length : Int) != (l1.length : Int)) = false := bne_eq_false_iff_eq.mpr c3
  have c3b2 : (l0.length == l1.length) = true := by first | simpa using c3 | (simp at c3 ⊢; omega)
  clear c3
  have H' := Aside0.mk H
  clear H
  go_enter Try.func17, Try.ntmps17
  go_wp2
  repeat (go_quiet (fail); try go_wp2)
  go_loopg [5] k (fun kq v5 w' => ∃ (x5_1 : Int), v5 = .int .i64 x5_1 ∧ Aside0 (sternpostbook_SameInts.l0 kq l0 l1 x5_1 = some r) ∧ Aside0 (kq ≤ k) ∧ Drawn0 w w')
  case atStart => exact ⟨(0), (by first | rfl | (simp; done) | (simp [*]; done)), H', ⟨Nat.le_refl _⟩, by repeat (first | exact Drawn0.refl _ | apply Drawn0.step)⟩
  case round =>
   clear H'
   try clear c1; try clear p2; try clear c3; try clear c3b0; try clear c3b1; try clear c3b2
   obtain ⟨x5_1, rfl, HA, HK1, ⟨m1, rfl⟩⟩ := hrel
   cases gk with
   | zero => exact absurd HA.out (by simp [sternpostbook_SameInts.l0])
   | succ k1 =>
    have H := HA.out
    clear HA
    simp only [sternpostbook_SameInts.l0] at H
    by_cases c4 : x5_1 < (l0.length : Int)
    ·rw [if_pos c4] at H
     have c4b0 : decide (x5_1 < (l0.length : Int)) = true := decide_eq_true c4
     clear c4
     by_cases c5 : 0 ≤ x5_1
     ·rw [if_pos c5] at H
      have c5b0 : decide (0 ≤ x5_1) = true := decide_eq_true c5
      clear c5
      by_cases c6 : x5_1 < (l1.length : Int)
      ·rw [if_pos c6] at H
       have c6b0 : decide (x5_1 < (l1.length : Int)) = true := decide_eq_true c6
       clear c6
       by_cases c7 : (rd l0 x5_1) = (rd l1 x5_1)
       ·rw [if_pos c7] at H
        have c7b0 : ((rd l0 x5_1) == (rd l1 x5_1)) = true := beq_iff_eq.mpr c7
        have c7b1 : ((rd l0 x5_1) != (rd l1 x5_1)) = false := bne_eq_false_iff_eq.mpr c7
        clear c7
        have H' := Aside0.mk H
        clear H
        have p101 : 0 ≤ (x5_1 : Int) := of_decide_eq_true (by first | (with_reducible assumption) | assumption)
        have q101 : x5_1 < (l0.length : Int) := of_decide_eq_true (by first | (with_reducible assumption) | assumption)
        obtain ⟨ad101, e101, hx101_0⟩ := Kd.at_int HR0.out x5_1 p101 q101
        cases e101
        replace p101 := eq_true p101
        replace q101 := eq_true q101
        have p102 : 0 ≤ (x5_1 : Int) := of_decide_eq_true (by first | (with_reducible assumption) | assumption)
        have q102 : x5_1 < (l1.length : Int) := of_decide_eq_true (by first | (with_reducible assumption) | assumption)
        obtain ⟨ad102, e102, hx102_0⟩ := Kd.at_int HR1.out x5_1 p102 q102
        cases e102
        replace p102 := eq_true p102
        replace q102 := eq_true q102
        go_wp2
        repeat (go_quiet (fail); try go_wp2)
        go_roundg k1
        case measure => have := HK1.out; omega
        case rel => exact ⟨(wrap64 (x5_1 + 1)), (by first | rfl | (simp; done) | (simp [*]; done)), H', ⟨by have := HK1.out; omega⟩, by repeat (first | exact Drawn0.refl _ | apply Drawn0.step)⟩
       ·rw [if_neg c7] at H
        have c7b0 : ((rd l0 x5_1) == (rd l1 x5_1)) = false := beq_eq_false_iff_ne.mpr c7
        have c7b1 : ((rd l0 x5_1) != (rd l1 x5_1)) = true := bne_iff_ne.mpr c7
        obtain rfl := Option.some.inj H
        have p101 : 0 ≤ (x5_1 : Int) := of_decide_eq_true (by first | (with_reducible assumption) | assumption)
        have q101 : x5_1 < (l0.length : Int) := of_decide_eq_true (by first | (with_reducible assumption) | assumption)
        obtain ⟨ad101, e101, hx101_0⟩ := Kd.at_int HR0.out x5_1 p101 q101
        cases e101
        replace p101 := eq_true p101
        replace q101 := eq_true q101
        have p102 : 0 ≤ (x5_1 : Int) := of_decide_eq_true (by first | (with_reducible assumption) | assumption)
        have q102 : x5_1 < (l1.length : Int) := of_decide_eq_true (by first | (with_reducible assumption) | assumption)
        obtain ⟨ad102, e102, hx102_0⟩ := Kd.at_int HR1.out x5_1 p102 q102
        cases e102
        replace p102 := eq_true p102
        replace q102 := eq_true q102
        go_wp2
        repeat (go_quiet (fail); try go_wp2)
        go_ret
        exact ⟨by first | rfl | (simp; done) | (simp [*]; done), by repeat (first | exact Drawn0.refl _ | apply Drawn0.step)⟩
      ·rw [if_neg c6] at H
       exact absurd H (by simp)
     ·rw [if_neg c5] at H
      exact absurd H (by simp)
    ·rw [if_neg c4] at H
     have c4b0 : decide (x5_1 < (l0.length : Int)) = false := decide_eq_false c4
     clear c4
     obtain rfl := Option.some.inj H
     go_wp2
     repeat (go_quiet (fail); try go_wp2)
     go_ret
     exact ⟨by first | rfl | (simp; done) | (simp [*]; done), by repeat (first | exact Drawn0.refl _ | apply Drawn0.step)⟩
 ·rw [if_neg c3] at H
  have c3b0 : ((l0.length : Int) == (l1.length : Int)) = false := beq_eq_false_iff_ne.mpr c3
  have c3b1 : ((l0.length : Int) != (l1.length : Int)) = true := bne_iff_ne.mpr c3
  have c3b2 : (l0.length == l1.length) = false := by first | simpa using c3 | (simp at c3 ⊢; omega)
  obtain rfl := Option.some.inj H
  go_enter Try.func17, Try.ntmps17
  go_wp2
  repeat (go_quiet (fail); try go_wp2)
  go_ret
  exact ⟨by first | rfl | (simp; done) | (simp [*]; done), by repeat (first | exact Drawn0.refl _ | apply Drawn0.step)⟩


/-! ### sternpostlaw14_works: function 7 (by hand) -/
-- over wheel_Wheel_Go.calls wheel_Wheel_Go.callsR sternpostbook_SameInts.calls sternpostbook_SameInts.callsR
theorem ownsAt_ints {w : World} {base : Nat} {e : TypeId} {A : Option Addr} {c : Nat} {l : List Int} (h : ownsAt w base e 1 (.slice A l.length c) l.length (ints l)) : Kd.C (Kd.int .i64) w A l.length l ∧ l.length ≤ c := by
 obtain ⟨A', c', he, hl, hm, _⟩ := ownsAt_len h
 injection he with e1 _ e3
 subst e1 e3
 refine ⟨⟨rfl, by simp only [maxLen] at hm; omega, fun h0 => ?_⟩, hl⟩
 obtain ⟨g, o, hA, hc⟩ := ownsAt_cells h h0
 refine ⟨⟨g, o, none⟩, hA, fun j p hj => ⟨[.int .i64 p], rfl, rfl, fun i u hu => ?_⟩⟩
 have hadd : (⟨g, o, none⟩ : Addr).add (j * 1 + i) = ⟨g, o + (j * 1 + i), none⟩ := by unfold Addr.add; split <;> simp_all
 show w.cell? ((⟨g, o, none⟩ : Addr).add (j * 1 + i)) = some u
 rw [hadd]
 cases i with
 | zero => simp at hu; subst hu; exact hc (j * 1 + 0) _ (by unfold ints; simp [hj])
 | succ i => simp at hu
theorem perm_two {a b : Int} {r : List Int} (h : r.Perm [a, b]) : r = [a, b] ∨ r = [b, a] := by
 have hl := h.length_eq
 match r, hl with
 | [x, y], _ =>
  have hx : x = a ∨ x = b := by have := h.mem_iff.1 (List.mem_cons_self (a := x) (l := [y])); simpa using this
  rcases hx with rfl | rfl
  ·have := List.perm_singleton.1 (List.Perm.cons_inv h)
   rw [this]; exact .inl rfl
  ·have h2 : [y].Perm [a] := List.Perm.cons_inv (h.trans (List.Perm.swap _ _ _))
   rw [List.perm_singleton.1 h2]; exact .inr rfl
theorem own_keepI {lo hi base : Nat} {w w' : World} {e : TypeId} {size n : Nat} {v : Value} {xs : List Value} (h : ownsAt w base e size v n xs) (hk : KeepI lo hi w w') (hb : hi ≤ base) : ownsAt w' base e size v n xs :=
 ownsAt_kept h (fun b cur hbb hc => hk.2 b (blk_lt hc) (.inr (Nat.le_trans hb (ownsAt_block h hbb).1)))
set_option maxHeartbeats 4000000 in
set_option maxRecDepth 100000 in
theorem sternpostlaw14_works.calls (w : World) : Calls Try.prog 7 #[] w fun e w' => e = .returned (.bool true) ∧ Below w.heap.size w w' := by
 go_enter Try.func7, Try.ntmps7
 go_wp2_with fail
 refine (wheel_New.calls 0 w _ (Below.refl _ _) (by decide) (by decide)).mono ?_
 rintro e W1 ⟨g, rfl, hI, hB, _⟩
 obtain ⟨hi, hhi⟩ : ∃ h_, W1.heap.size = h_ := ⟨_, rfl⟩
 rw [hhi] at hI
 have HI := Aside0.mk hI
 have HB := Aside0.mk hB
 have HH := Aside0.mk (show hi ≤ W1.heap.size by omega)
 have HLW := Aside0.mk (show w.heap.size ≤ hi by rw [← hhi]; exact hB.size)
 clear hI hB hhi
 go_wp2_with fail
 refine (wheel_Wheel_Set.calls w.heap.size hi g 0 ⟨0, []⟩ 7 5 w _ HI.out HB.out (Nat.le_refl _) (by decide) (by decide)).mono ?_
 rw [show WS.set ⟨0, []⟩ 7 5 = (⟨0, [(7, 5)]⟩, 0) from rfl]
 rintro e W2 ⟨rfl, hI, hB, hK⟩
 have HH1 := Aside0.mk (Nat.le_trans HH.out hK.1)
 clear HI HB HH hK
 have HI := Aside0.mk (show WAt W2 w.heap.size hi g 1 ⟨0, [(7, 5)]⟩ from hI); have HB := Aside0.mk hB; have HH := HH1; clear hI hB HH1
 go_wp2_with fail
 refine (wheel_Wheel_Set.calls w.heap.size hi g 1 ⟨0, [(7, 5)]⟩ 3 5 w _ HI.out HB.out (Nat.le_refl _) (by decide) (by decide)).mono ?_
 rw [show WS.set ⟨0, [(7, 5)]⟩ 3 5 = (⟨0, [(3, 5), (7, 5)]⟩, 0) from rfl]
 rintro e W3 ⟨rfl, hI, hB, hK⟩
 have HH1 := Aside0.mk (Nat.le_trans HH.out hK.1)
 clear HI HB HH hK
 have HI := Aside0.mk (show WAt W3 w.heap.size hi g 2 ⟨0, [(3, 5), (7, 5)]⟩ from hI); have HB := Aside0.mk hB; have HH := HH1; clear hI hB HH1
 go_wp2_with fail
 refine (wheel_Wheel_Set.calls w.heap.size hi g 2 ⟨0, [(3, 5), (7, 5)]⟩ 9 2 w _ HI.out HB.out (Nat.le_refl _) (by decide) (by decide)).mono ?_
 rw [show WS.set ⟨0, [(3, 5), (7, 5)]⟩ 9 2 = (⟨0, [(9, 2), (3, 5), (7, 5)]⟩, 0) from rfl]
 rintro e W4 ⟨rfl, hI, hB, hK⟩
 have HH1 := Aside0.mk (Nat.le_trans HH.out hK.1)
 clear HI HB HH hK
 have HI := Aside0.mk (show WAt W4 w.heap.size hi g 3 ⟨0, [(9, 2), (3, 5), (7, 5)]⟩ from hI); have HB := Aside0.mk hB; have HH := HH1; clear hI hB HH1
 go_wp2_with fail
 refine (wheel_Wheel_Go.calls w.heap.size hi g 3 ⟨0, [(9, 2), (3, 5), (7, 5)]⟩ 4 w _ HI.out HB.out (Nat.le_refl _) HH.out (by decide) (by decide) (by decide) (by decide)).mono ?_
 rintro e W5 ⟨v, r, rfl, hp, _, hv, hI, hB, hK⟩
 obtain rfl : r = [9] := List.perm_singleton.1 hp
 have HV := Aside0.mk (ownsAt_base hv HH.out)
 have HH1 := Aside0.mk (Nat.le_trans HH.out hK.1)
 clear HI HB HH hp hv hK
 have HI := Aside0.mk (show WAt W5 w.heap.size hi g 3 ⟨4, [(3, 5), (7, 5)]⟩ from hI)
 have HB := Aside0.mk hB
 have HH := HH1
 clear hI hB HH1
 obtain ⟨Av, cv, ev, _⟩ := ownsAt_len HV.out
 subst ev
 go_wp2_with fail
 refine (wheel_Wheel_Go.calls w.heap.size hi g 3 ⟨4, [(3, 5), (7, 5)]⟩ 5 w _ HI.out HB.out (Nat.le_refl _) HH.out (by decide) (by decide) (by decide) (by decide)).mono ?_
 rintro e W6 ⟨v, r, rfl, hp, hs, hv, hI, hB, hK⟩
 have hr : r = [3, 7] := by
  rcases perm_two hp with h | h
  ·exact h
  ·subst h
   exact absurd (hs 0 1 7 3 (by decide) (by decide) rfl rfl) (by unfold leT; decide)
 subst hr
 have HV2 := Aside0.mk (ownsAt_base hv HH.out)
 have HV1 := Aside0.mk (own_keepI HV.out hK (Nat.le_refl _))
 clear HI HB HH hp hs hv hK hI HV
 have HB := Aside0.mk hB
 clear hB
 obtain ⟨Aw, cw, ew, _⟩ := ownsAt_len HV2.out
 subst ew
 have hb := below_alloc (Below.refl W6.heap.size W6) (Obj.cells #[.int .i64 9] 3)
 have HL := Aside0.mk (ownsAt_ints (l := [9]) (ownsAt_lit W6 #[.int .i64 9] 3 1 1 rfl (by decide)))
 have HVa := Aside0.mk (ownsAt_ints (l := [9]) (ownsAt_below HV1.out hb))
 have HVb := Aside0.mk (ownsAt_below HV2.out hb)
 have HB1 := Aside0.mk (below_step HB.out hb)
 clear hb HV1 HV2 HB
 go_wp2_with fail
 refine (sternpostbook_SameInts.calls 3 Av cv [9] _ 1 [9] true _ HVa.out.1 HVa.out.2 HL.out.1 HL.out.2 (by kernel_rfl)).mono ?_
 rintro e W7 ⟨rfl, hd⟩
 have hb := hd.below
 have HV3 := Aside0.mk (ownsAt_below HVb.out hb)
 have HB2 := Aside0.mk (below_step HB1.out hb)
 clear hd hb HVa HVb HL HB1
 have hb := below_alloc (Below.refl W7.heap.size W7) (Obj.cells #[.int .i64 3, .int .i64 7] 3)
 have HL := Aside0.mk (ownsAt_ints (l := [3, 7]) (ownsAt_lit W7 #[.int .i64 3, .int .i64 7] 3 1 2 rfl (by decide)))
 have HVb := Aside0.mk (ownsAt_ints (l := [3, 7]) (ownsAt_below HV3.out hb))
 have HB1 := Aside0.mk (below_step HB2.out hb)
 clear hb HV3 HB2
 go_wp2_with fail
 refine (sternpostbook_SameInts.calls 4 Aw cw [3, 7] _ 2 [3, 7] true _ HVb.out.1 HVb.out.2 HL.out.1 HL.out.2 (by kernel_rfl)).mono ?_
 rintro e W8 ⟨rfl, hd⟩
 have hb := hd.below
 have HB2 := Aside0.mk (below_step HB1.out hb)
 clear hd hb HVb HL HB1
 go_wp2
 go_ret
 exact ⟨rfl, HB2.out⟩


/-! ### sternpostbook_Among: function 8 -/
def sternpostbook_Among.f (a0 : Int) (a1 : Int) : Option (Int) := if a1 = 0 then (none) else (some (Int.tmod (wrap64 ((Int.tmod a0 a1) + a1)) a1))
set_option maxHeartbeats 8000000 in
set_option maxRecDepth 100000 in
theorem sternpostbook_Among.calls (a0 : Int) (a1 : Int) (r : Int) (w : World) (h : sternpostbook_Among.f a0 a1 = some r) :
  Calls Try.prog 8 #[.int .i64 a0, .int .i64 a1] w fun e w' => e = .returned (.int .i64 r) ∧ Drawn0 w w' := by
 have H : (if a1 = 0 then (none) else (some (Int.tmod (wrap64 ((Int.tmod a0 a1) + a1)) a1))) = some r := h
 clear h
 by_cases c3 : a1 = 0
 ·rw [if_pos c3] at H
  exact absurd H (by simp)
 ·rw [if_neg c3] at H
  have c3b0 : (a1 == 0) = false := beq_eq_false_iff_ne.mpr c3
  have c3b1 : (a1 != 0) = true := bne_iff_ne.mpr c3
  obtain rfl := Option.some.inj H
  go_enter Try.func8, Try.ntmps8
  go_wp2
  go_ret
  exact ⟨by first | rfl | (simp; done) | (simp [*]; done), by repeat (first | exact Drawn0.refl _ | apply Drawn0.step)⟩

end Go.Proofs.Ytcfnijeplaibeaa.PWheelOnce

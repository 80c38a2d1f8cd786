-- Laid by this claim's own program over the print's words.
import Derived.Maps.OwnOps
import Derived.Maps.Views
import Derived.Test.YtcfnijeplaibeaaPWheelOncex0
namespace Go.Proofs.Ytcfnijeplaibeaa.PWheelOnce
open Go.RowKit Go.Proofs.YtcfnijeplaibeaaW.PrintWords Go.Proofs.YtcfnijeplaibeaaW.PrintLast Go.Proofs.YtcfnijeplaibeaaW.PrintMore
attribute [local go_sem] max2_int min2_int max_two min_two max_three min_three max_four min_four max_five min_five extract_cut tmod_nat_lit   -- for this text's walks alone
set_option linter.unusedVariables false
set_option linter.unusedSimpArgs false


/-! ### wheel_New: function 6 (by hand) -/
theorem val_hole {vs : List Value} {x : Nat → Value} {k : Nat} {u : Value} (h : vs.getD k undef = u) : AnyOrder.val_ [] vs x k = u := h
theorem drew_cell {W : World} {a : Addr} {v : Value} (n : Nat) (h : W.cell? a = some v) : (W.drewN n).cell? a = some v := h
theorem ownsAt_base {w : World} {base base' : Nat} {e : TypeId} {size : Nat} {v : Value} {n : Nat} {xs : List Value} (h : ownsAt w base e size v n xs) (hb : base' ≤ base) : ownsAt w base' e size v n xs :=
 ⟨h.1, h.2.imp id fun ⟨g, o, cap, cur, h1, h2, h3⟩ => ⟨g, o, cap, cur, h1, Nat.le_trans hb h2, h3⟩⟩
theorem w64p {x : Int} (h1 : -9223372036854775808 ≤ x) (h2 : x < 9223372036854775808) : wrap64 x = x := by unfold wrap64; omega
theorem wl_val {P : Program} {ops : Array Oper} {rest : List Oper} {o : Oper} {a : Act} {Q : Exit → Act → World → Prop} {w : World} {v : Value} (hw : Region.wanted o (yielded ops a.tmps) = true) (h : (execOp a.eval o).run P w = .ok (.value v) w) (k : wpList P ops Q rest (a.put o.dst v) w) : wpList P ops Q (o :: rest) a w := by
 unfold wpList
 rw [if_pos hw]
 refine .inl ?_
 unfold Oper.wp
 rw [h]
 exact k
def Stop_ (p : Prop) : Prop := p
theorem stop_ {P : Program} {ops : Array Oper} {l : List Oper} {a : Act} {Q : Exit → Act → World → Prop} {w : World} (h : Stop_ (wpList P ops Q l a w)) : wpList P ops Q l a w := h
abbrev DU := DataW Unit
def wfI (x : Int) : Prop := -9223372036854775808 ≤ x ∧ x ≤ 9223372036854775807
theorem wfI.lit {x : Int} (h : wfI x) : (Lit.int .i64 x).wf = true := by
 have e : (Lit.int .i64 x).wf = decide (IntKind.i64.min ≤ x ∧ x ≤ 9223372036854775807) := by simp [Lit.wf]
 have e2 : IntKind.i64.min = -9223372036854775808 := by decide
 rw [e, e2]; exact decide_eq_true h
def hasM (m : List (Int × Int)) (k : Int) : Bool := m.any (fun x => x.1 == k)
def getM (m : List (Int × Int)) (k : Int) : Int := match m.find? (fun x => x.1 == k) with | some x => x.2 | none => 0
def delM (m : List (Int × Int)) (k : Int) : List (Int × Int) := m.filter (fun x => !(x.1 == k))
def putM (m : List (Int × Int)) (k v : Int) : List (Int × Int) := (k, v) :: delM m k
/-- no key twice -/
def KD (m : List (Int × Int)) : Prop := m.Pairwise (fun a b => a.1 ≠ b.1)
theorem KD.one : ∀ {m : List (Int × Int)}, KD m → ∀ {x y : Int × Int}, x ∈ m → y ∈ m → x.1 = y.1 → x = y
 | [], _, _, _, h, _, _ => by cases h
 | z :: m, h, x, y, hx, hy, e => by
  obtain ⟨h1, h2⟩ := List.pairwise_cons.1 h
  rcases List.mem_cons.1 hx with ex | hx2
  ·rcases List.mem_cons.1 hy with ey | hy2
   ·rw [ex, ey]
   ·exact absurd (by rw [← ex]; exact e) (h1 y hy2)
  ·rcases List.mem_cons.1 hy with ey | hy2
   ·exact absurd (by rw [← ey]; exact e.symm) (h1 x hx2)
   ·exact KD.one h2 hx2 hy2 e
theorem delM_mem {m : List (Int × Int)} {k : Int} {x : Int × Int} : x ∈ delM m k ↔ x ∈ m ∧ x.1 ≠ k := by unfold delM; simp
theorem delM_kd {m : List (Int × Int)} {k : Int} (h : KD m) : KD (delM m k) := List.Pairwise.sublist List.filter_sublist h
theorem putM_kd {m : List (Int × Int)} {k v : Int} (h : KD m) : KD (putM m k v) := List.pairwise_cons.2 ⟨fun x hx => Ne.symm (delM_mem.1 hx).2, delM_kd h⟩
theorem hasM_iff {m : List (Int × Int)} {k : Int} : hasM m k = true ↔ ∃ x ∈ m, x.1 = k := by unfold hasM; simp
theorem getM_of {m : List (Int × Int)} {x : Int × Int} (h : KD m) (hx : x ∈ m) : getM m x.1 = x.2 := by
 unfold getM
 cases hf : m.find? (fun y => y.1 == x.1) with
 | none => have := List.find?_eq_none.1 hf x hx; simp at this
 | some y =>
  have h1 := List.mem_of_find?_eq_some hf
  have h2 := List.find?_some hf
  have : y = x := KD.one h h1 hx (by simpa using h2)
  rw [this]
theorem getM_none {m : List (Int × Int)} {k : Int} (h : hasM m k = false) : getM m k = 0 := by
 unfold getM
 have : m.find? (fun y => y.1 == k) = none := List.find?_eq_none.2 fun x hx => by
  intro hk
  have : hasM m k = true := hasM_iff.2 ⟨x, hx, by simpa using hk⟩
  rw [h] at this; cases this
 rw [this]
theorem hasM_get {m : List (Int × Int)} {k : Int} (h : KD m) (hk : hasM m k = true) : (k, getM m k) ∈ m := by
 obtain ⟨x, hx, rfl⟩ := hasM_iff.1 hk
 rw [getM_of h hx]; exact hx
theorem delM_none {m : List (Int × Int)} {k : Int} (h : hasM m k = false) : delM m k = m := by
 unfold delM
 refine List.filter_eq_self.2 fun x hx => ?_
 have : ¬ x.1 = k := fun e => by have := hasM_iff.2 ⟨x, hx, e⟩; rw [h] at this; cases this
 simpa using this
theorem delM_len {m : List (Int × Int)} {k : Int} : (delM m k).length ≤ m.length := List.length_filter_le _ _
theorem filter_keys {m : List (Int × Int)} (h : KD m) (k : Int) : (delM m k).length + (if hasM m k = true then 1 else 0) = m.length := by
 induction m with
 | nil => rfl
 | cons y m ih =>
  obtain ⟨h1, h2⟩ := List.pairwise_cons.1 h
  have ih := ih h2
  by_cases hy : y.1 = k
  ·have e1 : delM (y :: m) k = delM m k := by unfold delM; simp [hy]
   have e2 : hasM (y :: m) k = true := by unfold hasM; simp [hy]
   have e3 : hasM m k = false := by
    unfold hasM
    rw [List.any_eq_false]
    intro x hx
    have := h1 x hx
    simp; omega
   rw [e1, e2, delM_none e3, if_pos rfl]; rfl
  ·have e1 : delM (y :: m) k = y :: delM m k := by unfold delM; simp [hy]
   have e2 : hasM (y :: m) k = hasM m k := by unfold hasM; simp [hy]
   rw [e1, e2, List.length_cons, List.length_cons]; omega
def litM (m : List (Int × Int)) : List (Lit × DU) := m.map fun x => (.int .i64 x.1, .lit (.int .i64 x.2))
def MReads (D : DU) (m : List (Int × Int)) : Prop := KD m ∧ (∀ x ∈ m, wfI x.1 ∧ wfI x.2) ∧ ∃ es, D = .map es ∧ es.Perm (litM m)
theorem MReads.nil : MReads (.map []) [] := ⟨List.Pairwise.nil, (fun _ h => nomatch h), [], rfl, List.Perm.refl _⟩
theorem key_same {a b : Int} : (Lit.int .i64 a).sameKey (.int .i64 b) = (a == b) := by
 show decide (IntKind.i64 = IntKind.i64 ∧ a = b) = _
 by_cases h : a = b <;> simp [h]
theorem MReads.has {D : DU} {m : List (Int × Int)} (h : MReads D m) (k : Int) : Maps.has D (.int .i64 k) = hasM m k := by
 obtain ⟨_, _, es, rfl, hp⟩ := h
 rw [Maps.has_eq, Bool.eq_iff_iff, List.any_eq_true, hasM_iff]
 constructor
 ·rintro ⟨p, hp1, hk⟩
  obtain ⟨x, hx, rfl⟩ := List.mem_map.1 (hp.mem_iff.1 hp1)
  exact ⟨x, hx, by rw [key_same] at hk; simpa using hk⟩
 ·rintro ⟨x, hx, rfl⟩
  exact ⟨_, hp.mem_iff.2 (List.mem_map.2 ⟨x, hx, rfl⟩), by rw [key_same]; simp⟩
theorem MReads.at_ {D : DU} {m : List (Int × Int)} (h : MReads D m) (k : Int) : D.atKey (.int .i64 k) (.lit (.int .i64 0)) = .lit (.int .i64 (getM m k)) := by
 have hh := h.has k
 obtain ⟨hk, _, es, rfl, hp⟩ := h
 cases hm : hasM m k with
 | false =>
  rw [getM_none hm]
  rw [hm] at hh
  exact Maps.atKey_of_not_has hh _
 | true =>
  unfold DataW.atKey
  dsimp only
  cases hf : es.find? (fun p => p.1.sameKey (.int .i64 k)) with
  | none =>
   obtain ⟨x, hx, rfl⟩ := hasM_iff.1 hm
   have := List.find?_eq_none.1 hf _ (hp.mem_iff.2 (List.mem_map.2 ⟨x, hx, rfl⟩))
   rw [key_same] at this; simp at this
  | some p =>
   have h1 := List.mem_of_find?_eq_some hf
   have h2 := List.find?_some hf
   obtain ⟨x, hx, rfl⟩ := List.mem_map.1 (hp.mem_iff.1 h1)
   rw [key_same] at h2
   have e : x.1 = k := by simpa using h2
   subst e
   rw [getM_of hk hx]
theorem litM_filter (m : List (Int × Int)) (k : Int) : (litM m).filter (fun p => !p.1.sameKey (.int .i64 k)) = litM (delM m k) := by
 unfold litM delM
 rw [List.filter_map]
 congr 1
 refine List.filter_congr fun x _ => ?_
 show (!(Lit.int .i64 x.1).sameKey (.int .i64 k)) = _
 rw [key_same]
theorem MReads.del {D : DU} {m : List (Int × Int)} (h : MReads D m) (k : Int) : MReads (D.del (.int .i64 k)) (delM m k) := by
 obtain ⟨hk, hw, es, rfl, hp⟩ := h
 refine ⟨delM_kd hk, fun x hx => hw x (delM_mem.1 hx).1, _, rfl, ?_⟩
 rw [← litM_filter]; exact hp.filter _
theorem MReads.put {D : DU} {m : List (Int × Int)} (h : MReads D m) {k v : Int} (hk : wfI k) (hv : wfI v) : MReads (D.put (.int .i64 k) (.lit (.int .i64 v))) (putM m k v) := by
 obtain ⟨hd, hw, es, rfl, hp⟩ := h
 refine ⟨putM_kd hd, fun x hx => ?_, _, rfl, ?_⟩
 ·rcases List.mem_cons.1 hx with rfl | hx
  ·exact ⟨hk, hv⟩
  ·exact hw x (delM_mem.1 hx).1
 ·refine (Go.WideShapes.insert_perm _ _).trans ?_
  show List.Perm _ ((_, _) :: litM (delM m k))
  refine List.Perm.cons _ ?_
  rw [← litM_filter]; exact hp.filter _
theorem MReads.size {D : DU} {m : List (Int × Int)} (h : MReads D m) : Maps.size D = m.length := by
 obtain ⟨_, _, es, rfl, hp⟩ := h
 rw [Maps.size_eq, hp.length_eq]; unfold litM; rw [List.length_map]
theorem own_tight {w : World} {k : TypeId} {R : Value → Option (DU × List MemPlace)} {b n : Nat} {D : DU} (h : w.ownsMap Try.prog k R b n D) : w.ownsMap Try.prog k R b (Maps.size D) D := by
 obtain ⟨es, clock, hb, F, hs, rfl⟩ := h
 exact ⟨es, clock, hb, F, by rw [Maps.size_eq, length_sorted, List.length_map, Array.length_toList]; exact Nat.le_refl _, rfl⟩
/-- a map[int]int -/
def MapAt (w : World) (b : Nat) (m : List (Int × Int)) : Prop := ∃ D : DU, w.ownsMap Try.prog 3 (plainElem Try.prog 3) b m.length D ∧ MReads D m
theorem MapAt.same {w w' : World} {b : Nat} {m : List (Int × Int)} (h : MapAt w b m) (he : w'.heap[b]? = w.heap[b]?) : MapAt w' b m := by
 obtain ⟨D, ⟨es, clock, hb, F⟩, hr⟩ := h
 exact ⟨D, ⟨es, clock, he.trans hb, F⟩, hr⟩
theorem MapAt.map {w : World} {b : Nat} {m : List (Int × Int)} (h : MapAt w b m) : ∃ es c, w.heap[b]? = some (.map es c) := by
 obtain ⟨D, ⟨es, clock, hb, _⟩, _⟩ := h
 exact ⟨es, clock, hb⟩
theorem MapAt.lt {w : World} {b : Nat} {m : List (Int × Int)} (h : MapAt w b m) : b < w.heap.size := by obtain ⟨es, c, hb⟩ := h.map; exact (Array.getElem?_eq_some_iff.1 hb).1
theorem MapAt.kd {w : World} {b : Nat} {m : List (Int × Int)} (h : MapAt w b m) : KD m := h.choose_spec.2.1
theorem MapAt.made (w : World) : MapAt (w.alloc (.map #[] 0)) w.heap.size [] := ⟨.map [], World.ownsMap_made w _ _ _, MReads.nil⟩
set_option maxRecDepth 100000 in
theorem zero_int_ (w : World) : (zeroValue 3).run Try.prog w = .ok (.int .i64 0) w := by kernel_rfl
theorem mkeyed_ : Go.Maps.Keyed Try.prog 3 := Go.Maps.int_keyed Try.underlying3
theorem mkey_ {k : Int} (h : wfI k) : keyOf Try.prog 3 (.int .i64 k) = some (.int .i64 k) := Go.Maps.keyOf_int_mk Try.underlying3 h.lit
theorem melem_ {k : Int} (h : wfI k) : plainElem (H := Unit) Try.prog 3 (.int .i64 k) = some (.lit (.int .i64 k), []) := plainElem_int Try.underlying3 h.lit
set_option maxRecDepth 100000 in
theorem MapAt.look {w : World} {b : Nat} {m : List (Int × Int)} (h : MapAt w b m) {k : Int} (hk : wfI k) : (Instr.lookup 28 (.map (some b)) (.int .i64 k) false).run Try.prog w = .ok (.int .i64 (getM m k)) w := by
 obtain ⟨D, hD, hr⟩ := h
 obtain ⟨c, hrun, hc, _⟩ := hD.lookup_int mkeyed_ Try.underlying28 Try.underlying3 (zero_int_ w) (mkey_ hk)
 rw [hr.at_ k] at hc
 injection hc with hc
 injection hc with _ hc
 rw [hrun, hc]
set_option maxRecDepth 100000 in
theorem MapAt.look_ok {w : World} {b : Nat} {m : List (Int × Int)} (h : MapAt w b m) {k : Int} (hk : wfI k) : (Instr.lookup 28 (.map (some b)) (.int .i64 k) true).run Try.prog w = .ok (.tuple #[.int .i64 (getM m k), .bool (hasM m k)]) w := by
 obtain ⟨D, hD, hr⟩ := h
 obtain ⟨v, ps, hrun, hv⟩ := hD.look_ok mkeyed_ Try.underlying28 (zero_int_ w) (melem_ (k := 0) (by unfold wfI; omega)) (mkey_ hk)
 obtain ⟨c, rfl, hc, _⟩ := plainElem_int_inv Try.underlying3 hv
 rw [hr.at_ k] at hc
 have hc := congrArg Prod.fst hc
 dsimp only at hc
 injection hc with hc
 injection hc with _ hc
 rw [hrun, hr.has k, hc]
theorem MapAt.len {w : World} {b : Nat} {m : List (Int × Int)} (h : MapAt w b m) (ty : TypeId) : (Builtin.len_ #[28] ty #[.map (some b)]).run Try.prog w = .ok (.int .i64 (m.length : Int)) w := by
 obtain ⟨D, hD, hr⟩ := h
 rw [hD.len Try.underlying28 ty, hr.size]
theorem MapAt.put {w : World} {b : Nat} {m : List (Int × Int)} (h : MapAt w b m) {k v : Int} (hk : wfI k) (hv : wfI v) (hn : m.length < 1000000) :
  ∃ w', (Instr.mapUpdate 28 (.map (some b)) (.int .i64 k) (.int .i64 v)).run Try.prog w = .ok () w' ∧ MapAt w' b (putM m k v) ∧ w.grownBy w' (some b) := by
 obtain ⟨D, hD, hr⟩ := h
 obtain ⟨w', hrun, hown, hg⟩ := hD.update mkeyed_ Try.underlying28 (by simp only [maxLen]; omega) (mkey_ hk) (melem_ hv)
 have hr' := hr.put hk hv
 have := own_tight hown
 rw [hr'.size] at this
 exact ⟨w', hrun, ⟨_, this, hr'⟩, hg⟩
theorem MapAt.del {w : World} {b : Nat} {m : List (Int × Int)} (h : MapAt w b m) {k : Int} (hk : wfI k) (ty : TypeId) :
  ∃ w', (Builtin.delete_ #[28, 3] ty #[.map (some b), .int .i64 k]).run Try.prog w = .ok (.tuple #[]) w' ∧ MapAt w' b (delM m k) ∧ w.grownBy w' (some b) := by
 obtain ⟨D, hD, hr⟩ := h
 obtain ⟨w', hrun, hown, ht⟩ := hD.drop (ty := ty) mkeyed_ Try.underlying28 (mkey_ hk)
 have hr' := hr.del k
 have := own_tight hown
 rw [hr'.size] at this
 exact ⟨w', hrun, ⟨_, this, hr'⟩, ht.grown⟩
theorem MapAt.grown {w w' : World} {b c : Nat} {m : List (Int × Int)} (h : MapAt w b m) (hg : w.grownBy w' (some c)) (hn : b ≠ c) : MapAt w' b m := h.same (hg.block b h.lt (fun e => hn (Option.some.inj e)))
theorem MapAt.below {w w' : World} {b : Nat} {m : List (Int × Int)} (h : MapAt w b m) (hb : Below w.heap.size w w') : MapAt w' b m := h.same (hb.block b h.lt)
structure WS where
 now : Int
 m : List (Int × Int)
/-- a map of whatever entries, at most so many -/
def SlotAt (w : World) (b c : Nat) : Prop := ∃ (n : Nat) (E : DU), n ≤ c ∧ w.ownsMap Try.prog 3 (plainElem Try.prog 4) b n E
theorem SlotAt.same {w w' : World} {b c : Nat} (h : SlotAt w b c) (he : w'.heap[b]? = w.heap[b]?) : SlotAt w' b c := by
 obtain ⟨n, E, hn, es, clock, hb, F⟩ := h
 exact ⟨n, E, hn, es, clock, he.trans hb, F⟩
theorem SlotAt.lt {w : World} {b c : Nat} (h : SlotAt w b c) : b < w.heap.size := by
 obtain ⟨n, E, hn, es, clock, hb, F⟩ := h
 exact (Array.getElem?_eq_some_iff.1 hb).1
theorem SlotAt.mono {w : World} {b c c' : Nat} (h : SlotAt w b c) (hc : c ≤ c') : SlotAt w b c' := by
 obtain ⟨n, E, hn, r⟩ := h
 exact ⟨n, E, Nat.le_trans hn hc, r⟩
theorem SlotAt.put {w : World} {b c : Nat} (h : SlotAt w b c) {k : Int} (hk : wfI k) (hc : c < 1000000) :
  ∃ w', (Instr.mapUpdate 52 (.map (some b)) (.int .i64 k) (.bool true)).run Try.prog w = .ok () w' ∧ SlotAt w' b (c + 1) ∧ w.grownBy w' (some b) := by
 obtain ⟨n, E, hn, hD⟩ := h
 obtain ⟨w', hrun, hown, hg⟩ := hD.update mkeyed_ Try.underlying52 (by simp only [maxLen]; omega) (mkey_ hk) (plainElem_bool Try.underlying4 true)
 exact ⟨w', hrun, ⟨n + 1, _, by omega, hown⟩, hg⟩
theorem SlotAt.del {w : World} {b c : Nat} (h : SlotAt w b c) {k : Int} (hk : wfI k) (ty : TypeId) :
  ∃ w', (Builtin.delete_ #[52, 3] ty #[.map (some b), .int .i64 k]).run Try.prog w = .ok (.tuple #[]) w' ∧ SlotAt w' b c ∧ w.grownBy w' (some b) := by
 obtain ⟨n, E, hn, hD⟩ := h
 obtain ⟨w', hrun, hown, ht⟩ := hD.drop (ty := ty) mkeyed_ Try.underlying52 (mkey_ hk)
 exact ⟨w', hrun, ⟨n, _, hn, hown⟩, ht.grown⟩
theorem SlotAt.made (w : World) : SlotAt (w.alloc (.map #[] 0)) w.heap.size 0 := ⟨0, .map [], Nat.le_refl _, World.ownsMap_made w _ _ _⟩
def tcells (ts : List (Option Nat)) : List Value := ts.map Value.map
def cellsW (now : Int) (ma : Nat) (ts : List (Option Nat)) : Array Value := ((.int .i64 now : Value) :: .map (some ma) :: tcells ts).toArray
def none64 : List (Option Nat) := List.replicate 64 none
/-- the timers that may be -/
def TOk (m : List (Int × Int)) : Prop := ∀ x ∈ m, 0 ≤ x.1 ∧ x.1 ≤ 1073741824 ∧ 0 ≤ x.2 ∧ x.2 ≤ 1099511627776
/-- a wheel, its blocks between two places, its slots with at most c numbers each -/
def WAt (w : World) (lo hi g c : Nat) (s : WS) : Prop := ∃ (ma : Nat) (ts : List Nat), w.heap[g]? = some (.cells (cellsW s.now ma (ts.map some)) 55 (0, 0)) ∧ ts.length = 64 ∧ MapAt w ma s.m ∧ TOk s.m ∧ (∀ t ∈ ts, SlotAt w t c ∧ t ≠ ma ∧ lo ≤ t ∧ t < hi) ∧ (lo ≤ g ∧ g < hi ∧ lo ≤ ma ∧ ma < hi)
/-- what lies outside of two places stays -/
def KeepI (lo hi : Nat) (w w' : World) : Prop := w.heap.size ≤ w'.heap.size ∧ ∀ k, k < w.heap.size → (k < lo ∨ hi ≤ k) → w'.heap[k]? = w.heap[k]?
theorem KeepI.refl (lo hi : Nat) (w : World) : KeepI lo hi w w := ⟨Nat.le_refl _, fun _ _ _ => rfl⟩
theorem KeepI.trans {lo hi : Nat} {a b c : World} (h : KeepI lo hi a b) (k : KeepI lo hi b c) : KeepI lo hi a c := ⟨Nat.le_trans h.1 k.1, fun i hi' hg => (k.2 i (Nat.lt_of_lt_of_le hi' h.1) hg).trans (h.2 i hi' hg)⟩
theorem KeepI.of_below {lo hi : Nat} {a b : World} (h : Below a.heap.size a b) : KeepI lo hi a b := ⟨h.size, fun k hk _ => h.block k hk⟩
theorem KeepI.of_grown {lo hi : Nat} {a b : World} {r : Nat} (h : a.grownBy b (some r)) (h1 : lo ≤ r) (h2 : r < hi) : KeepI lo hi a b := ⟨h.size, fun k hk hc => h.block k hk (fun e => by have := Option.some.inj e; omega)⟩
theorem KeepI.set (lo hi : Nat) {g : Nat} (h1 : lo ≤ g) (h2 : g < hi) (k : Nat) (w : World) (v : Value) : KeepI lo hi w (w.setCell ⟨g, k, none⟩ v) := ⟨by simp [World.setCell], fun i _ hc => heap_setCell_other _ _ _ _ (show i ≠ g by omega)⟩
theorem KeepI.below {lo hi n : Nat} {w0 a b : World} (h : Below n w0 a) (hg : a.grownBy b (some hi)) (hn : n ≤ a.heap.size) (hl : n ≤ hi) : Below n w0 b :=
 below_of_grown h hg hn (fun g e => by rw [← Option.some.inj e]; exact hl)
theorem cells_ne_map {w : World} {g b : Nat} {cs : Array Value} {t : TypeId} (hg : w.heap[g]? = some (.cells cs t (0, 0))) (hb : ∃ es c, w.heap[b]? = some (.map es c)) : g ≠ b := fun e => by
 obtain ⟨es, c, hb⟩ := hb
 rw [e, hb] at hg; cases hg
theorem SlotAt.map {w : World} {b c : Nat} (h : SlotAt w b c) : ∃ es c, w.heap[b]? = some (.map es c) := by
 obtain ⟨n, E, hn, es, clock, hb, F⟩ := h
 exact ⟨es, clock, hb⟩
theorem WAt.below {w w' : World} {lo hi g c : Nat} {s : WS} (h : WAt w lo hi g c s) (hb : Below w.heap.size w w') : WAt w' lo hi g c s := by
 obtain ⟨ma, ts, h1, h2, h3, h4, h5, h6⟩ := h
 exact ⟨ma, ts, blk_below h1 hb, h2, h3.below hb, h4, fun t ht => ⟨(h5 t ht).1.same (hb.block t (h5 t ht).1.lt), (h5 t ht).2⟩, h6⟩
theorem WAt.keep {w w' : World} {lo hi g c : Nat} {s : WS} (h : WAt w lo hi g c s) (hb : ∀ k, lo ≤ k → k < hi → w'.heap[k]? = w.heap[k]?) : WAt w' lo hi g c s := by
 obtain ⟨ma, ts, h1, h2, h3, h4, h5, h6⟩ := h
 exact ⟨ma, ts, (hb g h6.1 h6.2.1).trans h1, h2, h3.same (hb ma h6.2.2.1 h6.2.2.2), h4, fun t ht => ⟨(h5 t ht).1.same (hb t (h5 t ht).2.2.1 (h5 t ht).2.2.2), (h5 t ht).2⟩, h6⟩
theorem WAt.mono {w : World} {lo hi g c c' : Nat} {s : WS} (h : WAt w lo hi g c s) (hc : c ≤ c') : WAt w lo hi g c' s := by
 obtain ⟨ma, ts, h1, h2, h3, h4, h5, h6⟩ := h
 exact ⟨ma, ts, h1, h2, h3, h4, fun t ht => ⟨(h5 t ht).1.mono hc, (h5 t ht).2⟩, h6⟩
theorem tcell_get {ts : List Nat} {i : Nat} (hi : i < ts.length) (now : Int) (ma : Nat) : (cellsW now ma (ts.map some))[i + 2]? = some (.map (some ts[i])) := by
 unfold cellsW tcells
 simp [List.getElem?_eq_getElem hi]
theorem TOk.wf {m : List (Int × Int)} (h : TOk m) : ∀ x ∈ m, wfI x.1 ∧ wfI x.2 := fun x hx => by have := h x hx; unfold wfI; omega
theorem getM_ok {m : List (Int × Int)} (h : TOk m) (k : Int) : 0 ≤ getM m k ∧ getM m k ≤ 1099511627776 := by
 unfold getM
 cases hf : m.find? (fun y => y.1 == k) with
 | none => dsimp only; omega
 | some y => have := h y (List.mem_of_find?_eq_some hf); dsimp only; omega
theorem alloc_size_ (w : World) (o : Obj) : (w.alloc o).heap.size = w.heap.size + 1 := by show (w.heap.push o).size = _; rw [Array.size_push]
theorem setCell_size_ (w : World) (p : Addr) (v : Value) : (w.setCell p v).heap.size = w.heap.size := by simp [World.setCell]
theorem ncell_get {ts : List Nat} (hi : ts.length < 64) (now : Int) (ma : Nat) : (cellsW now ma (ts.map some ++ none64.drop ts.length))[2 + ts.length]? = some (.map none) := by
 unfold cellsW tcells
 rw [List.getElem?_toArray, Nat.add_comm 2, List.getElem?_cons_succ, List.getElem?_cons_succ, List.getElem?_map, List.getElem?_append_right (by simp), List.length_map, Nat.sub_self, List.getElem?_drop]
 unfold none64
 rw [List.getElem?_replicate, if_pos (by omega)]; rfl
theorem ncell_set {ts : List Nat} (hi : ts.length < 64) (now : Int) (ma t : Nat) : (cellsW now ma (ts.map some ++ none64.drop ts.length)).setIfInBounds (2 + ts.length) (.map (some t)) = cellsW now ma ((ts ++ [t]).map some ++ none64.drop (ts.length + 1)) := by
 unfold cellsW tcells
 rw [List.setIfInBounds_toArray, Nat.add_comm 2, List.set_cons_succ, List.set_cons_succ, List.map_append, List.set_append_right _ _ (by simp), List.length_map, List.length_map, Nat.sub_self]
 have hd : none64.drop ts.length = none :: none64.drop (ts.length + 1) := by
  have hl : ts.length < none64.length := by unfold none64; rw [List.length_replicate]; exact hi
  rw [List.drop_eq_getElem_cons hl]
  congr 1
  have := List.getElem_mem hl
  unfold none64 at this
  exact (List.mem_replicate.1 this).2
 rw [hd]
 simp
set_option maxHeartbeats 4000000 in
set_option maxRecDepth 100000 in
theorem wheel_New.calls (now : Int) (w0 w : World) (hB : Below w0.heap.size w0 w) (h1 : 0 ≤ now) (h2 : now ≤ 1099511627776) :
  Calls Try.prog 6 #[.int .i64 now] w fun e w' => ∃ g, e = .returned (.tuple #[.pointer (some ⟨g, 0, none⟩), .int .i64 0]) ∧ WAt w' w.heap.size w'.heap.size g 0 ⟨now, []⟩ ∧ Below w0.heap.size w0 w' ∧ Below w.heap.size w w' := by
 have HB := Aside0.mk hB
 have HL0 := Aside0.mk hB.size
 have d1 : decide (now < 0) = false := decide_eq_false (by omega)
 have d2 : decide (1099511627776 < now) = false := decide_eq_false (by omega)
 clear hB
 go_enter Try.func6, Try.ntmps6
 go_upto_region 3 with fail
 clear d1 d2
 have hmm := @run_makeMap Try.prog
 have hm := below_alloc (Below.refl w.heap.size w) (.map #[] 0)
 have HM := Aside0.mk (MapAt.made w)
 have HB1 := Aside0.mk (below_step HB.out hm)
 have HB2 := Aside0.mk hm
 clear hm HB
 obtain ⟨ma, hma⟩ : ∃ m_, w.heap.size = m_ := ⟨_, rfl⟩
 have HMA := Aside0.mk hma
 go_wp2_with (first | ((with_reducible refine gate_dst (N := 14) rfl ?_); refine stop_ ?_))
 unfold Stop_
 refine wl_val (v := .agg (cellsW now ma none64)) rfl (by kernel_rfl) ?_
 go_wp2_with fail
 have hx := blk_new (w.alloc (.map #[] 0)) (.cells (cellsW now ma none64) 55)
 have hb := below_alloc (Below.refl (w.alloc (.map #[] 0)).heap.size (w.alloc (.map #[] 0))) (.cells (cellsW now ma none64) 55)
 have hsz : (w.alloc (.map #[] 0)).heap.size = ma + 1 := by rw [← HMA.out]; exact alloc_size_ _ _
 rw [hsz] at hx
 have HM1 := Aside0.mk (show MapAt ((w.alloc (.map #[] 0)).alloc (.cells (cellsW now ma none64) 55)) ma [] by have := HM.out.below hb; rw [HMA.out] at this; exact this)
 have HX1 := Aside0.mk hx
 have HB3 := Aside0.mk (below_step HB1.out hb)
 have HB4 := Aside0.mk (below_step HB2.out hb)
 clear hx hb HM HB1 HB2 hma
 generalize (w.alloc (.map #[] 0)).alloc (.cells (cellsW now ma none64) 55) = W2 at HM1 HX1 HB3 HB4 ⊢
 go_loopg [16] 64 (fun kq v16 W => ∃ (i : Nat) (iz : Int) (ts : List Nat), v16 = .int .i64 iz ∧ Aside0 (iz = (i : Int) ∧ kq + i = 64 ∧ ts.length = i) ∧ Aside0 (W.heap[ma + 1]? = some (.cells (cellsW now ma (ts.map some ++ none64.drop i)) 55 (0, 0))) ∧ Aside0 (MapAt W ma []) ∧ Aside0 (∀ t ∈ ts, SlotAt W t 0 ∧ t ≠ ma ∧ w.heap.size ≤ t ∧ t < W.heap.size) ∧ Aside0 (Below w.heap.size w W) ∧ Aside0 (Below w0.heap.size w0 W))
 case atStart => exact ⟨0, 0, [], rfl, ⟨rfl, rfl, rfl⟩, HX1, HM1, ⟨fun _ h => nomatch h⟩, HB4, HB3⟩
 case round =>
  clear HX1 HM1 HB4 HB3
  obtain ⟨i, iz, ts, rfl, HK, HX, HM, HT, HBw, HB⟩ := hrel
  have hk := HK.out
  by_cases hlt : iz < 64
  ·have d1 : decide (iz < 64) = true := decide_eq_true hlt
   obtain ⟨k1, rfl⟩ : ∃ k1, gk = k1 + 1 := ⟨gk - 1, by omega⟩
   have hn : wrap64 (iz + 1) = ((i + 1 : Nat) : Int) := by rw [w64p (by omega) (by omega)]; omega
   have HN := Aside0.mk hn
   have hm := below_alloc (Below.refl wr.heap.size wr) (.map #[] 0)
   have HS := Aside0.mk (SlotAt.made wr)
   have HX1 := Aside0.mk (blk_below HX.out hm)
   have HM1 := Aside0.mk (HM.out.below hm)
   have HT1 := Aside0.mk (show ∀ t ∈ ts, SlotAt (wr.alloc (.map #[] 0)) t 0 ∧ t ≠ ma ∧ w.heap.size ≤ t ∧ t < (wr.alloc (.map #[] 0)).heap.size from fun t ht => ⟨(HT.out t ht).1.same (hm.block t (HT.out t ht).1.lt), (HT.out t ht).2.1, (HT.out t ht).2.2.1, Nat.lt_of_lt_of_le (HT.out t ht).2.2.2 hm.size⟩)
   have HB1 := Aside0.mk (below_step HBw.out hm)
   have HB2 := Aside0.mk (below_step HB.out hm)
   have HNE := Aside0.mk (show wr.heap.size ≠ ma ∧ wr.heap.size < (wr.alloc (.map #[] 0)).heap.size ∧ w.heap.size ≤ wr.heap.size from ⟨by have := HM.out.lt; omega, by rw [alloc_size_]; omega, HBw.out.size⟩)
   have hf := blk_frozen HX1.out (2 + i)
   have p0 : 0 ≤ iz := by omega
   have tn : iz.toNat = i := by omega
   clear HX HM HT HBw HB hm hn hk
   obtain ⟨t, ht⟩ : ∃ t_, wr.heap.size = t_ := ⟨_, rfl⟩
   rw [ht] at HS HNE
   replace p0 := eq_true p0
   replace hlt := eq_true hlt
   have hz : (wr.alloc (.map #[] 0)).cell? ⟨ma + 1, 2 + i, none⟩ = some (.map none) := by rw [blk_cell HX1.out (2 + i), ← HK.out.2.2]; exact ncell_get (by have := HK.out; omega) now ma
   go_upto_region 7 with fail
   have hX2 := blk_put HX1.out (2 + i) (.map (some t)) rfl
   rw [show (cellsW now ma (ts.map some ++ none64.drop i)).setIfInBounds (2 + i) (.map (some t)) = cellsW now ma ((ts ++ [t]).map some ++ none64.drop (i + 1)) by rw [← HK.out.2.2]; exact ncell_set (by have := HK.out; omega) now ma t] at hX2
   have HX2 := Aside0.mk hX2
   have hne : ∀ k, k ≠ ma + 1 → ((wr.alloc (.map #[] 0)).setCell ⟨ma + 1, 2 + i, none⟩ (.map (some t))).heap[k]? = (wr.alloc (.map #[] 0)).heap[k]? := fun k hk => heap_setCell_other _ _ _ _ hk
   have HM2 := Aside0.mk (HM1.out.same (hne ma (by omega)))
   have HS2 := Aside0.mk (HS.out.same (hne t (cells_ne_map HX1.out HS.out.map).symm))
   have HT2 := Aside0.mk (show ∀ t_ ∈ ts, SlotAt ((wr.alloc (.map #[] 0)).setCell ⟨ma + 1, 2 + i, none⟩ (.map (some t))) t_ 0 ∧ t_ ≠ ma ∧ w.heap.size ≤ t_ ∧ t_ < ((wr.alloc (.map #[] 0)).setCell ⟨ma + 1, 2 + i, none⟩ (.map (some t))).heap.size from fun t_ ht => ⟨(HT1.out t_ ht).1.same (hne t_ (cells_ne_map HX1.out (HT1.out t_ ht).1.map).symm), (HT1.out t_ ht).2.1, (HT1.out t_ ht).2.2.1, by rw [setCell_size_]; exact (HT1.out t_ ht).2.2.2⟩)
   have HB3 := Aside0.mk (show Below w.heap.size w ((wr.alloc (.map #[] 0)).setCell ⟨ma + 1, 2 + i, none⟩ (.map (some t))) from below_set HB1.out (by have := HMA.out; omega))
   have HB4 := Aside0.mk (show Below w0.heap.size w0 ((wr.alloc (.map #[] 0)).setCell ⟨ma + 1, 2 + i, none⟩ (.map (some t))) from below_set HB2.out (by have := HMA.out; have := HL0.out; omega))
   have HSZ := Aside0.mk (show t < ((wr.alloc (.map #[] 0)).setCell ⟨ma + 1, 2 + i, none⟩ (.map (some t))).heap.size by rw [setCell_size_]; exact HNE.out.2.1)
   clear HM1 HS HT1 HB1 HB2 hX2 hne
   go_wp2
   go_roundg k1
   case measure => omega
   case rel => exact ⟨i + 1, _, ts ++ [t], rfl, ⟨HN.out, by have := HK.out; omega, by have := HK.out; simp; omega⟩, HX2, HM2, ⟨fun t_ h => by rcases List.mem_append.1 h with h | h; exact HT2.out t_ h; rw [List.mem_singleton.1 h]; exact ⟨HS2.out, HNE.out.1, HNE.out.2.2, HSZ.out⟩⟩, HB3, HB4⟩
  ·have d1 : decide (iz < 64) = false := decide_eq_false hlt
   obtain rfl : i = 64 := by omega
   clear hk hlt
   go_wp2
   go_ret2
   exact ⟨ma + 1, rfl, ⟨ma, ts, (by have h := HX.out; rw [show none64.drop 64 = [] from rfl, List.append_nil] at h; exact h), HK.out.2.2, HM.out, (fun _ h => nomatch h), fun t h => ⟨(HT.out t h).1, (HT.out t h).2⟩, by have := blk_lt HX.out; have := HMA.out; omega, blk_lt HX.out, by have := HMA.out; omega, HM.out.lt⟩, HB.out, HBw.out⟩



/-! ### wheel_Wheel_Drop: function 10 (by hand) -/
-- over wheel_New.calls wheel_New.callsR
/-- what a turn of one of a wheel's maps leaves -/
theorem WAt.cells {w w' : World} {g : Nat} {cs : Array Value} {r : Nat} (hX : w.heap[g]? = some (.cells cs 55 (0, 0))) (hr : ∃ es c, w.heap[r]? = some (.map es c)) (hg : w.grownBy w' (some r)) : w'.heap[g]? = some (.cells cs 55 (0, 0)) :=
 (hg.block g (blk_lt hX) (fun e => cells_ne_map hX hr (Option.some.inj e))).trans hX
theorem slots_grown {w w' : World} {ts : List Nat} {ma c r lo hi : Nat} (hTS : ∀ t ∈ ts, SlotAt w t c ∧ t ≠ ma ∧ lo ≤ t ∧ t < hi) (hg : w.grownBy w' (some r)) (hr : SlotAt w' r c ∨ r ∉ ts) : ∀ t ∈ ts, SlotAt w' t c ∧ t ≠ ma ∧ lo ≤ t ∧ t < hi := fun t ht => by
 refine ⟨?_, (hTS t ht).2⟩
 by_cases e : t = r
 ·rcases hr with h | h
  ·rw [e]; exact h
  ·exact absurd (e ▸ ht) h
 ·exact (hTS t ht).1.same (hg.block t (hTS t ht).1.lt (fun h => e (Option.some.inj h)))
theorem delM_ok {m : List (Int × Int)} (h : TOk m) (k : Int) : TOk (delM m k) := fun x hx => h x (delM_mem.1 hx).1
theorem below_grown {n r : Nat} {w0 a b : World} (h : Below n w0 a) (hg : a.grownBy b (some r)) (hn : n ≤ a.heap.size) (hl : n ≤ r) : Below n w0 b :=
 below_of_grown h hg hn (fun g e => by rw [← Option.some.inj e]; exact hl)
set_option maxHeartbeats 4000000 in
set_option maxRecDepth 100000 in
theorem wheel_Wheel_Drop.calls (lo hi g c : Nat) (s : WS) (n : Int) (w0 w : World) (hI : WAt w lo hi g c s) (hB : Below w0.heap.size w0 w) (hlo : w0.heap.size ≤ lo) (hn : wfI n) :
  Calls Try.prog 10 #[.pointer (some ⟨g, 0, none⟩), .int .i64 n] w fun e w' => e = .returned (.int .i64 (if hasM s.m n = true then 0 else 5)) ∧ WAt w' lo hi g c { s with m := delM s.m n } ∧ Below w0.heap.size w0 w' ∧ KeepI lo hi w w' := by
 obtain ⟨ma, ts, hX, hL, hM, hOK, hTS, hR⟩ := hI
 have HX := Aside0.mk hX
 have HM := Aside0.mk hM
 have HT := Aside0.mk hTS
 have HR := Aside0.mk hR
 have HB := Aside0.mk hB
 have HL := Aside0.mk hL
 have HN := Aside0.mk hn
 have HO := Aside0.mk hOK
 have HLO := Aside0.mk hlo
 have hc1 := blk_cell hX 1
 change _ = some (Value.map (some ma)) at hc1
 have hlk := hM.look_ok hn
 clear hX hM hTS hR hB hL hn hOK hlo
 cases hh : hasM s.m n with
 | false =>
  rw [hh] at hlk
  have HH := Aside0.mk hh
  clear hh
  go_enter Try.func10, Try.ntmps10
  go_wp2
  go_ret
  exact ⟨rfl, ⟨ma, ts, HX.out, HL.out, by rw [delM_none HH.out]; exact HM.out, by rw [delM_none HH.out]; exact HO.out, HT.out, HR.out⟩, HB.out, KeepI.refl _ _ _⟩
 | true =>
  rw [hh] at hlk
  have hat := getM_ok HO.out n
  obtain ⟨az, haz⟩ : ∃ z_, getM s.m n = z_ := ⟨_, rfl⟩
  rw [haz] at hlk hat
  obtain ⟨i, hi⟩ : ∃ i_ : Nat, Int.tmod az 64 = (i_ : Int) ∧ i_ < 64 := ⟨(az % 64).toNat, by rw [Int.tmod_eq_emod_of_nonneg hat.1]; omega, by omega⟩
  have HI_ := Aside0.mk hi.2
  have hmod := hi.1
  obtain ⟨t, ht⟩ : ∃ t_, ts[i]? = some t_ := ⟨_, List.getElem?_eq_getElem (show i < ts.length by have := HL.out; omega)⟩
  have HTI := Aside0.mk ht
  have HTM := Aside0.mk (List.mem_of_getElem? ht)
  have HHH := Aside0.mk hh
  clear hh hat haz hi ht
  go_enter Try.func10, Try.ntmps10
  go_upto_region 4 with fail
  clear hlk
  obtain ⟨W1, hrun, hM1, hg1⟩ := HM.out.del HN.out 0
  have HM1 := Aside0.mk hM1
  have HG1 := Aside0.mk hg1
  clear hM1 hg1
  go_upto_region 5 with fail
  clear hrun hc1
  have hX1 := WAt.cells HX.out HM.out.map HG1.out
  have hz := blk_cell hX1 (2 + i)
  rw [show (cellsW s.now ma (ts.map some))[2 + i]? = some (.map (some t)) by
   have hil := (List.getElem?_eq_some_iff.1 HTI.out).1
   rw [Nat.add_comm, tcell_get hil]
   rw [List.getElem?_eq_getElem hil] at HTI
   rw [Option.some.inj HTI.out]] at hz
  have HX1 := Aside0.mk hX1
  have HT1 := Aside0.mk (slots_grown HT.out HG1.out (.inr (fun hm => (HT.out ma hm).2.1 rfl)))
  obtain ⟨W2, hrun, hS2, hg2⟩ := (HT1.out t HTM.out).1.del HN.out 0
  have HT2 := Aside0.mk (slots_grown HT1.out hg2 (.inl hS2))
  have HX2 := Aside0.mk (WAt.cells HX1.out (HT1.out t HTM.out).1.map hg2)
  have HM2 := Aside0.mk (HM1.out.same (hg2.block ma HM1.out.lt (fun e => (HT1.out t HTM.out).2.1 (Option.some.inj e).symm)))
  have HB1 := Aside0.mk (below_grown HB.out HG1.out HB.out.size (by have := HR.out; have := HLO.out; omega))
  have HB2 := Aside0.mk (below_grown HB1.out hg2 HB1.out.size (by have := (HT1.out t HTM.out).2; have := HLO.out; omega))
  have HK := Aside0.mk ((KeepI.of_grown HG1.out HR.out.2.2.1 HR.out.2.2.2).trans (KeepI.of_grown hg2 (HT1.out t HTM.out).2.2.1 (HT1.out t HTM.out).2.2.2))
  clear hX1 hS2 hg2
  have p1 : ((i : Nat) : Int) < 64 := by have := HI_.out; omega
  replace p1 := eq_true p1
  go_wp2
  go_ret
  exact ⟨rfl, ⟨ma, ts, HX2.out, HL.out, HM2.out, delM_ok HO.out n, HT2.out, HR.out⟩, HB2.out, HK.out⟩



/-! ### wheel_Wheel_Set: function 9 (by hand) -/
-- over wheel_Wheel_Drop.calls wheel_Wheel_Drop.callsR
def badT (n at_ : Int) : Prop := n < 0 ∨ 1073741824 < n ∨ at_ < 0 ∨ 1099511627776 < at_
instance (n at_ : Int) : Decidable (badT n at_) := inferInstanceAs (Decidable (n < 0 ∨ 1073741824 < n ∨ at_ < 0 ∨ 1099511627776 < at_))
def WS.set (s : WS) (n at_ : Int) : WS × Int := if badT n at_ then (s, 1) else if hasM s.m n = false ∧ 1024 ≤ s.m.length then (s, 2) else ({ s with m := putM s.m n at_ }, 0)
theorem delM_twice (m : List (Int × Int)) (k : Int) : delM (delM m k) k = delM m k := by unfold delM; rw [List.filter_filter]; congr 1; funext x; simp
theorem putM_ok {m : List (Int × Int)} (h : TOk m) {n at_ : Int} (hb : ¬ badT n at_) : TOk (putM m n at_) := fun x hx => by
 rcases List.mem_cons.1 hx with rfl | hx
 ·unfold badT at hb; dsimp only; omega
 ·exact delM_ok h n x hx
theorem putM_delM (m : List (Int × Int)) (n at_ : Int) : putM (delM m n) n at_ = putM m n at_ := by unfold putM; rw [delM_twice]
set_option maxHeartbeats 4000000 in
set_option maxRecDepth 100000 in
theorem wheel_Wheel_Set.calls (lo hi g c : Nat) (s : WS) (n at_ : Int) (w0 w : World) (hI : WAt w lo hi g c s) (hB : Below w0.heap.size w0 w) (hlo : w0.heap.size ≤ lo) (hc : c < 1000000) (hl : s.m.length ≤ 1024) :
  Calls Try.prog 9 #[.pointer (some ⟨g, 0, none⟩), .int .i64 n, .int .i64 at_] w fun e w' => e = .returned (.int .i64 (s.set n at_).2) ∧ WAt w' lo hi g (c + 1) (s.set n at_).1 ∧ Below w0.heap.size w0 w' ∧ KeepI lo hi w w' := by
 have HI := Aside0.mk hI
 have HB := Aside0.mk hB
 have HLO := Aside0.mk hlo
 have HC := Aside0.mk hc
 have HSL := Aside0.mk hl
 clear hI hB hlo hc hl
 by_cases hb : badT n at_
 ·have e : s.set n at_ = (s, 1) := by unfold WS.set; rw [if_pos hb]
  rw [e]
  clear e
  unfold badT at hb
  by_cases c1 : n < 0
  ·have d1 : decide (n < 0) = true := decide_eq_true c1
   clear hb c1
   go_enter Try.func9, Try.ntmps9
   go_wp2
   go_ret
   exact ⟨rfl, HI.out.mono (by omega), HB.out, KeepI.refl _ _ _⟩
  have d1 : decide (n < 0) = false := decide_eq_false c1
  by_cases c2 : 1073741824 < n
  ·have d2 : decide (1073741824 < n) = true := decide_eq_true c2
   clear hb c1 c2
   go_enter Try.func9, Try.ntmps9
   go_wp2
   go_ret
   exact ⟨rfl, HI.out.mono (by omega), HB.out, KeepI.refl _ _ _⟩
  have d2 : decide (1073741824 < n) = false := decide_eq_false c2
  by_cases c3 : at_ < 0
  ·have d3 : decide (at_ < 0) = true := decide_eq_true c3
   clear hb c1 c2 c3
   go_enter Try.func9, Try.ntmps9
   go_wp2
   go_ret
   exact ⟨rfl, HI.out.mono (by omega), HB.out, KeepI.refl _ _ _⟩
  have d3 : decide (at_ < 0) = false := decide_eq_false c3
  have d4 : decide (1099511627776 < at_) = true := decide_eq_true (by omega)
  clear hb c1 c2 c3
  go_enter Try.func9, Try.ntmps9
  go_wp2
  go_ret
  exact ⟨rfl, HI.out.mono (by omega), HB.out, KeepI.refl _ _ _⟩
 have HNB := Aside0.mk hb
 have hb' := hb
 unfold badT at hb'
 have HN := Aside0.mk (show wfI n ∧ wfI at_ by unfold wfI; omega)
 have d1 : decide (n < 0) = false := decide_eq_false (by omega)
 have d2 : decide (1073741824 < n) = false := decide_eq_false (by omega)
 have d3 : decide (at_ < 0) = false := decide_eq_false (by omega)
 have d4 : decide (1099511627776 < at_) = false := decide_eq_false (by omega)
 have HA := Aside0.mk (show 0 ≤ at_ ∧ at_ ≤ 1099511627776 by omega)
 clear hb hb'
 have hI := HI.out
 obtain ⟨ma, ts, hX, hL, hM, hOK, hTS, hR⟩ := hI
 have hc1 := blk_cell hX 1
 change _ = some (Value.map (some ma)) at hc1
 have HOK0 := Aside0.mk hOK
 have hlk := hM.look_ok HN.out.1
 have hln := hM.len 3
 clear hX hL hM hOK hTS hR
 obtain ⟨L, hLn⟩ : ∃ l_ : Int, (s.m.length : Int) = l_ := ⟨_, rfl⟩
 rw [hLn] at hln
 have HLN := Aside0.mk hLn
 clear hLn
 by_cases hfull : hasM s.m n = false ∧ 1024 ≤ s.m.length
 ·have e : s.set n at_ = (s, 2) := by unfold WS.set; rw [if_neg HNB.out, if_pos hfull]
  rw [e]
  rw [hfull.1] at hlk
  have d5 : decide (1024 ≤ L) = true := decide_eq_true (by have := HLN.out; omega)
  clear e hfull
  go_enter Try.func9, Try.ntmps9
  go_wp2
  go_ret
  exact ⟨rfl, HI.out.mono (by omega), HB.out, KeepI.refl _ _ _⟩
 have e : s.set n at_ = ({ s with m := putM s.m n at_ }, 0) := by unfold WS.set; rw [if_neg HNB.out, if_neg hfull]
 rw [e]
 clear e
 have HF := Aside0.mk hfull
 clear hfull
 have hcs : hasM s.m n = true ∨ (hasM s.m n = false ∧ decide (1024 ≤ L) = false) := by
  cases hh : hasM s.m n with
  | true => exact .inl rfl
  | false => exact .inr ⟨rfl, decide_eq_false (by have := HLN.out; have := HF.out; intro h; exact this ⟨hh, by omega⟩)⟩
 go_enter Try.func9, Try.ntmps9
 rcases hcs with hh | ⟨hh, d5⟩
 all_goals
  rw [hh] at hlk
  go_upto_region 6 with fail
  clear hh hlk hln hc1
  go_wp2_with fail
  refine (wheel_Wheel_Drop.calls lo hi g c s n w0 w HI.out HB.out HLO.out HN.out.1).mono ?_
  obtain ⟨rv, hrv⟩ : ∃ r_ : Int, (if hasM s.m n = true then 0 else 5) = r_ := ⟨_, rfl⟩
  rw [hrv]
  clear hrv
  rintro e W1 ⟨rfl, hI, hB, hK⟩
  have HI1 := Aside0.mk hI
  have HB1 := Aside0.mk hB
  have HK1 := Aside0.mk hK
  clear hI hB hK HI HB
  obtain ⟨ma, ts, hX, hL, hM, hOK, hTS, hR⟩ := HI1.out
  have HL := Aside0.mk hL
  have HT := Aside0.mk hTS
  have HR := Aside0.mk hR
  have HX := Aside0.mk hX
  have HM := Aside0.mk hM
  have hc1 := blk_cell hX 1
  change _ = some (Value.map (some ma)) at hc1
  obtain ⟨W2, hrun, hM2, hg2⟩ := hM.put HN.out.1 HN.out.2 (by have := @delM_len s.m n; have := HSL.out; show (delM s.m n).length < 1000000; omega)
  have HM2 := Aside0.mk (show MapAt W2 ma (putM s.m n at_) by rw [← putM_delM]; exact hM2)
  have HG2 := Aside0.mk hg2
  clear hX hL hM hOK hTS hR hM2 hg2
  have hmx : (if at_ < 0 then 0 else at_) = at_ := if_neg (by have := HA.out; omega)
  go_upto_region 9 with fail
  clear hrun hc1 hmx
  have HX2 := Aside0.mk (WAt.cells HX.out HM.out.map HG2.out)
  have HT2 := Aside0.mk (slots_grown HT.out HG2.out (.inr (fun hm => (HT.out ma hm).2.1 rfl)))
  obtain ⟨i, hi⟩ : ∃ i_ : Nat, Int.tmod at_ 64 = (i_ : Int) ∧ i_ < 64 := ⟨(at_ % 64).toNat, by rw [Int.tmod_eq_emod_of_nonneg HA.out.1]; omega, by omega⟩
  have hmod := hi.1
  obtain ⟨t, ht⟩ : ∃ t_, ts[i]? = some t_ := ⟨_, List.getElem?_eq_getElem (show i < ts.length by have := HL.out; omega)⟩
  have HTI := Aside0.mk ht
  have HTM := Aside0.mk (List.mem_of_getElem? ht)
  have hz := blk_cell HX2.out (2 + i)
  rw [show (cellsW s.now ma (ts.map some))[2 + i]? = some (.map (some t)) by
   have hil := (List.getElem?_eq_some_iff.1 HTI.out).1
   rw [Nat.add_comm, tcell_get hil]
   rw [List.getElem?_eq_getElem hil] at HTI
   rw [Option.some.inj HTI.out]] at hz
  obtain ⟨W3, hrun, hS3, hg3⟩ := (HT2.out t HTM.out).1.put HN.out.1 HC.out
  have HT3 := Aside0.mk (slots_grown (fun t_ h => ⟨(HT2.out t_ h).1.mono (Nat.le_succ c), (HT2.out t_ h).2⟩) hg3 (.inl hS3))
  have HX3 := Aside0.mk (WAt.cells HX2.out (HT2.out t HTM.out).1.map hg3)
  have HM3 := Aside0.mk (HM2.out.same (hg3.block ma HM2.out.lt (fun e => (HT2.out t HTM.out).2.1 (Option.some.inj e).symm)))
  have HB2 := Aside0.mk (below_grown HB1.out HG2.out HB1.out.size (by have := HR.out; have := HLO.out; omega))
  have HB3 := Aside0.mk (below_grown HB2.out hg3 HB2.out.size (by have := (HT2.out t HTM.out).2; have := HLO.out; omega))
  have HK := Aside0.mk (HK1.out.trans ((KeepI.of_grown HG2.out HR.out.2.2.1 HR.out.2.2.2).trans (KeepI.of_grown hg3 (HT2.out t HTM.out).2.2.1 (HT2.out t HTM.out).2.2.2)))
  have HO3 := Aside0.mk (putM_ok HOK0.out HNB.out)
  have p1 : ((i : Nat) : Int) < 64 := by omega
  replace p1 := eq_true p1
  clear hi ht hS3 hg3
  go_wp2
  go_ret
  exact ⟨rfl, ⟨ma, ts, HX3.out, HL.out, HM3.out, HO3.out, HT3.out, HR.out⟩, HB3.out, HK.out⟩



/-! ### cmp_isNaN_int: function 45 (by hand) -/
-- over wheel_New.calls wheel_New.callsR
set_option maxHeartbeats 4000000 in
set_option maxRecDepth 100000 in
theorem cmp_isNaN_int.calls (x : Int) (w : World) : Calls Try.prog 45 #[.int .i64 x] w fun e w' => e = .returned (.bool false) ∧ w' = w := by
 go_enter Try.func45, Try.ntmps45
 go_wp2
 go_ret
 exact ⟨by first | rfl | (simp; done), rfl⟩



/-! ### cmp_Compare_int: function 32 (by hand) -/
-- over cmp_isNaN_int.calls cmp_isNaN_int.callsR
def cmpI (x y : Int) : Int := if x < y then -1 else if y < x then 1 else 0
set_option maxHeartbeats 4000000 in
set_option maxRecDepth 100000 in
theorem cmp_Compare_int.calls (x y : Int) (w : World) : Calls Try.prog 32 #[.int .i64 x, .int .i64 y] w fun e w' => e = .returned (.int .i64 (cmpI x y)) ∧ w' = w := by
 obtain ⟨r, hr, h⟩ : ∃ r, cmpI x y = r ∧ ((decide (x < y) = true ∧ r = -1) ∨ (decide (x < y) = false ∧ decide (y < x) = true ∧ r = 1) ∨ (decide (x < y) = false ∧ decide (y < x) = false ∧ r = 0)) := by
  unfold cmpI
  by_cases h1 : x < y
  ·exact ⟨-1, by rw [if_pos h1], .inl ⟨decide_eq_true h1, rfl⟩⟩
  ·by_cases h2 : y < x
   ·exact ⟨1, by rw [if_neg h1, if_pos h2], .inr (.inl ⟨decide_eq_false h1, decide_eq_true h2, rfl⟩)⟩
   ·exact ⟨0, by rw [if_neg h1, if_neg h2], .inr (.inr ⟨decide_eq_false h1, decide_eq_false h2, rfl⟩)⟩
 rw [hr]
 clear hr
 rcases h with ⟨d1, rfl⟩ | ⟨d1, d2, rfl⟩ | ⟨d1, d2, rfl⟩
 all_goals
  go_enter Try.func32, Try.ntmps32
  go_wp2_with fail
  refine (cmp_isNaN_int.calls x _).mono ?_
  rintro e W1 ⟨rfl, rfl⟩
  go_wp2_with fail
  refine (cmp_isNaN_int.calls y _).mono ?_
  rintro e W2 ⟨rfl, rfl⟩
  go_wp2
  go_ret
  exact ⟨rfl, rfl⟩



/-! ### cmp_Or_int: function 31 (by hand) -/
-- over cmp_Compare_int.calls cmp_Compare_int.callsR
set_option maxHeartbeats 4000000 in
set_option maxRecDepth 100000 in
theorem cmp_Or_int.calls (b : Nat) (x y : Int) (w : World) (h : w.heap[b]? = some (.cells #[.int .i64 x, .int .i64 y] 3 (0, 0))) :
  Calls Try.prog 31 #[.slice (some ⟨b, 0, none⟩) 2 2] w fun e w' => e = .returned (.int .i64 (if x = 0 then y else x)) ∧ w' = w := by
 have hc0 := blk_cell h 0
 have hc1 := blk_cell h 1
 change _ = some (Value.int .i64 x) at hc0
 change _ = some (Value.int .i64 y) at hc1
 clear h
 obtain ⟨rv, hrv⟩ : ∃ r_ : Int, (if x = 0 then y else x) = r_ := ⟨_, rfl⟩
 rw [hrv]
 have HRV := Aside0.mk hrv
 clear hrv
 go_enter Try.func31, Try.ntmps31
 go_wp2_with fail
 go_loopg [8] 2 (fun kq v8 W => ∃ (i : Nat) (iz : Int), v8 = .int .i64 iz ∧ Aside0 (iz = (i : Int) ∧ kq + i = 2) ∧ Aside0 ((i = 0 → True) ∧ (1 ≤ i → x = 0) ∧ (2 ≤ i → y = 0)) ∧ W = w)
 case atStart => exact ⟨0, 0, rfl, ⟨rfl, rfl⟩, ⟨fun _ => trivial, fun h => absurd h (by decide), fun h => absurd h (by decide)⟩, rfl⟩
 case round =>
  obtain ⟨i, iz, rfl, HK, HZ, rfl⟩ := hrel
  have hk := HK.out
  obtain rfl | rfl | rfl : i = 0 ∨ i = 1 ∨ i = 2 := by omega
  ·obtain rfl : iz = 0 := by omega
   obtain ⟨k1, rfl⟩ : ∃ k1, gk = k1 + 1 := ⟨gk - 1, by omega⟩
   clear hk
   by_cases hx : x = 0
   ·have d1 : (x != 0) = false := by simp [hx]
    have HX := Aside0.mk hx
    clear hx
    go_wp2
    go_roundg k1
    case measure => omega
    case rel => exact ⟨1, _, rfl, ⟨by decide, by have := HK.out; omega⟩, ⟨fun _ => trivial, fun _ => HX.out, fun h => absurd h (by decide)⟩, rfl⟩
   ·have d1 : (x != 0) = true := by simp [hx]
    have HX := Aside0.mk hx
    clear hx
    go_wp2
    go_ret
    exact ⟨by have h := HRV.out; rw [if_neg HX.out] at h; rw [← h]; rfl, rfl⟩
  ·obtain rfl : iz = 1 := by omega
   obtain ⟨k1, rfl⟩ : ∃ k1, gk = k1 + 1 := ⟨gk - 1, by omega⟩
   clear hk
   by_cases hy : y = 0
   ·have d1 : (y != 0) = false := by simp [hy]
    have HY := Aside0.mk hy
    clear hy
    go_wp2
    go_roundg k1
    case measure => omega
    case rel => exact ⟨2, _, rfl, ⟨by decide, by have := HK.out; omega⟩, ⟨fun _ => trivial, fun _ => HZ.out.2.1 (by decide), fun _ => HY.out⟩, rfl⟩
   ·have d1 : (y != 0) = true := by simp [hy]
    clear hy
    go_wp2
    go_ret
    exact ⟨by have h := HRV.out; rw [if_pos (HZ.out.2.1 (by decide))] at h; rw [← h]; rfl, rfl⟩
  ·obtain rfl : iz = 2 := by omega
   clear hk
   go_wp2
   go_ret
   exact ⟨by have h := HRV.out; rw [if_pos (HZ.out.2.1 (by decide)), HZ.out.2.2 (by decide)] at h; rw [← h]; rfl, rfl⟩



/-! ### wheel_Wheel_order: function 24 (by hand) -/
-- over wheel_Wheel_Set.calls wheel_Wheel_Set.callsR cmp_Or_int.calls cmp_Or_int.callsR
theorem val_holeT {T : List Nat} {vs : List Value} {x : Nat → Value} {k : Nat} {u : Value} (ht : T.contains k = false) (h : vs.getD k undef = u) : AnyOrder.val_ T vs x k = u := by unfold AnyOrder.val_; rw [ht]; exact h
theorem res_eq_ {P : Program} {K : Value → World → Prop} {r r' : Result Next} (h : r' = r) (k : AnyOrder.Res P K r) : AnyOrder.Res P K r' := by subst h; exact k
/-- how two timers stand -/
def cfO (m : List (Int × Int)) (a b : Int) : Int := if cmpI (getM m a) (getM m b) = 0 then cmpI a b else cmpI (getM m a) (getM m b)
def wheel_Wheel_order.R (wb : World) (c1 c2 : Int) (j : Nat) (W : World) (v : Value) : Prop := j = 16 → ∃ b, v = .slice (some ⟨b, 0, none⟩) 2 2 ∧ W.heap[b]? = some (.cells #[.int .i64 c1, .int .i64 c2] 3 (0, 0))
theorem wheel_Wheel_order.R_keep {wb : World} {c1 c2 : Int} {j : Nat} {W W' : World} {v : Value} (hb : Below W.heap.size W W') (h : wheel_Wheel_order.R wb c1 c2 j W v) : wheel_Wheel_order.R wb c1 c2 j W' v := fun hj => by
 obtain ⟨b, e, h2⟩ := h hj
 exact ⟨b, e, blk_below h2 hb⟩
set_option maxHeartbeats 4000000 in
set_option maxRecDepth 100000 in
theorem wheel_Wheel_order.calls (lo hi g c : Nat) (s : WS) (a b : Int) (w : World) (hI : WAt w lo hi g c s) (ha : wfI a) (hb : wfI b) :
  Calls Try.prog 24 #[.pointer (some ⟨g, 0, none⟩), .int .i64 a, .int .i64 b] w fun e w' => e = .returned (.int .i64 (cfO s.m a b)) ∧ Below w.heap.size w w' := by
 obtain ⟨ma, ts, hX, hL, hM, hOK, hTS, hR⟩ := hI
 have HX := Aside0.mk hX
 have HM := Aside0.mk hM
 have HA := Aside0.mk ha
 have HBB := Aside0.mk hb
 have hc1 := blk_cell hX 1
 change _ = some (Value.map (some ma)) at hc1
 have e : cfO s.m a b = if cmpI (getM s.m a) (getM s.m b) = 0 then cmpI a b else cmpI (getM s.m a) (getM s.m b) := rfl
 obtain ⟨c1, hcc1⟩ : ∃ r_ : Int, cmpI (getM s.m a) (getM s.m b) = r_ := ⟨_, rfl⟩
 obtain ⟨c2, hcc2⟩ : ∃ r_ : Int, cmpI a b = r_ := ⟨_, rfl⟩
 rw [hcc1, hcc2] at e
 obtain ⟨rv, hrv⟩ : ∃ r_ : Int, (if c1 = 0 then c2 else c1) = r_ := ⟨_, rfl⟩
 rw [hrv] at e
 have HRV := Aside0.mk hrv
 rw [e]
 obtain ⟨ga, hga⟩ : ∃ r_ : Int, getM s.m a = r_ := ⟨_, rfl⟩
 obtain ⟨gb, hgb⟩ : ∃ r_ : Int, getM s.m b = r_ := ⟨_, rfl⟩
 have HLA := Aside0.mk (show ∀ W' : World, Below w.heap.size w W' → (Instr.lookup 28 (.map (some ma)) (.int .i64 a) false).run Try.prog W' = .ok (.int .i64 ga) W' from fun W' hW => by rw [← hga]; exact (HM.out.below hW).look HA.out)
 have HLB := Aside0.mk (show ∀ W' : World, Below w.heap.size w W' → (Instr.lookup 28 (.map (some ma)) (.int .i64 b) false).run Try.prog W' = .ok (.int .i64 gb) W' from fun W' hW => by rw [← hgb]; exact (HM.out.below hW).look HBB.out)
 rw [hga, hgb] at hcc1
 have HC1 := Aside0.mk hcc1
 have HC2 := Aside0.mk hcc2
 clear hX hL hM hOK hTS hR ha hb e hcc1 hcc2 hrv hga hgb
 have R_keep_ : ∀ {j : Nat} {W1 W2 : World} {v : Value}, Below W1.heap.size W1 W2 → wheel_Wheel_order.R w c1 c2 j W1 v → wheel_Wheel_order.R w c1 c2 j W2 v := wheel_Wheel_order.R_keep
 go_enter Try.func24, Try.ntmps24
 go_upto_region 1 with fail
 have same : ∀ (ph : Nat) W', Below w.heap.size w W' → Below W'.heap.size W' W' := fun _ W' _ => Below.refl _ _
 refine AnyEvents.region_then (P := Try.prog) 18 (E := []) (C := fun (_ : Nat) W' => Below w.heap.size w W') (G := fun _ _ W1_ W2_ => Below W1_.heap.size W1_ W2_) (T := [16]) (R := fun _ => wheel_Wheel_order.R w c1 c2) (vs := [?v1_0, ?v1_1, ?v1_2, ?v1_3, ?v1_4, (.int .i64 ga), ?v1_6, ?v1_7, ?v1_8, ?v1_9, ?v1_10, (.int .i64 gb), (.int .i64 c1), ?v1_13, ?v1_14, (.int .i64 c2), undef, (.int .i64 rv)]) (by kernel_rfl) (by kernel_rfl) rfl (by kernel_rfl) ?hc1r same (fun _ _ _ _ _ _ _ hg h => R_keep_ hg h) (fun _ h => nomatch h) (fun x => ?obs1r) ?fin1r
 case hc1r => exact ⟨rfl, rfl, rfl, Nat.le_refl _, fun _ _ => rfl⟩
 case obs1r =>
  refine AnyEvents.obs_cons ?v1_0 (val_holeT rfl (by simp only [List.getD_cons_zero, List.getD_cons_succ])) (AnyEvents.ob_plain (v := ?v1_0) rfl rfl rfl same (by simp only [List.getD_cons_zero, List.getD_cons_succ]) (fun ph W' hwn hW => ?_)) ?_
  ·have z0 := pw_cell_below hW hc1; first | (go_simp; done) | (go_simp; (try simp only [i64_w]); rfl) | (go_simp; simp; rfl)
  try simp only [Act.put, List.setIfInBounds_toArray, List.set_cons_zero, List.set_cons_succ]
  refine AnyEvents.obs_cons ?v1_1 (val_holeT rfl (by simp only [List.getD_cons_zero, List.getD_cons_succ])) (AnyEvents.ob_plain (v := ?v1_1) rfl rfl rfl same (by simp only [List.getD_cons_zero, List.getD_cons_succ]) (fun ph W' hwn hW => ?_)) ?_
  ·have z0 := pw_cell_below hW hc1; first | (go_simp; done) | (go_simp; (try simp only [i64_w]); rfl) | (go_simp; simp; rfl)
  try simp only [Act.put, List.setIfInBounds_toArray, List.set_cons_zero, List.set_cons_succ]
  refine AnyEvents.obs_cons ?v1_2 (val_holeT rfl (by simp only [List.getD_cons_zero, List.getD_cons_succ])) (AnyEvents.ob_plain (v := ?v1_2) rfl rfl rfl same (by simp only [List.getD_cons_zero, List.getD_cons_succ]) (fun ph W' hwn hW => ?_)) ?_
  ·have z0 := pw_cell_below hW hc1; first | (go_simp; done) | (go_simp; (try simp only [i64_w]); rfl) | (go_simp; simp; rfl)
  try simp only [Act.put, List.setIfInBounds_toArray, List.set_cons_zero, List.set_cons_succ]
  refine AnyEvents.obs_cons ?v1_3 (val_holeT rfl (by simp only [List.getD_cons_zero, List.getD_cons_succ])) (AnyEvents.ob_plain (v := ?v1_3) rfl rfl rfl same (by simp only [List.getD_cons_zero, List.getD_cons_succ]) (fun ph W' hwn hW => ?_)) ?_
  ·have z0 := pw_cell_below hW hc1; first | (go_simp; done) | (go_simp; (try simp only [i64_w]); rfl) | (go_simp; simp; rfl)
  try simp only [Act.put, List.setIfInBounds_toArray, List.set_cons_zero, List.set_cons_succ]
  refine AnyEvents.obs_cons ?v1_4 (val_holeT rfl (by simp only [List.getD_cons_zero, List.getD_cons_succ])) (AnyEvents.ob_plain (v := ?v1_4) rfl rfl rfl same (by simp only [List.getD_cons_zero, List.getD_cons_succ]) (fun ph W' hwn hW => ?_)) ?_
  ·have z0 := pw_cell_below hW hc1; first | (go_simp; done) | (go_simp; (try simp only [i64_w]); rfl) | (go_simp; simp; rfl)
  try simp only [Act.put, List.setIfInBounds_toArray, List.set_cons_zero, List.set_cons_succ]
  refine AnyEvents.obs_cons (.int .i64 ga) (val_holeT rfl (by simp only [List.getD_cons_zero, List.getD_cons_succ])) (AnyEvents.ob_plain (v := (.int .i64 ga)) rfl rfl rfl same (by simp only [List.getD_cons_zero, List.getD_cons_succ]) (fun ph W' hwn hW => ?_)) ?_
  ·have hla := HLA.out W' hW; first | (go_simp; done) | (go_simp; rfl)
  try simp only [Act.put, List.setIfInBounds_toArray, List.set_cons_zero, List.set_cons_succ]
  refine AnyEvents.obs_cons ?v1_6 (val_holeT rfl (by simp only [List.getD_cons_zero, List.getD_cons_succ])) (AnyEvents.ob_plain (v := ?v1_6) rfl rfl rfl same (by simp only [List.getD_cons_zero, List.getD_cons_succ]) (fun ph W' hwn hW => ?_)) ?_
  ·have z0 := pw_cell_below hW hc1; first | (go_simp; done) | (go_simp; (try simp only [i64_w]); rfl) | (go_simp; simp; rfl)
  try simp only [Act.put, List.setIfInBounds_toArray, List.set_cons_zero, List.set_cons_succ]
  refine AnyEvents.obs_cons ?v1_7 (val_holeT rfl (by simp only [List.getD_cons_zero, List.getD_cons_succ])) (AnyEvents.ob_plain (v := ?v1_7) rfl rfl rfl same (by simp only [List.getD_cons_zero, List.getD_cons_succ]) (fun ph W' hwn hW => ?_)) ?_
  ·have z0 := pw_cell_below hW hc1; first | (go_simp; done) | (go_simp; (try simp only [i64_w]); rfl) | (go_simp; simp; rfl)
  try simp only [Act.put, List.setIfInBounds_toArray, List.set_cons_zero, List.set_cons_succ]
  refine AnyEvents.obs_cons ?v1_8 (val_holeT rfl (by simp only [List.getD_cons_zero, List.getD_cons_succ])) (AnyEvents.ob_plain (v := ?v1_8) rfl rfl rfl same (by simp only [List.getD_cons_zero, List.getD_cons_succ]) (fun ph W' hwn hW => ?_)) ?_
  ·have z0 := pw_cell_below hW hc1; first | (go_simp; done) | (go_simp; (try simp only [i64_w]); rfl) | (go_simp; simp; rfl)
  try simp only [Act.put, List.setIfInBounds_toArray, List.set_cons_zero, List.set_cons_succ]
  refine AnyEvents.obs_cons ?v1_9 (val_holeT rfl (by simp only [List.getD_cons_zero, List.getD_cons_succ])) (AnyEvents.ob_plain (v := ?v1_9) rfl rfl rfl same (by simp only [List.getD_cons_zero, List.getD_cons_succ]) (fun ph W' hwn hW => ?_)) ?_
  ·have z0 := pw_cell_below hW hc1; first | (go_simp; done) | (go_simp; (try simp only [i64_w]); rfl) | (go_simp; simp; rfl)
  try simp only [Act.put, List.setIfInBounds_toArray, List.set_cons_zero, List.set_cons_succ]
  refine AnyEvents.obs_cons ?v1_10 (val_holeT rfl (by simp only [List.getD_cons_zero, List.getD_cons_succ])) (AnyEvents.ob_plain (v := ?v1_10) rfl rfl rfl same (by simp only [List.getD_cons_zero, List.getD_cons_succ]) (fun ph W' hwn hW => ?_)) ?_
  ·have z0 := pw_cell_below hW hc1; first | (go_simp; done) | (go_simp; (try simp only [i64_w]); rfl) | (go_simp; simp; rfl)
  try simp only [Act.put, List.setIfInBounds_toArray, List.set_cons_zero, List.set_cons_succ]
  refine AnyEvents.obs_cons (.int .i64 gb) (val_holeT rfl (by simp only [List.getD_cons_zero, List.getD_cons_succ])) (AnyEvents.ob_plain (v := (.int .i64 gb)) rfl rfl rfl same (by simp only [List.getD_cons_zero, List.getD_cons_succ]) (fun ph W' hwn hW => ?_)) ?_
  ·have hlb := HLB.out W' hW; first | (go_simp; done) | (go_simp; rfl)
  try simp only [Act.put, List.setIfInBounds_toArray, List.set_cons_zero, List.set_cons_succ]
  refine AnyEvents.obs_cons (.int .i64 c1) (val_holeT rfl (by simp only [List.getD_cons_zero, List.getD_cons_succ])) (AnyEvents.ob_call (v := (.int .i64 c1)) rfl rfl rfl (by simp only [List.getD_cons_zero, List.getD_cons_succ]) 32 #[.int .i64 ga, .int .i64 gb] (fun ph W' hwn hW => ?_) (fun ph W' hwn hW => ?_)) ?_
  ·first | (go_simp; done) | (go_simp; rfl)
  ·refine (cmp_Compare_int.calls ga gb W').mono ?_; rintro e W3 ⟨rfl, rfl⟩; exact ⟨by rw [HC1.out], hW, Below.refl _ _⟩
  try simp only [Act.put, List.setIfInBounds_toArray, List.set_cons_zero, List.set_cons_succ]
  refine AnyEvents.obs_cons ?v1_13 (val_holeT rfl (by simp only [List.getD_cons_zero, List.getD_cons_succ])) (AnyEvents.ob_plain (v := ?v1_13) rfl rfl rfl same (by simp only [List.getD_cons_zero, List.getD_cons_succ]) (fun ph W' hwn hW => ?_)) ?_
  ·have z0 := pw_cell_below hW hc1; first | (go_simp; done) | (go_simp; (try simp only [i64_w]); rfl) | (go_simp; simp; rfl)
  try simp only [Act.put, List.setIfInBounds_toArray, List.set_cons_zero, List.set_cons_succ]
  refine AnyEvents.obs_cons ?v1_14 (val_holeT rfl (by simp only [List.getD_cons_zero, List.getD_cons_succ])) (AnyEvents.ob_plain (v := ?v1_14) rfl rfl rfl same (by simp only [List.getD_cons_zero, List.getD_cons_succ]) (fun ph W' hwn hW => ?_)) ?_
  ·have z0 := pw_cell_below hW hc1; first | (go_simp; done) | (go_simp; (try simp only [i64_w]); rfl) | (go_simp; simp; rfl)
  try simp only [Act.put, List.setIfInBounds_toArray, List.set_cons_zero, List.set_cons_succ]
  refine AnyEvents.obs_cons (.int .i64 c2) (val_holeT rfl (by simp only [List.getD_cons_zero, List.getD_cons_succ])) (AnyEvents.ob_call (v := (.int .i64 c2)) rfl rfl rfl (by simp only [List.getD_cons_zero, List.getD_cons_succ]) 32 #[.int .i64 a, .int .i64 b] (fun ph W' hwn hW => ?_) (fun ph W' hwn hW => ?_)) ?_
  ·first | (go_simp; done) | (go_simp; rfl)
  ·refine (cmp_Compare_int.calls a b W').mono ?_; rintro e W3 ⟨rfl, rfl⟩; exact ⟨by rw [HC2.out], hW, Below.refl _ _⟩
  try simp only [Act.put, List.setIfInBounds_toArray, List.set_cons_zero, List.set_cons_succ]
  refine AnyEvents.obs_cons (x 16) rfl (AnyEvents.ob_hand rfl (fun ph W' hwn hW ht => ?_)) ?_
  ·have hb := below_alloc (Below.refl W'.heap.size W') (Obj.cells #[.int .i64 c1, .int .i64 c2] 3)
   refine res_ok (v := .slice (some ⟨W'.heap.size, 0, none⟩) 2 2) (w' := W'.alloc (.cells #[.int .i64 c1, .int .i64 c2] 3)) (by first | (go_simp; done) | (go_simp; rfl)) ⟨below_step hW hb, hb, ?_⟩
   rw [if_pos (by decide)]; unfold wheel_Wheel_order.R; intro _
   exact ⟨_, rfl, blk_new _ _⟩
  try simp only [Act.put, List.setIfInBounds_toArray, List.set_cons_zero, List.set_cons_succ]
  refine AnyEvents.obs_cons (.int .i64 rv) (val_holeT rfl (by simp only [List.getD_cons_zero, List.getD_cons_succ])) (AnyEvents.ob_hand rfl (fun ph W' hwn hW ht => ?_)) ?_
  ·obtain ⟨b_, e1, e2⟩ := ht 16 _ _ rfl rfl (by decide) (by kernel_rfl) rfl
   have hrun : ∀ v0, v0 = .slice (some ⟨b_, 0, none⟩) 2 2 → AnyOrder.Res Try.prog (fun v w' => Below w.heap.size w w' ∧ Below W'.heap.size W' w' ∧ v = .int .i64 rv) (.ok (.enter 31 #[v0]) W') := fun v0 hv0 => by
    subst hv0
    refine (cmp_Or_int.calls b_ c1 c2 W' e2).mono ?_
    rintro e W3 ⟨rfl, rfl⟩
    exact ⟨_, rfl, hW, Below.refl _ _, by rw [HRV.out]⟩
   have h2 := hrun _ e1
   refine (show AnyOrder.Res Try.prog _ _ from ?_)
   refine res_eq_ (r := .ok (.enter 31 #[x 16]) W') (by first | (go_simp; done) | (go_simp; rfl)) ?_
   exact h2
  try simp only [Act.put, List.setIfInBounds_toArray, List.set_cons_zero, List.set_cons_succ]
  trivial
 case fin1r =>
  intro x W' hD hR
  simp only [List.take_succ_cons, List.take_zero, List.drop_succ_cons, List.drop_zero]
  rw [AnyOrder.lexAt_cons ?v1_0 (val_holeT rfl (by simp only [List.getD_cons_zero, List.getD_cons_succ]))]
  try simp only [Act.put, List.setIfInBounds_toArray, List.set_cons_zero, List.set_cons_succ]
  rw [AnyOrder.lexAt_cons ?v1_1 (val_holeT rfl (by simp only [List.getD_cons_zero, List.getD_cons_succ]))]
  try simp only [Act.put, List.setIfInBounds_toArray, List.set_cons_zero, List.set_cons_succ]
  rw [AnyOrder.lexAt_cons ?v1_2 (val_holeT rfl (by simp only [List.getD_cons_zero, List.getD_cons_succ]))]
  try simp only [Act.put, List.setIfInBounds_toArray, List.set_cons_zero, List.set_cons_succ]
  rw [AnyOrder.lexAt_cons ?v1_3 (val_holeT rfl (by simp only [List.getD_cons_zero, List.getD_cons_succ]))]
  try simp only [Act.put, List.setIfInBounds_toArray, List.set_cons_zero, List.set_cons_succ]
  rw [AnyOrder.lexAt_cons ?v1_4 (val_holeT rfl (by simp only [List.getD_cons_zero, List.getD_cons_succ]))]
  try simp only [Act.put, List.setIfInBounds_toArray, List.set_cons_zero, List.set_cons_succ]
  rw [AnyOrder.lexAt_cons (.int .i64 ga) (val_holeT rfl (by simp only [List.getD_cons_zero, List.getD_cons_succ]))]
  try simp only [Act.put, List.setIfInBounds_toArray, List.set_cons_zero, List.set_cons_succ]
  rw [AnyOrder.lexAt_cons ?v1_6 (val_holeT rfl (by simp only [List.getD_cons_zero, List.getD_cons_succ]))]
  try simp only [Act.put, List.setIfInBounds_toArray, List.set_cons_zero, List.set_cons_succ]
  rw [AnyOrder.lexAt_cons ?v1_7 (val_holeT rfl (by simp only [List.getD_cons_zero, List.getD_cons_succ]))]
  try simp only [Act.put, List.setIfInBounds_toArray, List.set_cons_zero, List.set_cons_succ]
  rw [AnyOrder.lexAt_cons ?v1_8 (val_holeT rfl (by simp only [List.getD_cons_zero, List.getD_cons_succ]))]
  try simp only [Act.put, List.setIfInBounds_toArray, List.set_cons_zero, List.set_cons_succ]
  rw [AnyOrder.lexAt_cons ?v1_9 (val_holeT rfl (by simp only [List.getD_cons_zero, List.getD_cons_succ]))]
  try simp only [Act.put, List.setIfInBounds_toArray, List.set_cons_zero, List.set_cons_succ]
  rw [AnyOrder.lexAt_cons ?v1_10 (val_holeT rfl (by simp only [List.getD_cons_zero, List.getD_cons_succ]))]
  try simp only [Act.put, List.setIfInBounds_toArray, List.set_cons_zero, List.set_cons_succ]
  rw [AnyOrder.lexAt_cons (.int .i64 gb) (val_holeT rfl (by simp only [List.getD_cons_zero, List.getD_cons_succ]))]
  try simp only [Act.put, List.setIfInBounds_toArray, List.set_cons_zero, List.set_cons_succ]
  rw [AnyOrder.lexAt_cons (.int .i64 c1) (val_holeT rfl (by simp only [List.getD_cons_zero, List.getD_cons_succ]))]
  try simp only [Act.put, List.setIfInBounds_toArray, List.set_cons_zero, List.set_cons_succ]
  rw [AnyOrder.lexAt_cons ?v1_13 (val_holeT rfl (by simp only [List.getD_cons_zero, List.getD_cons_succ]))]
  try simp only [Act.put, List.setIfInBounds_toArray, List.set_cons_zero, List.set_cons_succ]
  rw [AnyOrder.lexAt_cons ?v1_14 (val_holeT rfl (by simp only [List.getD_cons_zero, List.getD_cons_succ]))]
  try simp only [Act.put, List.setIfInBounds_toArray, List.set_cons_zero, List.set_cons_succ]
  rw [AnyOrder.lexAt_cons (.int .i64 c2) (val_holeT rfl (by simp only [List.getD_cons_zero, List.getD_cons_succ]))]
  try simp only [Act.put, List.setIfInBounds_toArray, List.set_cons_zero, List.set_cons_succ]
  rw [AnyOrder.lexAt_cons (x 16) rfl]
  try simp only [Act.put, List.setIfInBounds_toArray, List.set_cons_zero, List.set_cons_succ]
  rw [AnyOrder.lexAt_cons (.int .i64 rv) (val_holeT rfl (by simp only [List.getD_cons_zero, List.getD_cons_succ]))]
  try simp only [Act.put, List.setIfInBounds_toArray, List.set_cons_zero, List.set_cons_succ]
  rw [AnyOrder.lexAt_nil]
  clear same
  clear hR R_keep_ hc1
  go_wp2
  go_ret
  exact ⟨rfl, hD⟩


end Go.Proofs.Ytcfnijeplaibeaa.PWheelOnce

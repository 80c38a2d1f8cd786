-- Words that this claim's texts need, laid by this claim's own program.
import Derived.Below
import Derived.Deep.Draws
import Derived.Deep.AppendLies
import Derived.Maps.AppendAt
import Derived.OwnWalk
import Derived.Laws.BytesArg
import Derived.Laws.MakeOwn
import Derived.Laws.OwnMore
import Derived.Deep.OwnRows
import Derived.Tactics
import Derived.Lib.ConvBytes
import Derived.Laws.Slices
import Derived.WalkKit
import Derived.KernelRfl
import Derived.RowKit3
import Derived.Deep.LoopGhost
import Derived.Deep.QuietTactic
import Derived.BigQuiet
import Derived.WideLaws
import Derived.Deep.DeepCutAuto
import Derived.Deep.CutBlock
import Derived.Deep.RegionHeld3
import Derived.Laws.Rows
import Derived.Lib.AppendStr
import Derived.ArgAppend
import Derived.Laws.IdiomCopy
import Derived.RowKit
import Derived.OrdersHeld
import Derived.Laws.BitsLemmas
import Derived.Still
import Derived.LoopTactic
import Derived.ChangeKeysEq
import Derived.Laws.Cover3
import Derived.Deep.MidRow
import Derived.Laws.StructEq
import Derived.ProofKit
import Derived.SizedLaws
import Derived.DataReads
import Derived.ChangeArms
section
set_option linter.unusedVariables false
set_option linter.unusedSimpArgs false
namespace Go.Proofs.YtcfnijeplaibeaaW.PrintWords
open Go.RowKit
/-- A fact that the walk's simp doesn't look into. -/
structure Aside0 (p : Prop) : Prop where mk :: (out : p)
/-- The world is the old one, some orders having been drawn. -/
structure Drawn0 (w w' : World) : Prop where mk :: (out : ∃ n, w' = w.drewN n)
theorem Drawn0.refl (w : World) : Drawn0 w w := ⟨⟨0, rfl⟩⟩
theorem Drawn0.step {w w' : World} (h : Drawn0 w w') (n : Nat) : Drawn0 w (w'.drewN n) := by
  obtain ⟨m, rfl⟩ := h
  exact ⟨⟨m + n, World.drewN_drewN ..⟩⟩
theorem Drawn0.grown {w w' : World} (h : Drawn0 w w') : Grown w w' := by
  obtain ⟨n, rfl⟩ := h
  induction n with
  | zero => exact Grown.refl _
  | succ n ih => rw [← World.drew_drewN]; exact Grown.drew ih
theorem Drawn0.below {w w' : World} (h : Drawn0 w w') : Below w.heap.size w w' := by
  obtain ⟨n, rfl⟩ := h
  induction n with
  | zero => exact Below.refl _ _
  | succ n ih => rw [← World.drew_drewN]; exact ih.drew
def rd (xs : List Int) (i : Int) : Int := xs.getD i.toNat 0
theorem below_alloc {w W : World} (h : Below w.heap.size w W) (o : Obj) : Below w.heap.size w (W.alloc o) := h.alloc h.size o
theorem below_then {B : Nat} {w w1 w2 : World} (h : Below B w w1) (hB : B ≤ w1.heap.size) (k : Below w1.heap.size w1 w2) : Below B w w2 :=
  h.trans ⟨k.os, k.tape, k.output, k.size, fun i hi => k.block i (Nat.lt_of_lt_of_le hi hB)⟩
theorem grown_of_below {w w1 : World} (h : Below w.heap.size w w1) (row : Option Nat) : w.grownBy w1 row := ⟨h.os, h.tape, h.output, h.size, fun i hi _ => h.block i hi⟩
theorem pw_cell_below {w w1 : World} (h : Below w.heap.size w w1) {a : Addr} {v : Value} (hc : w.cell? a = some v) : w1.cell? a = some v := (h.cell (World.block_lt_of_cell? w a hc)).trans hc
def ReadsInt (w : World) (k : IntKind) (A : Option Addr) (n : Nat) (xs : List Int) : Prop :=
  xs.length = n ∧ n ≤ 9223372036854775807 ∧ (0 < n → ∃ ad, A = some ad ∧ ∀ j, j < n → w.cell? (ad.add j) = some (.int k (xs.getD j 0)))
theorem ReadsInt.at_ {w : World} {k : IntKind} {A : Option Addr} {n : Nat} {xs : List Int} (h : ReadsInt w k A n xs) (i : Int) (h0 : 0 ≤ i) (h1 : i < n) : ∃ ad, A = some ad ∧ w.cell? (ad.add i.toNat) = some (.int k (rd xs i)) := by
  obtain ⟨ad, e, hc⟩ := h.2.2 (by omega)
  exact ⟨ad, e, hc _ (by omega)⟩
theorem ReadsInt.below {w w1 : World} {k : IntKind} {A : Option Addr} {n : Nat} {xs : List Int} (h : ReadsInt w k A n xs) (hb : Below w.heap.size w w1) : ReadsInt w1 k A n xs :=
  ⟨h.1, h.2.1, fun hn => by
    obtain ⟨ad, e, hc⟩ := h.2.2 hn
    exact ⟨ad, e, fun j hj => pw_cell_below hb (hc j hj)⟩⟩
theorem own_base {w : World} {base : Nat} {e : TypeId} {size n : Nat} {v : Value} {xs : List Value} (h : w.ownsRow base e size v n xs) (k : Nat) (hk : v.ownBlock = some k) : base ≤ k := by
  rcases h.2 with ⟨rfl, _⟩ | ⟨g, cap, cur, rfl, hb, _⟩
  · simp [Value.ownBlock] at hk
  · have : g = k := by simpa [Value.ownBlock] using hk
    omega
theorem own_lt {w : World} {base : Nat} {e : TypeId} {size n : Nat} {v : Value} {xs : List Value} (h : w.ownsRow base e size v n xs) (k : Nat) (hk : v.ownBlock = some k) : k < w.heap.size := by
  rcases h.2 with ⟨rfl, _⟩ | ⟨g, cap, cur, rfl, hb, hh, _⟩
  · simp [Value.ownBlock] at hk
  · have : g = k := by simpa [Value.ownBlock] using hk
    subst this
    exact (Array.getElem?_eq_some_iff.1 hh).1
theorem pw_own_below {w w1 : World} {base : Nat} {e : TypeId} {size n : Nat} {v : Value} {xs : List Value} (h : w.ownsRow base e size v n xs) (hb : Below w.heap.size w w1) : w1.ownsRow base e size v n xs :=
  h.kept (grown_of_below hb none) (by cases v.ownBlock <;> simp)
/-- What is written is another row: this one lives on. -/
theorem own_other {w w1 : World} {base : Nat} {e : TypeId} {size n : Nat} {v : Value} {xs : List Value} (h : w.ownsRow base e size v n xs) {row : Option Nat} (hg : w.grownBy w1 row) (hne : v.ownBlock = none ∨ v.ownBlock ≠ row) : w1.ownsRow base e size v n xs := h.kept hg hne
section
variable {P : Program} {ops : Array Oper} {rest : List Oper} {o : Oper} {a : Act} {Q : Exit → Act → World → Prop}
end
section
variable {P : Program}
end
section
variable {P : Program} {ops : Array Oper} {rest : List Oper} {o : Oper} {a : Act} {Q : Exit → Act → World → Prop}
end
def bytesOf (s : ByteArray) : List Int := s.data.toList.map fun b => (b.toNat : Int)
/-- Where the first answers, the second answers the same. -/
def LeO {α : Type} (a b : Option α) : Prop := ∀ r, a = some r → b = some r
theorem LeO.refl {α : Type} (a : Option α) : LeO a a := fun _ h => h
theorem LeO.none {α : Type} (b : Option α) : LeO Option.none b := fun _ h => by cases h
theorem LeO.trans {α : Type} {a b c : Option α} (h : LeO a b) (k : LeO b c) : LeO a c := fun r hr => k r (h r hr)
theorem LeO.ite {α : Type} {c : Prop} [Decidable c] {a a' b b' : Option α} (h : LeO a a') (k : LeO b b') : LeO (if c then a else b) (if c then a' else b') := by
  split
  · exact h
  · exact k
theorem LeO.bind {α β : Type} {a a' : Option α} {f f' : α → Option β} (h : LeO a a') (k : ∀ x, LeO (f x) (f' x)) : LeO (a.bind f) (a'.bind f') := by
  intro r hr
  obtain ⟨x, hx, hf⟩ := Option.bind_eq_some_iff.1 hr
  exact Option.bind_eq_some_iff.2 ⟨x, h x hx, k x r hf⟩
theorem LeO.map {α β : Type} {a a' : Option α} (f : α → β) (h : LeO a a') : LeO (a.map f) (a'.map f) := by
  intro r hr
  obtain ⟨x, hx, hf⟩ := Option.map_eq_some_iff.1 hr
  exact Option.map_eq_some_iff.2 ⟨x, h x hx, hf⟩
theorem more_rounds {α : Type} {g : Nat → Option α} (h : ∀ k, LeO (g k) (g (k + 1))) (k : Nat) : ∀ j, LeO (g k) (g (k + j))
  | 0 => LeO.refl _
  | j + 1 => (more_rounds h k j).trans (h (k + j))
theorem at_rounds {α : Type} {g : Nat → Option α} (h : ∀ k, LeO (g k) (g (k + 1))) {k k' : Nat} (hk : k ≤ k') {r : α} (hr : g k = some r) : g k' = some r := by
  have := more_rounds h k (k' - k) r hr
  rwa [Nat.add_sub_cancel' hk] at this
def Reps {α : Type} (R : α → List Value → Prop) (size : Nat) (ps : List α) (cs : List Value) : Prop :=
  cs.length = ps.length * size ∧ ∀ j p, ps[j]? = some p → R p ((cs.drop (j * size)).take size)
theorem Reps.none {α : Type} (R : α → List Value → Prop) (size : Nat) : Reps R size [] [] := ⟨by simp, fun j p h => by simp at h⟩
theorem Reps.snoc {α : Type} {R : α → List Value → Prop} {size : Nat} {ps : List α} {cs c : List Value} {p : α} (h : Reps R size ps cs) (hp : R p c) (hc : c.length = size) : Reps R size (ps ++ [p]) (cs ++ c) := by
  refine ⟨by rw [List.length_append, h.1, hc, List.length_append, List.length_singleton, Nat.add_mul, Nat.one_mul], fun j q hq => ?_⟩
  rcases Nat.lt_or_ge j ps.length with hj | hj
  · rw [List.getElem?_append_left hj] at hq
    have h1 : j * size + size ≤ cs.length := by rw [h.1, ← Nat.succ_mul]; exact Nat.mul_le_mul_right _ hj
    have h2 := h.2 j q hq
    rw [List.drop_append_of_le_length (by omega), List.take_append_of_le_length (by rw [List.length_drop]; omega)]
    exact h2
  · have hj' : j = ps.length := by
      have := (List.getElem?_eq_some_iff.1 hq).1
      rw [List.length_append, List.length_singleton] at this
      omega
    subst hj'
    have hq' : p = q := by simpa using hq
    subst hq'
    rw [← h.1, List.drop_left, ← hc, List.take_length]
    exact hp
theorem Reps.imp_ {α : Type} {R R' : α → List Value → Prop} {size : Nat} {ps : List α} {cs : List Value} (h : Reps R size ps cs) (hR : ∀ p c, R p c → R' p c) : Reps R' size ps cs := ⟨h.1, fun j p hj => hR _ _ (h.2 j p hj)⟩
def ReadsRow {α : Type} (R : α → List Value → Prop) (size : Nat) (w : World) (A : Option Addr) (n : Nat) (ps : List α) : Prop :=
  ps.length = n ∧ n ≤ 9223372036854775807 ∧ (0 < n → ∃ ad, A = some ad ∧ ∀ j p, ps[j]? = some p → ∃ c, c.length = size ∧ R p c ∧ ∀ i u, c[i]? = some u → w.cell? (ad.add (j * size + i)) = some u)
theorem ReadsRow.get_ {α : Type} {R : α → List Value → Prop} {size : Nat} {w : World} {A : Option Addr} {n : Nat} {ps : List α} (h : ReadsRow R size w A n ps) (d : α) (i : Int) (h0 : 0 ≤ i) (h1 : i < n) :
    ∃ ad c, A = some ad ∧ c.length = size ∧ R (ps.getD i.toNat d) c ∧ ∀ j u, c[j]? = some u → w.cell? (ad.add (i.toNat * size + j)) = some u := by
  obtain ⟨ad, e, hc⟩ := h.2.2 (by omega)
  have hl : i.toNat < ps.length := by have := h.1; omega
  obtain ⟨c, hs, hr, hcell⟩ := hc i.toNat _ (List.getElem?_eq_getElem hl)
  refine ⟨ad, c, e, hs, ?_, hcell⟩
  rw [List.getD_eq_getElem?_getD, List.getElem?_eq_getElem hl]
  exact hr
theorem ReadsRow.imp_ {α : Type} {R R' : α → List Value → Prop} {size : Nat} {w w1 : World} {A : Option Addr} {n : Nat} {ps : List α} (h : ReadsRow R size w A n ps) (hb : Below w.heap.size w w1) (hR : ∀ p c, R p c → R' p c) : ReadsRow R' size w1 A n ps :=
  ⟨h.1, h.2.1, fun hn => by
    obtain ⟨ad, e, hc⟩ := h.2.2 hn
    refine ⟨ad, e, fun j p hj => ?_⟩
    obtain ⟨c, hs, hr, hcell⟩ := hc j p hj
    exact ⟨c, hs, hR _ _ hr, fun i u hu => pw_cell_below hb (hcell i u hu)⟩⟩
theorem own_reads_row {α : Type} {R : α → List Value → Prop} {w : World} {base n size : Nat} {e : TypeId} {v : Value} {ps : List α} {cs : List Value} (h : w.ownsRow base e size v n cs) (hR : Reps R size ps cs) (hn : ps.length = n) :
    ∃ A c, v = .slice A n c ∧ ReadsRow R size w A n ps := by
  rcases Nat.eq_zero_or_pos n with h0 | h0
  · rcases h.2 with ⟨rfl, rfl⟩ | ⟨g, cap, cur, rfl, _⟩
    · exact ⟨none, 0, rfl, hn, by omega, fun hp => absurd hp (by omega)⟩
    · exact ⟨_, cap, rfl, hn, by omega, fun hp => absurd hp (by omega)⟩
  · obtain ⟨g, cap, rfl, _, _⟩ := h.form h0
    have hm : n ≤ 9223372036854775807 := by
      rcases h.2 with ⟨_, h1⟩ | ⟨g', cap', cur, he, _, _, h1, h2, _⟩
      · omega
      · simp only [maxLen] at h2
        omega
    refine ⟨_, cap, rfl, hn, hm, fun _ => ⟨_, rfl, fun j p hj => ⟨(cs.drop (j * size)).take size, ?_, hR.2 j p hj, fun i u hu => ?_⟩⟩⟩
    · have hjl := (List.getElem?_eq_some_iff.1 hj).1
      have h1 : j * size + size ≤ cs.length := by rw [hR.1, ← Nat.succ_mul]; exact Nat.mul_le_mul_right _ hjl
      rw [List.length_take, List.length_drop]
      omega
    · refine h.cells (g := g) rfl _ u ?_
      rw [List.getElem?_take] at hu
      split at hu
      · rw [List.getElem?_drop] at hu
        exact hu
      · cases hu
/-- A field's address as_ the walk spells it. -/
theorem add_field (ad : Addr) (m j : Nat) (hj : 0 < j) : ad.add (m + j) = ⟨(ad.add m).block, (ad.add m).off + j, none⟩ := by
  unfold Addr.add
  by_cases hm : m = 0
  · subst hm
    simp [Nat.ne_of_gt hj]
  · simp [hm, Nat.add_assoc]
section
variable {P : Program} {ops : Array Oper} {rest : List Oper} {o : Oper} {a : Act} {Q : Exit → Act → World → Prop}
/-- append(v, x), x of several cells; behind 'at_builtin'; the goal's world is 'W.alloc' of the variadic's box. -/
theorem print_append_cells {w0 W : World} (base : Nat) (hgd : o.guard = none) (s x : Operand) (t e : TypeId) (z : Value) (size bytes : Nat)
    (ho : o.op = .call { callee := .builtin .append, args := #[s, x], argTypes := #[t, t] })
    (ht : P.underlying t = some (.slice e)) (hinfo : (P.info? e).map (fun i => (i.zero, i.size, i.bytes)) = some (some z, size, bytes)) (hz : z.cells.size = size) (hs0 : 0 < size) (hb0 : 0 < bytes)
    (v : Value) (n : Nat) (xs ys : List Value) (hs : a.eval s = v) (hx : a.eval x = .slice (some ⟨W.heap.size, 0, none⟩) 1 1) (hys : ys.length = size) (h1 : ∀ u ∈ ys, u.oneCell' = true)
    (HO : W.ownsRow base e size v n xs) (HB : Below base w0 W) (hbase : base ≤ W.heap.size) (hl : (n + 1) * bytes ≤ 140737488355328)
    (h : ∀ v1 w1, w1.ownsRow base e size v1 (n + 1) (xs ++ ys) → Below base w0 w1 → W.grownBy w1 v.ownBlock → (v1.ownBlock = v.ownBlock ∨ ∃ b, v1.ownBlock = some b ∧ W.heap.size ≤ b) → wpList P ops Q rest (a.put o.dst v1) w1) :
    wpList P ops Q (o :: rest) a (W.alloc (.cells ys.toArray e)) := by
  obtain ⟨i0, hi, hzz⟩ := Option.map_eq_some_iff.1 hinfo
  simp only [Prod.mk.injEq] at hzz
  obtain ⟨hz0, hz1, hz2⟩ := hzz
  have hlen : n + 1 ≤ 140737488355328 := Nat.le_trans (Nat.le_mul_of_pos_right _ hb0) hl
  refine wpList_append_own_at (W.alloc (.cells ys.toArray e)) hgd s x t ho base e i0 z size bytes ht hi hz0 hz1 hz2 hz hs0 v n xs hs (HO.alloc _) ⟨W.heap.size, 0, none⟩ 1 1 ys hx (by rw [hys]; simp)
    (by simpa using World.news_of_block (cs := ys.toArray) (t := e) (fr := (0, 0)) (heap_alloc_new W (.cells ys.toArray e))) h1 (by simp only [maxLen]; omega) hl (by simp; omega) ?_
  intro v1 w1 hown hg _ hat
  refine h v1 w1 hown ((HB.alloc hbase _).grown hg (by simp; omega) (own_base HO)) (World.grownBy.trans (World.grownBy_alloc W _ _) hg) ?_
  rcases hat with hat | hat
  · exact .inl hat
  · exact .inr ⟨_, hat, by simp⟩
end
theorem own_ne {w : World} {base : Nat} {e t : TypeId} {size n g : Nat} {v : Value} {xs : List Value} {cs : Array Value} (h : w.ownsRow base e size v n xs) (hg : w.heap[g]? = some (.cells cs t (0, 0))) (hne : e ≠ t) : some g ≠ v.ownBlock := by
  rcases h.2 with ⟨rfl, _⟩ | ⟨g', cap, cur, rfl, _, hh, _⟩
  · simp [Value.ownBlock]
  · intro he
    have : g = g' := by simpa [Value.ownBlock] using he
    subst this
    rw [hg] at hh
    injection hh with hh
    injection hh with _ ht
    exact hne ht.symm
theorem blk_set {w : World} {g : Nat} {t : TypeId} {cs : Array Value} (h : w.heap[g]? = some (.cells cs t (0, 0))) (i : Nat) (u : Value) : (w.setCell ⟨g, i, none⟩ u).heap[g]? = some (.cells (cs.setIfInBounds i u) t (0, 0)) := by
  simp [World.setCell, Array.getElem?_modify, h]
theorem blk_lt {w : World} {g : Nat} {o : Obj} (h : w.heap[g]? = some o) : g < w.heap.size := (Array.getElem?_eq_some_iff.1 h).1
theorem blk_cell {w : World} {g : Nat} {t : TypeId} {cs : Array Value} (h : w.heap[g]? = some (.cells cs t (0, 0))) (i : Nat) : w.cell? ⟨g, i, none⟩ = cs[i]? := cell_of_row w g i cs t (0, 0) h
theorem blk_frozen {w : World} {g : Nat} {t : TypeId} {cs : Array Value} (h : w.heap[g]? = some (.cells cs t (0, 0))) (i : Nat) : w.frozen? ⟨g, i, none⟩ = false := by simp [World.frozen?, h]
def KeepBut (w w' : World) (g : Nat) (row : Option Nat) : Prop := w.heap.size ≤ w'.heap.size ∧ ∀ i, i < w.heap.size → i ≠ g → some i ≠ row → w'.heap[i]? = w.heap[i]?
theorem KeepBut.refl (w : World) (g : Nat) (row : Option Nat) : KeepBut w w g row := ⟨Nat.le_refl _, fun _ _ _ _ => rfl⟩
theorem KeepBut.of_grown {w w1 : World} {row : Option Nat} (h : w.grownBy w1 row) (g : Nat) : KeepBut w w1 g row := ⟨h.size, fun i hi _ hr => h.block i hi hr⟩
theorem KeepBut.of_below {w w1 : World} (h : Below w.heap.size w w1) (g : Nat) (row : Option Nat) : KeepBut w w1 g row := ⟨h.size, fun i hi _ _ => h.block i hi⟩
theorem KeepBut.trans {w w1 w2 : World} {g : Nat} {row row1 : Option Nat} (h : KeepBut w w1 g row) (k : KeepBut w1 w2 g row1) (hr : row1 = row ∨ ∃ b, row1 = some b ∧ w.heap.size ≤ b) : KeepBut w w2 g row :=
  ⟨Nat.le_trans h.1 k.1, fun i hi hg hn => by
    refine (k.2 i (Nat.lt_of_lt_of_le hi h.1) hg ?_).trans (h.2 i hi hg hn)
    rcases hr with rfl | ⟨b, rfl, hb⟩
    · exact hn
    · intro e
      injection e with e
      omega⟩
/-- Another block, another row: they live on. -/
theorem KeepBut.blk {w w1 : World} {g g' : Nat} {row : Option Nat} {o : Obj} (h : KeepBut w w1 g row) (hb : w.heap[g']? = some o) (hg : g' ≠ g) (hr : some g' ≠ row) : w1.heap[g']? = some o := (h.2 g' (blk_lt hb) hg hr).trans hb
theorem KeepBut.own {w w1 : World} {g : Nat} {row : Option Nat} {base : Nat} {e : TypeId} {size n : Nat} {v : Value} {xs : List Value} (h : KeepBut w w1 g row) (ho : w.ownsRow base e size v n xs) (hg : v.ownBlock ≠ some g) (hr : v.ownBlock = none ∨ v.ownBlock ≠ row) : w1.ownsRow base e size v n xs := by
  obtain ⟨h1, h2⟩ := ho
  refine ⟨h1, ?_⟩
  rcases h2 with h2 | ⟨b, cap, cur, rfl, hb, hh, r⟩
  · exact .inl h2
  · refine .inr ⟨b, cap, cur, rfl, hb, h.blk hh ?_ ?_, r⟩
    · intro e
      exact hg (by rw [← e]; rfl)
    · rcases hr with hr | hr
      · simp [Value.ownBlock] at hr
      · exact hr
def Ev {α : Type} (g : Nat → Option α) (r : α) : Prop := ∃ K, ∀ k, K ≤ k → g k = some r
theorem Ev.of {α : Type} {g : Nat → Option α} {r : α} (hg : ∀ k, LeO (g k) (g (k + 1))) {k : Nat} (h : g k = some r) : Ev g r := ⟨k, fun _ hk => at_rounds hg hk h⟩
theorem Ev.now {α : Type} (r : α) : Ev (fun _ => some r) r := ⟨0, fun _ _ => rfl⟩
theorem Ev.bind {α β : Type} {g : Nat → Option α} {f : Nat → α → Option β} {a : α} {r : β} (h : Ev g a) (k : Ev (fun n => f n a) r) : Ev (fun n => (g n).bind (f n)) r := by
  obtain ⟨K, h⟩ := h
  obtain ⟨K', k⟩ := k
  refine ⟨max K K', fun n hn => ?_⟩
  have h1 := h n (by omega)
  have h2 := k n (by omega)
  simp only [h1, Option.bind_some]
  exact h2
/-- One round of a loop. -/
theorem Ev.step {α : Type} {g f : Nat → Option α} {r : α} (h : ∀ k, g (k + 1) = f k) (k : Ev f r) : Ev g r := by
  obtain ⟨K, k⟩ := k
  refine ⟨K + 1, fun n hn => ?_⟩
  obtain ⟨m, rfl⟩ : ∃ m, n = m + 1 := ⟨n - 1, by omega⟩
  rw [h]
  exact k m (by omega)
theorem Ev.congr {α : Type} {g f : Nat → Option α} {r : α} (h : ∀ k, g k = f k) (k : Ev f r) : Ev g r := by
  obtain ⟨K, k⟩ := k
  exact ⟨K, fun n hn => (h n).trans (k n hn)⟩
section
variable {P : Program} {ops : Array Oper} {o : Oper} {a : Act} {Q : Exit → Act → World → Prop} {K : Act → World → Prop}
end
theorem own_weaken {w : World} {base base' : Nat} {e : TypeId} {size n : Nat} {v : Value} {xs : List Value} (h : w.ownsRow base e size v n xs) (hb : base' ≤ base) : w.ownsRow base' e size v n xs := by
  obtain ⟨h1, h2⟩ := h
  refine ⟨h1, ?_⟩
  rcases h2 with h2 | ⟨g, cap, cur, rfl, hg, r⟩
  · exact .inl h2
  · exact .inr ⟨g, cap, cur, rfl, Nat.le_trans hb hg, r⟩
section
variable {α : Type} {enc : α → Value} {d : α}
def rdOf (d : α) (xs : List α) (i : Int) : α := xs.getD i.toNat d
def ReadsOf (enc : α → Value) (d : α) (w : World) (A : Option Addr) (n : Nat) (xs : List α) : Prop :=
  xs.length = n ∧ n ≤ 9223372036854775807 ∧ (0 < n → ∃ ad, A = some ad ∧ ∀ j, j < n → w.cell? (ad.add j) = some (enc (xs.getD j d)))
theorem ReadsOf.at_ {w : World} {A : Option Addr} {n : Nat} {xs : List α} (h : ReadsOf enc d w A n xs) (i : Int) (h0 : 0 ≤ i) (h1 : i < n) : ∃ ad, A = some ad ∧ w.cell? (ad.add i.toNat) = some (enc (rdOf d xs i)) := by
  obtain ⟨ad, e, hc⟩ := h.2.2 (by omega)
  exact ⟨ad, e, hc _ (by omega)⟩
theorem ReadsOf.below {w w1 : World} {A : Option Addr} {n : Nat} {xs : List α} (h : ReadsOf enc d w A n xs) (hb : Below w.heap.size w w1) : ReadsOf enc d w1 A n xs :=
  ⟨h.1, h.2.1, fun hn => by
    obtain ⟨ad, e, hc⟩ := h.2.2 hn
    exact ⟨ad, e, fun j hj => pw_cell_below hb (hc j hj)⟩⟩
end
section
variable {α : Type} {P : Program} {ops : Array Oper} {rest : List Oper} {o : Oper} {a : Act} {Q : Exit → Act → World → Prop}
end
theorem blk_below {w w1 : World} {g : Nat} {o : Obj} (h : w.heap[g]? = some o) (hb : Below w.heap.size w w1) : w1.heap[g]? = some o := (hb.block g (blk_lt h)).trans h
theorem blk_new (w : World) (o : Obj) : (w.alloc o).heap[w.heap.size]? = some o := heap_alloc_new w o
section
variable {P : Program}
end
theorem own_le {w : World} {base n m c size : Nat} {e : TypeId} {A : Option Addr} {xs : List Value} (h : w.ownsRow base e size (.slice A m c) n xs) : m ≤ c := by
  rcases h.2 with ⟨he, _⟩ | ⟨g, cap, cur, he, _, _, hnc, _⟩
  · injection he with _ h2 h3
    omega
  · injection he with _ h2 h3
    omega
def OwnRow {α : Type} (R : α → List Value → Prop) (e : TypeId) (size : Nat) (w : World) (base : Nat) (v : Value) (ps : List α) : Prop :=
  ∃ inner, w.ownsRow base e size v ps.length inner ∧ Reps R size ps inner
section
variable {α : Type} {R R' : α → List Value → Prop} {e : TypeId} {size : Nat} {w w1 : World} {base : Nat} {v : Value} {ps : List α}
theorem OwnRow.imp_ (h : OwnRow R e size w base v ps) (hR : ∀ p c, R p c → R' p c) : OwnRow R' e size w base v ps := by
  obtain ⟨inner, ho, hr⟩ := h
  exact ⟨inner, ho, hr.imp_ hR⟩
theorem OwnRow.below (h : OwnRow R e size w base v ps) (hb : Below w.heap.size w w1) : OwnRow R e size w1 base v ps := by
  obtain ⟨inner, ho, hr⟩ := h
  exact ⟨inner, pw_own_below ho hb, hr⟩
theorem OwnRow.other (h : OwnRow R e size w base v ps) {row : Option Nat} (hg : w.grownBy w1 row) (hne : v.ownBlock = none ∨ v.ownBlock ≠ row) : OwnRow R e size w1 base v ps := by
  obtain ⟨inner, ho, hr⟩ := h
  exact ⟨inner, own_other ho hg hne, hr⟩
theorem OwnRow.keep (h : OwnRow R e size w base v ps) {g : Nat} {t : TypeId} {cells : Array Value} (hb : w.heap[g]? = some (.cells cells t (0, 0))) (ht : e ≠ t) (hk : KeepBut w w1 g none) : OwnRow R e size w1 base v ps := by
  obtain ⟨inner, ho, hr⟩ := h
  exact ⟨inner, hk.own ho (Ne.symm (own_ne ho hb ht)) (by cases v.ownBlock <;> simp), hr⟩
theorem OwnRow.reads (h : OwnRow R e size w base v ps) : ∃ A c, v = .slice A ps.length c ∧ ps.length ≤ c ∧ ReadsRow R size w A ps.length ps := by
  obtain ⟨inner, ho, hr⟩ := h
  obtain ⟨A, c, rfl, hrow⟩ := own_reads_row ho hr rfl
  exact ⟨A, c, rfl, own_le ho, hrow⟩
/-- A literal: the elements' cells one behind the other. -/
theorem OwnRow.lit (W : World) (base : Nat) {inner : List Value} (hr : Reps R size ps inner) (hb : base ≤ W.heap.size) (hm : ps.length ≤ 9223372036854775807) :
    OwnRow R e size (W.alloc (.cells inner.toArray e)) base (.slice (some ⟨W.heap.size, 0, none⟩) ps.length ps.length) ps := by
  have h := World.ownsRow_lit (base := base) (e := e) (size := size) W inner.toArray ps.length hb (by simpa [maxLen] using hm) (by simpa using hr.1)
  exact ⟨inner, by simpa using h, hr⟩
end
section
variable {P : Program} {ops : Array Oper} {rest : List Oper} {o : Oper} {a : Act} {Q : Exit → Act → World → Prop} {α : Type} {R : α → List Value → Prop}
/-- append(v, x): x's cells are cs. R is that of the world AHEAD; move it over hg ('OwnRow.imp_'). -/
theorem OwnRow.append {w0 W : World} (base : Nat) (hgd : o.guard = none) (s x : Operand) (t e : TypeId) (z : Value) (size bytes : Nat)
    (ho : o.op = .call { callee := .builtin .append, args := #[s, x], argTypes := #[t, t] })
    (ht : P.underlying t = some (.slice e)) (hinfo : (P.info? e).map (fun i => (i.zero, i.size, i.bytes)) = some (some z, size, bytes)) (hz : z.cells.size = size) (hs0 : 0 < size) (hb0 : 0 < bytes)
    (v : Value) (ps : List α) (p : α) (cs : List Value) (hs : a.eval s = v) (hx : a.eval x = .slice (some ⟨W.heap.size, 0, none⟩) 1 1) (hp : R p cs) (hcs : cs.length = size) (h1 : ∀ u ∈ cs, u.oneCell' = true)
    (HO : OwnRow R e size W base v ps) (HB : Below base w0 W) (hbase : base ≤ W.heap.size) (hl : (ps.length + 1) * bytes ≤ 140737488355328)
    (h : ∀ v1 w1, OwnRow R e size w1 base v1 (ps ++ [p]) → Below base w0 w1 → W.grownBy w1 v.ownBlock → (v1.ownBlock = v.ownBlock ∨ ∃ b, v1.ownBlock = some b ∧ W.heap.size ≤ b) → wpList P ops Q rest (a.put o.dst v1) w1) :
    wpList P ops Q (o :: rest) a (W.alloc (.cells cs.toArray e)) := by
  obtain ⟨inner, hown, hr⟩ := HO
  refine print_append_cells base hgd s x t e z size bytes ho ht hinfo hz hs0 hb0 v ps.length inner cs hs hx hcs h1 hown HB hbase hl ?_
  intro v1 w1 hown1 hb1 hg1 hat1
  exact h v1 w1 ⟨inner ++ cs, by rw [List.length_append, List.length_singleton]; exact hown1, hr.snoc hp hcs⟩ hb1 hg1 hat1
end
section
variable {P : Program} {ops : Array Oper} {o : Oper} {a : Act} {Q : Exit → Act → World → Prop} {K : Act → World → Prop} {α : Type} {R : α → List Value → Prop}
end
section
variable {α : Type} {P : Program}
theorem ReadsOf.len_ {enc : α → Value} {d : α} {w : World} {A : Option Addr} {n : Nat} {xs : List α} (h : ReadsOf enc d w A n xs) : ReadsOf enc d w A xs.length xs := by rw [h.1]; exact h
end
section
variable {P : Program} {ops : Array Oper} {rest : List Oper} {o : Oper} {a : Act} {Q : Exit → Act → World → Prop}
end
/-- ok: which blocks the rows inside may be ('not the row that is being written'). -/
structure Kd (α : Type) where
  sz : Nat
  E : List Nat
  K : World → α → List Value → Prop
  M : World → Nat → (Nat → Prop) → α → List Value → Prop
  K_len : ∀ {w x cs}, K w x cs → cs.length = sz
  K_one : ∀ {w x cs}, K w x cs → ∀ u ∈ cs, u.oneCell' = true
  K_below : ∀ {w w1 : World} {x cs}, Below w.heap.size w w1 → K w x cs → K w1 x cs
  K_of_M : ∀ {w base ok x cs}, M w base ok x cs → K w x cs
  M_mono : ∀ {w base ok ok' x cs}, (∀ k, ok k → ok' k) → M w base ok x cs → M w base ok' x cs
  M_bound : ∀ {w : World} {base ok x cs}, M w base ok x cs → M w base (fun k => ok k ∧ base ≤ k ∧ k < w.heap.size ∧ ∃ q, q ∈ E ∧ ∃ cells, w.heap[k]? = some (.cells cells q (0, 0))) x cs
  M_move : ∀ {w w1 : World} {base ok x cs}, (∀ k, ok k → w1.heap[k]? = w.heap[k]?) → M w base ok x cs → M w1 base ok x cs
  M_lower : ∀ {w base base' ok x cs}, base' ≤ base → M w base ok x cs → M w base' ok x cs
theorem own_move {w w1 : World} {base : Nat} {e : TypeId} {size n : Nat} {v : Value} {xs : List Value} (h : w.ownsRow base e size v n xs) (hm : ∀ k, v.ownBlock = some k → w1.heap[k]? = w.heap[k]?) : w1.ownsRow base e size v n xs := by
  obtain ⟨h1, h2⟩ := h
  refine ⟨h1, ?_⟩
  rcases h2 with h2 | ⟨g, cap, cur, rfl, hg, hh, r⟩
  · exact .inl h2
  · exact .inr ⟨g, cap, cur, rfl, hg, (hm g (by simp [Value.ownBlock])).trans hh, r⟩
theorem own_typed {w : World} {base : Nat} {e : TypeId} {size n : Nat} {v : Value} {xs : List Value} (h : w.ownsRow base e size v n xs) (k : Nat) (hk : v.ownBlock = some k) : ∃ cells, w.heap[k]? = some (.cells cells e (0, 0)) := by
  rcases h.2 with ⟨rfl, _⟩ | ⟨g, cap, cur, rfl, hg, hh, r⟩
  · simp [Value.ownBlock] at hk
  · have : g = k := by simpa [Value.ownBlock] using hk
    subst this
    exact ⟨cur, hh⟩
namespace Kd
/-- A row of elements that is read. -/
def C {α : Type} (d : Kd α) (w : World) (A : Option Addr) (n : Nat) (xs : List α) : Prop := ReadsRow (d.K w) d.sz w A n xs
/-- A row of elements (type e) of the call's own; the elements' rows are not this one. -/
def R {α : Type} (d : Kd α) (e : Nat) (w : World) (base : Nat) (ok : Nat → Prop) (v : Value) (xs : List α) : Prop :=
  (∀ k, v.ownBlock = some k → ok k) ∧ OwnRow (d.M w base (fun k => ok k ∧ some k ≠ v.ownBlock)) e d.sz w base v xs
section
variable {α : Type} {d : Kd α} {e : Nat} {w w1 : World} {base : Nat} {ok ok' : Nat → Prop} {v : Value} {xs : List α}
theorem C_below {A : Option Addr} {n : Nat} (h : d.C w A n xs) (hb : Below w.heap.size w w1) : d.C w1 A n xs := ReadsRow.imp_ h hb (fun _ _ hp => d.K_below hb hp)
theorem R_mono (h : d.R e w base ok v xs) (hok : ∀ k, ok k → ok' k) : d.R e w base ok' v xs := ⟨fun k hk => hok k (h.1 k hk), h.2.imp_ (fun _ _ hp => d.M_mono (fun k hk => ⟨hok k hk.1, hk.2⟩) hp)⟩
theorem R_bound (h : d.R e w base ok v xs) : d.R e w base (fun k => ok k ∧ base ≤ k ∧ k < w.heap.size ∧ ∃ q, q ∈ e :: d.E ∧ ∃ cells, w.heap[k]? = some (.cells cells q (0, 0))) v xs := by
  obtain ⟨h0, inner, ho, hr⟩ := h
  refine ⟨fun k hk => ?_, inner, ho, hr.imp_ (fun _ _ hp => d.M_mono (fun k hk => ?_) (d.M_bound hp))⟩
  · obtain ⟨cells, hc⟩ := own_typed ho k hk
    exact ⟨h0 k hk, own_base ho k hk, own_lt ho k hk, e, List.mem_cons_self, cells, hc⟩
  · obtain ⟨⟨h1, h2⟩, h3, h4, q, hq, hc⟩ := hk
    exact ⟨⟨h1, h3, h4, q, List.mem_cons_of_mem _ hq, hc⟩, h2⟩
theorem R_move (h : d.R e w base ok v xs) (hm : ∀ k, ok k → w1.heap[k]? = w.heap[k]?) : d.R e w1 base ok v xs := by
  obtain ⟨h0, inner, ho, hr⟩ := h
  exact ⟨h0, inner, own_move ho (fun k hk => hm k (h0 k hk)), hr.imp_ (fun _ _ hp => d.M_move (fun k hk => hm k hk.1) hp)⟩
theorem R_lower {base' : Nat} (h : d.R e w base ok v xs) (hb : base' ≤ base) : d.R e w base' ok v xs := by
  obtain ⟨h0, inner, ho, hr⟩ := h
  exact ⟨h0, inner, own_weaken ho hb, hr.imp_ (fun _ _ hp => d.M_lower hb hp)⟩
/-- Any mover: what is ok, and a block of w's, stays. -/
theorem R_step (h : d.R e w base ok v xs) (hm : ∀ k, ok k → k < w.heap.size → w1.heap[k]? = w.heap[k]?) : d.R e w1 base ok v xs :=
  R_mono (R_move (R_bound h) (fun k hk => hm k hk.1 hk.2.2.1)) (fun _ hk => hk.1)
theorem R_keep (h : d.R e w base ok v xs) {g : Nat} (hk : KeepBut w w1 g none) (hok : ∀ k, ok k → k ≠ g) : d.R e w1 base ok v xs := R_step h (fun k ho hlt => hk.2 k hlt (hok k ho) (by simp))
theorem R_reads (h : d.R e w base ok v xs) : ∃ A c, v = .slice A xs.length c ∧ xs.length ≤ c ∧ d.C w A xs.length xs := by
  obtain ⟨A, c, he, hl, hr⟩ := OwnRow.reads h.2
  exact ⟨A, c, he, hl, hr.imp_ (Below.refl _ _) (fun _ _ hp => d.K_of_M hp)⟩
end
def scalar {α : Type} (enc : α → Value) (h1 : ∀ x, (enc x).oneCell' = true) : Kd α where
  sz := 1
  E := []
  K := fun _ x cs => cs = [enc x]
  M := fun _ _ _ x cs => cs = [enc x]
  K_len := fun h => by rw [h]; rfl
  K_one := fun h u hu => by
    rw [h] at hu
    rw [List.mem_singleton.1 hu]
    exact h1 _
  K_below := fun _ h => h
  K_of_M := fun h => h
  M_mono := fun _ h => h
  M_bound := fun h => h
  M_move := fun _ h => h
  M_lower := fun _ h => h
def int (k : IntKind) : Kd Int := scalar (Value.int k) (fun _ => rfl)
def bool : Kd Bool := scalar Value.bool (fun _ => rfl)
def string : Kd ByteArray := scalar Value.string (fun _ => rfl)
def slice {α : Type} (e : Nat) (d : Kd α) : Kd (List α) where
  sz := 1
  E := e :: d.E
  K := fun w xs cs => ∃ A c, cs = [.slice A xs.length c] ∧ xs.length ≤ c ∧ d.C w A xs.length xs
  M := fun w base ok xs cs => ∃ v, cs = [v] ∧ d.R e w base ok v xs
  K_len := by
    rintro w x cs ⟨A, c, rfl, _⟩
    rfl
  K_one := by
    rintro w x cs ⟨A, c, rfl, _⟩ u hu
    rw [List.mem_singleton.1 hu]
    rfl
  K_below := by
    rintro w w1 x cs hb ⟨A, c, rfl, hl, hr⟩
    exact ⟨A, c, rfl, hl, C_below hr hb⟩
  K_of_M := by
    rintro w base ok x cs ⟨v, rfl, h⟩
    obtain ⟨A, c, rfl, hl, hr⟩ := R_reads h
    exact ⟨A, c, rfl, hl, hr⟩
  M_mono := by
    rintro w base ok ok' x cs hok ⟨v, rfl, h⟩
    exact ⟨v, rfl, R_mono h hok⟩
  M_bound := by
    rintro w base ok x cs ⟨v, rfl, h⟩
    exact ⟨v, rfl, R_bound h⟩
  M_move := by
    rintro w w1 base ok x cs hm ⟨v, rfl, h⟩
    exact ⟨v, rfl, R_move h hm⟩
  M_lower := by
    rintro w base base' ok x cs hb ⟨v, rfl, h⟩
    exact ⟨v, rfl, R_lower h hb⟩
/-- Two in line. -/
def pair {α β : Type} (a : Kd α) (b : Kd β) : Kd (α × β) where
  sz := a.sz + b.sz
  E := a.E ++ b.E
  K := fun w x cs => ∃ c0 c1, cs = c0 ++ c1 ∧ a.K w x.1 c0 ∧ b.K w x.2 c1
  M := fun w base ok x cs => ∃ c0 c1, cs = c0 ++ c1 ∧ a.M w base ok x.1 c0 ∧ b.M w base ok x.2 c1
  K_len := by
    rintro w x cs ⟨c0, c1, rfl, h0, h1⟩
    rw [List.length_append, a.K_len h0, b.K_len h1]
  K_one := by
    rintro w x cs ⟨c0, c1, rfl, h0, h1⟩ u hu
    rcases List.mem_append.1 hu with hu | hu
    · exact a.K_one h0 u hu
    · exact b.K_one h1 u hu
  K_below := by
    rintro w w1 x cs hb ⟨c0, c1, rfl, h0, h1⟩
    exact ⟨c0, c1, rfl, a.K_below hb h0, b.K_below hb h1⟩
  K_of_M := by
    rintro w base ok x cs ⟨c0, c1, rfl, h0, h1⟩
    exact ⟨c0, c1, rfl, a.K_of_M h0, b.K_of_M h1⟩
  M_mono := by
    rintro w base ok ok' x cs hok ⟨c0, c1, rfl, h0, h1⟩
    exact ⟨c0, c1, rfl, a.M_mono hok h0, b.M_mono hok h1⟩
  M_bound := by
    rintro w base ok x cs ⟨c0, c1, rfl, h0, h1⟩
    refine ⟨c0, c1, rfl, a.M_mono ?_ (a.M_bound h0), b.M_mono ?_ (b.M_bound h1)⟩
    · rintro k ⟨h2, h3, h4, q, hq, hc⟩
      exact ⟨h2, h3, h4, q, List.mem_append_left _ hq, hc⟩
    · rintro k ⟨h2, h3, h4, q, hq, hc⟩
      exact ⟨h2, h3, h4, q, List.mem_append_right _ hq, hc⟩
  M_move := by
    rintro w w1 base ok x cs hm ⟨c0, c1, rfl, h0, h1⟩
    exact ⟨c0, c1, rfl, a.M_move hm h0, b.M_move hm h1⟩
  M_lower := by
    rintro w base base' ok x cs hb ⟨c0, c1, rfl, h0, h1⟩
    exact ⟨c0, c1, rfl, a.M_lower hb h0, b.M_lower hb h1⟩
/-- A Lean structure by its fields. -/
def iso {α β : Type} (d : Kd α) (f : β → α) : Kd β where
  sz := d.sz
  E := d.E
  K := fun w x cs => d.K w (f x) cs
  M := fun w base ok x cs => d.M w base ok (f x) cs
  K_len := d.K_len
  K_one := d.K_one
  K_below := d.K_below
  K_of_M := d.K_of_M
  M_mono := d.M_mono
  M_bound := d.M_bound
  M_move := d.M_move
  M_lower := d.M_lower
/-- Nothing is of this kind: where the nesting's depth is used up. -/
def bot {α : Type} (sz : Nat) (E : List Nat) : Kd α where
  sz := sz
  E := E
  K := fun _ _ _ => False
  M := fun _ _ _ _ _ => False
  K_len := fun h => h.elim
  K_one := fun h => h.elim
  K_below := fun _ h => h
  K_of_M := fun h => h
  M_mono := fun _ h => h
  M_bound := fun h => h
  M_move := fun _ h => h
  M_lower := fun _ h => h
/-- A type nested in itself: nested at most n deep .. -/
def upto {α : Type} (F : Kd α → Kd α) (sz : Nat) (E : List Nat) : Nat → Kd α
  | 0 => bot sz E
  | n + 1 => F (upto F sz E n)
theorem C_get {α : Type} {d : Kd α} {w : World} {A : Option Addr} {n : Nat} {xs : List α} (h : d.C w A n xs) (z : α) (i : Int) (h0 : 0 ≤ i) (h1 : i < n) :
    ∃ ad c, A = some ad ∧ c.length = d.sz ∧ d.K w (xs.getD i.toNat z) c ∧ ∀ j u, c[j]? = some u → w.cell? (ad.add (i.toNat * d.sz + j)) = some u := ReadsRow.get_ h z i h0 h1
section
variable {P : Program} {ops : Array Oper} {rest : List Oper} {o : Oper} {a : Act} {Q : Exit → Act → World → Prop} {α : Type}
end
section
variable {P : Program} {ops : Array Oper} {o : Oper} {a : Act} {Q : Exit → Act → World → Prop} {Kc : Act → World → Prop} {α : Type}
end
theorem reads_of_C {α : Type} {enc : α → Value} {d : α} {h1 : ∀ x, (enc x).oneCell' = true} {w : World} {A : Option Addr} {n : Nat} {xs : List α} (h : (scalar enc h1).C w A n xs) : ReadsOf enc d w A n xs := by
  refine ⟨h.1, h.2.1, fun hn => ?_⟩
  obtain ⟨ad, e, hc⟩ := h.2.2 hn
  refine ⟨ad, e, fun j hj => ?_⟩
  have hl : j < xs.length := by have := h.1; omega
  obtain ⟨c, _, hK, hcell⟩ := hc j _ (List.getElem?_eq_getElem hl)
  have hK' : c = [enc xs[j]] := hK
  subst hK'
  have := hcell 0 _ rfl
  simpa [scalar, List.getD_eq_getElem?_getD, List.getElem?_eq_getElem hl] using this
end Kd
namespace Kd
section
variable {α : Type} {F : Kd α → Kd α} {sz : Nat} {E : List Nat} {hs : ∀ n, (upto F sz E n).sz = sz} {hE : ∀ n q, q ∈ (upto F sz E n).E → q ∈ E}
end
end Kd
namespace Kd
end Kd
namespace Kd
section
variable {α β : Type} {d : Kd α} {d' : Kd β} {e e' : Nat} {w w1 W : World} {base b b' : Nat} {ok ok' okv oku : Nat → Prop} {v u : Value} {xs : List α} {ys : List β}
end
section
variable {w W : World} {A : Option Addr} {n : Nat}
theorem at_int {k : IntKind} {xs : List Int} (h : (Kd.int k).C w A n xs) (i : Int) (h0 : 0 ≤ i) (h1 : i < n) : ∃ ad, A = some ad ∧ w.cell? (ad.add i.toNat) = some (.int k (rd xs i)) :=
  ReadsOf.at_ (reads_of_C (enc := Value.int k) (d := (0 : Int)) (h1 := fun _ => rfl) h) i h0 h1
variable {α : Type} {enc : α → Value} {h1 : ∀ x, (enc x).oneCell' = true} {e base g cap : Nat} {ok : Nat → Prop} {xs : List α}
end
section
variable {P : Program} {ops : Array Oper} {rest : List Oper} {o : Oper} {a : Act} {Q : Exit → Act → World → Prop}
variable {α : Type}
end
end Kd
section
variable {P : Program}
end
/-- A row of one's own that may begin inside its block. -/
def QRow (w : World) (base : Nat) (e : TypeId) (size : Nat) (v : Value) (n : Nat) (xs : List Value) : Prop :=
  xs.length = n * size ∧
  ((n = 0 ∧ ∃ A, v = .slice A 0 0 ∧ ∀ a, A = some a → base ≤ a.block ∧ ∃ cur, w.heap[a.block]? = some (.cells cur e (0, 0))) ∨
   ∃ g off cap cur, v = .slice (some ⟨g, off * size, none⟩) n cap ∧ base ≤ g ∧ w.heap[g]? = some (.cells cur e (0, 0)) ∧ n ≤ cap ∧ off + cap ≤ maxLen ∧ cur.size = (off + cap) * size ∧ (cur.toList.drop (off * size)).take (n * size) = xs)
section
variable {w w1 : World} {base n size : Nat} {e : TypeId} {v : Value} {xs : List Value}
end
section
variable {P : Program}
end
namespace Kd
def Q {α : Type} (d : Kd α) (e : Nat) (w : World) (base : Nat) (ok : Nat → Prop) (v : Value) (xs : List α) : Prop :=
  (∀ k, v.ownBlock = some k → ok k) ∧ ∃ inner, QRow w base e d.sz v xs.length inner ∧ Reps (d.M w base (fun k => ok k ∧ some k ≠ v.ownBlock)) d.sz xs inner
section
variable {α : Type} {d : Kd α} {e : Nat} {w w1 W : World} {base : Nat} {ok ok' : Nat → Prop} {v : Value} {xs : List α}
end
section
variable {P : Program} {ops : Array Oper} {rest : List Oper} {o : Oper} {a : Act} {Q' : Exit → Act → World → Prop} {Kc : Act → World → Prop} {α : Type}
end
end Kd
namespace Kd
section
variable {α : Type} {d : Kd α} {e e' : Nat} {w w1 W : World} {base : Nat} {ok : Nat → Prop} {u v : Value} {xs : List α}
end
end Kd
namespace Kd
section
variable {α : Type} {d : Kd α} {e base g n cap : Nat} {ok okp : Nat → Prop} {W : World} {xs : List α}
end
end Kd
namespace Kd
section
variable {α : Type} {F : Kd α → Kd α} {sz : Nat} {E : List Nat} {hs : ∀ n, (upto F sz E n).sz = sz} {hE : ∀ n q, q ∈ (upto F sz E n).E → q ∈ E}
end
end Kd
namespace Kd
section
variable {P : Program} {ops : Array Oper} {rest : List Oper} {o : Oper} {a : Act} {Q : Exit → Act → World → Prop} {α : Type}
end
end Kd
theorem run_store_run {P : Program} {w : World} {g o : Nat} {e : TypeId} {cur : Array Value} (t : TypeId) (u : Value) (seg : List Value) (hh : w.heap[g]? = some (.cells cur e (0, 0))) (hu : u.cells.toList = seg) (ht : (P.info? t).map (·.size) = some seg.length)
    (hfit : o + seg.length ≤ cur.size) (h1 : ∀ q ∈ seg, q.oneCell' = true) : (Instr.storeAt t (.pointer (some ⟨g, o, none⟩)) u).run P w = .ok () (w.setCells g o seg) := by
  obtain ⟨i, hi, hsz⟩ := Option.map_eq_some_iff.1 ht
  have hc : u.cells.size = i.size := by rw [hsz, ← hu, Array.length_toList]
  have hst := run_storeCells_cells (P := P) g o seg 0 w (fun j hj => by rw [cell_of_row w g _ cur e (0, 0) hh]; simp; omega) (fun j _ => blk_frozen hh _) h1
  simp only [Nat.add_zero] at hst
  simp [Instr.storeAt, Instr.sureAddr, storeVar, sizeOf, typeInfo, hi, hc, hu, hst]
namespace Kd
section
variable {P : Program} {ops : Array Oper} {rest : List Oper} {o : Oper} {a : Act} {Q : Exit → Act → World → Prop} {α : Type}
end
end Kd
namespace Kd
section
variable {α : Type} {k : Kd α} {w : World} {A : Option Addr} {xs : List α} {m c : Nat}
end
end Kd
section
variable {P : Program}
end
theorem below_step {w W w2 : World} (h : Below w.heap.size w W) (k : Below W.heap.size W w2) : Below w.heap.size w w2 := below_then h h.size k
theorem ReadsInt.nil (W : World) (k : IntKind) : ReadsInt W k none ([] : List Int).length [] := ⟨rfl, by simp, fun h => absurd h (Nat.lt_irrefl 0)⟩
theorem ReadsInt.drewN {W : World} {k : IntKind} {A : Option Addr} {n : Nat} {xs : List Int} (h : ReadsInt W k A n xs) (m : Nat) : ReadsInt (W.drewN m) k A n xs := h
theorem below_set {w W : World} {g j : Nat} {v : Value} (h : Below w.heap.size w W) (hg : w.heap.size ≤ g) : Below w.heap.size w (W.setCell ⟨g, j, none⟩ v) := h.setCell hg _
theorem keep_cell {w W : World} {g : Nat} (h : KeepBut w W g none) {a : Addr} {v : Value} (hc : w.cell? a = some v) (hne : a.block ≠ g) : W.cell? a = some v := by
  have := h.2 a.block (World.block_lt_of_cell? w a hc) hne (by simp)
  simpa [World.cell?, this] using hc
theorem add_block (a : Addr) (i : Nat) : (a.add i).block = a.block := by unfold Addr.add; split <;> rfl
theorem ReadsOf.nil {α : Type} (enc : α → Value) (d : α) (W : World) : ReadsOf enc d W none ([] : List α).length [] := ⟨rfl, by simp, fun h => absurd h (Nat.lt_irrefl 0)⟩
theorem ReadsOf.drewN {α : Type} {enc : α → Value} {d : α} {W : World} {A : Option Addr} {n : Nat} {xs : List α} (h : ReadsOf enc d W A n xs) (m : Nat) : ReadsOf enc d (W.drewN m) A n xs := h
theorem ReadsInt.keep {w W : World} {k : IntKind} {A : Option Addr} {n g : Nat} {xs : List Int} (h : ReadsInt w k A n xs) (hk : KeepBut w W g none) (hf : ∀ ad, A = some ad → 0 < n → ad.block ≠ g) : ReadsInt W k A n xs :=
  ⟨h.1, h.2.1, fun hn => by
    obtain ⟨ad, e, hc⟩ := h.2.2 hn
    exact ⟨ad, e, fun j hj => keep_cell hk (hc j hj) (by rw [add_block]; exact hf ad e hn)⟩⟩
theorem ReadsOf.keep {α : Type} {enc : α → Value} {d : α} {w W : World} {A : Option Addr} {n g : Nat} {xs : List α} (h : ReadsOf enc d w A n xs) (hk : KeepBut w W g none) (hf : ∀ ad, A = some ad → 0 < n → ad.block ≠ g) : ReadsOf enc d W A n xs :=
  ⟨h.1, h.2.1, fun hn => by
    obtain ⟨ad, e, hc⟩ := h.2.2 hn
    exact ⟨ad, e, fun j hj => keep_cell hk (hc j hj) (by rw [add_block]; exact hf ad e hn)⟩⟩
theorem blk_put {w : World} {g : Nat} {t : TypeId} {cs cs' : Array Value} (h : w.heap[g]? = some (.cells cs t (0, 0))) (i : Nat) (u : Value) (e : cs.setIfInBounds i u = cs') : (w.setCell ⟨g, i, none⟩ u).heap[g]? = some (.cells cs' t (0, 0)) := e ▸ blk_set h i u
namespace Kd
section
variable {α β : Type} {d : Kd α} {d' : Kd β} {e e' base base' n : Nat} {ok ok' : Nat → Prop} {w W w1 W1 : World} {v u : Value} {xs : List α} {ys : List β} {A : Option Addr} {c : Nat}
end
section
variable {α : Type} {enc : α → Value} {h1 : ∀ x, (enc x).oneCell' = true} {w W : World} {A : Option Addr} {n g : Nat} {xs : List α}
end
end Kd
namespace Kd
section
variable {α : Type} {d : Kd α} {e base g : Nat} {ok : Nat → Prop} {w w1 : World} {v : Value} {xs : List α} {o : Obj}
end
end Kd
section
variable {P : Program} {ops : Array Oper} {rest : List Oper} {o : Oper} {a : Act} {Q : Exit → Act → World → Prop}
end
namespace Kd
section
variable {α : Type} {enc : α → Value} {h1 : ∀ x, (enc x).oneCell' = true} {e base g n cap : Nat} {ok : Nat → Prop} {W : World} {xs : List α}
end
end Kd
section
variable {P : Program} {ops : Array Oper} {rest : List Oper} {o : Oper} {a : Act} {Q : Exit → Act → World → Prop}
end
namespace Kd
section
variable {α : Type} {enc : α → Value} {h1 : ∀ x, (enc x).oneCell' = true} {e base g n cap : Nat} {ok : Nat → Prop} {W : World} {xs : List α}
end
end Kd
section
variable {P : Program} {ops : Array Oper} {rest : List Oper} {o : Oper} {a : Act} {Q : Exit → Act → World → Prop} {W : World}
theorem gate_dst {N : Tmp} (_hN : o.dst = some N) (h : wpList P ops Q (o :: rest) a W) : wpList P ops Q (o :: rest) a W := h
end
section
variable {P : Program} {ops : Array Oper} {o : Oper} {a : Act} {Q : Exit → Act → World → Prop} {Kc : Act → World → Prop}
namespace Kd
variable {α : Type}
end Kd
end
section
variable {P : Program} {tmps : Array Value} {w : World}
end
namespace Kd
section
variable {P : Program} {α : Type}
end
section
variable {P : Program} {ops : Array Oper} {rest : List Oper} {o : Oper} {a : Act} {Q : Exit → Act → World → Prop} {Kc : Act → World → Prop} {α : Type}
end
end Kd
end Go.Proofs.YtcfnijeplaibeaaW.PrintWords
end
section
namespace Go.Proofs.YtcfnijeplaibeaaW.PrintLast
section
variable {P : Program} {ops : Array Oper} {Q : Exit → Act → World → Prop} {md : Region.Mode} {S : World → Prop} {ds : List Nat}
def ListedClosed (md : Region.Mode) (ops : Array Oper) (listed : Array Bool) : Prop :=
  ∀ j oj, ops[j]? = some oj → listed.getD j false = true → ∀ e ∈ oj.after, Region.binds md e = true → listed.getD e.on false = true
theorem ListedClosed.set {listed : Array Bool} {i : Nat} (h : ListedClosed md ops listed) (hi : i ∈ Region.ready md ops listed) : ListedClosed md ops (listed.setIfInBounds i true) := by
  obtain ⟨_, oi, hoi, hall⟩ := mem_ready.1 hi
  intro j oj hj hl e he hb
  by_cases hij : i = j
  · subst hij
    have : oj = oi := Option.some.inj (hj.symm.trans hoi)
    subst this
    exact getD_set_true (hall e he hb)
  · rw [getD_set_ne false hij] at hl
    exact getD_set_true (h j oj hj hl e he hb)
/-- Whatever order is picked from here on, AND 'S' HOLDS BEHIND EVERY OPERATION THAT IS CARRIED OUT, those of ds apart. -/
def wpAnyLast (P : Program) (md : Region.Mode) (ops : Array Oper) (Q : Exit → Act → World → Prop) (S : World → Prop) (ds : List Nat) : Nat → Array Bool → Act → World → Prop
  | 0, listed, a, w => Region.ready md ops listed = [] ∧ Q .normal a w
  | fuel + 1, listed, a, w =>
    (Region.ready md ops listed = [] → Q .normal a w) ∧
    ∀ i ∈ Region.ready md ops listed, wpOp P ops Q i (fun a' w' => (i ∉ ds → S w → S w') ∧ wpAnyLast P md ops Q S ds fuel (listed.setIfInBounds i true) a' w') a w
end
section
variable {P : Program} {ops : Array Oper} {Q : Exit → Act → World → Prop} {md : Region.Mode} {S : World → Prop} {ds : List Nat}
def AllReadyL (P : Program) (md : Region.Mode) (ops : Array Oper) (Q : Exit → Act → World → Prop) (S : World → Prop) (ds : List Nat) (fuel : Nat) (listed : Array Bool) (a : Act) (w : World) (rs : List Nat) : Prop :=
  ∀ i ∈ rs, wpOp P ops Q i (fun a' w' => (i ∉ ds → S w → S w') ∧ wpAnyLast P md ops Q S ds fuel (listed.setIfInBounds i true) a' w') a w
theorem AllReadyL.nil {fuel : Nat} {listed : Array Bool} {a : Act} {w : World} : AllReadyL P md ops Q S ds fuel listed a w [] := fun _ h => by cases h
theorem AllReadyL.cons {fuel : Nat} {listed : Array Bool} {a : Act} {w : World} {i : Nat} {o : Oper} {rs : List Nat} (ho : ops[i]? = some o) (hd : i ∉ ds)
    (h : ∀ K' : Act → World → Prop, Shut (∀ a w, S w → (S w → wpAnyLast P md ops Q S ds fuel (listed.setIfInBounds i true) a w) → K' a w) → if Region.wanted o (yielded ops a.tmps) = true then Oper.wp P o a w K' Q else K' (a.put o.dst undef) w)
    (hs : AllReadyL P md ops Q S ds fuel listed a w rs) : AllReadyL P md ops Q S ds fuel listed a w (i :: rs) := fun j hj => by
  rcases List.mem_cons.1 hj with rfl | hj
  · exact wpOp_step ho (fun K' hK => h K' (fun a w hS hW => hK a w ⟨fun _ _ => hS, hW hS⟩))
  · exact hs j hj
theorem i64_w (n : Int) : IntKind.i64.wrap n = Go.RowKit.wrap64 n := by unfold Go.RowKit.wrap64; exact IntKind.wrap_i64 n
end
end Go.Proofs.YtcfnijeplaibeaaW.PrintLast
end
section
namespace Go.Proofs.YtcfnijeplaibeaaW.PrintWords
open Go.RowKit
namespace Kd
/-- An element with its index: its blocks are those that f gives to it. -/
def tag {α : Type} (f : Nat → Nat) (d : Kd α) : Kd (α × Nat) where
  sz := d.sz
  E := d.E
  K := fun w x cs => d.K w x.1 cs
  M := fun w base ok x cs => d.M w base (fun k => ok k ∧ f k = x.2) x.1 cs
  K_len := fun h => d.K_len h
  K_one := fun h => d.K_one h
  K_below := fun hb h => d.K_below hb h
  K_of_M := fun h => d.K_of_M h
  M_mono := fun hok h => d.M_mono (fun k hk => ⟨hok k hk.1, hk.2⟩) h
  M_bound := fun h => d.M_mono (fun _ hk => ⟨⟨hk.1.1, hk.2⟩, hk.1.2⟩) (d.M_bound h)
  M_move := fun hm h => d.M_move (fun k hk => hm k hk.1) h
  M_lower := fun hb h => d.M_lower hb h
/-- The cells themselves. -/
def raw (sz : Nat) : Kd (List Value) where
  sz := sz
  E := []
  K := fun _ x cs => cs = x ∧ cs.length = sz ∧ ∀ u ∈ cs, u.oneCell' = true
  M := fun _ _ _ x cs => cs = x ∧ cs.length = sz ∧ ∀ u ∈ cs, u.oneCell' = true
  K_len := fun h => h.2.1
  K_one := fun h => h.2.2
  K_below := fun _ h => h
  K_of_M := fun h => h
  M_mono := fun _ h => h
  M_bound := fun h => h
  M_move := fun _ h => h
  M_lower := fun _ h => h
/-- A row of elements (type e) of the call's own, no two of which lead to one block. -/
def S {α : Type} (d : Kd α) (e : Nat) (w : World) (base : Nat) (ok : Nat → Prop) (v : Value) (xs : List α) : Prop := ∃ f, (tag f d).R e w base ok v xs.zipIdx
section
variable {α β : Type} {d : Kd α} {d' : Kd β} {e e' : Nat} {w w1 W : World} {base b : Nat} {ok ok' okv oku : Nat → Prop} {u v : Value} {xs : List α} {ys : List β}
end
section
variable {α β : Type} {d : Kd α} {d' : Kd β} {e e' g : Nat} {w w1 W : World} {base b : Nat} {ok ok' okv oku : Nat → Prop} {u v : Value} {xs : List α} {ys : List β}
end
section
variable {P : Program} {ops : Array Oper} {rest : List Oper} {o : Oper} {a : Act} {Q : Exit → Act → World → Prop} {Kc : Act → World → Prop} {α : Type}
end
/-- Element i is these cells; the others are d's. -/
def gap {α : Type} (f : Nat → Nat) (d : Kd α) (i : Nat) (c : List Value) : Kd (α × Nat) where
  sz := d.sz
  E := d.E
  K := fun w x cs => (x.2 = i → cs = c ∧ cs.length = d.sz ∧ ∀ u ∈ cs, u.oneCell' = true) ∧ (x.2 ≠ i → d.K w x.1 cs)
  M := fun w base ok x cs => (x.2 = i → cs = c ∧ cs.length = d.sz ∧ ∀ u ∈ cs, u.oneCell' = true) ∧ (x.2 ≠ i → d.M w base (fun k => ok k ∧ f k = x.2) x.1 cs)
  K_len := fun {w x cs} h => by
    by_cases hx : x.2 = i
    · exact (h.1 hx).2.1
    · exact d.K_len (h.2 hx)
  K_one := fun {w x cs} h => by
    by_cases hx : x.2 = i
    · exact (h.1 hx).2.2
    · exact d.K_one (h.2 hx)
  K_below := fun hb h => ⟨h.1, fun hx => d.K_below hb (h.2 hx)⟩
  K_of_M := fun h => ⟨h.1, fun hx => d.K_of_M (h.2 hx)⟩
  M_mono := fun hok h => ⟨h.1, fun hx => d.M_mono (fun k hk => ⟨hok k hk.1, hk.2⟩) (h.2 hx)⟩
  M_bound := fun h => ⟨h.1, fun hx => d.M_mono (fun _ hk => ⟨⟨hk.1.1, hk.2⟩, hk.1.2⟩) (d.M_bound (h.2 hx))⟩
  M_move := fun hm h => ⟨h.1, fun hx => d.M_move (fun k hk => hm k hk.1) (h.2 hx)⟩
  M_lower := fun hb h => ⟨h.1, fun hx => d.M_lower hb (h.2 hx)⟩
def H {α : Type} (d : Kd α) (e : Nat) (w : World) (base : Nat) (ok : Nat → Prop) (v : Value) (xs : List α) (i : Int) (oki : Nat → Prop) (c : List Value) : Prop :=
  (∀ k, oki k → ok k) ∧ ∃ f, (gap f d i.toNat c).R e w base (fun k => ok k ∧ ¬ oki k) v xs.zipIdx
section
variable {α β : Type} {d : Kd α} {e e' g n cap : Nat} {w w1 W : World} {base : Nat} {ok ok' oki okp : Nat → Prop} {u v : Value} {xs : List α} {i : Int} {c : List Value}
end
section
variable {P : Program} {ops : Array Oper} {rest : List Oper} {o : Oper} {a : Act} {Q : Exit → Act → World → Prop} {α : Type}
end
end Kd
end Go.Proofs.YtcfnijeplaibeaaW.PrintWords
end
section
namespace Go.Proofs.YtcfnijeplaibeaaW.PrintWords
open Go.RowKit
namespace Kd
/-- What a kind reads lies in the blocks: nothing else of the world is looked at. -/
structure Heap {α : Type} (d : Kd α) : Prop where
  K : ∀ {w w1 : World} {x : α} {cs : List Value}, (∀ k, k < w.heap.size → w1.heap[k]? = w.heap[k]?) → d.K w x cs → d.K w1 x cs
theorem cell_heap {w w1 : World} (hb : ∀ k, k < w.heap.size → w1.heap[k]? = w.heap[k]?) {a : Addr} {v : Value} (h : w.cell? a = some v) : w1.cell? a = some v := by
  have := hb a.block (World.block_lt_of_cell? w a h)
  simpa [World.cell?, this] using h
theorem Heap.C {α : Type} {d : Kd α} (hd : Heap d) {w w1 : World} {A : Option Addr} {n : Nat} {xs : List α} (hb : ∀ k, k < w.heap.size → w1.heap[k]? = w.heap[k]?) (h : d.C w A n xs) : d.C w1 A n xs :=
  ⟨h.1, h.2.1, fun hn => by
    obtain ⟨ad, e, hc⟩ := h.2.2 hn
    refine ⟨ad, e, fun j p hj => ?_⟩
    obtain ⟨c, hs, hr, hcell⟩ := hc j p hj
    exact ⟨c, hs, hd.K hb hr, fun i u hu => cell_heap hb (hcell i u hu)⟩⟩
section
variable {α : Type} {d : Kd α} {e base g n c : Nat} {ok : Nat → Prop} {w w0 W : World} {A : Option Addr} {xs : List α}
end
end Kd
end Go.Proofs.YtcfnijeplaibeaaW.PrintWords
end
section
namespace Go.Proofs.YtcfnijeplaibeaaW.PrintWords
open Go.RowKit
def Kept (w W : World) (S : Nat → Prop) : Prop := w.heap.size ≤ W.heap.size ∧ ∀ i, i < w.heap.size → ¬ S i → W.heap[i]? = w.heap[i]?
section
variable {w W W2 : World} {S S2 S' : Nat → Prop}
theorem Kept.refl (w : World) (S : Nat → Prop) : Kept w w S := ⟨Nat.le_refl _, fun _ _ _ => rfl⟩
theorem Kept.of_below (h : Below w.heap.size w W) (S : Nat → Prop) : Kept w W S := ⟨h.size, fun i hi _ => h.block i hi⟩
theorem Kept.mono (h : Kept w W S) (hs : ∀ k, S k → S' k) : Kept w W S' := ⟨h.1, fun i hi hn => h.2 i hi (fun hk => hn (hs i hk))⟩
theorem Kept.then_ (h : Kept w W S) (k : Kept W W2 S2) (hs : ∀ k, S2 k → S k ∨ w.heap.size ≤ k) : Kept w W2 S :=
  ⟨Nat.le_trans h.1 k.1, fun i hi hn => (k.2 i (Nat.lt_of_lt_of_le hi h.1) (fun h2 => (hs i h2).elim hn (fun h3 => by omega))).trans (h.2 i hi hn)⟩
theorem Kept.of_grown {row : Option Nat} (hg : W.grownBy W2 row) (h : Kept w W S) (hr : ∀ k, row = some k → S k ∨ w.heap.size ≤ k) : Kept w W2 S :=
  h.then_ (S2 := fun k => row = some k) ⟨hg.size, fun i hi hn => hg.block i hi (fun he => hn he.symm)⟩ hr
theorem Kept.below (h : Kept w W S) (hb : Below W.heap.size W W2) : Kept w W2 S := h.then_ (Kept.of_below hb (fun _ => False)) (fun _ hk => hk.elim)
theorem Kept.alloc (h : Kept w W S) (o : Obj) : Kept w (W.alloc o) S := h.below (below_alloc (Below.refl _ _) o)
theorem Kept.drew (h : Kept w W S) : Kept w W.drew S := h
theorem Kept.drewN (h : Kept w W S) (m : Nat) : Kept w (W.drewN m) S := h
theorem Kept.setCell (h : Kept w W S) {p : Addr} (hp : S p.block ∨ w.heap.size ≤ p.block) (u : Value) : Kept w (W.setCell p u) S :=
  h.then_ (S2 := fun k => k = p.block) ⟨by simp [World.setCell], fun i _ hn => Below.heap_setCell W p u i hn⟩ (fun k hk => by rw [hk]; exact hp)
/-- Beside a state: what was written is new since. -/
theorem Kept.keep {g : Nat} (h : KeepBut w W g none) (k : Kept W W2 S2) (hs : ∀ k, S2 k → w.heap.size ≤ k) : KeepBut w W2 g none :=
  ⟨Nat.le_trans h.1 k.1, fun i hi hg hr => (k.2 i (Nat.lt_of_lt_of_le hi h.1) (fun h2 => by have := hs i h2; omega)).trans (h.2 i hi hg hr)⟩
end
namespace Kd
section
variable {α : Type} {d : Kd α} {e base n c : Nat} {ok oki S S2 : Nat → Prop} {w w0 W W1 W2 : World} {v : Value} {A : Option Addr} {xs : List α} {i : Int} {cs : List Value}
end
end Kd
end Go.Proofs.YtcfnijeplaibeaaW.PrintWords
end
section
namespace Go.Proofs.YtcfnijeplaibeaaW.PrintWords
open Go.RowKit
/-- P holds in W and in every world that has W's blocks of ok. -/
def Foot (P : World → Prop) (W : World) (ok : Nat → Prop) : Prop := ∀ W' : World, (∀ k, ok k → k < W.heap.size → W'.heap[k]? = W.heap[k]?) → P W'
theorem heap_lt {W W1 : World} {k : Nat} (h : W1.heap[k]? = W.heap[k]?) (hlt : k < W.heap.size) : k < W1.heap.size := by
  rw [Array.getElem?_eq_getElem hlt] at h
  exact (Array.getElem?_eq_some_iff.1 h).1
namespace Foot
variable {P Q : World → Prop} {W W1 : World} {ok ok' : Nat → Prop}
theorem now (h : Foot P W ok) : P W := h W (fun _ _ _ => rfl)
theorem mono (h : Foot P W ok) (hok : ∀ k, ok k → ok' k) : Foot P W ok' := fun W' hW => h W' (fun k hk hlt => hW k (hok k hk) hlt)
theorem bound (h : Foot P W ok) : Foot P W (fun k => ok k ∧ k < W.heap.size) := fun W' hW => h W' (fun k hk hlt => hW k ⟨hk, hlt⟩ hlt)
theorem step (h : Foot P W ok) (hm : ∀ k, ok k → k < W.heap.size → W1.heap[k]? = W.heap[k]?) : Foot P W1 ok := fun W' hW => h W' (fun k hk hlt => (hW k hk (heap_lt (hm k hk hlt) hlt)).trans (hm k hk hlt))
theorem imp (h : Foot P W ok) (hi : ∀ W', P W' → Q W') : Foot Q W ok := fun W' hW => hi W' (h W' hW)
/-- Moved, and still elder than what is new since W. -/
theorem old (h : Foot P W ok) (hb : Below W.heap.size W W1) : Foot P W1 (fun k => ok k ∧ k < W.heap.size) := (h.bound).step (fun k _ hlt => hb.block k hlt)
end Foot
namespace Kd
/-- A row that is only read: what it leads to lies in ok. -/
def F {α : Type} (d : Kd α) (W : World) (ok : Nat → Prop) (A : Option Addr) (n : Nat) (xs : List α) : Prop := Foot (fun W => d.C W A n xs) W ok
/-- An element's cells: what they lead to lies in ok. -/
def FK {α : Type} (d : Kd α) (W : World) (ok : Nat → Prop) (x : α) (c : List Value) : Prop := Foot (fun W => d.K W x c) W ok
section
variable {α β : Type} {d : Kd α} {e base n n' cc g N : Nat} {ok ok' okp S : Nat → Prop} {w w0 w1 W W1 : World} {A A' : Option Addr} {u v v1 : Value} {xs : List α} {xs' : List β} {d' : Kd β} {x : α} {c : List Value}
end
end Kd
end Go.Proofs.YtcfnijeplaibeaaW.PrintWords
end
section
namespace Go.Proofs.YtcfnijeplaibeaaW.PrintWords
open Go.RowKit
namespace Kd
section
variable {α : Type} {d : Kd α} {e base n cc g : Nat} {ok ok' okp S : Nat → Prop} {w w1 W W1 : World} {A : Option Addr} {u v v1 : Value} {xs : List α} {x : α} {c : List Value}
/-- A row of elements (type e) of the call's own; what the elements lead to is only read, and is not this row. -/
def N {α : Type} (d : Kd α) (e : Nat) (w : World) (base : Nat) (ok : Nat → Prop) (v : Value) (xs : List α) : Prop :=
  (∀ k, v.ownBlock = some k → ok k) ∧ ∃ rows : List (List Value), rows.length = xs.length ∧ (raw d.sz).R e w base (fun k => some k = v.ownBlock) v rows ∧ ∀ (j : Nat) (x : α) (c : List Value), xs[j]? = some x → rows[j]? = some c → FK d w (fun k => ok k ∧ some k ≠ v.ownBlock) x c
end
end Kd
end Go.Proofs.YtcfnijeplaibeaaW.PrintWords
end
section
namespace Go.Proofs.YtcfnijeplaibeaaW.PrintMore
open Go.RowKit Go.Proofs.YtcfnijeplaibeaaW.PrintWords
namespace Kd
open Go.Proofs.YtcfnijeplaibeaaW.PrintWords.Kd
end Kd
namespace Kd
open Go.Proofs.YtcfnijeplaibeaaW.PrintWords.Kd
section
variable {α : Type} {d : Kd α} {e base g N : Nat} {ok : Nat → Prop} {W w1 : World} {u v : Value} {xs : List α}
end
end Kd
/-- 'max' and 'min' of two whole numbers. -/
theorem max2_int (k k' : IntKind) (x y : Int) : Builtin.max2 (.int k x) (.int k' y) = pure (.int k (if x < y then y else x)) := by simp only [Builtin.max2, gt_iff_lt]
theorem min2_int (k k' : IntKind) (x y : Int) : Builtin.min2 (.int k x) (.int k' y) = pure (.int k (if y < x then y else x)) := by simp only [Builtin.min2]
theorem max_two (ats : Array TypeId) (ty : TypeId) (a b : Value) : Builtin.max_ ats ty #[a, b] = (Builtin.max2 a b >>= fun s => pure s) := by simp only [Builtin.max_, List.foldlM_cons, List.foldlM_nil]
theorem min_two (ats : Array TypeId) (ty : TypeId) (a b : Value) : Builtin.min_ ats ty #[a, b] = (Builtin.min2 a b >>= fun s => pure s) := by simp only [Builtin.min_, List.foldlM_cons, List.foldlM_nil]
theorem max_three (ats : Array TypeId) (ty : TypeId) (a b c : Value) : Builtin.max_ ats ty #[a, b, c] = (Builtin.max2 a b >>= fun s => Builtin.max2 s c >>= fun s => pure s) := by simp only [Builtin.max_, List.foldlM_cons, List.foldlM_nil]
theorem min_three (ats : Array TypeId) (ty : TypeId) (a b c : Value) : Builtin.min_ ats ty #[a, b, c] = (Builtin.min2 a b >>= fun s => Builtin.min2 s c >>= fun s => pure s) := by simp only [Builtin.min_, List.foldlM_cons, List.foldlM_nil]
theorem max_four (ats : Array TypeId) (ty : TypeId) (a b c d : Value) : Builtin.max_ ats ty #[a, b, c, d] = (Builtin.max2 a b >>= fun s => Builtin.max2 s c >>= fun s => Builtin.max2 s d >>= fun s => pure s) := by simp only [Builtin.max_, List.foldlM_cons, List.foldlM_nil]
theorem min_four (ats : Array TypeId) (ty : TypeId) (a b c d : Value) : Builtin.min_ ats ty #[a, b, c, d] = (Builtin.min2 a b >>= fun s => Builtin.min2 s c >>= fun s => Builtin.min2 s d >>= fun s => pure s) := by simp only [Builtin.min_, List.foldlM_cons, List.foldlM_nil]
end Go.Proofs.YtcfnijeplaibeaaW.PrintMore
namespace Go.Proofs.YtcfnijeplaibeaaW.PrintWords
open Go.RowKit
section
variable {P : Program} {ops : Array Oper} {rest : List Oper} {o : Oper} {a : Act} {Q : Exit → Act → World → Prop} {W : World}
end
/-- The greater of two whole numbers, as Go's max tells it. -/
def mx (a b : Int) : Int := if a < b then b else a
/-- A shift to the left, as Go tells it: a count beyond the width leaves nothing. -/
def shl (k : IntKind) (x y : Int) : Int := k.wrap (x * 2 ^ min y.toNat k.bits)
/-- A shift to the right: a count beyond the width leaves the sign. -/
def shr (k : IntKind) (x y : Int) : Int := x / 2 ^ min y.toNat k.bits
namespace Kd
section
variable {α : Type} {d : Kd α} {e base : Nat} {ok : Nat → Prop} {W w1 : World} {v : Value} {xs : List α}
end
section
variable {α : Type} {d : Kd α} {e base g n cap : Nat} {ok oki okp : Nat → Prop} {W : World} {xs : List α} {i : Int} {c : List Value}
end
section
variable {α : Type} {d : Kd α} {e base b b' g N : Nat} {ok ok1 : Nat → Prop} {W W2 w1 : World} {u v : Value} {xs ys : List α} {S : Nat → Prop}
end
end Kd
end Go.Proofs.YtcfnijeplaibeaaW.PrintWords
namespace Go.Proofs.YtcfnijeplaibeaaW.PrintWords
open Go.RowKit
namespace Kd
/-- A row that is only read, told by its value: its form, its length, what it leads to (in ok). e and base say nothing; they make it as the others are. -/
def V {α : Type} (d : Kd α) (_e : Nat) (W : World) (_base : Nat) (ok : Nat → Prop) (v : Value) (xs : List α) : Prop := ∃ A c, v = .slice A xs.length c ∧ xs.length ≤ c ∧ F d W ok A xs.length xs
section
variable {α β : Type} {d : Kd α} {e base base' n m c g N' lo hi : Nat} {ok ok' S : Nat → Prop} {w W w1 : World} {A : Option Addr} {ad : Addr} {u v v1 : Value} {xs : List α}
end
end Kd
end Go.Proofs.YtcfnijeplaibeaaW.PrintWords
end
section
set_option linter.unusedVariables false
namespace Go.Proofs.YtcfnijeplaibeaaW.PrintMore.AnyOrder
open Go Go.RowKit Go.Proofs.YtcfnijeplaibeaaW.PrintWords
/-- slot s of a frame -/
def at_ (a : Act) (s : Tmp) : Value := a.tmps.getD s undef
theorem at_put_same {a : Act} {s : Tmp} (v : Value) (h : s < a.tmps.size) : at_ (a.put (some s) v) s = v := by
  simp [at_, Act.put, Array.getD, h]
theorem at_put_other {a : Act} {s d : Tmp} (v : Value) (h : d ≠ s) : at_ (a.put (some d) v) s = at_ a s := by
  simp [at_, Act.put, Array.getD_eq_getD_getElem?, Array.getElem?_setIfInBounds_ne h]
theorem size_put (a : Act) (d : Option Tmp) (v : Value) : (a.put d v).tmps.size = a.tmps.size := by cases d <;> simp [Act.put]
theorem defers_put (a : Act) (d : Option Tmp) (v : Value) : (a.put d v).defers = a.defers := by cases d <;> rfl
/-- who writes slot s -/
def writer (ops : Array Oper) (i : Nat) (s : Tmp) : Bool := match ops[i]? with | some o => o.dst == some s | none => false
def waits (ops : Array Oper) (j i : Nat) : Bool := match ops[j]? with | some o => o.after.any (fun e => Region.binds .any e && e.on == i) | none => false
/-- what may be looked at as an operation comes up: each slot that it looks at is written by one that it waits for, or by none, or by one that waits for it -/
def goodB (ops : Array Oper) (n : Nat) : Bool :=
  Region.noSelect ops &&
  (List.range ops.size).all fun i => match ops[i]? with
    | none => true
    | some o => o.after.all (fun e => !Region.binds .any e || decide (e.on < i)) &&
      (match o.dst with | some d => decide (d < n) | none => true) &&
      (List.range ops.size).all (fun j => j == i || (match ops[j]? with
        | none => true
        | some p => (match o.dst with | some d => p.dst != some d | none => true) &&
            ((o.looksAt ops).all fun s => p.dst != some s || waits ops i j || waits ops j i)))
structure Law (m : Nat) (P : Program) (ops : Array Oper) (C : World → Prop) (G : World → World → Prop) (V : Nat → World → Value → Prop) (a0 : Act) (Q : Exit → Act → World → Prop) : Prop where
  keep : ∀ i w w' v, G w w' → V i w v → V i w' v
  same : ∀ w, C w → G w w
  step : ∀ i o a w, i < m → ops[i]? = some o → C w → a.tmps.size = a0.tmps.size → a.defers = a0.defers →
    (∀ j p s, ops[j]? = some p → p.dst = some s → waits ops i j = true → V j w (at_ a s)) →
    (∀ s, s ∈ o.looksAt ops → (∀ j, writer ops j s = true → waits ops i j = false) → at_ a s = at_ a0 s) →
    if Region.wanted o (yielded ops a.tmps) = true then o.wp P a w (fun a' w' => ∃ v, a' = a.put o.dst v ∧ C w' ∧ G w w' ∧ V i w' v) Q else V i w undef
def on_ (listed : Array Bool) (j : Nat) : Bool := listed.getD j false
theorem on_set_same {listed : Array Bool} {i : Nat} (h : i < listed.size) : on_ (listed.setIfInBounds i true) i = true := by simp [on_, Array.getD, h]
theorem on_set_other {listed : Array Bool} {i j : Nat} (h : i ≠ j) : on_ (listed.setIfInBounds i true) j = on_ listed j := by
  simp [on_, Array.getD_eq_getD_getElem?, Array.getElem?_setIfInBounds_ne h]
/-- how many have not come up -/
def left_ (n : Nat) (listed : Array Bool) : Nat := (List.range n).countP fun j => !on_ listed j
theorem countP_less {α : Type} {p q : α → Bool} : ∀ (l : List α), (∀ x ∈ l, q x = true → p x = true) → (∃ x ∈ l, p x = true ∧ q x = false) → l.countP q < l.countP p
  | [], _, ⟨_, h, _⟩ => by cases h
  | x :: l, hm, ⟨y, hy, h1, h2⟩ => by
    have hle : l.countP q ≤ l.countP p := List.countP_mono_left fun z hz => hm z (List.mem_cons_of_mem _ hz)
    rcases List.mem_cons.1 hy with rfl | hy
    · rw [List.countP_cons, List.countP_cons, h1, h2]; simp; omega
    · have := countP_less l (fun z hz => hm z (List.mem_cons_of_mem _ hz)) ⟨y, hy, h1, h2⟩
      rw [List.countP_cons, List.countP_cons]
      have hx := hm x List.mem_cons_self
      cases hq : q x <;> cases hp : p x <;> simp_all <;> omega
section
variable {P : Program} {ops : Array Oper} {C : World → Prop} {G : World → World → Prop} {V : Nat → World → Value → Prop} {a0 : Act} {Q : Exit → Act → World → Prop}
structure Inv (ops : Array Oper) (C : World → Prop) (V : Nat → World → Value → Prop) (a0 : Act) (listed : Array Bool) (a : Act) (w : World) : Prop where
  c : C w
  size : a.tmps.size = a0.tmps.size
  defers : a.defers = a0.defers
  long : listed.size = ops.size
  done : ∀ j p s, ops[j]? = some p → p.dst = some s → on_ listed j = true → V j w (at_ a s)
  old : ∀ s, (∀ j, writer ops j s = true → on_ listed j = false) → at_ a s = at_ a0 s
  shut : ∀ j k, on_ listed j = true → waits ops j k = true → on_ listed k = true
theorem ready_spec {listed : Array Bool} {i : Nat} (hl : listed.size = ops.size) : i ∈ Region.ready .any ops listed ↔ i < ops.size ∧ on_ listed i = false ∧ ∀ k, waits ops i k = true → on_ listed k = true := by
  rw [mem_ready]
  constructor
  · rintro ⟨h1, o, ho, h2⟩
    have hi := (Array.getElem?_eq_some_iff.1 ho).1
    refine ⟨hi, ?_, fun k hk => ?_⟩
    · unfold on_; simp only [Array.getD, hl, hi, dif_pos] at h1 ⊢; exact h1
    · simp only [waits, ho] at hk
      obtain ⟨e, he, hb⟩ := Array.any_eq_true'.1 hk
      simp only [Bool.and_eq_true, beq_iff_eq] at hb
      have := h2 e he hb.1
      rw [hb.2] at this
      exact this
  · rintro ⟨hi, h1, h2⟩
    refine ⟨?_, ops[i], Array.getElem?_eq_getElem hi, fun e he hb => h2 e.on ?_⟩
    · unfold on_ at h1; simp only [Array.getD, hl, hi, dif_pos] at h1 ⊢; exact h1
    · simp only [waits, Array.getElem?_eq_getElem hi]
      exact Array.any_eq_true'.2 ⟨e, he, by simp [hb]⟩
structure Good (ops : Array Oper) (n : Nat) : Prop where
  before : ∀ i k, i < ops.size → waits ops i k = true → k < i
  within : ∀ (i : Nat) (o : Oper) (d : Tmp), ops[i]? = some o → o.dst = some d → d < n
  apart : ∀ (i j : Nat) (o p : Oper) (d : Tmp), ops[i]? = some o → ops[j]? = some p → j ≠ i → o.dst = some d → p.dst ≠ some d
  looks : ∀ (i j : Nat) (o p : Oper) (s : Tmp), ops[i]? = some o → ops[j]? = some p → j ≠ i → s ∈ o.looksAt ops → p.dst = some s → waits ops i j = true ∨ waits ops j i = true
theorem good_of {n : Nat} (h : goodB ops n = true) : Good ops n := by
  unfold goodB at h
  rw [Bool.and_eq_true] at h
  have h2 := fun i (hi : i < ops.size) => List.all_eq_true.1 h.2 i (List.mem_range.2 hi)
  have lt : ∀ {i o}, ops[i]? = some o → i < ops.size := fun ho => (Array.getElem?_eq_some_iff.1 ho).1
  refine ⟨fun i k hi hk => ?_, fun i o d ho hd => ?_, fun i j o p d ho hp hne hd => ?_, fun i j o p s ho hp hne hs hd => ?_⟩
  · have h3 := h2 i hi
    simp only [Array.getElem?_eq_getElem hi, Bool.and_eq_true] at h3
    simp only [waits, Array.getElem?_eq_getElem hi] at hk
    obtain ⟨e, he, hb⟩ := Array.any_eq_true'.1 hk
    simp only [Bool.and_eq_true, beq_iff_eq] at hb
    have := Array.all_eq_true'.1 h3.1.1 e he
    rw [hb.1, Bool.not_true, Bool.false_or] at this
    rw [← hb.2]; exact of_decide_eq_true this
  · have h3 := h2 i (lt ho)
    simp only [ho, hd, Bool.and_eq_true] at h3
    exact of_decide_eq_true h3.1.2
  · have h3 := h2 i (lt ho)
    simp only [ho, hd, Bool.and_eq_true] at h3
    have h4 := List.all_eq_true.1 h3.2 j (List.mem_range.2 (lt hp))
    simp only [hp, beq_iff_eq, hne, Bool.or_eq_true, Bool.and_eq_true, false_or, bne_iff_ne] at h4
    exact h4.1
  · have h3 := h2 i (lt ho)
    simp only [ho, Bool.and_eq_true] at h3
    have h4 := List.all_eq_true.1 h3.2 j (List.mem_range.2 (lt hp))
    simp only [hp, beq_iff_eq, hne, Bool.or_eq_true, Bool.and_eq_true, false_or, List.all_eq_true] at h4
    rcases h4.2 s hs with (h5 | h5) | h5
    · simp [hd] at h5
    · exact .inl h5
    · exact .inr h5
theorem inv_step {n m : Nat} (gd : Good ops a0.tmps.size) (L : Law m P ops C G V a0 Q) {listed : Array Bool} {a : Act} {w w' : World} {i : Nat} {o : Oper} {v : Value}
    (h : Inv ops C V a0 listed a w) (ho : ops[i]? = some o) (hi : i < ops.size) (hr : ∀ k, waits ops i k = true → on_ listed k = true) (hc : C w') (hg : G w w') (hv : V i w' v) :
    Inv ops C V a0 (listed.setIfInBounds i true) (a.put o.dst v) w' := by
  have hl : i < listed.size := by rw [h.long]; exact hi
  have up : ∀ k, on_ listed k = true → on_ (listed.setIfInBounds i true) k = true := fun k hk => by
    by_cases e : i = k
    · subst e; exact on_set_same hl
    · rw [on_set_other e]; exact hk
  refine ⟨hc, by rw [size_put, h.size], by rw [defers_put, h.defers], by simp [h.long], fun j p s hp hs hon => ?_, fun s hs => ?_, fun j k hj hk => ?_⟩
  · by_cases e : i = j
    · subst e
      obtain rfl : o = p := by rw [ho] at hp; exact Option.some.inj hp
      rw [hs, at_put_same v (by rw [h.size]; exact gd.within i o s ho hs)]
      exact hv
    · rw [on_set_other e] at hon
      have h1 := L.keep j w w' _ hg (h.done j p s hp hs hon)
      have : at_ (a.put o.dst v) s = at_ a s := by
        cases hd : o.dst with
        | none => rfl
        | some d => exact at_put_other v (fun e' => gd.apart i j o p d ho hp (Ne.symm e) hd (by rw [hs, e']))
      rw [this]; exact h1
  · have : at_ (a.put o.dst v) s = at_ a s := by
      cases hd : o.dst with
      | none => rfl
      | some d =>
        refine at_put_other v (fun e' => ?_)
        have h1 := hs i (by simp [writer, ho, hd, e'])
        rw [on_set_same hl] at h1
        cases h1
    rw [this]
    refine h.old s (fun j hj => ?_)
    have h1 := hs j hj
    by_cases e : i = j
    · subst e; rw [on_set_same hl] at h1; cases h1
    · rwa [on_set_other e] at h1
  · by_cases e : i = j
    · subst e; exact up k (hr k hk)
    · rw [on_set_other e] at hj
      exact up k (h.shut j k hj hk)
/-- what comes behind all others goes in the order of the text -/
theorem row_then {m : Nat} (later : ∀ i j, m ≤ i → i < ops.size → j < i → waits ops i j = true) (gd : Good ops a0.tmps.size) :
    ∀ (fuel n : Nat) (listed : Array Bool) (a : Act) (w : World), m ≤ n → listed.size = ops.size → (∀ j, j < ops.size → (on_ listed j = true ↔ j < n)) → left_ ops.size listed ≤ fuel → wpList P ops Q (ops.toList.drop n) a w → wpAny P .any ops Q fuel listed a w := by
  have ends : ∀ (n : Nat) (listed : Array Bool) (a : Act) (w : World), listed.size = ops.size → (∀ j, j < ops.size → (on_ listed j = true ↔ j < n)) → ops.size ≤ n → wpList P ops Q (ops.toList.drop n) a w → Region.ready .any ops listed = [] ∧ Q .normal a w := by
    intro n listed a w hs ho hn h
    refine ⟨?_, ?_⟩
    · cases hr : Region.ready .any ops listed with
      | nil => rfl
      | cons i l =>
        obtain ⟨hi, hoff, _⟩ := (ready_spec hs).1 (show i ∈ Region.ready .any ops listed by rw [hr]; exact List.mem_cons_self)
        rw [(ho i hi).2 (by omega)] at hoff; cases hoff
    · rw [List.drop_of_length_le (by simpa using hn)] at h; exact h
  intro fuel
  induction fuel with
  | zero =>
    intro n listed a w hmn hs ho hf h
    refine ends n listed a w hs ho ?_ h
    refine Nat.not_lt.1 (fun hlt => ?_)
    have hoff : on_ listed n = false := by
      cases hb : on_ listed n with
      | false => rfl
      | true => have := (ho n hlt).1 hb; omega
    have : 0 < left_ ops.size listed := List.countP_pos_iff.2 ⟨n, List.mem_range.2 hlt, by simp [hoff]⟩
    omega
  | succ fuel ih =>
    intro n listed a w hmn hs ho hf h
    by_cases hlt : n < ops.size
    · have hoff : on_ listed n = false := by
        cases hb : on_ listed n with
        | false => rfl
        | true => have := (ho n hlt).1 hb; omega
      refine ⟨fun h0 => ?_, fun i hi => ?_⟩
      · have : n ∈ Region.ready .any ops listed := (ready_spec hs).2 ⟨hlt, hoff, fun k hk => (ho k (by have := gd.before n k hlt hk; omega)).2 (gd.before n k hlt hk)⟩
        rw [h0] at this; cases this
      · obtain ⟨hi, hoi, hr⟩ := (ready_spec hs).1 hi
        have hin : i = n := by
          refine Nat.le_antisymm (Nat.not_lt.1 fun hni => ?_) (Nat.not_lt.1 fun hni => ?_)
          · rw [hr n (later i n (by omega) hi hni)] at hoff; cases hoff
          · rw [(ho i hi).2 hni] at hoi; cases hoi
        subst hin
        have hg : ops[i]? = some ops[i] := Array.getElem?_eq_getElem hi
        have hd : ops.toList.drop i = ops[i] :: ops.toList.drop (i + 1) := by
          rw [List.drop_eq_getElem_cons (by simpa using hi)]; simp
        rw [hd] at h
        have h1 : wpOp P ops Q i (wpList P ops Q (ops.toList.drop (i + 1))) a w := by unfold wpOp; rw [hg]; exact h
        refine wpOp_mono (fun a' w' h' => ih (i + 1) _ a' w' (by omega) (by simpa using hs) (fun j hj => ?_) ?_ h') h1
        · by_cases e : i = j
          · subst e; rw [on_set_same (by omega)]; simp
          · rw [on_set_other e, ho j hj]; omega
        · have := countP_less (p := fun j => !on_ listed j) (q := fun j => !on_ (listed.setIfInBounds i true) j) (List.range ops.size) (fun j _ hj => by
            by_cases e : i = j
            · subst e; simp [hoff]
            · rwa [on_set_other e] at hj) ⟨i, List.mem_range.2 hi, by simp [hoff], by simp [on_set_same (show i < listed.size by omega)]⟩
          unfold left_ at hf ⊢; omega
    · obtain ⟨h0, hq⟩ := ends n listed a w hs ho (by omega) h
      exact ⟨fun _ => hq, fun i hi => by rw [h0] at hi; cases hi⟩
theorem any_then {m : Nat} (later : ∀ i j, m ≤ i → i < ops.size → j < i → waits ops i j = true) (gd : Good ops a0.tmps.size) (L : Law m P ops C G V a0 Q) (fin : ∀ listed a w, (∀ j, j < m → j < ops.size → on_ listed j = true) → (∀ j, m ≤ j → on_ listed j = false) → Inv ops C V a0 listed a w → wpList P ops Q (ops.toList.drop m) a w) :
    ∀ (fuel : Nat) (listed : Array Bool) (a : Act) (w : World), (∀ j, m ≤ j → on_ listed j = false) → Inv ops C V a0 listed a w → left_ ops.size listed ≤ fuel → wpAny P .any ops Q fuel listed a w := by
  have least : ∀ (m : Nat) (listed : Array Bool), listed.size = ops.size → m < ops.size → on_ listed m = false → ∃ k, k ∈ Region.ready .any ops listed := by
    intro m
    induction m using Nat.strongRecOn with
    | _ m ih =>
      intro listed hl hm hoff
      by_cases hall : ∀ k, waits ops m k = true → on_ listed k = true
      · exact ⟨m, (ready_spec hl).2 ⟨hm, hoff, hall⟩⟩
      · obtain ⟨k, hk⟩ := Classical.not_forall.1 hall
        obtain ⟨hk1, hk2⟩ := Classical.not_imp.1 hk
        have := gd.before m k hm hk1
        exact ih k this listed hl (by omega) (by simpa using hk2)
  have over : ∀ (fuel : Nat) (listed : Array Bool) (a : Act) (w : World), (∀ j, m ≤ j → on_ listed j = false) → Inv ops C V a0 listed a w → left_ ops.size listed ≤ fuel → (∀ j, j < m → j < ops.size → on_ listed j = true) → wpAny P .any ops Q fuel listed a w := by
    intro fuel listed a w low h hf hall
    refine row_then later gd fuel m listed a w (Nat.le_refl _) h.long (fun j hj => ⟨fun hon => Nat.not_le.1 fun hmj => ?_, fun hjm => hall j hjm hj⟩) hf (fin listed a w hall low h)
    rw [low j hmj] at hon; cases hon
  intro fuel
  induction fuel with
  | zero =>
    intro listed a w low h hf
    refine over 0 listed a w low h hf (fun j hj hjs => ?_)
    cases hb : on_ listed j with
    | true => rfl
    | false =>
      have : 0 < left_ ops.size listed := List.countP_pos_iff.2 ⟨j, List.mem_range.2 hjs, by simp [hb]⟩
      omega
  | succ fuel ih =>
    intro listed a w low h hf
    by_cases hall : ∀ j, j < m → j < ops.size → on_ listed j = true
    · exact over (fuel + 1) listed a w low h hf hall
    obtain ⟨q, hq⟩ := Classical.not_forall.1 hall
    obtain ⟨hq1, hq⟩ := Classical.not_imp.1 hq
    obtain ⟨hq2, hq⟩ := Classical.not_imp.1 hq
    have hq3 : on_ listed q = false := by simpa using hq
    refine ⟨fun h0 => ?_, fun i hi => ?_⟩
    · obtain ⟨k, hk⟩ := least q listed h.long hq2 hq3
      rw [h0] at hk; cases hk
    obtain ⟨hi, hoff, hr⟩ := (ready_spec h.long).1 hi
    have him : i < m := Nat.not_le.1 fun hmi => by rw [hr q (later i q hmi hi (by omega))] at hq3; cases hq3
    have ho : ops[i]? = some ops[i] := Array.getElem?_eq_getElem hi
    have low' : ∀ j, m ≤ j → on_ (listed.setIfInBounds i true) j = false := fun j hj => by rw [on_set_other (by omega)]; exact low j hj
    have less : left_ ops.size (listed.setIfInBounds i true) ≤ fuel := by
      have := countP_less (p := fun j => !on_ listed j) (q := fun j => !on_ (listed.setIfInBounds i true) j) (List.range ops.size) (fun j _ hj => by
        by_cases e : i = j
        · subst e; simp [hoff]
        · rwa [on_set_other e] at hj) ⟨i, List.mem_range.2 hi, by simp [hoff], by simp [on_set_same (show i < listed.size by rw [h.long]; exact hi)]⟩
      unfold left_ at hf ⊢; omega
    have st := L.step i ops[i] a w him ho h.c h.size h.defers (fun j p s hp hs hw => h.done j p s hp hs (hr j hw)) (fun s hs hno => h.old s (fun j hj => by
      by_cases e : j = i
      · subst e; exact hoff
      · unfold writer at hj
        cases hp : ops[j]? with
        | none => simp [hp] at hj
        | some p =>
          simp only [hp, beq_iff_eq] at hj
          rcases gd.looks i j _ p s ho hp e hs hj with h1 | h1
          · have := hno j (by simp [writer, hp, hj]); rw [this] at h1; cases h1
          · by_cases hon : on_ listed j = true
            · have := h.shut j i hon h1; rw [hoff] at this; cases this
            · simpa using hon))
    unfold wpOp
    rw [ho]
    dsimp only
    split
    · rename_i hw
      rw [if_pos hw] at st
      refine .inl (Oper.wp_mono (fun a' w' hh => ?_) st)
      obtain ⟨v, rfl, hc, hg, hv⟩ := hh
      exact ih _ _ _ low' (inv_step (n := 0) gd L h ho hi hr hc hg hv) less
    · rename_i hw
      rw [if_neg hw] at st
      exact ih _ _ _ low' (inv_step (n := 0) gd L h ho hi hr h.c (L.same w h.c) st) less
end
def Res (P : Program) (K : Value → World → Prop) : Result Next → Prop
  | .ok (.value v) w' => K v w'
  | .ok .skip w' => K undef w'
  | .ok (.enter f args) w' => Calls P f args w' (fun e w'' => ∃ v, e = .returned v ∧ K v w'')
  | _ => False
theorem wp_of_res {P : Program} {o : Oper} {a : Act} {w : World} {K : Value → World → Prop} {Q : Exit → Act → World → Prop} (h : Res P K ((execOp a.eval o).run P w)) : o.wp P a w (fun a' w' => ∃ v, a' = a.put o.dst v ∧ K v w') Q := by
  unfold Oper.wp
  generalize (execOp a.eval o).run P w = r at *
  cases r with
  | ok n w' =>
    cases n <;> simp only [Res] at h <;> simp only [Oper.upon]
    case value u => exact ⟨_, rfl, h⟩
    case skip => exact ⟨_, rfl, h⟩
    case enter f args => exact h.mono fun e w'' ⟨v, he, hk⟩ => by subst he; exact ⟨_, rfl, hk⟩
  | halt x w' => simp only [Res] at h
/-- what the tokens (operations whose values hang on the order) and the others hand on -/
def val_ (T : List Nat) (vs : List Value) (x : Nat → Value) (k : Nat) : Value := if T.contains k then x k else vs.getD k undef
def lexAt (T : List Nat) (vs : List Value) (x : Nat → Value) : Nat → List Oper → Act → Act
  | _, [], a => a
  | k, o :: l, a => lexAt T vs x (k + 1) l (a.put o.dst (val_ T vs x k))
section
variable (P : Program) (ops : Array Oper) (C : World → Prop) (G : World → World → Prop) (T : List Nat) (R : Nat → World → Value → Prop) (vs : List Value) (x : Nat → Value)
def Ob (k : Nat) (o : Oper) (a : Act) : Prop :=
  ∀ w, C w → (∀ j p s, ops[j]? = some p → p.dst = some s → T.contains j = true → waits ops k j = true → R j w (x j)) →
    if Region.wanted o (yielded ops a.tmps) = true then Res P (fun v w' => C w' ∧ G w w' ∧ if T.contains k = true then R k w' v else v = vs.getD k undef) ((execOp a.eval o).run P w) else T.contains k = false ∧ vs.getD k undef = undef
def Obs : Nat → List Oper → Act → Prop
  | _, [], _ => True
  | k, o :: l, a => Ob P ops C G T R vs x k o a ∧ Obs (k + 1) l (a.put o.dst (val_ T vs x k))
structure Pre (a0 : Act) (k : Nat) (a : Act) : Prop where
  size : a.tmps.size = a0.tmps.size
  defers : a.defers = a0.defers
  done : ∀ j p s, j < k → ops[j]? = some p → p.dst = some s → at_ a s = val_ T vs x j
  old : ∀ s, (∀ j, j < k → writer ops j s = false) → at_ a s = at_ a0 s
end
section
variable {P : Program} {ops : Array Oper} {C : World → Prop} {G : World → World → Prop} {T : List Nat} {R : Nat → World → Value → Prop} {vs : List Value} {x : Nat → Value} {a0 : Act} {Q : Exit → Act → World → Prop}
theorem pre_next (gd : Good ops a0.tmps.size) {k : Nat} {a : Act} {o : Oper} (h : Pre ops T vs x a0 k a) (ho : ops[k]? = some o) : Pre ops T vs x a0 (k + 1) (a.put o.dst (val_ T vs x k)) := by
  refine ⟨by rw [size_put, h.size], by rw [defers_put, h.defers], fun j p s hj hp hs => ?_, fun s hs => ?_⟩
  · by_cases e : j = k
    · subst e
      obtain rfl : o = p := by rw [ho] at hp; exact Option.some.inj hp
      rw [hs, at_put_same _ (by rw [h.size]; exact gd.within j o s ho hs)]
    · have : at_ (a.put o.dst (val_ T vs x k)) s = at_ a s := by
        cases hd : o.dst with
        | none => rfl
        | some d => exact at_put_other _ (fun e' => gd.apart k j o p d ho hp e hd (by rw [hs, e']))
      rw [this]; exact h.done j p s (by omega) hp hs
  · have : at_ (a.put o.dst (val_ T vs x k)) s = at_ a s := by
      cases hd : o.dst with
      | none => rfl
      | some d =>
        refine at_put_other _ (fun e' => ?_)
        have h1 := hs k (by omega)
        simp [writer, ho, hd, e'] at h1
    rw [this]; exact h.old s (fun j hj => hs j (by omega))
theorem pre_end (gd : Good ops a0.tmps.size) : ∀ (l : List Oper) (k : Nat) (a : Act), (∀ j, j < l.length → l[j]? = ops[k + j]?) → Pre ops T vs x a0 k a → Pre ops T vs x a0 (k + l.length) (lexAt T vs x k l a)
  | [], k, a, _, h => h
  | o :: l, k, a, hl, h => by
    have := pre_end gd l (k + 1) _ (fun j hj => by have := hl (j + 1) (by simpa using hj); simpa [Nat.add_assoc, Nat.add_comm 1 j] using this) (pre_next gd h (by simpa using (hl 0 (by simp)).symm))
    rw [List.length_cons, show k + (l.length + 1) = k + 1 + l.length from by omega]
    exact this
theorem obs_get (gd : Good ops a0.tmps.size) : ∀ (l : List Oper) (k : Nat) (a : Act), (∀ j, j < l.length → l[j]? = ops[k + j]?) → Pre ops T vs x a0 k a → Obs P ops C G T R vs x k l a →
    ∀ i o, k ≤ i → i < k + l.length → ops[i]? = some o → ∃ A, Pre ops T vs x a0 i A ∧ Ob P ops C G T R vs x i o A
  | [], k, a, hl, h, _, i, o, hk, hi, ho => by simp at hi; omega
  | q :: l, k, a, hl, h, hO, i, o, hk, hi, ho => by
    by_cases e : k = i
    · subst e
      have : q = o := by have := hl 0 (by simp); rw [Nat.add_zero, ho] at this; exact Option.some.inj this
      subst this
      exact ⟨a, h, hO.1⟩
    · exact obs_get gd l (k + 1) _ (fun j hj => by have := hl (j + 1) (by simpa using hj); simpa [Nat.add_assoc, Nat.add_comm 1 j] using this) (pre_next gd h (by simpa using (hl 0 (by simp)).symm)) hO.2 i o (by omega) (by simp at hi; omega) ho
theorem tmps_at {a b : Act} (hs : a.tmps.size = b.tmps.size) (t : Nat) (h : at_ a t = at_ b t) : a.tmps[t]? = b.tmps[t]? := by
  unfold at_ at h
  by_cases ht : t < a.tmps.size
  · have ht' : t < b.tmps.size := by omega
    simp only [Array.getD, ht, ht', dif_pos] at h
    rw [Array.getElem?_eq_getElem ht, Array.getElem?_eq_getElem ht']; exact congrArg some h
  · rw [Array.getElem?_eq_none (by omega), Array.getElem?_eq_none (by omega)]
def laterB (ops : Array Oper) (m : Nat) : Bool := (List.range ops.size).all fun i => decide (i < m) || (List.range i).all fun j => waits ops i j
theorem laterB_spec {m : Nat} (h : laterB ops m = true) (i j : Nat) (hm : m ≤ i) (hi : i < ops.size) (hj : j < i) : waits ops i j = true := by
  have h1 := List.all_eq_true.1 h i (List.mem_range.2 hi)
  simp only [Bool.or_eq_true, decide_eq_true_eq] at h1
  rcases h1 with h1 | h1
  · omega
  · exact List.all_eq_true.1 h1 j (List.mem_range.2 hj)
/-- **A region that draws its order, by one walk in the order of the text**; what waits for all ahead of it (from m on) goes on as a row. -/
theorem region_then (m : Nat) {id : Nat} {w : World} (later : laterB ops m = true) (hm : P.follows .mixedOrders = true) (hg : goodB ops a0.tmps.size = true) (hC : C { w with drawn := w.drawn + 1 })
    (same : ∀ w, C w → G w w) (keep : ∀ i w w' v, G w w' → R i w v → R i w' v)
    (h : ∀ x, Obs P ops C G T R vs x 0 (ops.toList.take m) a0)
    (fin : ∀ x w', C w' → (∀ j p s, j < m → ops[j]? = some p → p.dst = some s → T.contains j = true → R j w' (x j)) → wpList P ops Q (ops.toList.drop m) (lexAt T vs x 0 (ops.toList.take m) a0) w') :
    (Code.region id ops true).wp P Q a0 w := by
  have gd := good_of hg
  have hns : Region.noSelect ops = true := by unfold goodB at hg; rw [Bool.and_eq_true] at hg; exact hg.1
  have hl0 : ∀ j, j < (ops.toList.take m).length → (ops.toList.take m)[j]? = ops[0 + j]? := fun j hj => by rw [List.length_take] at hj; rw [List.getElem?_take_of_lt (by omega)]; simp
  have pre0 : ∀ x, Pre ops T vs x a0 0 a0 := fun x => ⟨rfl, rfl, fun j p s hj => absurd hj (Nat.not_lt_zero _), fun s _ => rfl⟩
  let V : Nat → World → Value → Prop := fun i w v => if T.contains i = true then R i w v else v = vs.getD i undef
  let xa : Act → Nat → Value := fun a j => match (ops[j]?).bind (·.dst) with | some d => at_ a d | none => undef
  have xa_at : ∀ (a : Act) j p s, ops[j]? = some p → p.dst = some s → xa a j = at_ a s := fun a j p s hp hs => by simp [xa, hp, hs]
  have L : Law m P ops C G V a0 Q := by
    refine ⟨fun i w w' v hgw hv => ?_, same, fun i o a w him ho hc hsz hdf hdone hold => ?_⟩
    · simp only [V] at hv ⊢; split at hv
      · rw [if_pos (by assumption)]; exact keep i w w' v hgw hv
      · rw [if_neg (by assumption)]; exact hv
    · obtain ⟨A, pA, ob⟩ := obs_get (x := xa a) gd (ops.toList.take m) 0 a0 hl0 (pre0 _) (h (xa a)) i o (Nat.zero_le _) (by have := (Array.getElem?_eq_some_iff.1 ho).1; rw [List.length_take, Array.length_toList]; omega) ho
      have seen : ∀ s ∈ o.looksAt ops, at_ a s = at_ A s := fun s hs => by
        by_cases hw : ∃ j, writer ops j s = true ∧ waits ops i j = true
        · obtain ⟨j, hj, hw⟩ := hw
          have hlt := gd.before i j (Array.getElem?_eq_some_iff.1 ho).1 hw
          unfold writer at hj
          cases hp : ops[j]? with
          | none => simp [hp] at hj
          | some p =>
            simp only [hp, beq_iff_eq] at hj
            rw [pA.done j p s hlt hp hj]
            have hv := hdone j p s hp hj hw
            simp only [V, val_] at hv ⊢
            split
            · exact (xa_at a j p s hp hj).symm
            · rename_i hn; rw [if_neg hn] at hv; exact hv
        · have hno : ∀ j, writer ops j s = true → waits ops i j = false := fun j hj => by
            cases hwj : waits ops i j with
            | false => rfl
            | true => exact absurd ⟨j, hj, hwj⟩ hw
          rw [hold s hs hno]
          refine (pA.old s (fun j hj => ?_)).symm
          cases hwr : writer ops j s with
          | false => rfl
          | true =>
            have hno' := hno j hwr
            unfold writer at hwr
            cases hp : ops[j]? with
            | none => simp [hp] at hwr
            | some p =>
              simp only [hp, beq_iff_eq] at hwr
              rcases gd.looks i j o p s ho hp (by omega) hs hwr with h1 | h1
              · rw [hno'] at h1; cases h1
              · have := gd.before j i (Array.getElem?_eq_some_iff.1 hp).1 h1; omega
      have hex : execOp a.eval o = execOp A.eval o := execOp_congr o (fun cs b => Region.noSelect_spec hns i o cs b ho) fun y hy => by
        cases y with
        | tmp t => exact seen t (List.mem_append_left _ (List.mem_filterMap.2 ⟨.tmp t, by simpa using hy, rfl⟩))
        | _ => rfl
      have hwt : Region.wanted o (yielded ops a.tmps) = Region.wanted o (yielded ops A.tmps) := by
        unfold Region.wanted
        cases hgd : o.guard with
        | none => rfl
        | some gw =>
          obtain ⟨g, want⟩ := gw
          have : yielded ops a.tmps g = yielded ops A.tmps g := by
            unfold yielded
            cases ht : (ops[g]?).bind (·.dst) with
            | none => rfl
            | some t =>
              have := tmps_at (by rw [hsz, pA.size]) t (seen t (List.mem_append_right _ (by simp [hgd, ht])))
              simp only [Option.bind_some, this]
          simp only [this]
      have o1 := ob w hc (fun j p s hp hs ht hw => by
        have hv := hdone j p s hp hs hw
        simp only [V] at hv
        rw [if_pos ht] at hv
        rw [xa_at a j p s hp hs]; exact hv)
      rw [hwt]
      split
      · rename_i hw
        rw [if_pos hw, ← hex] at o1
        exact wp_of_res (K := fun v w' => C w' ∧ G w w' ∧ V i w' v) o1
      · rename_i hw
        rw [if_neg hw] at o1
        simp only [V]; rw [if_neg (by rw [o1.1]; decide)]; exact o1.2.symm
  refine wp_region_any hm (any_then (laterB_spec later) gd L (fun listed a w' hall low hI => ?_) ops.size _ a0 _ (fun j _ => by simp [on_, Array.getD]) ⟨hC, rfl, rfl, by simp, fun j p s _ _ hon => ?_, fun s _ => rfl, fun j k hon => ?_⟩ ?_)
  · have pe := pre_end (x := xa a) (T := T) (vs := vs) gd (ops.toList.take m) 0 a0 hl0 (pre0 _)
    rw [Nat.zero_add, List.length_take, Array.length_toList] at pe
    have heq : a = lexAt T vs (xa a) 0 (ops.toList.take m) a0 := by
      have ht : a.tmps = (lexAt T vs (xa a) 0 (ops.toList.take m) a0).tmps := by
        refine Array.ext_getElem? fun s => tmps_at (by rw [hI.size, pe.size]) s ?_
        by_cases hw : ∃ j, j < m ∧ writer ops j s = true
        · obtain ⟨j, hjm, hj⟩ := hw
          unfold writer at hj
          cases hp : ops[j]? with
          | none => simp [hp] at hj
          | some p =>
            simp only [hp, beq_iff_eq] at hj
            have hjl := (Array.getElem?_eq_some_iff.1 hp).1
            rw [pe.done j p s (by omega) hp hj]
            have hv := hI.done j p s hp hj (hall j hjm hjl)
            simp only [V, val_] at hv ⊢
            split
            · exact (xa_at a j p s hp hj).symm
            · rename_i hn; rw [if_neg hn] at hv; exact hv
        · have hno : ∀ j, j < m → writer ops j s = false := fun j hj => by
            cases hwj : writer ops j s with
            | false => rfl
            | true => exact absurd ⟨j, hj, hwj⟩ hw
          rw [hI.old s (fun j hj => low j (Nat.not_lt.1 fun hjm => by rw [hno j hjm] at hj; cases hj)), pe.old s (fun j hj => hno j (by omega))]
      have hd : a.defers = (lexAt T vs (xa a) 0 (ops.toList.take m) a0).defers := by rw [hI.defers, pe.defers]
      generalize lexAt T vs (xa a) 0 (ops.toList.take m) a0 = b at ht hd
      cases a; cases b; simp_all
    have fn := fin (xa a) w' hI.c (fun j p s hjm hp hs ht => by
      have hv := hI.done j p s hp hs (hall j hjm (Array.getElem?_eq_some_iff.1 hp).1)
      simp only [V] at hv
      rw [if_pos ht] at hv
      rw [xa_at a j p s hp hs]; exact hv)
    rw [heq]; rw [← heq] at fn ⊢; exact fn
  · simp [on_, Array.getD] at hon
  · simp [on_, Array.getD] at hon
  · unfold left_; exact Nat.le_trans List.countP_le_length (by simp)
theorem ob_plain {x : Nat → Value} {k : Nat} {o : Oper} {a : Act} {v : Value} (hw : Region.wanted o (yielded ops a.tmps) = true) (hT : T.contains k = false) (same : ∀ w, C w → G w w) (hv : vs.getD k undef = v)
    (h : ∀ w, C w → (execOp a.eval o).run P w = .ok (.value v) w) : Ob P ops C G T R vs x k o a := fun w hC _ => by
  rw [if_pos hw, h w hC, hT]
  exact ⟨hC, same w hC, hv.symm⟩
theorem ob_call {x : Nat → Value} {k : Nat} {o : Oper} {a : Act} {v : Value} (hw : Region.wanted o (yielded ops a.tmps) = true) (hT : T.contains k = false) (hv : vs.getD k undef = v) (f : FuncId) (args : Array Value)
    (h : ∀ w, C w → (execOp a.eval o).run P w = .ok (.enter f args) w) (hc : ∀ w, C w → Calls P f args w (fun e w' => e = .returned v ∧ C w' ∧ G w w')) : Ob P ops C G T R vs x k o a := fun w hC _ => by
  rw [if_pos hw, h w hC, hT]
  exact (hc w hC).mono fun e w' ⟨he, h1, h2⟩ => ⟨v, he, h1, h2, hv.symm⟩
theorem obs_cons {x : Nat → Value} {k : Nat} {o : Oper} {l : List Oper} {a : Act} (u : Value) (hu : val_ T vs x k = u) (h : Ob P ops C G T R vs x k o a) (h' : Obs P ops C G T R vs x (k + 1) l (a.put o.dst u)) : Obs P ops C G T R vs x k (o :: l) a := by
  subst hu; exact ⟨h, h'⟩
theorem lexAt_cons {x : Nat → Value} {k : Nat} {o : Oper} {l : List Oper} {a : Act} (u : Value) (hu : val_ T vs x k = u) : lexAt T vs x k (o :: l) a = lexAt T vs x (k + 1) l (a.put o.dst u) := by subst hu; rfl
theorem lexAt_nil {x : Nat → Value} {k : Nat} {a : Act} : lexAt T vs x k [] a = a := rfl
end
/-- a row of bytes, made in this very region -/
def RowAt (l : List Int) (w : World) (v : Value) : Prop := ∃ g, v = .slice (some ⟨g, 0, none⟩) l.length l.length ∧ g < w.heap.size ∧ ∀ j, j < l.length → w.cell? ⟨g, 0 + j, none⟩ = some (.int .u8 (l.getD j 0))
theorem RowAt.keep {l : List Int} {w w' : World} {v : Value} (hb : Below w.heap.size w w') : RowAt l w v → RowAt l w' v := fun ⟨g, h1, h2, h3⟩ =>
  ⟨g, h1, Nat.lt_of_lt_of_le h2 hb.size, fun j hj => (hb.cell (p := ⟨g, 0 + j, none⟩) h2).trans (h3 j hj)⟩
end Go.Proofs.YtcfnijeplaibeaaW.PrintMore.AnyOrder
end
section
set_option linter.unusedVariables false
namespace Go.Proofs.YtcfnijeplaibeaaW.PrintMore
open Go.RowKit Go.Proofs.YtcfnijeplaibeaaW.PrintWords
/-- a cut of a string -/
def cutS (s : ByteArray) (a b : Nat) : ByteArray := s.extract a b
theorem extract_cut (s : ByteArray) (a b : Nat) : s.extract a b = cutS s a b := rfl
/-- a rest of a length -/
theorem tmod_nat_lit (n m : Nat) : Int.tmod (n : Int) (no_index (OfNat.ofNat m)) = (n : Int) % (OfNat.ofNat m : Int) := Int.tmod_eq_emod_of_nonneg (by omega)
theorem max_five (ats : Array TypeId) (ty : TypeId) (a b c d e : Value) : Builtin.max_ ats ty #[a, b, c, d, e] = (Builtin.max2 a b >>= fun s => Builtin.max2 s c >>= fun s => Builtin.max2 s d >>= fun s => Builtin.max2 s e >>= fun s => pure s) := by simp only [Builtin.max_, List.foldlM_cons, List.foldlM_nil]
theorem min_five (ats : Array TypeId) (ty : TypeId) (a b c d e : Value) : Builtin.min_ ats ty #[a, b, c, d, e] = (Builtin.min2 a b >>= fun s => Builtin.min2 s c >>= fun s => Builtin.min2 s d >>= fun s => Builtin.min2 s e >>= fun s => pure s) := by simp only [Builtin.min_, List.foldlM_cons, List.foldlM_nil]
end Go.Proofs.YtcfnijeplaibeaaW.PrintMore
end
section
set_option linter.unusedVariables false
namespace Go.Proofs.YtcfnijeplaibeaaW.PrintMore.AnyEvents
open Go.RowKit Go.Proofs.YtcfnijeplaibeaaW.PrintWords Go.Proofs.YtcfnijeplaibeaaW.PrintMore.AnyOrder
def nx (c : Bool) (p : Nat) : Nat := if c = true then p + 1 else p
theorem nx_true (p : Nat) : nx true p = p + 1 := rfl
theorem nx_false (p : Nat) : nx false p = p := rfl
def chainB (ops : Array Oper) (E : List Nat) : Bool := (List.range E.length).all fun q => decide (q + 1 ≥ E.length) || waits ops (E.getD (q + 1) 0) (E.getD q 0)
/-- the phase: how many of the events are listed -/
def Ph (E : List Nat) (l : Nat → Bool) (p : Nat) : Prop := p ≤ E.length ∧ ∀ q e, E[q]? = some e → (l e = true ↔ q < p)
/-- where an operation may come up -/
structure When (ops : Array Oper) (E : List Nat) (i p : Nat) : Prop where
  at_ : ∀ q, E[q]? = some i → p = q
  hi : ∀ q e, E[q]? = some e → waits ops e i = true → p ≤ q
  lo : ∀ q e, E[q]? = some e → waits ops i e = true → q < p
structure Law (m : Nat) (E : List Nat) (P : Program) (ops : Array Oper) (C : Nat → World → Prop) (G : Bool → Nat → World → World → Prop) (V : Nat → Nat → World → Value → Prop) (a0 : Act) (Q : Exit → Act → World → Prop) : Prop where
  keep : ∀ c p j w w' v, (c = true → E[p]? ≠ some j) → G c p w w' → V p j w v → V (nx c p) j w' v
  same : ∀ p w, C p w → G false p w w
  step : ∀ i p o a w, i < m → When ops E i p → ops[i]? = some o → C p w → a.tmps.size = a0.tmps.size → a.defers = a0.defers →
    (∀ j q s, ops[j]? = some q → q.dst = some s → waits ops i j = true → V p j w (at_ a s)) →
    (∀ s, s ∈ o.looksAt ops → (∀ j, writer ops j s = true → waits ops i j = false) → at_ a s = at_ a0 s) →
    if Region.wanted o (yielded ops a.tmps) = true then o.wp P a w (fun a' w' => ∃ v, a' = a.put o.dst v ∧ C (nx (E.contains i) p) w' ∧ G (E.contains i) p w w' ∧ V (nx (E.contains i) p) i w' v) Q else E.contains i = false ∧ V p i w undef
section
variable {P : Program} {ops : Array Oper} {E : List Nat} {C : Nat → World → Prop} {G : Bool → Nat → World → World → Prop} {V : Nat → Nat → World → Value → Prop} {a0 : Act} {Q : Exit → Act → World → Prop}
structure Inv (E : List Nat) (ops : Array Oper) (C : Nat → World → Prop) (V : Nat → Nat → World → Value → Prop) (a0 : Act) (listed : Array Bool) (p : Nat) (a : Act) (w : World) : Prop where
  ph : Ph E (on_ listed) p
  c : C p w
  size : a.tmps.size = a0.tmps.size
  defers : a.defers = a0.defers
  long : listed.size = ops.size
  done : ∀ j q s, ops[j]? = some q → q.dst = some s → on_ listed j = true → V p j w (at_ a s)
  old : ∀ s, (∀ j, writer ops j s = true → on_ listed j = false) → at_ a s = at_ a0 s
  shut : ∀ j k, on_ listed j = true → waits ops j k = true → on_ listed k = true
theorem ph_next {listed : Array Bool} {i p : Nat} (hl : i < listed.size) (h : Ph E (on_ listed) p) (hw : ∀ q, E[q]? = some i → p = q) (hoff : on_ listed i = false) : Ph E (on_ (listed.setIfInBounds i true)) (nx (E.contains i) p) := by
  by_cases hc : i ∈ E
  · have hcb : E.contains i = true := by simpa using hc
    obtain ⟨q, hq⟩ := List.getElem?_of_mem hc
    have hpq := hw q hq
    subst hpq
    have hlt : p < E.length := (List.getElem?_eq_some_iff.1 hq).1
    rw [hcb, nx_true]
    refine ⟨hlt, fun q' e he => ?_⟩
    by_cases e1 : i = e
    · subst e1
      have := hw q' he
      rw [on_set_same hl]; simp; omega
    · rw [on_set_other e1, h.2 q' e he]
      have : q' ≠ p := fun h => by subst h; rw [he] at hq; exact e1 (Option.some.inj hq).symm
      omega
  · have hcb : E.contains i = false := by simpa using hc
    rw [hcb, nx_false]
    refine ⟨h.1, fun q' e he => ?_⟩
    have e1 : i ≠ e := fun h => hc (h ▸ List.mem_of_getElem? he)
    rw [on_set_other e1]; exact h.2 q' e he
theorem inv_when {listed : Array Bool} {a : Act} {w : World} {i p : Nat} (hch : chainB ops E = true) (h : Inv E ops C V a0 listed p a w) (hoff : on_ listed i = false) (hr : ∀ k, waits ops i k = true → on_ listed k = true) : When ops E i p := by
  have chain : ∀ q e e', E[q]? = some e → E[q + 1]? = some e' → waits ops e' e = true := fun q e e' h1 h2 => by
    have hq2 := (List.getElem?_eq_some_iff.1 h2).1
    have := List.all_eq_true.1 hch q (List.mem_range.2 (by omega))
    simp only [Bool.or_eq_true, decide_eq_true_eq] at this
    rcases this with h3 | h3
    · omega
    · simpa [List.getD_eq_getElem?_getD, h1, h2] using h3
  refine ⟨fun q hq => ?_, fun q e he hw => ?_, fun q e he hw => (h.ph.2 q e he).1 (hr e hw)⟩
  · have h1 : ¬ q < p := fun hlt => by rw [(h.ph.2 q i hq).2 hlt] at hoff; cases hoff
    have h2 : ¬ p < q := fun hlt => by
      cases q with
      | zero => omega
      | succ q =>
        have hq1 : q < E.length := by have := (List.getElem?_eq_some_iff.1 hq).1; omega
        have := (h.ph.2 q _ (List.getElem?_eq_getElem hq1)).1 (hr _ (chain q _ _ (List.getElem?_eq_getElem hq1) hq))
        omega
    omega
  · refine Nat.not_lt.1 fun hlt => ?_
    have := h.shut e i ((h.ph.2 q e he).2 hlt) hw
    rw [hoff] at this; cases this
theorem inv_step {m : Nat} (gd : AnyOrder.Good ops a0.tmps.size) (L : Law m E P ops C G V a0 Q) {listed : Array Bool} {a : Act} {w w' : World} {i p : Nat} {o : Oper} {v : Value}
    (h : Inv E ops C V a0 listed p a w) (hwn : When ops E i p) (ho : ops[i]? = some o) (hi : i < ops.size) (hoff : on_ listed i = false) (hr : ∀ k, waits ops i k = true → on_ listed k = true) (hc : C (nx (E.contains i) p) w') (hg : G (E.contains i) p w w') (hv : V (nx (E.contains i) p) i w' v) :
    Inv E ops C V a0 (listed.setIfInBounds i true) (nx (E.contains i) p) (a.put o.dst v) w' := by
  have hl : i < listed.size := by rw [h.long]; exact hi
  have up : ∀ k, on_ listed k = true → on_ (listed.setIfInBounds i true) k = true := fun k hk => by
    by_cases e : i = k
    · subst e; exact on_set_same hl
    · rw [on_set_other e]; exact hk
  refine ⟨ph_next hl h.ph hwn.at_ hoff, hc, by rw [size_put, h.size], by rw [defers_put, h.defers], by simp [h.long], fun j q s hp hs hon => ?_, fun s hs => ?_, fun j k hj hk => ?_⟩
  · by_cases e1 : i = j
    · subst e1
      obtain rfl : o = q := by rw [ho] at hp; exact Option.some.inj hp
      rw [hs, at_put_same v (by rw [h.size]; exact gd.within i o s ho hs)]
      exact hv
    · rw [on_set_other e1] at hon
      have h1 := L.keep (E.contains i) p j w w' _ (fun hie hpj => by
        have hm : i ∈ E := by simpa using hie
        obtain ⟨q', hq'⟩ := List.getElem?_of_mem hm
        have := hwn.at_ q' hq'
        subst this
        rw [hpj] at hq'; exact e1 (Option.some.inj hq').symm) hg (h.done j q s hp hs hon)
      have : at_ (a.put o.dst v) s = at_ a s := by
        cases hd : o.dst with
        | none => rfl
        | some d => exact at_put_other v (fun e' => gd.apart i j o q d ho hp (Ne.symm e1) hd (by rw [hs, e']))
      rw [this]; exact h1
  · have : at_ (a.put o.dst v) s = at_ a s := by
      cases hd : o.dst with
      | none => rfl
      | some d =>
        refine at_put_other v (fun e' => ?_)
        have h1 := hs i (by simp [writer, ho, hd, e'])
        rw [on_set_same hl] at h1
        cases h1
    rw [this]
    refine h.old s (fun j hj => ?_)
    have h1 := hs j hj
    by_cases e : i = j
    · subst e; rw [on_set_same hl] at h1; cases h1
    · rwa [on_set_other e] at h1
  · by_cases e : i = j
    · subst e; exact up k (hr k hk)
    · rw [on_set_other e] at hj
      exact up k (h.shut j k hj hk)
theorem row_then {m : Nat} (later : ∀ i j, m ≤ i → i < ops.size → j < i → (j < m → waits ops i j = true) ∧ (m ≤ j → ∃ k, j ≤ k ∧ waits ops i k = true)) (gd : AnyOrder.Good ops a0.tmps.size) :
    ∀ (fuel n : Nat) (listed : Array Bool) (a : Act) (w : World), m ≤ n → listed.size = ops.size → (∀ j, j < ops.size → (on_ listed j = true ↔ j < n)) → left_ ops.size listed ≤ fuel → wpList P ops Q (ops.toList.drop n) a w → wpAny P .any ops Q fuel listed a w := by
  have ends : ∀ (n : Nat) (listed : Array Bool) (a : Act) (w : World), listed.size = ops.size → (∀ j, j < ops.size → (on_ listed j = true ↔ j < n)) → ops.size ≤ n → wpList P ops Q (ops.toList.drop n) a w → Region.ready .any ops listed = [] ∧ Q .normal a w := by
    intro n listed a w hs ho hn h
    refine ⟨?_, ?_⟩
    · cases hr : Region.ready .any ops listed with
      | nil => rfl
      | cons i l =>
        obtain ⟨hi, hoff, _⟩ := (ready_spec hs).1 (show i ∈ Region.ready .any ops listed by rw [hr]; exact List.mem_cons_self)
        rw [(ho i hi).2 (by omega)] at hoff; cases hoff
    · rw [List.drop_of_length_le (by simpa using hn)] at h; exact h
  intro fuel
  induction fuel with
  | zero =>
    intro n listed a w hmn hs ho hf h
    refine ends n listed a w hs ho ?_ h
    refine Nat.not_lt.1 (fun hlt => ?_)
    have hoff : on_ listed n = false := by
      cases hb : on_ listed n with
      | false => rfl
      | true => have := (ho n hlt).1 hb; omega
    have : 0 < left_ ops.size listed := List.countP_pos_iff.2 ⟨n, List.mem_range.2 hlt, by simp [hoff]⟩
    omega
  | succ fuel ih =>
    intro n listed a w hmn hs ho hf h
    by_cases hlt : n < ops.size
    · have hoff : on_ listed n = false := by
        cases hb : on_ listed n with
        | false => rfl
        | true => have := (ho n hlt).1 hb; omega
      refine ⟨fun h0 => ?_, fun i hi => ?_⟩
      · have : n ∈ Region.ready .any ops listed := (ready_spec hs).2 ⟨hlt, hoff, fun k hk => (ho k (by have := gd.before n k hlt hk; omega)).2 (gd.before n k hlt hk)⟩
        rw [h0] at this; cases this
      · obtain ⟨hi, hoi, hr⟩ := (ready_spec hs).1 hi
        have hin : i = n := by
          refine Nat.le_antisymm (Nat.not_lt.1 fun hni => ?_) (Nat.not_lt.1 fun hni => ?_)
          · obtain ⟨k, hk1, hk2⟩ := (later i n (by omega) hi hni).2 hmn
            have h1 := hr k hk2
            have hks := gd.before i k hi hk2
            have := (ho k (by omega)).1 h1
            omega
          · rw [(ho i hi).2 hni] at hoi; cases hoi
        subst hin
        have hg : ops[i]? = some ops[i] := Array.getElem?_eq_getElem hi
        have hd : ops.toList.drop i = ops[i] :: ops.toList.drop (i + 1) := by
          rw [List.drop_eq_getElem_cons (by simpa using hi)]; simp
        rw [hd] at h
        have h1 : wpOp P ops Q i (wpList P ops Q (ops.toList.drop (i + 1))) a w := by unfold wpOp; rw [hg]; exact h
        refine wpOp_mono (fun a' w' h' => ih (i + 1) _ a' w' (by omega) (by simpa using hs) (fun j hj => ?_) ?_ h') h1
        · by_cases e : i = j
          · subst e; rw [on_set_same (by omega)]; simp
          · rw [on_set_other e, ho j hj]; omega
        · have := countP_less (p := fun j => !on_ listed j) (q := fun j => !on_ (listed.setIfInBounds i true) j) (List.range ops.size) (fun j _ hj => by
            by_cases e : i = j
            · subst e; simp [hoff]
            · rwa [on_set_other e] at hj) ⟨i, List.mem_range.2 hi, by simp [hoff], by simp [on_set_same (show i < listed.size by omega)]⟩
          unfold left_ at hf ⊢; omega
    · obtain ⟨h0, hq⟩ := ends n listed a w hs ho (by omega) h
      exact ⟨fun _ => hq, fun i hi => by rw [h0] at hi; cases hi⟩
theorem any_then {m : Nat} (hch : chainB ops E = true) (later : ∀ i j, m ≤ i → i < ops.size → j < i → (j < m → waits ops i j = true) ∧ (m ≤ j → ∃ k, j ≤ k ∧ waits ops i k = true)) (gd : AnyOrder.Good ops a0.tmps.size) (L : Law m E P ops C G V a0 Q) (fin : ∀ listed p a w, (∀ j, j < m → j < ops.size → on_ listed j = true) → (∀ j, m ≤ j → on_ listed j = false) → Inv E ops C V a0 listed p a w → wpList P ops Q (ops.toList.drop m) a w) :
    ∀ (fuel : Nat) (listed : Array Bool) (p : Nat) (a : Act) (w : World), (∀ j, m ≤ j → on_ listed j = false) → Inv E ops C V a0 listed p a w → left_ ops.size listed ≤ fuel → wpAny P .any ops Q fuel listed a w := by
  have least : ∀ (m : Nat) (listed : Array Bool), listed.size = ops.size → m < ops.size → on_ listed m = false → ∃ k, k ∈ Region.ready .any ops listed := by
    intro m
    induction m using Nat.strongRecOn with
    | _ m ih =>
      intro listed hl hm hoff
      by_cases hall : ∀ k, waits ops m k = true → on_ listed k = true
      · exact ⟨m, (ready_spec hl).2 ⟨hm, hoff, hall⟩⟩
      · obtain ⟨k, hk⟩ := Classical.not_forall.1 hall
        obtain ⟨hk1, hk2⟩ := Classical.not_imp.1 hk
        have := gd.before m k hm hk1
        exact ih k this listed hl (by omega) (by simpa using hk2)
  have over : ∀ (fuel : Nat) (listed : Array Bool) (p : Nat) (a : Act) (w : World), (∀ j, m ≤ j → on_ listed j = false) → Inv E ops C V a0 listed p a w → left_ ops.size listed ≤ fuel → (∀ j, j < m → j < ops.size → on_ listed j = true) → wpAny P .any ops Q fuel listed a w := by
    intro fuel listed p a w low h hf hall
    refine row_then later gd fuel m listed a w (Nat.le_refl _) h.long (fun j hj => ⟨fun hon => Nat.not_le.1 fun hmj => ?_, fun hjm => hall j hjm hj⟩) hf (fin listed p a w hall low h)
    rw [low j hmj] at hon; cases hon
  intro fuel
  induction fuel with
  | zero =>
    intro listed p a w low h hf
    refine over 0 listed p a w low h hf (fun j hj hjs => ?_)
    cases hb : on_ listed j with
    | true => rfl
    | false =>
      have : 0 < left_ ops.size listed := List.countP_pos_iff.2 ⟨j, List.mem_range.2 hjs, by simp [hb]⟩
      omega
  | succ fuel ih =>
    intro listed p a w low h hf
    by_cases hall : ∀ j, j < m → j < ops.size → on_ listed j = true
    · exact over (fuel + 1) listed p a w low h hf hall
    obtain ⟨q, hq⟩ := Classical.not_forall.1 hall
    obtain ⟨hq1, hq⟩ := Classical.not_imp.1 hq
    obtain ⟨hq2, hq⟩ := Classical.not_imp.1 hq
    have hq3 : on_ listed q = false := by simpa using hq
    refine ⟨fun h0 => ?_, fun i hi => ?_⟩
    · obtain ⟨k, hk⟩ := least q listed h.long hq2 hq3
      rw [h0] at hk; cases hk
    obtain ⟨hi, hoff, hr⟩ := (ready_spec h.long).1 hi
    have him : i < m := Nat.not_le.1 fun hmi => by rw [hr q ((later i q hmi hi (by omega)).1 hq1)] at hq3; cases hq3
    have ho : ops[i]? = some ops[i] := Array.getElem?_eq_getElem hi
    have low' : ∀ j, m ≤ j → on_ (listed.setIfInBounds i true) j = false := fun j hj => by rw [on_set_other (by omega)]; exact low j hj
    have less : left_ ops.size (listed.setIfInBounds i true) ≤ fuel := by
      have := countP_less (p := fun j => !on_ listed j) (q := fun j => !on_ (listed.setIfInBounds i true) j) (List.range ops.size) (fun j _ hj => by
        by_cases e1 : i = j
        · subst e1; simp [hoff]
        · rwa [on_set_other e1] at hj) ⟨i, List.mem_range.2 hi, by simp [hoff], by simp [on_set_same (show i < listed.size by rw [h.long]; exact hi)]⟩
      unfold left_ at hf ⊢; omega
    have hwn := inv_when hch h hoff hr
    have st := L.step i p ops[i] a w him hwn ho h.c h.size h.defers (fun j q s hp hs hw => h.done j q s hp hs (hr j hw)) (fun s hs hno => h.old s (fun j hj => by
      by_cases e1 : j = i
      · subst e1; exact hoff
      · unfold writer at hj
        cases hp : ops[j]? with
        | none => simp [hp] at hj
        | some p =>
          simp only [hp, beq_iff_eq] at hj
          rcases gd.looks i j _ p s ho hp e1 hs hj with h1 | h1
          · have := hno j (by simp [writer, hp, hj]); rw [this] at h1; cases h1
          · by_cases hon : on_ listed j = true
            · have := h.shut j i hon h1; rw [hoff] at this; cases this
            · simpa using hon))
    unfold wpOp
    rw [ho]
    dsimp only
    split
    · rename_i hw
      rw [if_pos hw] at st
      refine .inl (Oper.wp_mono (fun a' w' hh => ?_) st)
      obtain ⟨v, rfl, hc, hg, hv⟩ := hh
      exact ih _ _ _ _ low' (inv_step gd L h hwn ho hi hoff hr hc hg hv) less
    · rename_i hw
      rw [if_neg hw] at st
      have hne := st.1
      exact ih _ _ _ _ low' (inv_step gd L h hwn ho hi hoff hr (by rw [hne]; exact h.c) (by rw [hne]; exact L.same _ w h.c) (by rw [hne]; exact st.2)) less
end
section
variable (P : Program) (ops : Array Oper) (E : List Nat) (C : Nat → World → Prop) (G : Bool → Nat → World → World → Prop) (T : List Nat) (R : Nat → Nat → World → Value → Prop) (vs : List Value) (x : Nat → Value)
def EvOb (k : Nat) (o : Oper) (a : Act) : Prop :=
  ∀ p w, When ops E k p → C p w → (∀ j q s, ops[j]? = some q → q.dst = some s → T.contains j = true → waits ops k j = true → R p j w (x j)) →
    if Region.wanted o (yielded ops a.tmps) = true then Res P (fun v w' => C (nx (E.contains k) p) w' ∧ G (E.contains k) p w w' ∧ if T.contains k = true then R (nx (E.contains k) p) k w' v else v = vs.getD k undef) ((execOp a.eval o).run P w) else E.contains k = false ∧ T.contains k = false ∧ vs.getD k undef = undef
def EvObs : Nat → List Oper → Act → Prop
  | _, [], _ => True
  | k, o :: l, a => EvOb P ops E C G T R vs x k o a ∧ EvObs (k + 1) l (a.put o.dst (val_ T vs x k))
end
section
variable {P : Program} {ops : Array Oper} {E : List Nat} {C : Nat → World → Prop} {G : Bool → Nat → World → World → Prop} {T : List Nat} {R : Nat → Nat → World → Value → Prop} {vs : List Value} {x : Nat → Value} {a0 : Act} {Q : Exit → Act → World → Prop}
theorem obs_get (gd : AnyOrder.Good ops a0.tmps.size) : ∀ (l : List Oper) (k : Nat) (a : Act), (∀ j, j < l.length → l[j]? = ops[k + j]?) → Pre ops T vs x a0 k a → EvObs P ops E C G T R vs x k l a →
    ∀ i o, k ≤ i → i < k + l.length → ops[i]? = some o → ∃ A, Pre ops T vs x a0 i A ∧ EvOb P ops E C G T R vs x i o A
  | [], k, a, hl, h, _, i, o, hk, hi, ho => by simp at hi; omega
  | q :: l, k, a, hl, h, hO, i, o, hk, hi, ho => by
    by_cases e1 : k = i
    · subst e1
      have : q = o := by have := hl 0 (by simp); rw [Nat.add_zero, ho] at this; exact Option.some.inj this
      subst this
      exact ⟨a, h, hO.1⟩
    · exact obs_get gd l (k + 1) _ (fun j hj => by have := hl (j + 1) (by simpa using hj); simpa [Nat.add_assoc, Nat.add_comm 1 j] using this) (pre_next gd h (by simpa using (hl 0 (by simp)).symm)) hO.2 i o (by omega) (by simp at hi; omega) ho
def laterB2 (ops : Array Oper) (m : Nat) : Bool := (List.range ops.size).all fun i => decide (i < m) || (List.range i).all fun j => if j < m then waits ops i j else (List.range i).any fun k => decide (j ≤ k) && waits ops i k
theorem laterB2_spec {m : Nat} (h : laterB2 ops m = true) (i j : Nat) (hm : m ≤ i) (hi : i < ops.size) (hj : j < i) : (j < m → waits ops i j = true) ∧ (m ≤ j → ∃ k, j ≤ k ∧ waits ops i k = true) := by
  have h1 := List.all_eq_true.1 h i (List.mem_range.2 hi)
  simp only [Bool.or_eq_true, decide_eq_true_eq] at h1
  rcases h1 with h1 | h1
  · omega
  · have h2 := List.all_eq_true.1 h1 j (List.mem_range.2 hj)
    constructor
    · intro hjm; rw [if_pos hjm] at h2; exact h2
    · intro hjm
      rw [if_neg (by omega), List.any_eq_true] at h2
      obtain ⟨k, _, hk⟩ := h2
      rw [Bool.and_eq_true, decide_eq_true_eq] at hk
      exact ⟨k, hk.1, hk.2⟩
theorem region_then (m : Nat) {id : Nat} {w : World} (hch : chainB ops E = true) (later : laterB2 ops m = true) (hm : P.follows .mixedOrders = true) (hg : goodB ops a0.tmps.size = true) (hC : C 0 { w with drawn := w.drawn + 1 })
    (same : ∀ p w, C p w → G false p w w) (keep : ∀ c p j w w' v, (c = true → E[p]? ≠ some j) → G c p w w' → R p j w v → R (nx c p) j w' v) (hem : ∀ e ∈ E, e < m ∧ e < ops.size)
    (h : ∀ x, EvObs P ops E C G T R vs x 0 (ops.toList.take m) a0)
    (fin : ∀ x w', C E.length w' → (∀ j p s, j < m → ops[j]? = some p → p.dst = some s → T.contains j = true → R E.length j w' (x j)) → wpList P ops Q (ops.toList.drop m) (lexAt T vs x 0 (ops.toList.take m) a0) w') :
    (Code.region id ops true).wp P Q a0 w := by
  have gd := good_of hg
  have hns : Region.noSelect ops = true := by unfold goodB at hg; rw [Bool.and_eq_true] at hg; exact hg.1
  have hl0 : ∀ j, j < (ops.toList.take m).length → (ops.toList.take m)[j]? = ops[0 + j]? := fun j hj => by rw [List.length_take] at hj; rw [List.getElem?_take_of_lt (by omega)]; simp
  have pre0 : ∀ x, Pre ops T vs x a0 0 a0 := fun x => ⟨rfl, rfl, fun j p s hj => absurd hj (Nat.not_lt_zero _), fun s _ => rfl⟩
  let V : Nat → Nat → World → Value → Prop := fun b i w v => if T.contains i = true then R b i w v else v = vs.getD i undef
  let xa : Act → Nat → Value := fun a j => match (ops[j]?).bind (·.dst) with | some d => at_ a d | none => undef
  have xa_at : ∀ (a : Act) j p s, ops[j]? = some p → p.dst = some s → xa a j = at_ a s := fun a j p s hp hs => by simp [xa, hp, hs]
  have L : Law m E P ops C G V a0 Q := by
    refine ⟨fun c b i w w' v hcb hgw hv => ?_, same, fun i b o a w him hie ho hc hsz hdf hdone hold => ?_⟩
    · simp only [V] at hv ⊢; split at hv
      · rw [if_pos (by assumption)]; exact keep c b i w w' v hcb hgw hv
      · rw [if_neg (by assumption)]; exact hv
    · obtain ⟨A, pA, ob⟩ := obs_get (x := xa a) gd (ops.toList.take m) 0 a0 hl0 (pre0 _) (h (xa a)) i o (Nat.zero_le _) (by have := (Array.getElem?_eq_some_iff.1 ho).1; rw [List.length_take, Array.length_toList]; omega) ho
      have seen : ∀ s ∈ o.looksAt ops, at_ a s = at_ A s := fun s hs => by
        by_cases hw : ∃ j, writer ops j s = true ∧ waits ops i j = true
        · obtain ⟨j, hj, hw⟩ := hw
          have hlt := gd.before i j (Array.getElem?_eq_some_iff.1 ho).1 hw
          unfold writer at hj
          cases hp : ops[j]? with
          | none => simp [hp] at hj
          | some p =>
            simp only [hp, beq_iff_eq] at hj
            rw [pA.done j p s hlt hp hj]
            have hv := hdone j p s hp hj hw
            simp only [V, val_] at hv ⊢
            split
            · exact (xa_at a j p s hp hj).symm
            · rename_i hn; rw [if_neg hn] at hv; exact hv
        · have hno : ∀ j, writer ops j s = true → waits ops i j = false := fun j hj => by
            cases hwj : waits ops i j with
            | false => rfl
            | true => exact absurd ⟨j, hj, hwj⟩ hw
          rw [hold s hs hno]
          refine (pA.old s (fun j hj => ?_)).symm
          cases hwr : writer ops j s with
          | false => rfl
          | true =>
            have hno' := hno j hwr
            unfold writer at hwr
            cases hp : ops[j]? with
            | none => simp [hp] at hwr
            | some p =>
              simp only [hp, beq_iff_eq] at hwr
              rcases gd.looks i j o p s ho hp (by omega) hs hwr with h1 | h1
              · rw [hno'] at h1; cases h1
              · have := gd.before j i (Array.getElem?_eq_some_iff.1 hp).1 h1; omega
      have hex : execOp a.eval o = execOp A.eval o := execOp_congr o (fun cs b => Region.noSelect_spec hns i o cs b ho) fun y hy => by
        cases y with
        | tmp t => exact seen t (List.mem_append_left _ (List.mem_filterMap.2 ⟨.tmp t, by simpa using hy, rfl⟩))
        | _ => rfl
      have hwt : Region.wanted o (yielded ops a.tmps) = Region.wanted o (yielded ops A.tmps) := by
        unfold Region.wanted
        cases hgd : o.guard with
        | none => rfl
        | some gw =>
          obtain ⟨g, want⟩ := gw
          have : yielded ops a.tmps g = yielded ops A.tmps g := by
            unfold yielded
            cases ht : (ops[g]?).bind (·.dst) with
            | none => rfl
            | some t =>
              have := tmps_at (by rw [hsz, pA.size]) t (seen t (List.mem_append_right _ (by simp [hgd, ht])))
              simp only [Option.bind_some, this]
          simp only [this]
      have o1 := ob b w hie hc (fun j p s hp hs ht hw => by
        have hv := hdone j p s hp hs hw
        simp only [V] at hv
        rw [if_pos ht] at hv
        rw [xa_at a j p s hp hs]; exact hv)
      rw [hwt]
      split
      · rename_i hw
        rw [if_pos hw, ← hex] at o1
        exact wp_of_res (K := fun v w' => C (nx (E.contains i) b) w' ∧ G (E.contains i) b w w' ∧ V (nx (E.contains i) b) i w' v) o1
      · rename_i hw
        rw [if_neg hw] at o1
        refine ⟨o1.1, ?_⟩
        simp only [V]; rw [if_neg (by rw [o1.2.1]; decide)]; exact o1.2.2.symm
  refine wp_region_any hm (any_then hch (laterB2_spec later) gd L (fun listed p a w' hall low hI => ?_) ops.size _ 0 a0 _ (fun j _ => by simp [on_, Array.getD]) ⟨⟨Nat.zero_le _, fun q e _ => by simp [on_, Array.getD]⟩, hC, rfl, rfl, by simp, fun j p s _ _ hon => ?_, fun s _ => rfl, fun j k hon => ?_⟩ ?_)
  · have pe := pre_end (x := xa a) (T := T) (vs := vs) gd (ops.toList.take m) 0 a0 hl0 (pre0 _)
    rw [Nat.zero_add, List.length_take, Array.length_toList] at pe
    have heq : a = lexAt T vs (xa a) 0 (ops.toList.take m) a0 := by
      have ht : a.tmps = (lexAt T vs (xa a) 0 (ops.toList.take m) a0).tmps := by
        refine Array.ext_getElem? fun s => tmps_at (by rw [hI.size, pe.size]) s ?_
        by_cases hw : ∃ j, j < m ∧ writer ops j s = true
        · obtain ⟨j, hjm, hj⟩ := hw
          unfold writer at hj
          cases hp : ops[j]? with
          | none => simp [hp] at hj
          | some p =>
            simp only [hp, beq_iff_eq] at hj
            have hjl := (Array.getElem?_eq_some_iff.1 hp).1
            rw [pe.done j p s (by omega) hp hj]
            have hv := hI.done j p s hp hj (hall j hjm hjl)
            simp only [V, val_] at hv ⊢
            split
            · exact (xa_at a j p s hp hj).symm
            · rename_i hn; rw [if_neg hn] at hv; exact hv
        · have hno : ∀ j, j < m → writer ops j s = false := fun j hj => by
            cases hwj : writer ops j s with
            | false => rfl
            | true => exact absurd ⟨j, hj, hwj⟩ hw
          rw [hI.old s (fun j hj => low j (Nat.not_lt.1 fun hjm => by rw [hno j hjm] at hj; cases hj)), pe.old s (fun j hj => hno j (by omega))]
      have hd : a.defers = (lexAt T vs (xa a) 0 (ops.toList.take m) a0).defers := by rw [hI.defers, pe.defers]
      generalize lexAt T vs (xa a) 0 (ops.toList.take m) a0 = b at ht hd
      cases a; cases b; simp_all
    have hpe : p = E.length := by
      refine Nat.le_antisymm hI.ph.1 (Nat.not_lt.1 fun hlt => ?_)
      have hm := hem _ (List.getElem_mem hlt)
      have := (hI.ph.2 p _ (List.getElem?_eq_getElem hlt)).1 (hall _ hm.1 hm.2)
      omega
    subst hpe
    have fn := fin (xa a) w' hI.c (fun j p s hjm hp hs ht => by
      have hv := hI.done j p s hp hs (hall j hjm (Array.getElem?_eq_some_iff.1 hp).1)
      simp only [V] at hv
      rw [if_pos ht] at hv
      rw [xa_at a j p s hp hs]; exact hv)
    rw [heq]; rw [← heq] at fn ⊢; exact fn
  · simp [on_, Array.getD] at hon
  · simp [on_, Array.getD] at hon
  · unfold left_; exact Nat.le_trans List.countP_le_length (by simp)
theorem ob_plain {x : Nat → Value} {k : Nat} {o : Oper} {a : Act} {v : Value} (hke : E.contains k = false) (hw : Region.wanted o (yielded ops a.tmps) = true) (hT : T.contains k = false) (same : ∀ p w, C p w → G false p w w) (hv : vs.getD k undef = v)
    (h : ∀ p w, When ops E k p → C p w → (execOp a.eval o).run P w = .ok (.value v) w) : EvOb P ops E C G T R vs x k o a := fun p w hwn hC _ => by
  rw [if_pos hw, h p w hwn hC, hT, hke]
  exact ⟨hC, same p w hC, hv.symm⟩
theorem ob_off {x : Nat → Value} {k : Nat} {o : Oper} {a : Act} (hke : E.contains k = false) (hw : Region.wanted o (yielded ops a.tmps) = false) (hT : T.contains k = false) (hv : vs.getD k undef = undef) : EvOb P ops E C G T R vs x k o a := fun p w hwn hC _ => by
  rw [hw, if_neg (by simp)]
  exact ⟨hke, hT, hv⟩
theorem ob_call {x : Nat → Value} {k : Nat} {o : Oper} {a : Act} {v : Value} (hke : E.contains k = false) (hw : Region.wanted o (yielded ops a.tmps) = true) (hT : T.contains k = false) (hv : vs.getD k undef = v) (f : FuncId) (args : Array Value)
    (h : ∀ p w, When ops E k p → C p w → (execOp a.eval o).run P w = .ok (.enter f args) w) (hc : ∀ p w, When ops E k p → C p w → Calls P f args w (fun r w' => r = .returned v ∧ C p w' ∧ G false p w w')) : EvOb P ops E C G T R vs x k o a := fun p w hwn hC _ => by
  rw [if_pos hw, h p w hwn hC, hT, hke]
  exact (hc p w hwn hC).mono fun r w' ⟨he, h1, h2⟩ => ⟨v, he, h1, h2, hv.symm⟩
/-- a store that is an event -/
theorem ob_evstore {x : Nat → Value} {k q : Nat} {o : Oper} {a : Act} (hq : E[q]? = some k) (hw : Region.wanted o (yielded ops a.tmps) = true) (hT : T.contains k = false) (hv : vs.getD k undef = undef)
    (h : ∀ w, C q w → ∃ w', (execOp a.eval o).run P w = .ok .skip w' ∧ C (q + 1) w' ∧ G true q w w') : EvOb P ops E C G T R vs x k o a := fun p w hwn hC _ => by
  obtain rfl := hwn.at_ q hq
  have hke : E.contains k = true := by simpa using List.mem_of_getElem? hq
  obtain ⟨w', h1, h2, h3⟩ := h w hC
  rw [if_pos hw, h1, hT, hke]
  exact ⟨h2, h3, hv.symm⟩
theorem obs_cons {x : Nat → Value} {k : Nat} {o : Oper} {l : List Oper} {a : Act} (u : Value) (hu : val_ T vs x k = u) (h : EvOb P ops E C G T R vs x k o a) (h' : EvObs P ops E C G T R vs x (k + 1) l (a.put o.dst u)) : EvObs P ops E C G T R vs x k (o :: l) a := by
  subst hu; exact ⟨h, h'⟩
end
end Go.Proofs.YtcfnijeplaibeaaW.PrintMore.AnyEvents
end
section
set_option linter.unusedVariables false
namespace Go.Proofs.YtcfnijeplaibeaaW.PrintMore
open Go.RowKit Go.Proofs.YtcfnijeplaibeaaW.PrintWords Go.Proofs.YtcfnijeplaibeaaW.PrintLast
section
variable {P : Program} {ρ : Operand → Value} {o : Oper} {W : World} {t : TypeId} {x a b : Operand} {s : ByteArray} {i j : Int}
/-- one cell of a block is written -/
theorem run_store1 {w : World} {ty : TypeId} {y : Operand} (ho : o.op = .store ty x y) {g k : Nat} (hx : ρ x = .pointer (some ⟨g, k, none⟩)) {v : Value} (hy : ρ y = v) {cs : Array Value} {e : TypeId} (hg : w.heap[g]? = some (.cells cs e (0, 0))) (hk : k < cs.size) (hc : v.cells.toList = [v]) (h1 : v.oneCell' = true) (hi : (P.info? ty).map (·.size) = some 1) :
    (execOp ρ o).run P w = .ok .skip (w.setCell ⟨g, k, none⟩ v) := by
  have h := run_store_run (P := P) (w := w) (g := g) (o := k) ty v [v] hg hc hi (by simp; omega) (by simpa using h1)
  unfold execOp
  simp only [ho, hx, hy, Sem.run_bind, h, Result.andThen_ok, Sem.run_pure]
  rfl
end
section
variable {P : Program} {ops : Array Oper} {o : Oper} {rest : List Oper} {a : Act} {w w' : World} {Q : Exit → Act → World → Prop}
end
end Go.Proofs.YtcfnijeplaibeaaW.PrintMore
end
section
set_option linter.unusedVariables false
namespace Go.Proofs.YtcfnijeplaibeaaW.PrintMore
open Go.RowKit Go.Proofs.YtcfnijeplaibeaaW.PrintWords Go.Proofs.YtcfnijeplaibeaaW.PrintLast
def ownsAt (w : World) (base : Nat) (e : TypeId) (size : Nat) (v : Value) (n : Nat) (xs : List Value) : Prop :=
  xs.length = n * size ∧ ((v = .slice none 0 0 ∧ n = 0) ∨
   ∃ g o cap cur, v = .slice (some ⟨g, o, none⟩) n cap ∧ base ≤ g ∧ w.heap[g]? = some (.cells cur e (0, 0)) ∧ n ≤ cap ∧ cap ≤ maxLen ∧ o + cap * size ≤ cur.size ∧ (cur.toList.drop o).take (n * size) = xs)
theorem ownsAt_nil (w : World) (base : Nat) (e : TypeId) (size : Nat) : ownsAt w base e size (.slice none 0 0) 0 [] := ⟨by simp, .inl ⟨rfl, rfl⟩⟩
theorem ownsAt_row {w : World} {base : Nat} {e : TypeId} {size : Nat} {v : Value} {n : Nat} {xs : List Value} (h : w.ownsRow base e size v n xs) : ownsAt w base e size v n xs :=
  ⟨h.1, h.2.imp id fun ⟨g, cap, cur, h1, h2, h3, h4, h5, h6, h7⟩ => ⟨g, 0, cap, cur, h1, h2, h3, h4, h5, by omega, by simpa using h7⟩⟩
theorem ownsAt_kept {w w' : World} {base : Nat} {e : TypeId} {size : Nat} {v : Value} {n : Nat} {xs : List Value} (h : ownsAt w base e size v n xs) (hk : ∀ g cur, v.ownBlock = some g → w.heap[g]? = some (.cells cur e (0, 0)) → w'.heap[g]? = w.heap[g]?) : ownsAt w' base e size v n xs := by
  refine ⟨h.1, ?_⟩
  rcases h.2 with hn | ⟨g, o, cap, cur, rfl, hb, hg, hr⟩
  · exact .inl hn
  · exact .inr ⟨g, o, cap, cur, rfl, hb, (hk g cur rfl hg).trans hg, hr⟩
theorem ownsAt_len {w : World} {base : Nat} {e : TypeId} {size : Nat} {v : Value} {n : Nat} {xs : List Value} (h : ownsAt w base e size v n xs) : ∃ A c, v = .slice A n c ∧ n ≤ c ∧ c ≤ maxLen ∧ (c = 0 ∨ A ≠ none) := by
  rcases h.2 with ⟨rfl, rfl⟩ | ⟨g, o, cap, cur, rfl, hb, hg, hc, hm, hr⟩
  · exact ⟨none, 0, rfl, Nat.le_refl _, by simp [maxLen], .inl rfl⟩
  · exact ⟨_, cap, rfl, hc, hm, .inr (by simp)⟩
theorem ownsAt_cells {w : World} {base : Nat} {e : TypeId} {size : Nat} {A : Option Addr} {n m c : Nat} {xs : List Value} (h : ownsAt w base e size (.slice A m c) n xs) (h0 : 0 < n) : ∃ g o, A = some ⟨g, o, none⟩ ∧ ∀ j u, xs[j]? = some u → w.cell? ⟨g, o + j, none⟩ = some u := by
  rcases h.2 with ⟨hv, rfl⟩ | ⟨g, o, cap, cur, hv, hb, hg, hc, hm, hs, ht⟩
  · omega
  · injection hv with h1 _ _
    refine ⟨g, o, h1, fun j u hu => ?_⟩
    rw [cell_of_row w g (o + j) cur e (0, 0) hg]
    rw [← ht, List.getElem?_take] at hu
    split at hu
    · rw [List.getElem?_drop] at hu; simpa using hu
    · cases hu
theorem run_append_at_room {P : Program} (w : World) (t ty e : TypeId) (i : TypeInfo) (ht : P.underlying t = some (.slice e)) (hi : P.info? e = some i)
    (g o sLen sCap : Nat) (cur : Array Value) (hg : w.heap[g]? = some (.cells cur e (0, 0)))
    (a : Addr) (m c : Nat) (news : List Value) (hl : news.length = m * i.size) (hnews : ∀ j u, news[j]? = some u → w.cell? (a.add j) = some u) (h1 : ∀ u ∈ news, u.oneCell' = true)
    (hroom : sLen + m ≤ sCap) (hfit : o + sLen * i.size + news.length ≤ cur.size) :
    (Builtin.append_ #[t, t] ty #[.slice (some ⟨g, o, none⟩) sLen sCap, .slice (some a) m c]).run P w =
      .ok (.slice (some ⟨g, o, none⟩) (sLen + m) sCap) (w.setRow g (cur.toList.take (o + sLen * i.size) ++ news ++ cur.toList.drop (o + sLen * i.size + news.length)).toArray) := by
  have hf := run_firstCells_some (P := P) w i.size m a m c news hl hnews
  have hst := run_storeCells_at P g (o + sLen * i.size) e news 0 cur w hg (by simpa using hfit) h1
  simp only [Nat.add_zero] at hst
  simp [Builtin.append_, run_underlying ht, sizeOf, typeInfo, hi, Builtin.lenOf, hroom, hf, Addr.add_lit, hst]
theorem run_append_at {P : Program} (w : World) (base : Nat) (t ty e : TypeId) (i : TypeInfo) (z : Value) (size bytes : Nat) (ht : P.underlying t = some (.slice e)) (hi : P.info? e = some i) (hz : i.zero = some z)
    (hsize : i.size = size) (hby : i.bytes = bytes) (hzs : z.cells.size = size) (hsz : 0 < size)
    (v : Value) (n : Nat) (xs : List Value) (hown : ownsAt w base e size v n xs)
    (a : Addr) (m c : Nat) (news : List Value) (hl : news.length = m * size) (hnews : ∀ j u, news[j]? = some u → w.cell? (a.add j) = some u) (h1 : ∀ u ∈ news, u.oneCell' = true)
    (h63 : n + m ≤ maxLen) (hbytes : (n + m) * bytes ≤ 140737488355328) (hbase : base ≤ w.heap.size) :
    ∃ v' w', (Builtin.append_ #[t, t] ty #[v, .slice (some a) m c]).run P w = .ok v' w' ∧ ownsAt w' base e size v' (n + m) (xs ++ news) ∧ w.grownBy w' v.ownBlock ∧ (v'.ownBlock = v.ownBlock ∨ v'.ownBlock = some w.heap.size) := by
  rcases hown with ⟨hl0, ⟨rfl, rfl⟩ | ⟨g, o, cap, cur, rfl, hb, hg, hnc, hcm, hcs, htake⟩⟩
  · have hx : xs = [] := List.eq_nil_of_length_eq_zero (by simpa using hl0)
    subst hx
    obtain ⟨v', w', hr, h2, h3, _, h5⟩ := run_append_own_at (P := P) w base t ty e i z size bytes ht hi hz hsize hby hzs hsz (.slice none 0 0) 0 [] (World.ownsRow_nil w base e size) a m c news hl hnews h1 h63 hbytes hbase
    exact ⟨v', w', hr, ownsAt_row h2, h3, h5⟩
  · subst hsize
    subst hby
    have hsmall : n + m ≤ 9223372036854775807 := by simp only [maxLen] at h63; omega
    have hlen : (xs ++ news).length = (n + m) * i.size := by rw [List.length_append, hl0, hl, Nat.add_mul]
    have hxl : xs.length ≤ cur.size - o := by rw [← htake, List.length_take, List.length_drop, Array.length_toList]; omega
    by_cases hroom : n + m ≤ cap
    · have hmul : n * i.size + m * i.size ≤ cap * i.size := by rw [← Nat.add_mul]; exact Nat.mul_le_mul_right _ hroom
      have hfit : o + n * i.size + news.length ≤ cur.size := by rw [hl]; omega
      have hr := run_append_at_room (P := P) w t ty e i ht hi g o n cap cur hg a m c news hl hnews h1 hroom hfit
      refine ⟨_, _, hr, ⟨hlen, .inr ⟨g, o, cap, _, rfl, hb, setRow_heap w g cur _ e _ hg, hroom, hcm, ?_, ?_⟩⟩, ⟨rfl, rfl, rfl, by simp, fun k _ hk => setRow_other w g k _ (fun e => hk (by simp [Value.ownBlock, e]))⟩, Or.inl rfl⟩
      · simp only [List.size_toArray, List.length_append, List.length_take, List.length_drop, Array.length_toList]
        omega
      · rw [Nat.add_mul, ← hl]
        rw [show (cur.toList.take (o + n * i.size) ++ news ++ cur.toList.drop (o + n * i.size + news.length)).toArray.toList = cur.toList.take (o + n * i.size) ++ (news ++ cur.toList.drop (o + n * i.size + news.length)) from by simp]
        have hol : o ≤ (cur.toList.take (o + n * i.size)).length := by rw [List.length_take, Array.length_toList]; omega
        rw [List.drop_append_of_le_length hol, List.drop_take, Nat.add_sub_cancel_left, htake, ← hl0]
        rw [← List.append_assoc]
        rw [← List.length_append]
        exact List.take_left
    · have holds : ∀ j u, xs[j]? = some u → w.cell? ((⟨g, o, none⟩ : Addr).add j) = some u := fun j u hu => by
        have := ownsAt_cells (A := some ⟨g, o, none⟩) (m := n) (c := cap) (n := n) ⟨hl0, .inr ⟨g, o, cap, cur, rfl, hb, hg, hnc, hcm, hcs, htake⟩⟩ (by
          rcases Nat.eq_zero_or_pos n with h | h
          · subst h; simp at hl0; subst hl0; simp at hu
          · exact h)
        obtain ⟨g', o', he, hc⟩ := this
        injection he with he; injection he with h1 h2 _
        subst h1 h2
        have hadd : (⟨g, o, none⟩ : Addr).add j = ⟨g, o + j, none⟩ := by unfold Addr.add; split <;> simp_all
        rw [hadd]; exact hc j u hu
      have hr := run_append_grow (P := P) w t ty e i z ht hi hz ⟨g, o, none⟩ n cap xs hl0 holds a m c news hl hnews (by omega) (by omega) (growslice_fits (by omega) hbytes)
      have hge := grownCap_ge w (n + m) cap e
      have hcm' : grownCap w (n + m) cap e ≤ maxLen := grownCap_le_maxLen w (n + m) cap e h63
      refine ⟨_, _, hr, ⟨hlen, .inr ⟨w.heap.size, 0, _, _, rfl, hbase, heap_alloc_new w.drew _, hge, hcm', ?_, ?_⟩⟩, ⟨rfl, rfl, rfl, by simp, fun k hk _ => by first | exact heap_alloc_old w.drew _ hk | exact heap_alloc_old w.drew _ k hk⟩, Or.inr rfl⟩
      · simp only [Array.size_append, List.size_toArray, size_zeroCells, hzs, hl0, hl, ← Nat.add_mul]
        rw [Nat.zero_add]
        apply Nat.mul_le_mul_right
        omega
      · simp only [Array.toList_append, List.append_assoc, List.drop_zero]
        rw [← List.append_assoc, ← hlen]
        exact List.take_left
/-- All blocks stay, but those whose elements are of some types. -/
def KeepT (T : List TypeId) (w w' : World) : Prop := w.heap.size ≤ w'.heap.size ∧ ∀ (k : Nat) (o : Obj), w.heap[k]? = some o → (∀ (cur : Array Value) (e : TypeId), o = Obj.cells cur e (0, 0) → e ∉ T) → w'.heap[k]? = w.heap[k]?
theorem KeepT.cells {T : List TypeId} {w w' : World} (h : KeepT T w w') {k : Nat} {cur : Array Value} {e : TypeId} (hk : w.heap[k]? = some (Obj.cells cur e (0, 0))) (he : e ∉ T) : w'.heap[k]? = w.heap[k]? :=
  h.2 k _ hk fun cur' e' hh => by injection hh with _ h2 _; rw [← h2]; exact he
theorem KeepT.refl (T : List TypeId) (w : World) : KeepT T w w := ⟨Nat.le_refl _, fun _ _ _ _ => rfl⟩
theorem KeepT.trans {T : List TypeId} {a b c : World} (h : KeepT T a b) (k : KeepT T b c) : KeepT T a c := ⟨Nat.le_trans h.1 k.1, fun i o hi he => by
  have h1 := h.2 i o hi he
  rw [← h1, k.2 i o (h1.trans hi) he]⟩
theorem KeepT.of_below {T : List TypeId} {a b : World} (h : Below a.heap.size a b) : KeepT T a b := ⟨h.size, fun k o hk _ => h.block k (Array.getElem?_eq_some_iff.1 hk).1⟩
theorem KeepT.of_grown {T : List TypeId} {a b : World} {row : Option Nat} (h : a.grownBy b row) (hr : ∀ g, row = some g → ∃ cur e, a.heap[g]? = some (Obj.cells cur e (0, 0)) ∧ e ∈ T) : KeepT T a b := ⟨h.size, fun k o hk he => h.block k (Array.getElem?_eq_some_iff.1 hk).1 (fun hkr => by
  obtain ⟨cur, e, hc, hT⟩ := hr k hkr.symm
  exact he cur e (Option.some.inj (hk.symm.trans hc)) hT)⟩
theorem KeepT.set {T : List TypeId} {a : World} {g : Nat} {cs : Array Value} {t : TypeId} (hg : a.heap[g]? = some (.cells cs t (0, 0))) (ht : t ∈ T) (k : Nat) (v : Value) : KeepT T a (a.setCell ⟨g, k, none⟩ v) := ⟨by simp [World.setCell], fun i o hi he => by
  by_cases hig : i = g
  · subst hig; exact absurd ht (he cs t (Option.some.inj (hi.symm.trans hg)))
  · exact heap_setCell_other _ _ _ _ hig⟩
theorem KeepT.mono {T T' : List TypeId} {a b : World} (h : KeepT T a b) (hs : ∀ t, t ∈ T → t ∈ T') : KeepT T' a b := ⟨h.1, fun k o hk he => h.2 k o hk (fun cur e ho hm => he cur e ho (hs e hm))⟩
theorem below_of_grown {n : Nat} {w0 a b : World} {row : Option Nat} (h : Below n w0 a) (hg : a.grownBy b row) (hn : n ≤ a.heap.size) (hr : ∀ g, row = some g → n ≤ g) : Below n w0 b :=
  ⟨hg.os.trans h.os, hg.tape.trans h.tape, hg.output.trans h.output, Nat.le_trans h.size hg.size, fun k hk => (hg.block k (Nat.lt_of_lt_of_le hk hn) (fun e => by have := hr k e.symm; omega)).trans (h.block k hk)⟩
end Go.Proofs.YtcfnijeplaibeaaW.PrintMore
namespace Go.Proofs.YtcfnijeplaibeaaW.PrintMore
open Go.RowKit Go.Proofs.YtcfnijeplaibeaaW.PrintWords Go.Proofs.YtcfnijeplaibeaaW.PrintLast
theorem run_append_ats {P : Program} {w : World} {base bx : Nat} {t ty e : TypeId} {z : Value} {size bytes : Nat} (ht : P.underlying t = some (.slice e)) (hi : (P.info? e).map (fun i => (i.size, i.bytes, i.zero)) = some (size, bytes, some z))
    (hzs : z.cells.size = size) (hsz : 0 < size) {v y : Value} {n m : Nat} {xs news : List Value} (hv : ownsAt w base e size v n xs) (hy : ownsAt w bx e size y m news) (h1 : news.all (·.oneCell') = true)
    (h63 : n + m ≤ maxLen) (hbytes : (n + m) * bytes ≤ 140737488355328) (hbase : base ≤ w.heap.size) :
    ∃ v' w', (Builtin.append_ #[t, t] ty #[v, y]).run P w = .ok v' w' ∧ ownsAt w' base e size v' (n + m) (xs ++ news) ∧ w.grownBy w' v.ownBlock ∧ (v'.ownBlock = v.ownBlock ∨ v'.ownBlock = some w.heap.size) := by
  rw [Option.map_eq_some_iff] at hi
  obtain ⟨i, hi, he⟩ := hi
  simp only [Prod.mk.injEq] at he
  obtain ⟨e1, e2, e3⟩ := he
  by_cases h0 : 0 < m
  · obtain ⟨A, c, rfl, _, _, _⟩ := ownsAt_len hy
    obtain ⟨g, o, rfl, hc⟩ := ownsAt_cells hy h0
    exact run_append_at (P := P) w base t ty e i z size bytes ht hi e3 e1 e2 hzs hsz v n xs hv ⟨g, o, none⟩ m c news hy.1 (fun j u hu => by
      have hadd : (⟨g, o, none⟩ : Addr).add j = ⟨g, o + j, none⟩ := by unfold Addr.add; split <;> simp_all
      rw [hadd]; exact hc j u hu) (fun u hu => by have := List.all_eq_true.1 h1 u hu; exact this) h63 hbytes hbase
  · obtain rfl : m = 0 := by omega
    have hn : news = [] := List.eq_nil_of_length_eq_zero (by simpa using hy.1)
    subst hn
    obtain ⟨A, c, rfl, _, _, _⟩ := ownsAt_len hy
    obtain ⟨B, d, rfl, hd, _, _⟩ := ownsAt_len hv
    refine ⟨.slice B n d, w, ?_, by simpa using hv, ⟨rfl, rfl, rfl, Nat.le_refl _, fun _ _ _ => rfl⟩, .inl rfl⟩
    cases A <;> cases B <;> simp [Builtin.append_, run_underlying ht, sizeOf, typeInfo, hi, Builtin.lenOf, hd, Builtin.firstCells, loadCells, loadCellsFrom, storeCells]
theorem wl_append {P : Program} {ops : Array Oper} {rest : List Oper} {o : Oper} {a : Act} {Q : Exit → Act → World → Prop} {w : World} {base bx : Nat} (t e : TypeId) (z : Value) (size bytes : Nat) {s x : Operand}
    (hw : Region.wanted o (yielded ops a.tmps) = true) (ho : o.op = .call { callee := .builtin .append, args := #[s, x], argTypes := #[t, t] }) (ht : P.underlying t = some (.slice e)) (hi : (P.info? e).map (fun i => (i.size, i.bytes, i.zero)) = some (size, bytes, some z))
    (hzs : z.cells.size = size) (hsz : 0 < size) {v y : Value} {n m : Nat} {xs news : List Value} (hs : a.eval s = v) (hx : a.eval x = y) (hv : ownsAt w base e size v n xs) (hy : ownsAt w bx e size y m news) (h1 : news.all (·.oneCell') = true)
    (h63 : n + m ≤ maxLen) (hbytes : (n + m) * bytes ≤ 140737488355328) (hbase : base ≤ w.heap.size)
    (h : ∀ v' w', ownsAt w' base e size v' (n + m) (xs ++ news) → w.grownBy w' v.ownBlock → (v'.ownBlock = v.ownBlock ∨ v'.ownBlock = some w.heap.size) → wpList P ops Q rest (a.put o.dst v') w') : wpList P ops Q (o :: rest) a w := by
  obtain ⟨v', w', hr, h2, h3, h4⟩ := run_append_ats (P := P) (ty := o.type) ht hi hzs hsz hv hy h1 h63 hbytes hbase
  unfold wpList
  rw [if_pos hw]
  refine .inl ?_
  unfold Oper.wp execOp
  simp only [ho, resolve, invoke, builtin, Sem.run_bind, Sem.run_pure, Result.andThen_ok, List.map_toArray, List.map_cons, List.map_nil, hs, hx, hr]
  exact h v' w' h2 h3 h4
theorem below_grown {a b : World} (h : a.grownBy b (Value.ownBlock (.slice none 0 0))) : Below a.heap.size a b := ⟨h.os, h.tape, h.output, h.size, fun k hk => h.block k hk (by simp [Value.ownBlock])⟩
theorem ownsAt_block {w : World} {base : Nat} {e : TypeId} {size : Nat} {v : Value} {n : Nat} {xs : List Value} (h : ownsAt w base e size v n xs) {b : Nat} (hb : v.ownBlock = some b) : base ≤ b ∧ ∃ cur, w.heap[b]? = some (Obj.cells cur e (0, 0)) := by
  rcases h.2 with ⟨rfl, _⟩ | ⟨g, o, cap, cur, rfl, hg, hc, _⟩
  · simp [Value.ownBlock] at hb
  · simp [Value.ownBlock] at hb; subst hb; exact ⟨hg, cur, hc⟩
theorem ownsAt_below {w w' : World} {base : Nat} {e : TypeId} {size : Nat} {v : Value} {n : Nat} {xs : List Value} (h : ownsAt w base e size v n xs) (hb : Below w.heap.size w w') : ownsAt w' base e size v n xs :=
  ownsAt_kept h fun g _ _ hg => hb.block g (Array.getElem?_eq_some_iff.1 hg).1
theorem ownsAt_lit (w : World) (cs : Array Value) (e : TypeId) (size n : Nat) (hc : cs.size = n * size) (hn : n ≤ maxLen) : ownsAt (w.alloc (.cells cs e)) w.heap.size e size (.slice (some ⟨w.heap.size, 0, none⟩) n n) n cs.toList :=
  ⟨by simpa using hc, .inr ⟨w.heap.size, 0, n, cs, rfl, Nat.le_refl _, blk_new _ _, Nat.le_refl _, hn, by omega, by rw [List.drop_zero, ← hc, ← Array.length_toList, List.take_length]⟩⟩
end Go.Proofs.YtcfnijeplaibeaaW.PrintMore
namespace Go.Proofs.YtcfnijeplaibeaaW.PrintMore
theorem res_ok {P : Program} {K : Value → World → Prop} {r : Result Next} {v : Value} {w' : World} (h : r = .ok (.value v) w') (hk : K v w') : AnyOrder.Res P K r := by subst h; exact hk
end Go.Proofs.YtcfnijeplaibeaaW.PrintMore
namespace Go.Proofs.YtcfnijeplaibeaaW.PrintMore.AnyEvents
open Go.RowKit Go.Proofs.YtcfnijeplaibeaaW.PrintWords Go.Proofs.YtcfnijeplaibeaaW.PrintMore.AnyOrder
theorem ob_hand {P : Program} {ops : Array Oper} {E : List Nat} {C : Nat → World → Prop} {G : Bool → Nat → World → World → Prop} {T : List Nat} {R : Nat → Nat → World → Value → Prop} {vs : List Value} {x : Nat → Value} {k : Nat} {o : Oper} {a : Act} (hw : Region.wanted o (yielded ops a.tmps) = true)
    (h : ∀ p w, When ops E k p → C p w → (∀ j q s, ops[j]? = some q → q.dst = some s → T.contains j = true → waits ops k j = true → R p j w (x j)) → Res P (fun v w' => C (nx (E.contains k) p) w' ∧ G (E.contains k) p w w' ∧ if T.contains k = true then R (nx (E.contains k) p) k w' v else v = vs.getD k undef) ((execOp a.eval o).run P w)) :
    EvOb P ops E C G T R vs x k o a := fun p w hwn hC ht => by rw [if_pos hw]; exact h p w hwn hC ht
end Go.Proofs.YtcfnijeplaibeaaW.PrintMore.AnyEvents
end
section
namespace Go.Proofs.YtcfnijeplaibeaaW.PrintLast
open Go.Proofs.YtcfnijeplaibeaaW.PrintWords (Aside0)
section
variable {md : Region.Mode} {ops : Array Oper} {T : Bool × List (List Nat × List Nat)} {l l' li lj lk : Array Bool} {ds : List Nat} {i j k : Nat}
theorem gd (l : Array Bool) (j : Nat) (b : Bool) : l.getD j b = l.toList.getD j b := by simp [Array.getD_eq_getD_getElem?, List.getD_eq_getElem?_getD]
end
end Go.Proofs.YtcfnijeplaibeaaW.PrintLast
end
section
namespace Go.Proofs.YtcfnijeplaibeaaW.PrintWords
/-- One cell an element. -/
theorem Reps.one {α : Type} {R : α → List Value → Prop} {ps : List α} {cs : List Value} {p : α} {v : Value} (hp : R p [v]) (h : Reps R 1 ps cs) : Reps R 1 (p :: ps) (v :: cs) := by
  refine ⟨by simp [h.1], fun j q hq => ?_⟩
  cases j with
  | zero =>
    simp only [List.getElem?_cons_zero, Option.some.injEq] at hq
    subst hq
    simpa using hp
  | succ j =>
    simp only [List.getElem?_cons_succ] at hq
    have h1 := h.2 j q hq
    simpa [Nat.mul_one] using h1
/-- More cells an element: told apart by the cells' list. -/
theorem Reps.front {α : Type} {R : α → List Value → Prop} {size : Nat} {ps : List α} {cs c all : List Value} {p : α} (hp : R p c) (hc : c.length = size) (h : Reps R size ps cs) (ha : c ++ cs = all) : Reps R size (p :: ps) all := by
  subst ha
  refine ⟨by rw [List.length_append, hc, h.1, List.length_cons, Nat.succ_mul, Nat.add_comm], fun j q hq => ?_⟩
  cases j with
  | zero =>
    simp only [List.getElem?_cons_zero, Option.some.injEq] at hq
    subst hq
    rw [Nat.zero_mul, List.drop_zero, List.take_append_of_le_length (by omega), List.take_of_length_le (by omega)]
    exact hp
  | succ j =>
    simp only [List.getElem?_cons_succ] at hq
    have h1 := h.2 j q hq
    rw [Nat.succ_mul, List.drop_append, List.drop_of_length_le (by rw [hc]; exact Nat.le_add_left _ _), List.nil_append, hc, Nat.add_sub_cancel]
    exact h1
theorem Reps.c2 {α : Type} {R : α → List Value → Prop} {ps : List α} {cs : List Value} {p : α} {va vb : Value} (hp : R p [va, vb]) (h : Reps R 2 ps cs) : Reps R 2 (p :: ps) (va :: vb :: cs) := Reps.front hp rfl h rfl
theorem Reps.c3 {α : Type} {R : α → List Value → Prop} {ps : List α} {cs : List Value} {p : α} {va vb vc : Value} (hp : R p [va, vb, vc]) (h : Reps R 3 ps cs) : Reps R 3 (p :: ps) (va :: vb :: vc :: cs) := Reps.front hp rfl h rfl
theorem Reps.c4 {α : Type} {R : α → List Value → Prop} {ps : List α} {cs : List Value} {p : α} {va vb vc vd : Value} (hp : R p [va, vb, vc, vd]) (h : Reps R 4 ps cs) : Reps R 4 (p :: ps) (va :: vb :: vc :: vd :: cs) := Reps.front hp rfl h rfl
theorem Reps.c5 {α : Type} {R : α → List Value → Prop} {ps : List α} {cs : List Value} {p : α} {va vb vc vd ve : Value} (hp : R p [va, vb, vc, vd, ve]) (h : Reps R 5 ps cs) : Reps R 5 (p :: ps) (va :: vb :: vc :: vd :: ve :: cs) := Reps.front hp rfl h rfl
theorem Reps.c6 {α : Type} {R : α → List Value → Prop} {ps : List α} {cs : List Value} {p : α} {va vb vc vd ve vf : Value} (hp : R p [va, vb, vc, vd, ve, vf]) (h : Reps R 6 ps cs) : Reps R 6 (p :: ps) (va :: vb :: vc :: vd :: ve :: vf :: cs) := Reps.front hp rfl h rfl
theorem Reps.c7 {α : Type} {R : α → List Value → Prop} {ps : List α} {cs : List Value} {p : α} {va vb vc vd ve vf vg : Value} (hp : R p [va, vb, vc, vd, ve, vf, vg]) (h : Reps R 7 ps cs) : Reps R 7 (p :: ps) (va :: vb :: vc :: vd :: ve :: vf :: vg :: cs) := Reps.front hp rfl h rfl
theorem Reps.c9 {α : Type} {R : α → List Value → Prop} {ps : List α} {cs : List Value} {p : α} {va vb vc vd ve vf vg vh vi : Value} (hp : R p [va, vb, vc, vd, ve, vf, vg, vh, vi]) (h : Reps R 9 ps cs) : Reps R 9 (p :: ps) (va :: vb :: vc :: vd :: ve :: vf :: vg :: vh :: vi :: cs) := Reps.front hp rfl h rfl
end Go.Proofs.YtcfnijeplaibeaaW.PrintWords
end
section
namespace Go.Proofs.YtcfnijeplaibeaaW.PrintLast
/-- Number i is listed too. -/
def up (b : Nat → Bool) (i : Nat) : Nat → Bool := fun j => if j = i then true else b j
section
variable {P : Program} {ops : Array Oper} {Q : Exit → Act → World → Prop} {md : Region.Mode} {T : Bool × List (List Nat × List Nat)} {B : List Nat} {O : List Nat} {b : Nat → Bool} {i j n : Nat}
end
end Go.Proofs.YtcfnijeplaibeaaW.PrintLast
end
section
set_option linter.unusedVariables false
namespace Go.Proofs.YtcfnijeplaibeaaW.PrintMore
open Go.RowKit Go.Proofs.YtcfnijeplaibeaaW.PrintWords
/-- What reads at type t is a value of kind d, and fits. -/
def Opens {α : Type} (P : Program) (t : TypeId) (d : Kd α) (fit : α → Prop) : Prop :=
  P.cellsOf t = d.sz ∧ ∀ (H : Type) (enc : TypeId × Value → H) (w : World) (base : Nat) (spare : Nat → Bool) (held : Bool) (fuel : Nat) (cs : List Value) (x : DataW H × List MemPlace),
    DataW.trod enc P w base spare held fuel t cs = some x → (∀ n ∈ x.1.weights P t, n ≤ reachBytes) → ∃ a : α, d.K w a cs ∧ fit a
theorem opens_int {P : Program} {t : TypeId} {k : IntKind} (ht : P.underlying t = some (.int k)) (hc : P.cellsOf t = 1) : Opens P t (Kd.int k) (fun a => (Lit.int k a).wf = true) := by
  refine ⟨hc, fun H enc w base spare held fuel cs x h _ => ?_⟩
  obtain ⟨n, rfl, rfl, hw⟩ := DataW.trod_int ht h
  exact ⟨n, rfl, hw⟩
theorem addr_add_add (a : Addr) (m i : Nat) : (a.add m).add i = a.add (m + i) := by
  unfold Addr.add
  by_cases h1 : m = 0
  · subst h1; simp
  · by_cases h2 : i = 0
    · subst h2; simp [h1]
    · simp [h1, h2, Nat.add_assoc]
theorem weights_all {H : Type} {P : Program} {e : TypeId} : ∀ {l : List (DataW H)} {d : DataW H}, d ∈ l → ∀ n ∈ d.weights P e, n ∈ DataW.weightsAll P e l
  | [], _, hd, _, _ => by cases hd
  | d0 :: l, d, hd, n, hn => by
    simp only [DataW.weightsAll, List.mem_append]
    rcases List.mem_cons.1 hd with rfl | hd
    · exact .inl hn
    · exact .inr (weights_all hd n hn)
theorem pick_list {α β : Type} {R : β → α → Prop} : ∀ (l : List β), (∀ b ∈ l, ∃ a, R b a) → ∃ as : List α, as.length = l.length ∧ ∀ (i : Nat) (b : β), l[i]? = some b → ∃ a, as[i]? = some a ∧ R b a
  | [], _ => ⟨[], rfl, fun i b h => by simp at h⟩
  | b :: l, h => by
    obtain ⟨a, ha⟩ := h b List.mem_cons_self
    obtain ⟨as, hl, has⟩ := pick_list l (fun x hx => h x (List.mem_cons_of_mem _ hx))
    refine ⟨a :: as, by simp [hl], fun i x hx => ?_⟩
    cases i with
    | zero => simp at hx; subst hx; exact ⟨a, rfl, ha⟩
    | succ i => simp at hx; obtain ⟨y, hy, hr⟩ := has i x hx; exact ⟨y, by simpa using hy, hr⟩
theorem opens_slice {α : Type} {P : Program} {t e : TypeId} {d : Kd α} {fit : α → Prop} (bytes : Nat) (ht : P.underlying t = some (.slice e)) (hc : P.cellsOf t = 1) (hb : P.bytesOf e = bytes) (h0 : 0 < bytes) (he : Opens P e d fit) :
    Opens P t (Kd.slice e d) (fun l => l.length * bytes ≤ 140737488351232 ∧ ∀ x ∈ l, fit x) := by
  refine ⟨hc, fun H enc w base spare held fuel cs x h hw => ?_⟩
  rcases DataW.trod_slice ht h with ⟨rfl, rfl⟩ | ⟨a, len, cap, elems, rest, n, rfl, rfl, rfl, hbase, hl, hm, hlen, hel, hsp, hns⟩
  · exact ⟨[], ⟨none, 0, rfl, Nat.le_refl _, ⟨rfl, by simp, fun h => absurd h (by simp)⟩⟩, by simp, by simp⟩
  · have hwt := hw ((elems.map (·.1)).length + (rest.map (·.1)).length |>.mul (P.bytesOf e)) (by simp [DataW.weights, ht])
    have each : ∀ y ∈ elems, ∃ p : α × List Value, d.K w p.1 p.2 ∧ fit p.1 ∧ ∃ i, elems[i]? = some y ∧ w.cells? base (a.add (i * P.cellsOf e)) (P.cellsOf e) = some p.2 := by
      intro y hy
      obtain ⟨i, hi⟩ := List.getElem?_of_mem hy
      have hlt : i < len := by rw [← hlen]; exact (List.getElem?_eq_some_iff.1 hi).1
      have hb' := (hel i hlt).trans hi
      rw [Option.bind_eq_some_iff] at hb'
      obtain ⟨cs', hcs, hy'⟩ := hb'
      obtain ⟨z, hz, hfz⟩ := he.2 H enc w base spare held n cs' y hy' (fun m hm' => hw m (by
        simp only [DataW.weights, ht]
        exact List.mem_cons_of_mem _ (List.mem_append_left _ (weights_all (List.mem_map.2 ⟨y, hy, rfl⟩) m hm'))))
      exact ⟨(z, cs'), hz, hfz, i, hi, hcs⟩
    have pos : ∀ (i : Nat) (y : DataW H × List MemPlace), elems[i]? = some y → ∃ p : α × List Value, (d.K w p.1 p.2 ∧ fit p.1) ∧ w.cells? base (a.add (i * P.cellsOf e)) (P.cellsOf e) = some p.2 := by
      intro i y hi
      have hlt : i < len := by rw [← hlen]; exact (List.getElem?_eq_some_iff.1 hi).1
      have hb' := (hel i hlt).trans hi
      rw [Option.bind_eq_some_iff] at hb'
      obtain ⟨cs', hcs, hy'⟩ := hb'
      obtain ⟨z, hz, hfz⟩ := he.2 H enc w base spare held n cs' y hy' (fun m hm' => hw m (by
        simp only [DataW.weights, ht]
        exact List.mem_cons_of_mem _ (List.mem_append_left _ (weights_all (List.mem_map.2 ⟨y, List.mem_of_getElem? hi, rfl⟩) m hm'))))
      exact ⟨(z, cs'), ⟨hz, hfz⟩, hcs⟩
    obtain ⟨as, hal, has⟩ := pick_list (R := fun (iy : Nat × (DataW H × List MemPlace)) (z : α) => fit z ∧ ∃ c, d.K w z c ∧ w.cells? base (a.add (iy.1 * P.cellsOf e)) (P.cellsOf e) = some c)
      ((List.range len).zip elems) (by
        intro ⟨i, y⟩ hm'
        obtain ⟨j, hj⟩ := List.getElem?_of_mem hm'
        rw [List.getElem?_zip_eq_some] at hj
        obtain ⟨h1, h2⟩ := hj
        have hij : j = i := by
          rw [List.getElem?_eq_some_iff] at h1
          obtain ⟨_, h1⟩ := h1
          simpa using h1
        subst hij
        obtain ⟨p, ⟨hk, hf⟩, hcell⟩ := pos j y h2
        exact ⟨p.1, hf, p.2, hk, hcell⟩)
    have hal' : as.length = len := by rw [hal, List.length_zip, List.length_range, hlen, Nat.min_self]
    have hget : ∀ (j : Nat) (z : α), as[j]? = some z → fit z ∧ ∃ c, d.K w z c ∧ w.cells? base (a.add (j * P.cellsOf e)) (P.cellsOf e) = some c := by
      intro j z hz
      have hlt : j < len := by rw [← hal']; exact (List.getElem?_eq_some_iff.1 hz).1
      have hel' : elems[j]? = some (elems[j]'(by omega)) := List.getElem?_eq_getElem (by omega)
      obtain ⟨z', hz', hr⟩ := has j (j, elems[j]'(by omega)) (by rw [List.getElem?_zip_eq_some]; exact ⟨by simp [hlt], hel'⟩)
      rw [hz] at hz'
      obtain rfl := Option.some.inj hz'
      exact hr
    refine ⟨as, ⟨some a, cap, by rw [hal'], by omega, ⟨rfl, ?_, fun _ => ⟨a, rfl, fun j z hz => ?_⟩⟩⟩, ?_, ?_⟩
    · unfold maxLen at hm; omega
    · obtain ⟨_, c, hk, hcs⟩ := hget j z hz
      obtain ⟨_, hcl, hcc⟩ := World.cells?_some hcs
      refine ⟨c, by rw [hcl, he.1], hk, fun i u hu => ?_⟩
      have hi : i < c.length := (List.getElem?_eq_some_iff.1 hu).1
      have := hcc i (by omega)
      rw [hu] at this
      rw [he.1] at this
      rw [addr_add_add] at this
      exact this
    · rw [hb] at hwt
      simp only [List.length_map, hlen, Nat.mul_eq] at hwt
      have : len * bytes ≤ (len + rest.length) * bytes := Nat.mul_le_mul_right _ (by omega)
      rw [hal']
      exact Nat.le_trans this hwt
    · intro z hz
      obtain ⟨j, hj⟩ := List.getElem?_of_mem hz
      exact (hget j z hj).1
/-- Fields from offset o on, one behind the other. -/
def OpensF {α : Type} (P : Program) (o : Nat) (fs : List Field) (d : Kd α) (fit : α → Prop) : Prop :=
  ∀ (H : Type) (enc : TypeId × Value → H) (w : World) (base : Nat) (spare : Nat → Bool) (held : Bool) (n : Nat) (cs : List Value) (xs : List (DataW H × List MemPlace)),
    cs.length = d.sz → xs.length = fs.length → (∀ (i : Nat) (f : Field), fs[i]? = some f → DataW.trod enc P w base spare held n f.type ((cs.drop (f.offset - o)).take (P.cellsOf f.type)) = xs[i]?) →
    (∀ m ∈ DataW.weightsEach P (fs.map (·.type)) (xs.map (·.1)), m ≤ reachBytes) → ∃ a : α, d.K w a cs ∧ fit a
theorem opensF_one {α : Type} {P : Program} {o : Nat} {f : Field} {d : Kd α} {fit : α → Prop} (ho : f.offset = o) (h : Opens P f.type d fit) : OpensF P o [f] d fit := by
  intro H enc w base spare held n cs xs hcs hxs hr hw
  obtain ⟨x, rfl⟩ : ∃ x, xs = [x] := by
    match xs, hxs with
    | [x], _ => exact ⟨x, rfl⟩
  have h0 := hr 0 f rfl
  rw [ho, Nat.sub_self, List.drop_zero, h.1, ← hcs, List.take_length] at h0
  exact h.2 H enc w base spare held n cs x h0 (fun m hm => hw m (by simp [DataW.weightsEach, hm]))
theorem opensF_cons {α β : Type} {P : Program} {o o' : Nat} {f : Field} {fs : List Field} {a : Kd α} {b : Kd β} {fa : α → Prop} {fb : β → Prop} (ho : f.offset = o) (ho' : o' = o + a.sz) (hge : (fs.all fun g => decide (o' ≤ g.offset)) = true)
    (h : Opens P f.type a fa) (hs : OpensF P o' fs b fb) : OpensF P o (f :: fs) (Kd.pair a b) (fun x => fa x.1 ∧ fb x.2) := by
  intro H enc w base spare held n cs xs hcs hxs hr hw
  obtain ⟨x, xs, rfl⟩ : ∃ x ys, xs = x :: ys := by
    match xs, hxs with
    | x :: ys, _ => exact ⟨x, ys, rfl⟩
  have hcs' : cs.length = a.sz + b.sz := hcs
  have h0 := hr 0 f rfl
  rw [ho, Nat.sub_self, List.drop_zero, h.1] at h0
  obtain ⟨y, hy, hfy⟩ := h.2 H enc w base spare held n (cs.take a.sz) x h0 (fun m hm => hw m (by simp [DataW.weightsEach, hm]))
  obtain ⟨z, hz, hfz⟩ := hs H enc w base spare held n (cs.drop a.sz) xs (by rw [List.length_drop]; omega) (by simpa using hxs) (fun i g hg => by
    have h1 := hr (i + 1) g (by simpa using hg)
    have h2 := List.all_eq_true.1 hge g (List.mem_of_getElem? hg)
    have h3 : o' ≤ g.offset := by simpa using h2
    rw [List.drop_drop, show a.sz + (g.offset - o') = g.offset - o from by omega]
    simpa using h1) (fun m hm => hw m (by simp [DataW.weightsEach, hm]))
  exact ⟨(y, z), ⟨cs.take a.sz, cs.drop a.sz, (List.take_append_drop _ _).symm, hy, hz⟩, hfy, hfz⟩
theorem opens_struct {α β : Type} {P : Program} {t : TypeId} {fs : Array Field} {d : Kd α} {fit : α → Prop} {f : β → α} (ht : P.underlying t = some (.struct fs)) (hc : P.cellsOf t = d.sz) (g : α → β) (hg : ∀ y, f (g y) = y)
    (h : OpensF P 0 fs.toList d fit) : Opens P t (Kd.iso d f) (fun x => fit (f x)) := by
  refine ⟨hc, fun H enc w base spare held fuel cs x hx hw => ?_⟩
  obtain ⟨xs, n, rfl, rfl, hl, hlen, hf⟩ := DataW.trod_struct ht hx
  obtain ⟨y, hy, hfy⟩ := h H enc w base spare held n cs xs (hl.trans hc) (by simpa using hlen) (fun i f' hf' => by rw [Nat.sub_zero]; exact hf i f' (by simpa using hf')) (fun m hm => hw m (by simpa [DataW.weights, ht] using hm))
  exact ⟨g y, by show d.K w (f (g y)) cs; rw [hg]; exact hy, by show fit (f (g y)); rw [hg]; exact hfy⟩
/-- An argument that is a slice. -/
theorem arg_slice {α : Type} {P : Program} {t e : TypeId} {d : Kd α} {fit : List α → Prop} (ht : P.underlying t = some (.slice e)) (ho : Opens P t (Kd.slice e d) fit) {H : Type} {enc : TypeId × Value → H} {w : World} {r : Reach} {b0 base : Nat} {spare : Nat → Bool} {held : Bool}
    {v : Value} {x : DataW H} {p : List MemPlace} (hv : Value.okWide P w r b0 t v) (h : DataW.Trod enc P w base spare held t v x p) (hw : ∀ n ∈ x.weights P t, n ≤ reachBytes) :
    ∃ (A : Option Addr) (c : Nat) (l : List α), v = .slice A l.length c ∧ Kd.C d w A l.length l ∧ l.length ≤ c ∧ fit l := by
  obtain ⟨a, len, cap, rfl⟩ := Go.WideShapes.okWide_slice ht hv
  obtain ⟨fuel, hf⟩ := h
  obtain ⟨l, ⟨A, c, hcs, hlc, hC⟩, hfit⟩ := ho.2 H enc w base spare held fuel _ _ hf hw
  simp [Value.cells] at hcs
  obtain ⟨rfl, rfl, rfl⟩ := hcs
  exact ⟨a, cap, l, rfl, hC, hlc, hfit⟩
end Go.Proofs.YtcfnijeplaibeaaW.PrintMore
end

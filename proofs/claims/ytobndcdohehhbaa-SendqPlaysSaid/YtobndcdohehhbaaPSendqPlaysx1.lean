-- Laid by this claim's own program over the print's words.
import Derived.Test.YtobndcdohehhbaaPSendqPlaysx0
namespace Go.Proofs.Ytobndcdohehhbaa.PSendqPlays
open Go.RowKit Go.Proofs.YtobndcdohehhbaaW.PrintWords Go.Proofs.YtobndcdohehhbaaW.PrintLast Go.Proofs.YtobndcdohehhbaaW.PrintMore
attribute [local go_sem] max2_int min2_int max_two min_two max_three min_three max_four min_four max_five min_five extract_cut tmod_nat_lit   -- for this text's walks alone
set_option linter.unusedVariables false
set_option linter.unusedSimpArgs false

/-! ### seq_Check: function 24 -/
def seq_Check.f (a0 : Int) : Option (Int) := if (Go.bits .and .i64 a0 4294967295) = a0 then (some 0) else (some 1)
set_option maxHeartbeats 8000000 in
set_option maxRecDepth 100000 in
theorem seq_Check.calls (a0 : Int) (r : Int) (w : World) (h : seq_Check.f a0 = some r) :
  Calls Try.prog 24 #[.int .i64 a0] w fun e w' => e = .returned (.int .i64 r) ∧ Drawn0 w w' := by
 have H : (if (Go.bits .and .i64 a0 4294967295) = a0 then (some 0) else (some 1)) = some r := h
 clear h
 by_cases c2 : (Go.bits .and .i64 a0 4294967295) = a0
 ·rw [if_pos c2] at H
  have c2b0 : ((Go.bits .and .i64 a0 4294967295) == a0) = true := beq_iff_eq.mpr c2
  have c2b1 : ((Go.bits .and .i64 a0 4294967295) != a0) = false := bne_eq_false_iff_eq.mpr c2
  clear c2
  obtain rfl := Option.some.inj H
  go_enter Try.func24, Try.ntmps24
  go_wp2
  go_ret
  exact ⟨by first | rfl | (simp; done) | (simp [*]; done), by repeat (first | exact Drawn0.refl _ | apply Drawn0.step)⟩
 ·rw [if_neg c2] at H
  have c2b0 : ((Go.bits .and .i64 a0 4294967295) == a0) = false := beq_eq_false_iff_ne.mpr c2
  have c2b1 : ((Go.bits .and .i64 a0 4294967295) != a0) = true := bne_iff_ne.mpr c2
  obtain rfl := Option.some.inj H
  go_enter Try.func24, Try.ntmps24
  go_wp2
  go_ret
  exact ⟨by first | rfl | (simp; done) | (simp [*]; done), by repeat (first | exact Drawn0.refl _ | apply Drawn0.step)⟩

/-- A state of type 67 at block g of W; what its slices lead to came in by w0. -/
def IsS67 (w0 W : World) (g : Nat) (f0 : Int) (f1 : Int) (f2 : Int) (f3 : ByteArray) (f4 : List (S73)) : Prop := ∃ A4 c4, W.heap[g]? = some (.cells #[.int .i64 f0, .int .i64 f1, .int .i64 f2, .string f3, .slice A4 f4.length c4] 67 (0, 0)) ∧ w0.heap.size ≤ g ∧ Kd.C k73 w0 A4 f4.length f4
theorem IsS67.grown {w0 W : World} {g : Nat} {f0 : Int} {f1 : Int} {f2 : Int} {f3 : ByteArray} {f4 : List (S73)} {W1 : World} {row : Option Nat} (h : IsS67 w0 W g f0 f1 f2 f3 f4) (hw : W.grownBy W1 row) (hne : some g ≠ row) : IsS67 w0 W1 g f0 f1 f2 f3 f4 := by
 obtain ⟨A4, c4, hb, hg, hr4⟩ := h
 exact ⟨A4, c4, blk_grown hb hw hne, hg, hr4⟩
theorem IsS67.own_neN {w0 W : World} {g : Nat} {f0 : Int} {f1 : Int} {f2 : Int} {f3 : ByteArray} {f4 : List (S73)} {α : Type} {d : Kd α} {e : Nat} {base : Nat} {ok : Nat → Prop} {v : Value} {xs : List α} (h : IsS67 w0 W g f0 f1 f2 f3 f4) (ho : Kd.N d e W base ok v xs) (ht : e ≠ 67) : some g ≠ v.ownBlock := by
 obtain ⟨A4, c4, hb, hg, hr4⟩ := h
 exact Kd.N_ne ho hb ht
theorem IsS67.fresh {w0 W : World} {g : Nat} {f0 : Int} {f1 : Int} {f2 : Int} {f3 : ByteArray} {f4 : List (S73)} (h : IsS67 w0 W g f0 f1 f2 f3 f4) : ∀ k, W.heap.size ≤ k → k ≠ g := by
 obtain ⟨A4, c4, hb, hg, hr4⟩ := h
 exact Kd.freshB hb
theorem IsS67.kept {w0 W : World} {g : Nat} {f0 : Int} {f1 : Int} {f2 : Int} {f3 : ByteArray} {f4 : List (S73)} {W1 : World} {S : Nat → Prop} (h : IsS67 w0 W g f0 f1 f2 f3 f4) (hk : Kept W W1 S) (hne : ¬ S g) : IsS67 w0 W1 g f0 f1 f2 f3 f4 := by
 obtain ⟨A4, c4, hb, hg, hr4⟩ := h
 exact ⟨A4, c4, blk_kept hb hk hne, hg, hr4⟩
theorem IsS67.below {w0 W : World} {g : Nat} {f0 : Int} {f1 : Int} {f2 : Int} {f3 : ByteArray} {f4 : List (S73)} {W1 : World} (h : IsS67 w0 W g f0 f1 f2 f3 f4) (hw : Below W.heap.size W W1) : IsS67 w0 W1 g f0 f1 f2 f3 f4 := h.grown (grown_of_below hw none) (by simp)
theorem IsS67.alloc {w0 W : World} {g : Nat} {f0 : Int} {f1 : Int} {f2 : Int} {f3 : ByteArray} {f4 : List (S73)} (h : IsS67 w0 W g f0 f1 f2 f3 f4) (o : Obj) : IsS67 w0 (W.alloc o) g f0 f1 f2 f3 f4 := h.below (below_alloc (Below.refl _ _) o)
theorem IsS67.drewN {w0 W : World} {g : Nat} {f0 : Int} {f1 : Int} {f2 : Int} {f3 : ByteArray} {f4 : List (S73)} (h : IsS67 w0 W g f0 f1 f2 f3 f4) (m : Nat) : IsS67 w0 (W.drewN m) g f0 f1 f2 f3 f4 := h
theorem IsS67.drew {w0 W : World} {g : Nat} {f0 : Int} {f1 : Int} {f2 : Int} {f3 : ByteArray} {f4 : List (S73)} (h : IsS67 w0 W g f0 f1 f2 f3 f4) : IsS67 w0 W.drew g f0 f1 f2 f3 f4 := h
theorem IsS67.at_ {w0 W : World} {g : Nat} {f0 : Int} {f1 : Int} {f2 : Int} {f3 : ByteArray} {f4 : List (S73)} {w' : World} {m : Nat} (hq : W.drewN m = w') (h : IsS67 w0 W g f0 f1 f2 f3 f4) : IsS67 w0 w' g f0 f1 f2 f3 f4 := by subst hq; exact IsS67.drewN h m
theorem IsS67.apart {w0 W : World} {g : Nat} {f0 : Int} {f1 : Int} {f2 : Int} {f3 : ByteArray} {f4 : List (S73)} {α : Type} {d : Kd α} {e : Nat} {base : Nat} {ok : Nat → Prop} {v : Value} {xs : List α} (h : IsS67 w0 W g f0 f1 f2 f3 f4) (ho : d.R e W base ok v xs) (ht : ∀ q, q ∈ e :: d.E → q ≠ 67) : d.R e W base (fun k => ok k ∧ k ≠ g) v xs := by
 obtain ⟨A4, c4, hb, hg, hr4⟩ := h
 exact Kd.R_types ho hb ht
theorem IsS67.own_ne {w0 W : World} {g : Nat} {f0 : Int} {f1 : Int} {f2 : Int} {f3 : ByteArray} {f4 : List (S73)} {α : Type} {d : Kd α} {e : Nat} {base : Nat} {ok : Nat → Prop} {v : Value} {xs : List α} (h : IsS67 w0 W g f0 f1 f2 f3 f4) (ho : d.R e W base ok v xs) (ht : e ≠ 67) : some g ≠ v.ownBlock := by
 obtain ⟨A4, c4, hb, hg, hr4⟩ := h
 exact Kd.R_ne ho hb ht
theorem IsS67.apartQ {w0 W : World} {g : Nat} {f0 : Int} {f1 : Int} {f2 : Int} {f3 : ByteArray} {f4 : List (S73)} {α : Type} {d : Kd α} {e : Nat} {base : Nat} {ok : Nat → Prop} {v : Value} {xs : List α} (h : IsS67 w0 W g f0 f1 f2 f3 f4) (ho : d.Q e W base ok v xs) (ht : ∀ q, q ∈ e :: d.E → q ≠ 67) : d.Q e W base (fun k => ok k ∧ k ≠ g) v xs := by
 obtain ⟨A4, c4, hb, hg, hr4⟩ := h
 exact Kd.Q_types ho hb ht
theorem IsS67.own_neQ {w0 W : World} {g : Nat} {f0 : Int} {f1 : Int} {f2 : Int} {f3 : ByteArray} {f4 : List (S73)} {α : Type} {d : Kd α} {e : Nat} {base : Nat} {ok : Nat → Prop} {v : Value} {xs : List α} (h : IsS67 w0 W g f0 f1 f2 f3 f4) (ho : d.Q e W base ok v xs) (ht : e ≠ 67) : some g ≠ v.ownBlock := by
 obtain ⟨A4, c4, hb, hg, hr4⟩ := h
 exact Kd.Q_ne ho hb ht
theorem IsS67.apartS {w0 W : World} {g : Nat} {f0 : Int} {f1 : Int} {f2 : Int} {f3 : ByteArray} {f4 : List (S73)} {α : Type} {d : Kd α} {e : Nat} {base : Nat} {ok : Nat → Prop} {v : Value} {xs : List α} (h : IsS67 w0 W g f0 f1 f2 f3 f4) (ho : d.S e W base ok v xs) (ht : ∀ q, q ∈ e :: d.E → q ≠ 67) : d.S e W base (fun k => ok k ∧ k ≠ g) v xs := by
 obtain ⟨A4, c4, hb, hg, hr4⟩ := h
 exact Kd.S_types ho hb ht
theorem IsS67.own_neS {w0 W : World} {g : Nat} {f0 : Int} {f1 : Int} {f2 : Int} {f3 : ByteArray} {f4 : List (S73)} {α : Type} {d : Kd α} {e : Nat} {base : Nat} {ok : Nat → Prop} {v : Value} {xs : List α} (h : IsS67 w0 W g f0 f1 f2 f3 f4) (ho : d.S e W base ok v xs) (ht : e ≠ 67) : some g ≠ v.ownBlock := by
 obtain ⟨A4, c4, hb, hg, hr4⟩ := h
 exact Kd.S_ne ho hb ht
theorem IsS67.lt {w0 W : World} {g : Nat} {f0 : Int} {f1 : Int} {f2 : Int} {f3 : ByteArray} {f4 : List (S73)} (h : IsS67 w0 W g f0 f1 f2 f3 f4) : g < W.heap.size := by
 obtain ⟨A4, c4, hb, hg, hr4⟩ := h
 exact blk_lt hb
theorem IsS67.ge {w0 W : World} {g : Nat} {f0 : Int} {f1 : Int} {f2 : Int} {f3 : ByteArray} {f4 : List (S73)} (h : IsS67 w0 W g f0 f1 f2 f3 f4) : w0.heap.size ≤ g := by
 obtain ⟨A4, c4, hb, hg, hr4⟩ := h
 exact hg
theorem IsS67.ne_blk {w0 W : World} {g : Nat} {f0 : Int} {f1 : Int} {f2 : Int} {f3 : ByteArray} {f4 : List (S73)} {a : Nat} {cs : Array Value} {t : TypeId} {fr : Nat × Nat} (h : IsS67 w0 W g f0 f1 f2 f3 f4) (hb2 : W.heap[a]? = some (.cells cs t fr)) (ht : t ≠ 67) : g ≠ a := by
 obtain ⟨A4, c4, hb, hg, hr4⟩ := h
 rintro rfl
 rw [hb] at hb2
 injection hb2 with hb2
 injection hb2 with _ ht2
 exact ht ht2.symm
theorem IsS67.far {w0 W : World} {g : Nat} {f0 : Int} {f1 : Int} {f2 : Int} {f3 : ByteArray} {f4 : List (S73)} {p : Addr} (h : IsS67 w0 W g f0 f1 f2 f3 f4) (hne : g ≠ p.block) (u : Value) : IsS67 w0 (W.setCell p u) g f0 f1 f2 f3 f4 := by
 obtain ⟨A4, c4, hb, hg, hr4⟩ := h
 exact ⟨A4, c4, blk_far hb hne u, hg, hr4⟩
theorem cellS67_0 {W : World} {g : Nat} {A4 : Option Addr} {c4 : Nat} {f0 : Int} {f1 : Int} {f2 : Int} {f3 : ByteArray} {f4 : List (S73)} (h : W.heap[g]? = some (.cells #[.int .i64 f0, .int .i64 f1, .int .i64 f2, .string f3, .slice A4 f4.length c4] 67 (0, 0))) : W.cell? ⟨g, 0, none⟩ = some (.int .i64 f0) := (blk_cell h 0).trans rfl
theorem IsS67.set_0 {w0 W : World} {g : Nat} {f0 : Int} {f1 : Int} {f2 : Int} {f3 : ByteArray} {f4 : List (S73)} (h : IsS67 w0 W g f0 f1 f2 f3 f4) (x : Int) : IsS67 w0 (W.setCell ⟨g, 0, none⟩ (.int .i64 x)) g x f1 f2 f3 f4 := by
 obtain ⟨A4, c4, hb, hg, hr4⟩ := h
 exact ⟨A4, c4, by simpa using blk_set hb 0 (.int .i64 x), hg, hr4⟩
theorem cellS67_1 {W : World} {g : Nat} {A4 : Option Addr} {c4 : Nat} {f0 : Int} {f1 : Int} {f2 : Int} {f3 : ByteArray} {f4 : List (S73)} (h : W.heap[g]? = some (.cells #[.int .i64 f0, .int .i64 f1, .int .i64 f2, .string f3, .slice A4 f4.length c4] 67 (0, 0))) : W.cell? ⟨g, 1, none⟩ = some (.int .i64 f1) := (blk_cell h 1).trans rfl
theorem IsS67.set_1 {w0 W : World} {g : Nat} {f0 : Int} {f1 : Int} {f2 : Int} {f3 : ByteArray} {f4 : List (S73)} (h : IsS67 w0 W g f0 f1 f2 f3 f4) (x : Int) : IsS67 w0 (W.setCell ⟨g, 1, none⟩ (.int .i64 x)) g f0 x f2 f3 f4 := by
 obtain ⟨A4, c4, hb, hg, hr4⟩ := h
 exact ⟨A4, c4, by simpa using blk_set hb 1 (.int .i64 x), hg, hr4⟩
theorem cellS67_2 {W : World} {g : Nat} {A4 : Option Addr} {c4 : Nat} {f0 : Int} {f1 : Int} {f2 : Int} {f3 : ByteArray} {f4 : List (S73)} (h : W.heap[g]? = some (.cells #[.int .i64 f0, .int .i64 f1, .int .i64 f2, .string f3, .slice A4 f4.length c4] 67 (0, 0))) : W.cell? ⟨g, 2, none⟩ = some (.int .i64 f2) := (blk_cell h 2).trans rfl
theorem IsS67.set_2 {w0 W : World} {g : Nat} {f0 : Int} {f1 : Int} {f2 : Int} {f3 : ByteArray} {f4 : List (S73)} (h : IsS67 w0 W g f0 f1 f2 f3 f4) (x : Int) : IsS67 w0 (W.setCell ⟨g, 2, none⟩ (.int .i64 x)) g f0 f1 x f3 f4 := by
 obtain ⟨A4, c4, hb, hg, hr4⟩ := h
 exact ⟨A4, c4, by simpa using blk_set hb 2 (.int .i64 x), hg, hr4⟩
theorem cellS67_3 {W : World} {g : Nat} {A4 : Option Addr} {c4 : Nat} {f0 : Int} {f1 : Int} {f2 : Int} {f3 : ByteArray} {f4 : List (S73)} (h : W.heap[g]? = some (.cells #[.int .i64 f0, .int .i64 f1, .int .i64 f2, .string f3, .slice A4 f4.length c4] 67 (0, 0))) : W.cell? ⟨g, 3, none⟩ = some (.string f3) := (blk_cell h 3).trans rfl
theorem IsS67.set_3 {w0 W : World} {g : Nat} {f0 : Int} {f1 : Int} {f2 : Int} {f3 : ByteArray} {f4 : List (S73)} (h : IsS67 w0 W g f0 f1 f2 f3 f4) (x : ByteArray) : IsS67 w0 (W.setCell ⟨g, 3, none⟩ (.string x)) g f0 f1 f2 x f4 := by
 obtain ⟨A4, c4, hb, hg, hr4⟩ := h
 exact ⟨A4, c4, by simpa using blk_set hb 3 (.string x), hg, hr4⟩
theorem cellS67_4 {W : World} {g : Nat} {A4 : Option Addr} {c4 : Nat} {f0 : Int} {f1 : Int} {f2 : Int} {f3 : ByteArray} {f4 : List (S73)} (h : W.heap[g]? = some (.cells #[.int .i64 f0, .int .i64 f1, .int .i64 f2, .string f3, .slice A4 f4.length c4] 67 (0, 0))) : W.cell? ⟨g, 4, none⟩ = some (.slice A4 f4.length c4) := (blk_cell h 4).trans rfl
theorem IsS67.new (w0 W : World) (A4 : Option Addr) (c4 : Nat) (f0 : Int) (f1 : Int) (f2 : Int) (f3 : ByteArray) (f4 : List (S73)) (hB : Below w0.heap.size w0 W) (hr4 : Kd.C k73 w0 A4 f4.length f4) : IsS67 w0 (W.alloc (.cells #[.int .i64 f0, .int .i64 f1, .int .i64 f2, .string f3, .slice A4 f4.length c4] 67)) W.heap.size f0 f1 f2 f3 f4 := ⟨A4, c4, by simpa using heap_alloc_new W _, hB.size, hr4⟩

/-! ### sendq_New: function 9 (by hand) -/
structure QS where
 left : Int
 sent : Int
 room : Int
 s : ByteArray
 ap : List (Int × Int)
def cellsQ (q : QS) (v : Value) : Array Value := #[.int .i64 q.left, .int .i64 q.sent, .int .i64 q.room, .string q.s, v]
def spc (l : List (Int × Int)) : List Value := l.flatMap (fun x => [.int .i64 x.1, .int .i64 x.2])
theorem spc_app (a b : List (Int × Int)) : spc (a ++ b) = spc a ++ spc b := by unfold spc; rw [List.flatMap_append]
theorem spc_get : ∀ (l : List (Int × Int)) (i : Nat) (x : Int × Int), l[i]? = some x → (spc l)[i * 2]? = some (.int .i64 x.1) ∧ (spc l)[i * 2 + 1]? = some (.int .i64 x.2)
 | [], i, x, h => by simp at h
 | y :: l, 0, x, h => by simp at h; subst h; exact ⟨rfl, rfl⟩
 | y :: l, i + 1, x, h => by
  obtain ⟨h1, h2⟩ := spc_get l i x (by simpa using h)
  rw [Nat.add_mul]
  exact ⟨h1, h2⟩
theorem val_hole {vs : List Value} {x : Nat → Value} {k : Nat} {u : Value} (h : vs.getD k undef = u) : AnyOrder.val_ [] vs x k = u := h
theorem drew_cell {W : World} {a : Addr} {v : Value} (n : Nat) (h : W.cell? a = some v) : (W.drewN n).cell? a = some v := h
theorem ownsAt_base {w : World} {base base' : Nat} {e : TypeId} {size : Nat} {v : Value} {n : Nat} {xs : List Value} (h : ownsAt w base e size v n xs) (hb : base' ≤ base) : ownsAt w base' e size v n xs :=
 ⟨h.1, h.2.imp id fun ⟨g, o, cap, cur, h1, h2, h3⟩ => ⟨g, o, cap, cur, h1, Nat.le_trans hb h2, h3⟩⟩
theorem w64p {x : Int} (h1 : -9223372036854775808 ≤ x) (h2 : x < 9223372036854775808) : wrap64 x = x := by unfold wrap64; omega
/-- all blocks stay but one -/
def KeepG (g : Nat) (w w' : World) : Prop := w.heap.size ≤ w'.heap.size ∧ ∀ k, k < w.heap.size → k ≠ g → w'.heap[k]? = w.heap[k]?
theorem KeepG.refl (g : Nat) (w : World) : KeepG g w w := ⟨Nat.le_refl _, fun _ _ _ => rfl⟩
theorem KeepG.trans {g : Nat} {a b c : World} (h : KeepG g a b) (k : KeepG g b c) : KeepG g a c := ⟨Nat.le_trans h.1 k.1, fun i hi hg => (k.2 i (Nat.lt_of_lt_of_le hi h.1) hg).trans (h.2 i hi hg)⟩
theorem KeepG.of_below {g : Nat} {a b : World} (h : Below a.heap.size a b) : KeepG g a b := ⟨h.size, fun k hk _ => h.block k hk⟩
theorem KeepG.set (g k : Nat) (w : World) (v : Value) : KeepG g w (w.setCell ⟨g, k, none⟩ v) := ⟨by simp [World.setCell], fun i _ hg => heap_setCell_other _ _ _ _ hg⟩
theorem drewN_drewN (w : World) (a b : Nat) : (w.drewN a).drewN b = w.drewN (a + b) := by unfold World.drewN; simp [Nat.add_assoc]
theorem keepG_grown {g : Nat} {w a b : World} {row : Option Nat} (h : KeepG g w a) (hg : a.grownBy b row) (hr : ∀ r, row = some r → w.heap.size ≤ r) : KeepG g w b :=
 ⟨Nat.le_trans h.1 hg.size, fun k hk hn => (hg.block k (Nat.lt_of_lt_of_le hk h.1) (fun e => by have := hr k e.symm; omega)).trans (h.2 k hk hn)⟩
def QAt (w : World) (base g : Nat) (q : QS) : Prop := ∃ v, w.heap[g]? = some (.cells (cellsQ q v) 67 (0, 0)) ∧ base ≤ g ∧ ownsAt w base 73 2 v q.ap.length (spc q.ap)
theorem QAt.ge {w : World} {base g : Nat} {q : QS} (h : QAt w base g q) : base ≤ g := h.choose_spec.2.1
theorem QAt.lt {w : World} {base g : Nat} {q : QS} (h : QAt w base g q) : g < w.heap.size := blk_lt h.choose_spec.1
theorem QAt.kept {w w' : World} {base g : Nat} {q : QS} (h : QAt w base g q) (hb : Below w.heap.size w w') : QAt w' base g q := by
 obtain ⟨v, h1, h2, h3⟩ := h
 exact ⟨v, blk_below h1 hb, h2, ownsAt_below h3 hb⟩
theorem QAt.drawn {w w' : World} {base g : Nat} {q : QS} (h : QAt w base g q) (he : w'.heap = w.heap) : QAt w' base g q := by
 obtain ⟨v, h1, h2, h3⟩ := h
 exact ⟨v, by rw [he]; exact h1, h2, ownsAt_kept h3 (fun g cur _ hg => by rw [he])⟩
/-- another queue stays -/
theorem QAt.other {w w' : World} {base g g' : Nat} {q : QS} (h : QAt w base g q) (hn : g ≠ g') (hq : ∃ q', QAt w base g' q') (hk : KeepG g' w w') : QAt w' base g q := by
 obtain ⟨v, h1, h2, h3⟩ := h
 obtain ⟨q', v', h4, _⟩ := hq
 refine ⟨v, (hk.2 g (blk_lt h1) hn).trans h1, h2, ownsAt_kept h3 (fun b cur _ hb => hk.2 b (blk_lt hb) (fun e => ?_))⟩
 rw [e, h4] at hb
 simp at hb
theorem QAt.set {w : World} {base g : Nat} {q q' : QS} (h : QAt w base g q) (k : Nat) (u : Value) (hq : q'.ap = q.ap) (hc : ∀ v, (cellsQ q v).setIfInBounds k u = cellsQ q' v) : QAt (w.setCell ⟨g, k, none⟩ u) base g q' := by
 obtain ⟨v, h1, h2, h3⟩ := h
 have hk := KeepT.set (T := [67]) h1 (by decide) k u
 refine ⟨v, by rw [blk_put h1 k u rfl, hc], h2, ?_⟩
 rw [hq]; exact ownsAt_keepT h3 hk (by decide)
theorem QAt.row {w : World} {base g : Nat} {q q' : QS} (h : QAt w base g q) (u : Value) (hu : ownsAt w base 73 2 u q'.ap.length (spc q'.ap)) (hc : ∀ v, (cellsQ q v).setIfInBounds 4 u = cellsQ q' u) : QAt (w.setCell ⟨g, 4, none⟩ u) base g q' := by
 obtain ⟨v, h1, h2, h3⟩ := h
 have hk := KeepT.set (T := [67]) h1 (by decide) 4 u
 exact ⟨u, by rw [blk_put h1 4 u rfl, hc], h2, ownsAt_keepT hu hk (by decide)⟩
theorem QAt.cell {w : World} {base g : Nat} {q : QS} (h : QAt w base g q) : ∃ A c, (w.heap[g]? = some (.cells (cellsQ q (.slice A q.ap.length c)) 67 (0, 0)) ∧ base ≤ g) ∧ (q.ap.length ≤ c ∧ c ≤ maxLen) ∧ (w.cell? ⟨g, 0, none⟩ = some (.int .i64 q.left) ∧ w.cell? ⟨g, 1, none⟩ = some (.int .i64 q.sent) ∧ w.cell? ⟨g, 2, none⟩ = some (.int .i64 q.room) ∧ w.cell? ⟨g, 3, none⟩ = some (.string q.s) ∧ w.cell? ⟨g, 4, none⟩ = some (.slice A q.ap.length c)) ∧ (w.frozen? ⟨g, 0, none⟩ = false ∧ w.frozen? ⟨g, 1, none⟩ = false ∧ w.frozen? ⟨g, 2, none⟩ = false ∧ w.frozen? ⟨g, 3, none⟩ = false ∧ w.frozen? ⟨g, 4, none⟩ = false) ∧ ownsAt w base 73 2 (.slice A q.ap.length c) q.ap.length (spc q.ap) := by
 obtain ⟨v, h1, h2, h3⟩ := h
 obtain ⟨A, c, rfl, h5, h6, _⟩ := ownsAt_len h3
 exact ⟨A, c, ⟨h1, h2⟩, ⟨h5, h6⟩, ⟨blk_cell h1 0, blk_cell h1 1, blk_cell h1 2, blk_cell h1 3, blk_cell h1 4⟩, ⟨blk_frozen h1 0, blk_frozen h1 1, blk_frozen h1 2, blk_frozen h1 3, blk_frozen h1 4⟩, h3⟩
/-- how far a sequence number is behind another one; may it be one -/
def sqOk (n : Int) : Prop := 0 ≤ n ∧ n ≤ 4294967295
instance (n : Int) : Decidable (sqOk n) := inferInstanceAs (Decidable (0 ≤ n ∧ n ≤ 4294967295))
theorem and_low_ (a : Int) (i : Nat) (hi : i ≤ 62) : Go.bits .and .i64 a ((2 ^ i - 1 : Nat) : Int) = a % ((2 ^ i : Nat) : Int) := by
 have hp : 0 < 2 ^ i := Nat.two_pow_pos i
 have hle : 2 ^ i ≤ 2 ^ 62 := Nat.pow_le_pow_right (by decide) hi
 have e62 : (2 : Nat) ^ 62 = 4611686018427387904 := by decide
 have eb : IntKind.i64.bits = 64 := rfl
 have e64 : (2 : Nat) ^ 64 = 18446744073709551616 := by decide
 have hm : (2 ^ i - 1) % 2 ^ IntKind.i64.bits = 2 ^ i - 1 := Nat.mod_eq_of_lt (by rw [eb, e64]; omega)
 simp only [Go.bits, BitVec.ofInt_natCast, BitVec.toNat_and, BitVec.toNat_ofNat, hm, BitVec.toNat_ofInt]
 rw [Nat.and_two_pow_sub_one_eq_mod, IntKind.wrap_i64, eb]
 have hd : 2 ^ 64 = 2 ^ i * 2 ^ (64 - i) := by rw [← Nat.pow_add]; congr 1; omega
 have key : (((a % ((2 ^ 64 : Nat) : Int)).toNat % 2 ^ i : Nat) : Int) = a % ((2 ^ i : Nat) : Int) := by
  rw [Int.natCast_emod, Int.toNat_of_nonneg (Int.emod_nonneg _ (by omega))]
  exact Int.emod_emod_of_dvd _ ⟨((2 ^ (64 - i) : Nat) : Int), by rw [hd, Int.natCast_mul]⟩
 have r0 := Int.emod_nonneg a (b := ((2 ^ i : Nat) : Int)) (by omega)
 have r1 := Int.emod_lt_of_pos a (b := ((2 ^ i : Nat) : Int)) (by omega)
 have key2 : (((a % (2 ^ 64 : Int)).toNat % 2 ^ i : Nat) : Int) = a % ((2 ^ i : Nat) : Int) := key
 first | rw [key] | rw [key2]
 omega
theorem and_seq (a : Int) : Go.bits .and .i64 a 4294967295 = a % 4294967296 := by
 have := and_low_ a 32 (by omega)
 rwa [show ((2 ^ 32 - 1 : Nat) : Int) = 4294967295 from by decide, show ((2 ^ 32 : Nat) : Int) = 4294967296 from by decide] at this
theorem seqcheck_ (n : Int) : seq_Check.f n = some (if sqOk n then 0 else 1) := by
 unfold seq_Check.f
 rw [and_seq]
 by_cases h : sqOk n
 ·have h' := h; unfold sqOk at h'
  rw [if_pos (by omega), if_pos h]
 ·have h' := h; unfold sqOk at h'
  rw [if_neg (by omega), if_neg h]
set_option maxHeartbeats 4000000 in
set_option maxRecDepth 100000 in
theorem sendq_New.calls (first room : Int) (w0 w : World) (hB : Below w0.heap.size w0 w) (hf : sqOk first) (h1 : 1 ≤ room) (h2 : room ≤ 65536) :
  Calls Try.prog 9 #[.int .i64 first, .int .i64 room] w fun e w' => ∃ g, e = .returned (.tuple #[.pointer (some ⟨g, 0, none⟩), .int .i64 0]) ∧ QAt w' w0.heap.size g ⟨first, 0, room, (⟨#[]⟩ : ByteArray), []⟩ ∧ Below w0.heap.size w0 w' ∧ Below w.heap.size w w' ∧ w.heap.size ≤ g := by
 have HB := Aside0.mk hB
 have d1 : decide (room < 1) = false := decide_eq_false (by omega)
 have d2 : decide (65536 < room) = false := decide_eq_false (by omega)
 clear hB
 go_enter Try.func9, Try.ntmps9
 go_wp2_with fail
 refine (seq_Check.calls first 0 _ ((seqcheck_ first).trans (by rw [if_pos hf]))).mono ?_
 rintro e W1 ⟨rfl, nd, rfl⟩
 have HB1 := Aside0.mk (pw_below_drewN HB.out nd)
 have HB2 := Aside0.mk (show Below w.heap.size w (w.drewN nd) from pw_below_drewN (Below.refl _ _) nd)
 clear HB hf
 go_wp2_with (first | ((with_reducible refine gate_dst (N := 20) rfl ?_); refine box_event ?hg (N := 20) ?hd (cs := cellsQ ⟨first, 0, room, (⟨#[]⟩ : ByteArray), []⟩ (.slice none 0 0)) (t := 67) ?hr ?_; (case hd => rfl); (case hg => rfl); (case hr => first | (go_simp; done) | (go_simp; rfl)); intro g hg w2 hbox hb; have BX := Aside0.mk hbox; have HB3 := Aside0.mk (below_step HB1.out hb); have HB4 := Aside0.mk (below_step HB2.out hb); have GG := Aside0.mk (show w.heap.size ≤ g by rw [hg]; exact Nat.le_refl _); clear hbox hb hg))
 go_ret2
 exact ⟨g, rfl, ⟨_, BX.out, Nat.le_trans HB1.out.size GG.out, ownsAt_nil _ _ _ _⟩, HB3.out, HB4.out, GG.out⟩



/-! ### sendq_Queue_Write: function 10 (by hand) -/
-- over sendq_New.calls sendq_New.callsR
theorem cutS_szle (s : ByteArray) (a b : Nat) : (cutS s a b).size ≤ b - a := by unfold cutS; simp; omega
def QS.room_ (q : QS) (s : ByteArray) : Nat := min s.size (q.room - (q.s.size : Int)).toNat
def QS.write (q : QS) (s : ByteArray) : QS × Int × Int := if q.room_ s = 0 ∧ s.toList ≠ [] then (q, 0, 150) else ({ q with s := q.s ++ cutS s 0 (q.room_ s) }, (q.room_ s : Int), 0)
set_option maxHeartbeats 4000000 in
set_option maxRecDepth 100000 in
theorem sendq_Queue_Write.calls (g : Nat) (q : QS) (s : ByteArray) (w0 w : World) (hI : QAt w w0.heap.size g q) (hB : Below w0.heap.size w0 w) (hr : (q.s.size : Int) ≤ q.room ∧ q.room ≤ 65536) (hs : s.size ≤ 9223372036854775807) :
  Calls Try.prog 10 #[.pointer (some ⟨g, 0, none⟩), .string s] w fun e w' => e = .returned (.tuple #[.int .i64 (q.write s).2.1, .int .i64 (q.write s).2.2]) ∧ QAt w' w0.heap.size g ((q.write s).1) ∧ Below w0.heap.size w0 w' ∧ KeepG g w w' := by
 have HI := Aside0.mk hI
 have HB := Aside0.mk hB
 clear hI hB
 obtain ⟨Az, cz, ⟨hbg, hge⟩, ⟨hle, hcm⟩, ⟨hc0, hc1, hc2, hc3, hc4⟩, ⟨hf0, hf1, hf2, hf3, hf4⟩, HQ⟩ := HI.out.cell
 have hn0 : (if wrap64 (q.room - (q.s.size : Int)) < (s.size : Int) then wrap64 (q.room - (q.s.size : Int)) else (s.size : Int)) = (q.room_ s : Int) := by
  unfold QS.room_
  rw [w64p (by omega) (by omega)]
  split <;> omega
 have hle2 : q.room_ s ≤ s.size ∧ q.room_ s ≤ 65536 := by unfold QS.room_; omega
 obtain ⟨n, hn⟩ : ∃ n_, q.room_ s = n_ := ⟨_, rfl⟩
 rw [hn] at hn0 hle2
 have HN := Aside0.mk hn0
 have HL := Aside0.mk (And.intro hle2.1 (And.intro hle2.2 hr))
 clear hn0 hle2 hr
 by_cases c1 : n = 0 ∧ s.toList ≠ []
 ·have e : q.write s = (q, 0, 150) := by unfold QS.write; rw [hn, if_pos c1]
  rw [e]
  obtain ⟨c2, c3⟩ := c1
  have b2 : ((n : Int) == 0) = true := beq_iff_eq.mpr (by omega)
  have b3 : s.toList.isEmpty = false := by cases h : s.toList with | nil => exact absurd h c3 | cons _ _ => rfl
  clear c3 c2 e hn
  go_enter Try.func10, Try.ntmps10
  go_upto_region 1 with fail
  have same : ∀ (ph : Nat) W', Drawn0 w W' → True := fun _ _ _ => trivial
  refine AnyEvents.region_then 14 (E := []) (C := fun (_ : Nat) W' => Drawn0 w W') (G := fun _ _ _ _ => True) (T := []) (R := fun _ _ _ _ => True) (vs := [?v3_0, ?v3_1, ?v3_2, ?v3_3, ?v3_4, ?v3_5, ?v3_6, ?v3_7, ?v3_8, ?v3_9, ?v3_10, ?v3_11, ?v3_12, ?v3_13]) (by kernel_rfl) (by kernel_rfl) rfl (by kernel_rfl) ?hc3r same (fun _ _ _ _ _ _ _ _ _ => trivial) (fun _ h => nomatch h) (fun x => ?obs3r) ?fin3r
  case hc3r => exact ⟨1, rfl⟩
  case obs3r =>
   refine AnyEvents.obs_cons ?v3_0 (val_hole (by simp only [List.getD_cons_zero, List.getD_cons_succ])) (AnyEvents.ob_plain (v := ?v3_0) rfl rfl rfl same (by simp only [List.getD_cons_zero, List.getD_cons_succ]) (fun ph W' hwn hW => ?_)) ?_
   ·obtain ⟨nd, rfl⟩ := hW; have z0 := drew_cell nd hc2; have z1 := drew_cell nd hc3; first | (go_simp; done) | (go_simp; (try simp only [i64_w]); rfl) | (go_simp; simp; rfl)
   try simp only [Act.put, List.setIfInBounds_toArray, List.set_cons_zero, List.set_cons_succ]
   refine AnyEvents.obs_cons ?v3_1 (val_hole (by simp only [List.getD_cons_zero, List.getD_cons_succ])) (AnyEvents.ob_plain (v := ?v3_1) rfl rfl rfl same (by simp only [List.getD_cons_zero, List.getD_cons_succ]) (fun ph W' hwn hW => ?_)) ?_
   ·obtain ⟨nd, rfl⟩ := hW; have z0 := drew_cell nd hc2; have z1 := drew_cell nd hc3; first | (go_simp; done) | (go_simp; (try simp only [i64_w]); rfl) | (go_simp; simp; rfl)
   try simp only [Act.put, List.setIfInBounds_toArray, List.set_cons_zero, List.set_cons_succ]
   refine AnyEvents.obs_cons ?v3_2 (val_hole (by simp only [List.getD_cons_zero, List.getD_cons_succ])) (AnyEvents.ob_plain (v := ?v3_2) rfl rfl rfl same (by simp only [List.getD_cons_zero, List.getD_cons_succ]) (fun ph W' hwn hW => ?_)) ?_
   ·obtain ⟨nd, rfl⟩ := hW; have z0 := drew_cell nd hc2; have z1 := drew_cell nd hc3; first | (go_simp; done) | (go_simp; (try simp only [i64_w]); rfl) | (go_simp; simp; rfl)
   try simp only [Act.put, List.setIfInBounds_toArray, List.set_cons_zero, List.set_cons_succ]
   refine AnyEvents.obs_cons ?v3_3 (val_hole (by simp only [List.getD_cons_zero, List.getD_cons_succ])) (AnyEvents.ob_plain (v := ?v3_3) rfl rfl rfl same (by simp only [List.getD_cons_zero, List.getD_cons_succ]) (fun ph W' hwn hW => ?_)) ?_
   ·obtain ⟨nd, rfl⟩ := hW; have z0 := drew_cell nd hc2; have z1 := drew_cell nd hc3; first | (go_simp; done) | (go_simp; (try simp only [i64_w]); rfl) | (go_simp; simp; rfl)
   try simp only [Act.put, List.setIfInBounds_toArray, List.set_cons_zero, List.set_cons_succ]
   refine AnyEvents.obs_cons ?v3_4 (val_hole (by simp only [List.getD_cons_zero, List.getD_cons_succ])) (AnyEvents.ob_plain (v := ?v3_4) rfl rfl rfl same (by simp only [List.getD_cons_zero, List.getD_cons_succ]) (fun ph W' hwn hW => ?_)) ?_
   ·obtain ⟨nd, rfl⟩ := hW; have z0 := drew_cell nd hc2; have z1 := drew_cell nd hc3; first | (go_simp; done) | (go_simp; (try simp only [i64_w]); rfl) | (go_simp; simp; rfl)
   try simp only [Act.put, List.setIfInBounds_toArray, List.set_cons_zero, List.set_cons_succ]
   refine AnyEvents.obs_cons ?v3_5 (val_hole (by simp only [List.getD_cons_zero, List.getD_cons_succ])) (AnyEvents.ob_plain (v := ?v3_5) rfl rfl rfl same (by simp only [List.getD_cons_zero, List.getD_cons_succ]) (fun ph W' hwn hW => ?_)) ?_
   ·obtain ⟨nd, rfl⟩ := hW; have z0 := drew_cell nd hc2; have z1 := drew_cell nd hc3; first | (go_simp; done) | (go_simp; (try simp only [i64_w]); rfl) | (go_simp; simp; rfl)
   try simp only [Act.put, List.setIfInBounds_toArray, List.set_cons_zero, List.set_cons_succ]
   refine AnyEvents.obs_cons ?v3_6 (val_hole (by simp only [List.getD_cons_zero, List.getD_cons_succ])) (AnyEvents.ob_plain (v := ?v3_6) rfl rfl rfl same (by simp only [List.getD_cons_zero, List.getD_cons_succ]) (fun ph W' hwn hW => ?_)) ?_
   ·obtain ⟨nd, rfl⟩ := hW; have z0 := drew_cell nd hc2; have z1 := drew_cell nd hc3; first | (go_simp; done) | (go_simp; (try simp only [i64_w]); rfl) | (go_simp; simp; rfl)
   try simp only [Act.put, List.setIfInBounds_toArray, List.set_cons_zero, List.set_cons_succ]
   refine AnyEvents.obs_cons ?v3_7 (val_hole (by simp only [List.getD_cons_zero, List.getD_cons_succ])) (AnyEvents.ob_plain (v := ?v3_7) rfl rfl rfl same (by simp only [List.getD_cons_zero, List.getD_cons_succ]) (fun ph W' hwn hW => ?_)) ?_
   ·obtain ⟨nd, rfl⟩ := hW; have z0 := drew_cell nd hc2; have z1 := drew_cell nd hc3; first | (go_simp; done) | (go_simp; (try simp only [i64_w]); rfl) | (go_simp; simp; rfl)
   try simp only [Act.put, List.setIfInBounds_toArray, List.set_cons_zero, List.set_cons_succ]
   refine AnyEvents.obs_cons ?v3_8 (val_hole (by simp only [List.getD_cons_zero, List.getD_cons_succ])) (AnyEvents.ob_plain (v := ?v3_8) rfl rfl rfl same (by simp only [List.getD_cons_zero, List.getD_cons_succ]) (fun ph W' hwn hW => ?_)) ?_
   ·obtain ⟨nd, rfl⟩ := hW; have z0 := drew_cell nd hc2; have z1 := drew_cell nd hc3; first | (go_simp; done) | (go_simp; (try simp only [i64_w]); rfl) | (go_simp; simp; rfl)
   try simp only [Act.put, List.setIfInBounds_toArray, List.set_cons_zero, List.set_cons_succ]
   refine AnyEvents.obs_cons ?v3_9 (val_hole (by simp only [List.getD_cons_zero, List.getD_cons_succ])) (AnyEvents.ob_plain (v := ?v3_9) rfl rfl rfl same (by simp only [List.getD_cons_zero, List.getD_cons_succ]) (fun ph W' hwn hW => ?_)) ?_
   ·obtain ⟨nd, rfl⟩ := hW; have z0 := drew_cell nd hc2; have z1 := drew_cell nd hc3; first | (go_simp; done) | (go_simp; (try simp only [i64_w]); rfl) | (go_simp; simp; rfl)
   try simp only [Act.put, List.setIfInBounds_toArray, List.set_cons_zero, List.set_cons_succ]
   refine AnyEvents.obs_cons ?v3_10 (val_hole (by simp only [List.getD_cons_zero, List.getD_cons_succ])) (AnyEvents.ob_plain (v := ?v3_10) rfl rfl rfl same (by simp only [List.getD_cons_zero, List.getD_cons_succ]) (fun ph W' hwn hW => ?_)) ?_
   ·obtain ⟨nd, rfl⟩ := hW; have z0 := drew_cell nd hc2; have z1 := drew_cell nd hc3; first | (go_simp; done) | (go_simp; (try simp only [i64_w]); rfl) | (go_simp; simp; rfl)
   try simp only [Act.put, List.setIfInBounds_toArray, List.set_cons_zero, List.set_cons_succ]
   refine AnyEvents.obs_cons ?v3_11 (val_hole (by simp only [List.getD_cons_zero, List.getD_cons_succ])) (AnyEvents.ob_plain (v := ?v3_11) rfl rfl rfl same (by simp only [List.getD_cons_zero, List.getD_cons_succ]) (fun ph W' hwn hW => ?_)) ?_
   ·obtain ⟨nd, rfl⟩ := hW; have z0 := drew_cell nd hc2; have z1 := drew_cell nd hc3; first | (go_simp; done) | (go_simp; (try simp only [i64_w]); rfl) | (go_simp; simp; rfl)
   try simp only [Act.put, List.setIfInBounds_toArray, List.set_cons_zero, List.set_cons_succ]
   refine AnyEvents.obs_cons ?v3_12 (val_hole (by simp only [List.getD_cons_zero, List.getD_cons_succ])) (AnyEvents.ob_plain (v := ?v3_12) rfl rfl rfl same (by simp only [List.getD_cons_zero, List.getD_cons_succ]) (fun ph W' hwn hW => ?_)) ?_
   ·obtain ⟨nd, rfl⟩ := hW; have z0 := drew_cell nd hc2; have z1 := drew_cell nd hc3; first | (go_simp; done) | (go_simp; (try simp only [i64_w]); rfl) | (go_simp; simp; rfl)
   try simp only [Act.put, List.setIfInBounds_toArray, List.set_cons_zero, List.set_cons_succ]
   refine AnyEvents.obs_cons ?v3_13 (val_hole (by simp only [List.getD_cons_zero, List.getD_cons_succ])) (AnyEvents.ob_plain (v := ?v3_13) rfl rfl rfl same (by simp only [List.getD_cons_zero, List.getD_cons_succ]) (fun ph W' hwn hW => ?_)) ?_
   ·obtain ⟨nd, rfl⟩ := hW; have z0 := drew_cell nd hc2; have z1 := drew_cell nd hc3; first | (go_simp; done) | (go_simp; (try simp only [i64_w]); rfl) | (go_simp; simp; rfl)
   try simp only [Act.put, List.setIfInBounds_toArray, List.set_cons_zero, List.set_cons_succ]
   trivial
  case fin3r =>
   intro x W' hD _
   simp only [List.take_succ_cons, List.take_zero, List.drop_succ_cons, List.drop_zero]
   rw [AnyOrder.lexAt_cons ?v3_0 (val_hole (by simp only [List.getD_cons_zero, List.getD_cons_succ]))]
   try simp only [Act.put, List.setIfInBounds_toArray, List.set_cons_zero, List.set_cons_succ]
   rw [AnyOrder.lexAt_cons ?v3_1 (val_hole (by simp only [List.getD_cons_zero, List.getD_cons_succ]))]
   try simp only [Act.put, List.setIfInBounds_toArray, List.set_cons_zero, List.set_cons_succ]
   rw [AnyOrder.lexAt_cons ?v3_2 (val_hole (by simp only [List.getD_cons_zero, List.getD_cons_succ]))]
   try simp only [Act.put, List.setIfInBounds_toArray, List.set_cons_zero, List.set_cons_succ]
   rw [AnyOrder.lexAt_cons ?v3_3 (val_hole (by simp only [List.getD_cons_zero, List.getD_cons_succ]))]
   try simp only [Act.put, List.setIfInBounds_toArray, List.set_cons_zero, List.set_cons_succ]
   rw [AnyOrder.lexAt_cons ?v3_4 (val_hole (by simp only [List.getD_cons_zero, List.getD_cons_succ]))]
   try simp only [Act.put, List.setIfInBounds_toArray, List.set_cons_zero, List.set_cons_succ]
   rw [AnyOrder.lexAt_cons ?v3_5 (val_hole (by simp only [List.getD_cons_zero, List.getD_cons_succ]))]
   try simp only [Act.put, List.setIfInBounds_toArray, List.set_cons_zero, List.set_cons_succ]
   rw [AnyOrder.lexAt_cons ?v3_6 (val_hole (by simp only [List.getD_cons_zero, List.getD_cons_succ]))]
   try simp only [Act.put, List.setIfInBounds_toArray, List.set_cons_zero, List.set_cons_succ]
   rw [AnyOrder.lexAt_cons ?v3_7 (val_hole (by simp only [List.getD_cons_zero, List.getD_cons_succ]))]
   try simp only [Act.put, List.setIfInBounds_toArray, List.set_cons_zero, List.set_cons_succ]
   rw [AnyOrder.lexAt_cons ?v3_8 (val_hole (by simp only [List.getD_cons_zero, List.getD_cons_succ]))]
   try simp only [Act.put, List.setIfInBounds_toArray, List.set_cons_zero, List.set_cons_succ]
   rw [AnyOrder.lexAt_cons ?v3_9 (val_hole (by simp only [List.getD_cons_zero, List.getD_cons_succ]))]
   try simp only [Act.put, List.setIfInBounds_toArray, List.set_cons_zero, List.set_cons_succ]
   rw [AnyOrder.lexAt_cons ?v3_10 (val_hole (by simp only [List.getD_cons_zero, List.getD_cons_succ]))]
   try simp only [Act.put, List.setIfInBounds_toArray, List.set_cons_zero, List.set_cons_succ]
   rw [AnyOrder.lexAt_cons ?v3_11 (val_hole (by simp only [List.getD_cons_zero, List.getD_cons_succ]))]
   try simp only [Act.put, List.setIfInBounds_toArray, List.set_cons_zero, List.set_cons_succ]
   rw [AnyOrder.lexAt_cons ?v3_12 (val_hole (by simp only [List.getD_cons_zero, List.getD_cons_succ]))]
   try simp only [Act.put, List.setIfInBounds_toArray, List.set_cons_zero, List.set_cons_succ]
   rw [AnyOrder.lexAt_cons ?v3_13 (val_hole (by simp only [List.getD_cons_zero, List.getD_cons_succ]))]
   try simp only [Act.put, List.setIfInBounds_toArray, List.set_cons_zero, List.set_cons_succ]
   rw [AnyOrder.lexAt_nil]
   clear same
   obtain ⟨nd, rfl⟩ := hD
   rw [HN.out]
   go_wp2
   go_ret2
   exact ⟨rfl, HI.out.drawn rfl, pw_below_drewN HB.out nd, KeepG.of_below (pw_below_drewN (Below.refl _ _) nd)⟩
 have e : q.write s = ({ q with s := q.s ++ cutS s 0 n }, (n : Int), 0) := by unfold QS.write; rw [hn, if_neg c1]
 rw [e]
 have b2 : ((n : Int) == 0) = false ∨ (((n : Int) == 0) = true ∧ s.toList.isEmpty = true) := by
  by_cases h : n = 0
  ·refine .inr ⟨beq_iff_eq.mpr (by omega), ?_⟩
   cases h3 : s.toList with | nil => rfl | cons _ _ => exact absurd ⟨h, by rw [h3]; simp⟩ c1
  ·exact .inl (beq_eq_false_iff_ne.mpr (by omega))
 clear c1 e hn
 rcases b2 with b2 | ⟨b2, b3⟩
 ·go_enter Try.func10, Try.ntmps10
  go_upto_region 1 with fail
  have same : ∀ (ph : Nat) W', Drawn0 w W' → True := fun _ _ _ => trivial
  refine AnyEvents.region_then 14 (E := []) (C := fun (_ : Nat) W' => Drawn0 w W') (G := fun _ _ _ _ => True) (T := []) (R := fun _ _ _ _ => True) (vs := [?v4_0, ?v4_1, ?v4_2, ?v4_3, ?v4_4, ?v4_5, ?v4_6, ?v4_7, ?v4_8, ?v4_9, ?v4_10, ?v4_11, ?v4_12, ?v4_13]) (by kernel_rfl) (by kernel_rfl) rfl (by kernel_rfl) ?hc4r same (fun _ _ _ _ _ _ _ _ _ => trivial) (fun _ h => nomatch h) (fun x => ?obs4r) ?fin4r
  case hc4r => exact ⟨1, rfl⟩
  case obs4r =>
   refine AnyEvents.obs_cons ?v4_0 (val_hole (by simp only [List.getD_cons_zero, List.getD_cons_succ])) (AnyEvents.ob_plain (v := ?v4_0) rfl rfl rfl same (by simp only [List.getD_cons_zero, List.getD_cons_succ]) (fun ph W' hwn hW => ?_)) ?_
   ·obtain ⟨nd, rfl⟩ := hW; have z0 := drew_cell nd hc2; have z1 := drew_cell nd hc3; first | (go_simp; done) | (go_simp; (try simp only [i64_w]); rfl) | (go_simp; simp; rfl)
   try simp only [Act.put, List.setIfInBounds_toArray, List.set_cons_zero, List.set_cons_succ]
   refine AnyEvents.obs_cons ?v4_1 (val_hole (by simp only [List.getD_cons_zero, List.getD_cons_succ])) (AnyEvents.ob_plain (v := ?v4_1) rfl rfl rfl same (by simp only [List.getD_cons_zero, List.getD_cons_succ]) (fun ph W' hwn hW => ?_)) ?_
   ·obtain ⟨nd, rfl⟩ := hW; have z0 := drew_cell nd hc2; have z1 := drew_cell nd hc3; first | (go_simp; done) | (go_simp; (try simp only [i64_w]); rfl) | (go_simp; simp; rfl)
   try simp only [Act.put, List.setIfInBounds_toArray, List.set_cons_zero, List.set_cons_succ]
   refine AnyEvents.obs_cons ?v4_2 (val_hole (by simp only [List.getD_cons_zero, List.getD_cons_succ])) (AnyEvents.ob_plain (v := ?v4_2) rfl rfl rfl same (by simp only [List.getD_cons_zero, List.getD_cons_succ]) (fun ph W' hwn hW => ?_)) ?_
   ·obtain ⟨nd, rfl⟩ := hW; have z0 := drew_cell nd hc2; have z1 := drew_cell nd hc3; first | (go_simp; done) | (go_simp; (try simp only [i64_w]); rfl) | (go_simp; simp; rfl)
   try simp only [Act.put, List.setIfInBounds_toArray, List.set_cons_zero, List.set_cons_succ]
   refine AnyEvents.obs_cons ?v4_3 (val_hole (by simp only [List.getD_cons_zero, List.getD_cons_succ])) (AnyEvents.ob_plain (v := ?v4_3) rfl rfl rfl same (by simp only [List.getD_cons_zero, List.getD_cons_succ]) (fun ph W' hwn hW => ?_)) ?_
   ·obtain ⟨nd, rfl⟩ := hW; have z0 := drew_cell nd hc2; have z1 := drew_cell nd hc3; first | (go_simp; done) | (go_simp; (try simp only [i64_w]); rfl) | (go_simp; simp; rfl)
   try simp only [Act.put, List.setIfInBounds_toArray, List.set_cons_zero, List.set_cons_succ]
   refine AnyEvents.obs_cons ?v4_4 (val_hole (by simp only [List.getD_cons_zero, List.getD_cons_succ])) (AnyEvents.ob_plain (v := ?v4_4) rfl rfl rfl same (by simp only [List.getD_cons_zero, List.getD_cons_succ]) (fun ph W' hwn hW => ?_)) ?_
   ·obtain ⟨nd, rfl⟩ := hW; have z0 := drew_cell nd hc2; have z1 := drew_cell nd hc3; first | (go_simp; done) | (go_simp; (try simp only [i64_w]); rfl) | (go_simp; simp; rfl)
   try simp only [Act.put, List.setIfInBounds_toArray, List.set_cons_zero, List.set_cons_succ]
   refine AnyEvents.obs_cons ?v4_5 (val_hole (by simp only [List.getD_cons_zero, List.getD_cons_succ])) (AnyEvents.ob_plain (v := ?v4_5) rfl rfl rfl same (by simp only [List.getD_cons_zero, List.getD_cons_succ]) (fun ph W' hwn hW => ?_)) ?_
   ·obtain ⟨nd, rfl⟩ := hW; have z0 := drew_cell nd hc2; have z1 := drew_cell nd hc3; first | (go_simp; done) | (go_simp; (try simp only [i64_w]); rfl) | (go_simp; simp; rfl)
   try simp only [Act.put, List.setIfInBounds_toArray, List.set_cons_zero, List.set_cons_succ]
   refine AnyEvents.obs_cons ?v4_6 (val_hole (by simp only [List.getD_cons_zero, List.getD_cons_succ])) (AnyEvents.ob_plain (v := ?v4_6) rfl rfl rfl same (by simp only [List.getD_cons_zero, List.getD_cons_succ]) (fun ph W' hwn hW => ?_)) ?_
   ·obtain ⟨nd, rfl⟩ := hW; have z0 := drew_cell nd hc2; have z1 := drew_cell nd hc3; first | (go_simp; done) | (go_simp; (try simp only [i64_w]); rfl) | (go_simp; simp; rfl)
   try simp only [Act.put, List.setIfInBounds_toArray, List.set_cons_zero, List.set_cons_succ]
   refine AnyEvents.obs_cons ?v4_7 (val_hole (by simp only [List.getD_cons_zero, List.getD_cons_succ])) (AnyEvents.ob_plain (v := ?v4_7) rfl rfl rfl same (by simp only [List.getD_cons_zero, List.getD_cons_succ]) (fun ph W' hwn hW => ?_)) ?_
   ·obtain ⟨nd, rfl⟩ := hW; have z0 := drew_cell nd hc2; have z1 := drew_cell nd hc3; first | (go_simp; done) | (go_simp; (try simp only [i64_w]); rfl) | (go_simp; simp; rfl)
   try simp only [Act.put, List.setIfInBounds_toArray, List.set_cons_zero, List.set_cons_succ]
   refine AnyEvents.obs_cons ?v4_8 (val_hole (by simp only [List.getD_cons_zero, List.getD_cons_succ])) (AnyEvents.ob_plain (v := ?v4_8) rfl rfl rfl same (by simp only [List.getD_cons_zero, List.getD_cons_succ]) (fun ph W' hwn hW => ?_)) ?_
   ·obtain ⟨nd, rfl⟩ := hW; have z0 := drew_cell nd hc2; have z1 := drew_cell nd hc3; first | (go_simp; done) | (go_simp; (try simp only [i64_w]); rfl) | (go_simp; simp; rfl)
   try simp only [Act.put, List.setIfInBounds_toArray, List.set_cons_zero, List.set_cons_succ]
   refine AnyEvents.obs_cons ?v4_9 (val_hole (by simp only [List.getD_cons_zero, List.getD_cons_succ])) (AnyEvents.ob_plain (v := ?v4_9) rfl rfl rfl same (by simp only [List.getD_cons_zero, List.getD_cons_succ]) (fun ph W' hwn hW => ?_)) ?_
   ·obtain ⟨nd, rfl⟩ := hW; have z0 := drew_cell nd hc2; have z1 := drew_cell nd hc3; first | (go_simp; done) | (go_simp; (try simp only [i64_w]); rfl) | (go_simp; simp; rfl)
   try simp only [Act.put, List.setIfInBounds_toArray, List.set_cons_zero, List.set_cons_succ]
   refine AnyEvents.obs_cons ?v4_10 (val_hole (by simp only [List.getD_cons_zero, List.getD_cons_succ])) (AnyEvents.ob_plain (v := ?v4_10) rfl rfl rfl same (by simp only [List.getD_cons_zero, List.getD_cons_succ]) (fun ph W' hwn hW => ?_)) ?_
   ·obtain ⟨nd, rfl⟩ := hW; have z0 := drew_cell nd hc2; have z1 := drew_cell nd hc3; first | (go_simp; done) | (go_simp; (try simp only [i64_w]); rfl) | (go_simp; simp; rfl)
   try simp only [Act.put, List.setIfInBounds_toArray, List.set_cons_zero, List.set_cons_succ]
   refine AnyEvents.obs_cons ?v4_11 (val_hole (by simp only [List.getD_cons_zero, List.getD_cons_succ])) (AnyEvents.ob_plain (v := ?v4_11) rfl rfl rfl same (by simp only [List.getD_cons_zero, List.getD_cons_succ]) (fun ph W' hwn hW => ?_)) ?_
   ·obtain ⟨nd, rfl⟩ := hW; have z0 := drew_cell nd hc2; have z1 := drew_cell nd hc3; first | (go_simp; done) | (go_simp; (try simp only [i64_w]); rfl) | (go_simp; simp; rfl)
   try simp only [Act.put, List.setIfInBounds_toArray, List.set_cons_zero, List.set_cons_succ]
   refine AnyEvents.obs_cons ?v4_12 (val_hole (by simp only [List.getD_cons_zero, List.getD_cons_succ])) (AnyEvents.ob_plain (v := ?v4_12) rfl rfl rfl same (by simp only [List.getD_cons_zero, List.getD_cons_succ]) (fun ph W' hwn hW => ?_)) ?_
   ·obtain ⟨nd, rfl⟩ := hW; have z0 := drew_cell nd hc2; have z1 := drew_cell nd hc3; first | (go_simp; done) | (go_simp; (try simp only [i64_w]); rfl) | (go_simp; simp; rfl)
   try simp only [Act.put, List.setIfInBounds_toArray, List.set_cons_zero, List.set_cons_succ]
   refine AnyEvents.obs_cons ?v4_13 (val_hole (by simp only [List.getD_cons_zero, List.getD_cons_succ])) (AnyEvents.ob_plain (v := ?v4_13) rfl rfl rfl same (by simp only [List.getD_cons_zero, List.getD_cons_succ]) (fun ph W' hwn hW => ?_)) ?_
   ·obtain ⟨nd, rfl⟩ := hW; have z0 := drew_cell nd hc2; have z1 := drew_cell nd hc3; first | (go_simp; done) | (go_simp; (try simp only [i64_w]); rfl) | (go_simp; simp; rfl)
   try simp only [Act.put, List.setIfInBounds_toArray, List.set_cons_zero, List.set_cons_succ]
   trivial
  case fin4r =>
   intro x W' hD _
   simp only [List.take_succ_cons, List.take_zero, List.drop_succ_cons, List.drop_zero]
   rw [AnyOrder.lexAt_cons ?v4_0 (val_hole (by simp only [List.getD_cons_zero, List.getD_cons_succ]))]
   try simp only [Act.put, List.setIfInBounds_toArray, List.set_cons_zero, List.set_cons_succ]
   rw [AnyOrder.lexAt_cons ?v4_1 (val_hole (by simp only [List.getD_cons_zero, List.getD_cons_succ]))]
   try simp only [Act.put, List.setIfInBounds_toArray, List.set_cons_zero, List.set_cons_succ]
   rw [AnyOrder.lexAt_cons ?v4_2 (val_hole (by simp only [List.getD_cons_zero, List.getD_cons_succ]))]
   try simp only [Act.put, List.setIfInBounds_toArray, List.set_cons_zero, List.set_cons_succ]
   rw [AnyOrder.lexAt_cons ?v4_3 (val_hole (by simp only [List.getD_cons_zero, List.getD_cons_succ]))]
   try simp only [Act.put, List.setIfInBounds_toArray, List.set_cons_zero, List.set_cons_succ]
   rw [AnyOrder.lexAt_cons ?v4_4 (val_hole (by simp only [List.getD_cons_zero, List.getD_cons_succ]))]
   try simp only [Act.put, List.setIfInBounds_toArray, List.set_cons_zero, List.set_cons_succ]
   rw [AnyOrder.lexAt_cons ?v4_5 (val_hole (by simp only [List.getD_cons_zero, List.getD_cons_succ]))]
   try simp only [Act.put, List.setIfInBounds_toArray, List.set_cons_zero, List.set_cons_succ]
   rw [AnyOrder.lexAt_cons ?v4_6 (val_hole (by simp only [List.getD_cons_zero, List.getD_cons_succ]))]
   try simp only [Act.put, List.setIfInBounds_toArray, List.set_cons_zero, List.set_cons_succ]
   rw [AnyOrder.lexAt_cons ?v4_7 (val_hole (by simp only [List.getD_cons_zero, List.getD_cons_succ]))]
   try simp only [Act.put, List.setIfInBounds_toArray, List.set_cons_zero, List.set_cons_succ]
   rw [AnyOrder.lexAt_cons ?v4_8 (val_hole (by simp only [List.getD_cons_zero, List.getD_cons_succ]))]
   try simp only [Act.put, List.setIfInBounds_toArray, List.set_cons_zero, List.set_cons_succ]
   rw [AnyOrder.lexAt_cons ?v4_9 (val_hole (by simp only [List.getD_cons_zero, List.getD_cons_succ]))]
   try simp only [Act.put, List.setIfInBounds_toArray, List.set_cons_zero, List.set_cons_succ]
   rw [AnyOrder.lexAt_cons ?v4_10 (val_hole (by simp only [List.getD_cons_zero, List.getD_cons_succ]))]
   try simp only [Act.put, List.setIfInBounds_toArray, List.set_cons_zero, List.set_cons_succ]
   rw [AnyOrder.lexAt_cons ?v4_11 (val_hole (by simp only [List.getD_cons_zero, List.getD_cons_succ]))]
   try simp only [Act.put, List.setIfInBounds_toArray, List.set_cons_zero, List.set_cons_succ]
   rw [AnyOrder.lexAt_cons ?v4_12 (val_hole (by simp only [List.getD_cons_zero, List.getD_cons_succ]))]
   try simp only [Act.put, List.setIfInBounds_toArray, List.set_cons_zero, List.set_cons_succ]
   rw [AnyOrder.lexAt_cons ?v4_13 (val_hole (by simp only [List.getD_cons_zero, List.getD_cons_succ]))]
   try simp only [Act.put, List.setIfInBounds_toArray, List.set_cons_zero, List.set_cons_succ]
   rw [AnyOrder.lexAt_nil]
   clear same
   obtain ⟨nd, rfl⟩ := hD
   rw [HN.out]
   go_upto_region 4 with fail
   have HIs := Aside0.mk (show QAt (w.drewN nd) w0.heap.size g q from HI.out.drawn rfl)
   have HBs := Aside0.mk (pw_below_drewN HB.out nd)
   have HKs := Aside0.mk (show KeepG g w (w.drewN nd) from KeepG.of_below (pw_below_drewN (Below.refl _ _) nd))
   clear hbg hge hle hcm hc0 hc1 hc2 hc3 hc4 hf0 hf1 hf2 hf3 hf4 HQ
   clear HI HB
   have HI := HIs; have HB := HBs
   clear HIs HBs b2
   generalize w.drewN nd = W1 at HI HB HKs ⊢
   obtain ⟨Az, cz, ⟨hbg, hge⟩, ⟨hle, hcm⟩, ⟨hc0, hc1, hc2, hc3, hc4⟩, ⟨hf0, hf1, hf2, hf3, hf4⟩, HQ⟩ := HI.out.cell
   have same : ∀ (ph : Nat) W', Drawn0 W1 W' → True := fun _ _ _ => trivial
   refine AnyEvents.region_then 8 (E := []) (C := fun (_ : Nat) W' => Drawn0 W1 W') (G := fun _ _ _ _ => True) (T := []) (R := fun _ _ _ _ => True) (vs := [?v6_0, ?v6_1, ?v6_2, ?v6_3, ?v6_4, ?v6_5, (.string (cutS s 0 n)), ?v6_7]) (by kernel_rfl) (by kernel_rfl) rfl (by kernel_rfl) ?hc6r same (fun _ _ _ _ _ _ _ _ _ => trivial) (fun _ h => nomatch h) (fun x => ?obs6r) ?fin6r
   case hc6r => exact ⟨1, rfl⟩
   case obs6r =>
    refine AnyEvents.obs_cons ?v6_0 (val_hole (by simp only [List.getD_cons_zero, List.getD_cons_succ])) (AnyEvents.ob_plain (v := ?v6_0) rfl rfl rfl same (by simp only [List.getD_cons_zero, List.getD_cons_succ]) (fun ph W' hwn hW => ?_)) ?_
    ·obtain ⟨nd, rfl⟩ := hW; have z0 := drew_cell nd hc3; first | (go_simp; done) | (go_simp; (try simp only [i64_w]); rfl) | (go_simp; simp; rfl)
    try simp only [Act.put, List.setIfInBounds_toArray, List.set_cons_zero, List.set_cons_succ]
    refine AnyEvents.obs_cons ?v6_1 (val_hole (by simp only [List.getD_cons_zero, List.getD_cons_succ])) (AnyEvents.ob_plain (v := ?v6_1) rfl rfl rfl same (by simp only [List.getD_cons_zero, List.getD_cons_succ]) (fun ph W' hwn hW => ?_)) ?_
    ·obtain ⟨nd, rfl⟩ := hW; have z0 := drew_cell nd hc3; first | (go_simp; done) | (go_simp; (try simp only [i64_w]); rfl) | (go_simp; simp; rfl)
    try simp only [Act.put, List.setIfInBounds_toArray, List.set_cons_zero, List.set_cons_succ]
    refine AnyEvents.obs_cons ?v6_2 (val_hole (by simp only [List.getD_cons_zero, List.getD_cons_succ])) (AnyEvents.ob_plain (v := ?v6_2) rfl rfl rfl same (by simp only [List.getD_cons_zero, List.getD_cons_succ]) (fun ph W' hwn hW => ?_)) ?_
    ·obtain ⟨nd, rfl⟩ := hW; have z0 := drew_cell nd hc3; first | (go_simp; done) | (go_simp; (try simp only [i64_w]); rfl) | (go_simp; simp; rfl)
    try simp only [Act.put, List.setIfInBounds_toArray, List.set_cons_zero, List.set_cons_succ]
    refine AnyEvents.obs_cons ?v6_3 (val_hole (by simp only [List.getD_cons_zero, List.getD_cons_succ])) (AnyEvents.ob_plain (v := ?v6_3) rfl rfl rfl same (by simp only [List.getD_cons_zero, List.getD_cons_succ]) (fun ph W' hwn hW => ?_)) ?_
    ·obtain ⟨nd, rfl⟩ := hW; have z0 := drew_cell nd hc3; first | (go_simp; done) | (go_simp; (try simp only [i64_w]); rfl) | (go_simp; simp; rfl)
    try simp only [Act.put, List.setIfInBounds_toArray, List.set_cons_zero, List.set_cons_succ]
    refine AnyEvents.obs_cons ?v6_4 (val_hole (by simp only [List.getD_cons_zero, List.getD_cons_succ])) (AnyEvents.ob_plain (v := ?v6_4) rfl rfl rfl same (by simp only [List.getD_cons_zero, List.getD_cons_succ]) (fun ph W' hwn hW => ?_)) ?_
    ·obtain ⟨nd, rfl⟩ := hW; have z0 := drew_cell nd hc3; first | (go_simp; done) | (go_simp; (try simp only [i64_w]); rfl) | (go_simp; simp; rfl)
    try simp only [Act.put, List.setIfInBounds_toArray, List.set_cons_zero, List.set_cons_succ]
    refine AnyEvents.obs_cons ?v6_5 (val_hole (by simp only [List.getD_cons_zero, List.getD_cons_succ])) (AnyEvents.ob_plain (v := ?v6_5) rfl rfl rfl same (by simp only [List.getD_cons_zero, List.getD_cons_succ]) (fun ph W' hwn hW => ?_)) ?_
    ·obtain ⟨nd, rfl⟩ := hW; have z0 := drew_cell nd hc3; first | (go_simp; done) | (go_simp; (try simp only [i64_w]); rfl) | (go_simp; simp; rfl)
    try simp only [Act.put, List.setIfInBounds_toArray, List.set_cons_zero, List.set_cons_succ]
    refine AnyEvents.obs_cons (.string (cutS s 0 n)) (val_hole (by simp only [List.getD_cons_zero, List.getD_cons_succ])) (AnyEvents.ob_plain (v := (.string (cutS s 0 n))) rfl rfl rfl same (by simp only [List.getD_cons_zero, List.getD_cons_succ]) (fun ph W' hwn hW => ?_)) ?_
    ·obtain ⟨nd, rfl⟩ := hW; refine (run_sl_to (j := (n : Int)) (s := s) Try.underlying9 rfl rfl rfl (by omega) (by have := HL.out; omega)).trans ?_; rw [Int.toNat_natCast]
    try simp only [Act.put, List.setIfInBounds_toArray, List.set_cons_zero, List.set_cons_succ]
    refine AnyEvents.obs_cons ?v6_7 (val_hole (by simp only [List.getD_cons_zero, List.getD_cons_succ])) (AnyEvents.ob_plain (v := ?v6_7) rfl rfl rfl same (by simp only [List.getD_cons_zero, List.getD_cons_succ]) (fun ph W' hwn hW => ?_)) ?_
    ·obtain ⟨nd, rfl⟩ := hW; have z0 := drew_cell nd hc3; refine (run_concat (s := q.s) (s' := cutS s 0 n) Try.underlying9 rfl rfl rfl (by have := HL.out; have := cutS_szle s 0 n; omega)).trans ?_; rfl
    try simp only [Act.put, List.setIfInBounds_toArray, List.set_cons_zero, List.set_cons_succ]
    trivial
   case fin6r =>
    intro x W' hD _
    simp only [List.take_succ_cons, List.take_zero, List.drop_succ_cons, List.drop_zero]
    rw [AnyOrder.lexAt_cons ?v6_0 (val_hole (by simp only [List.getD_cons_zero, List.getD_cons_succ]))]
    try simp only [Act.put, List.setIfInBounds_toArray, List.set_cons_zero, List.set_cons_succ]
    rw [AnyOrder.lexAt_cons ?v6_1 (val_hole (by simp only [List.getD_cons_zero, List.getD_cons_succ]))]
    try simp only [Act.put, List.setIfInBounds_toArray, List.set_cons_zero, List.set_cons_succ]
    rw [AnyOrder.lexAt_cons ?v6_2 (val_hole (by simp only [List.getD_cons_zero, List.getD_cons_succ]))]
    try simp only [Act.put, List.setIfInBounds_toArray, List.set_cons_zero, List.set_cons_succ]
    rw [AnyOrder.lexAt_cons ?v6_3 (val_hole (by simp only [List.getD_cons_zero, List.getD_cons_succ]))]
    try simp only [Act.put, List.setIfInBounds_toArray, List.set_cons_zero, List.set_cons_succ]
    rw [AnyOrder.lexAt_cons ?v6_4 (val_hole (by simp only [List.getD_cons_zero, List.getD_cons_succ]))]
    try simp only [Act.put, List.setIfInBounds_toArray, List.set_cons_zero, List.set_cons_succ]
    rw [AnyOrder.lexAt_cons ?v6_5 (val_hole (by simp only [List.getD_cons_zero, List.getD_cons_succ]))]
    try simp only [Act.put, List.setIfInBounds_toArray, List.set_cons_zero, List.set_cons_succ]
    rw [AnyOrder.lexAt_cons (.string (cutS s 0 n)) (val_hole (by simp only [List.getD_cons_zero, List.getD_cons_succ]))]
    try simp only [Act.put, List.setIfInBounds_toArray, List.set_cons_zero, List.set_cons_succ]
    rw [AnyOrder.lexAt_cons ?v6_7 (val_hole (by simp only [List.getD_cons_zero, List.getD_cons_succ]))]
    try simp only [Act.put, List.setIfInBounds_toArray, List.set_cons_zero, List.set_cons_succ]
    rw [AnyOrder.lexAt_nil]
    clear same
    obtain ⟨nd2, rfl⟩ := hD
    go_wp2
    go_ret2
    exact ⟨rfl, (HI.out.drawn (w' := W1.drewN nd2) rfl).set 3 _ rfl (fun _ => rfl), below_set (pw_below_drewN HB.out nd2) (HI.out.ge), HKs.out.trans ((KeepG.of_below (pw_below_drewN (Below.refl _ _) nd2)).trans (KeepG.set g 3 _ _))⟩
 ·go_enter Try.func10, Try.ntmps10
  go_upto_region 1 with fail
  have same : ∀ (ph : Nat) W', Drawn0 w W' → True := fun _ _ _ => trivial
  refine AnyEvents.region_then 14 (E := []) (C := fun (_ : Nat) W' => Drawn0 w W') (G := fun _ _ _ _ => True) (T := []) (R := fun _ _ _ _ => True) (vs := [?v5_0, ?v5_1, ?v5_2, ?v5_3, ?v5_4, ?v5_5, ?v5_6, ?v5_7, ?v5_8, ?v5_9, ?v5_10, ?v5_11, ?v5_12, ?v5_13]) (by kernel_rfl) (by kernel_rfl) rfl (by kernel_rfl) ?hc5r same (fun _ _ _ _ _ _ _ _ _ => trivial) (fun _ h => nomatch h) (fun x => ?obs5r) ?fin5r
  case hc5r => exact ⟨1, rfl⟩
  case obs5r =>
   refine AnyEvents.obs_cons ?v5_0 (val_hole (by simp only [List.getD_cons_zero, List.getD_cons_succ])) (AnyEvents.ob_plain (v := ?v5_0) rfl rfl rfl same (by simp only [List.getD_cons_zero, List.getD_cons_succ]) (fun ph W' hwn hW => ?_)) ?_
   ·obtain ⟨nd, rfl⟩ := hW; have z0 := drew_cell nd hc2; have z1 := drew_cell nd hc3; first | (go_simp; done) | (go_simp; (try simp only [i64_w]); rfl) | (go_simp; simp; rfl)
   try simp only [Act.put, List.setIfInBounds_toArray, List.set_cons_zero, List.set_cons_succ]
   refine AnyEvents.obs_cons ?v5_1 (val_hole (by simp only [List.getD_cons_zero, List.getD_cons_succ])) (AnyEvents.ob_plain (v := ?v5_1) rfl rfl rfl same (by simp only [List.getD_cons_zero, List.getD_cons_succ]) (fun ph W' hwn hW => ?_)) ?_
   ·obtain ⟨nd, rfl⟩ := hW; have z0 := drew_cell nd hc2; have z1 := drew_cell nd hc3; first | (go_simp; done) | (go_simp; (try simp only [i64_w]); rfl) | (go_simp; simp; rfl)
   try simp only [Act.put, List.setIfInBounds_toArray, List.set_cons_zero, List.set_cons_succ]
   refine AnyEvents.obs_cons ?v5_2 (val_hole (by simp only [List.getD_cons_zero, List.getD_cons_succ])) (AnyEvents.ob_plain (v := ?v5_2) rfl rfl rfl same (by simp only [List.getD_cons_zero, List.getD_cons_succ]) (fun ph W' hwn hW => ?_)) ?_
   ·obtain ⟨nd, rfl⟩ := hW; have z0 := drew_cell nd hc2; have z1 := drew_cell nd hc3; first | (go_simp; done) | (go_simp; (try simp only [i64_w]); rfl) | (go_simp; simp; rfl)
   try simp only [Act.put, List.setIfInBounds_toArray, List.set_cons_zero, List.set_cons_succ]
   refine AnyEvents.obs_cons ?v5_3 (val_hole (by simp only [List.getD_cons_zero, List.getD_cons_succ])) (AnyEvents.ob_plain (v := ?v5_3) rfl rfl rfl same (by simp only [List.getD_cons_zero, List.getD_cons_succ]) (fun ph W' hwn hW => ?_)) ?_
   ·obtain ⟨nd, rfl⟩ := hW; have z0 := drew_cell nd hc2; have z1 := drew_cell nd hc3; first | (go_simp; done) | (go_simp; (try simp only [i64_w]); rfl) | (go_simp; simp; rfl)
   try simp only [Act.put, List.setIfInBounds_toArray, List.set_cons_zero, List.set_cons_succ]
   refine AnyEvents.obs_cons ?v5_4 (val_hole (by simp only [List.getD_cons_zero, List.getD_cons_succ])) (AnyEvents.ob_plain (v := ?v5_4) rfl rfl rfl same (by simp only [List.getD_cons_zero, List.getD_cons_succ]) (fun ph W' hwn hW => ?_)) ?_
   ·obtain ⟨nd, rfl⟩ := hW; have z0 := drew_cell nd hc2; have z1 := drew_cell nd hc3; first | (go_simp; done) | (go_simp; (try simp only [i64_w]); rfl) | (go_simp; simp; rfl)
   try simp only [Act.put, List.setIfInBounds_toArray, List.set_cons_zero, List.set_cons_succ]
   refine AnyEvents.obs_cons ?v5_5 (val_hole (by simp only [List.getD_cons_zero, List.getD_cons_succ])) (AnyEvents.ob_plain (v := ?v5_5) rfl rfl rfl same (by simp only [List.getD_cons_zero, List.getD_cons_succ]) (fun ph W' hwn hW => ?_)) ?_
   ·obtain ⟨nd, rfl⟩ := hW; have z0 := drew_cell nd hc2; have z1 := drew_cell nd hc3; first | (go_simp; done) | (go_simp; (try simp only [i64_w]); rfl) | (go_simp; simp; rfl)
   try simp only [Act.put, List.setIfInBounds_toArray, List.set_cons_zero, List.set_cons_succ]
   refine AnyEvents.obs_cons ?v5_6 (val_hole (by simp only [List.getD_cons_zero, List.getD_cons_succ])) (AnyEvents.ob_plain (v := ?v5_6) rfl rfl rfl same (by simp only [List.getD_cons_zero, List.getD_cons_succ]) (fun ph W' hwn hW => ?_)) ?_
   ·obtain ⟨nd, rfl⟩ := hW; have z0 := drew_cell nd hc2; have z1 := drew_cell nd hc3; first | (go_simp; done) | (go_simp; (try simp only [i64_w]); rfl) | (go_simp; simp; rfl)
   try simp only [Act.put, List.setIfInBounds_toArray, List.set_cons_zero, List.set_cons_succ]
   refine AnyEvents.obs_cons ?v5_7 (val_hole (by simp only [List.getD_cons_zero, List.getD_cons_succ])) (AnyEvents.ob_plain (v := ?v5_7) rfl rfl rfl same (by simp only [List.getD_cons_zero, List.getD_cons_succ]) (fun ph W' hwn hW => ?_)) ?_
   ·obtain ⟨nd, rfl⟩ := hW; have z0 := drew_cell nd hc2; have z1 := drew_cell nd hc3; first | (go_simp; done) | (go_simp; (try simp only [i64_w]); rfl) | (go_simp; simp; rfl)
   try simp only [Act.put, List.setIfInBounds_toArray, List.set_cons_zero, List.set_cons_succ]
   refine AnyEvents.obs_cons ?v5_8 (val_hole (by simp only [List.getD_cons_zero, List.getD_cons_succ])) (AnyEvents.ob_plain (v := ?v5_8) rfl rfl rfl same (by simp only [List.getD_cons_zero, List.getD_cons_succ]) (fun ph W' hwn hW => ?_)) ?_
   ·obtain ⟨nd, rfl⟩ := hW; have z0 := drew_cell nd hc2; have z1 := drew_cell nd hc3; first | (go_simp; done) | (go_simp; (try simp only [i64_w]); rfl) | (go_simp; simp; rfl)
   try simp only [Act.put, List.setIfInBounds_toArray, List.set_cons_zero, List.set_cons_succ]
   refine AnyEvents.obs_cons ?v5_9 (val_hole (by simp only [List.getD_cons_zero, List.getD_cons_succ])) (AnyEvents.ob_plain (v := ?v5_9) rfl rfl rfl same (by simp only [List.getD_cons_zero, List.getD_cons_succ]) (fun ph W' hwn hW => ?_)) ?_
   ·obtain ⟨nd, rfl⟩ := hW; have z0 := drew_cell nd hc2; have z1 := drew_cell nd hc3; first | (go_simp; done) | (go_simp; (try simp only [i64_w]); rfl) | (go_simp; simp; rfl)
   try simp only [Act.put, List.setIfInBounds_toArray, List.set_cons_zero, List.set_cons_succ]
   refine AnyEvents.obs_cons ?v5_10 (val_hole (by simp only [List.getD_cons_zero, List.getD_cons_succ])) (AnyEvents.ob_plain (v := ?v5_10) rfl rfl rfl same (by simp only [List.getD_cons_zero, List.getD_cons_succ]) (fun ph W' hwn hW => ?_)) ?_
   ·obtain ⟨nd, rfl⟩ := hW; have z0 := drew_cell nd hc2; have z1 := drew_cell nd hc3; first | (go_simp; done) | (go_simp; (try simp only [i64_w]); rfl) | (go_simp; simp; rfl)
   try simp only [Act.put, List.setIfInBounds_toArray, List.set_cons_zero, List.set_cons_succ]
   refine AnyEvents.obs_cons ?v5_11 (val_hole (by simp only [List.getD_cons_zero, List.getD_cons_succ])) (AnyEvents.ob_plain (v := ?v5_11) rfl rfl rfl same (by simp only [List.getD_cons_zero, List.getD_cons_succ]) (fun ph W' hwn hW => ?_)) ?_
   ·obtain ⟨nd, rfl⟩ := hW; have z0 := drew_cell nd hc2; have z1 := drew_cell nd hc3; first | (go_simp; done) | (go_simp; (try simp only [i64_w]); rfl) | (go_simp; simp; rfl)
   try simp only [Act.put, List.setIfInBounds_toArray, List.set_cons_zero, List.set_cons_succ]
   refine AnyEvents.obs_cons ?v5_12 (val_hole (by simp only [List.getD_cons_zero, List.getD_cons_succ])) (AnyEvents.ob_plain (v := ?v5_12) rfl rfl rfl same (by simp only [List.getD_cons_zero, List.getD_cons_succ]) (fun ph W' hwn hW => ?_)) ?_
   ·obtain ⟨nd, rfl⟩ := hW; have z0 := drew_cell nd hc2; have z1 := drew_cell nd hc3; first | (go_simp; done) | (go_simp; (try simp only [i64_w]); rfl) | (go_simp; simp; rfl)
   try simp only [Act.put, List.setIfInBounds_toArray, List.set_cons_zero, List.set_cons_succ]
   refine AnyEvents.obs_cons ?v5_13 (val_hole (by simp only [List.getD_cons_zero, List.getD_cons_succ])) (AnyEvents.ob_plain (v := ?v5_13) rfl rfl rfl same (by simp only [List.getD_cons_zero, List.getD_cons_succ]) (fun ph W' hwn hW => ?_)) ?_
   ·obtain ⟨nd, rfl⟩ := hW; have z0 := drew_cell nd hc2; have z1 := drew_cell nd hc3; first | (go_simp; done) | (go_simp; (try simp only [i64_w]); rfl) | (go_simp; simp; rfl)
   try simp only [Act.put, List.setIfInBounds_toArray, List.set_cons_zero, List.set_cons_succ]
   trivial
  case fin5r =>
   intro x W' hD _
   simp only [List.take_succ_cons, List.take_zero, List.drop_succ_cons, List.drop_zero]
   rw [AnyOrder.lexAt_cons ?v5_0 (val_hole (by simp only [List.getD_cons_zero, List.getD_cons_succ]))]
   try simp only [Act.put, List.setIfInBounds_toArray, List.set_cons_zero, List.set_cons_succ]
   rw [AnyOrder.lexAt_cons ?v5_1 (val_hole (by simp only [List.getD_cons_zero, List.getD_cons_succ]))]
   try simp only [Act.put, List.setIfInBounds_toArray, List.set_cons_zero, List.set_cons_succ]
   rw [AnyOrder.lexAt_cons ?v5_2 (val_hole (by simp only [List.getD_cons_zero, List.getD_cons_succ]))]
   try simp only [Act.put, List.setIfInBounds_toArray, List.set_cons_zero, List.set_cons_succ]
   rw [AnyOrder.lexAt_cons ?v5_3 (val_hole (by simp only [List.getD_cons_zero, List.getD_cons_succ]))]
   try simp only [Act.put, List.setIfInBounds_toArray, List.set_cons_zero, List.set_cons_succ]
   rw [AnyOrder.lexAt_cons ?v5_4 (val_hole (by simp only [List.getD_cons_zero, List.getD_cons_succ]))]
   try simp only [Act.put, List.setIfInBounds_toArray, List.set_cons_zero, List.set_cons_succ]
   rw [AnyOrder.lexAt_cons ?v5_5 (val_hole (by simp only [List.getD_cons_zero, List.getD_cons_succ]))]
   try simp only [Act.put, List.setIfInBounds_toArray, List.set_cons_zero, List.set_cons_succ]
   rw [AnyOrder.lexAt_cons ?v5_6 (val_hole (by simp only [List.getD_cons_zero, List.getD_cons_succ]))]
   try simp only [Act.put, List.setIfInBounds_toArray, List.set_cons_zero, List.set_cons_succ]
   rw [AnyOrder.lexAt_cons ?v5_7 (val_hole (by simp only [List.getD_cons_zero, List.getD_cons_succ]))]
   try simp only [Act.put, List.setIfInBounds_toArray, List.set_cons_zero, List.set_cons_succ]
   rw [AnyOrder.lexAt_cons ?v5_8 (val_hole (by simp only [List.getD_cons_zero, List.getD_cons_succ]))]
   try simp only [Act.put, List.setIfInBounds_toArray, List.set_cons_zero, List.set_cons_succ]
   rw [AnyOrder.lexAt_cons ?v5_9 (val_hole (by simp only [List.getD_cons_zero, List.getD_cons_succ]))]
   try simp only [Act.put, List.setIfInBounds_toArray, List.set_cons_zero, List.set_cons_succ]
   rw [AnyOrder.lexAt_cons ?v5_10 (val_hole (by simp only [List.getD_cons_zero, List.getD_cons_succ]))]
   try simp only [Act.put, List.setIfInBounds_toArray, List.set_cons_zero, List.set_cons_succ]
   rw [AnyOrder.lexAt_cons ?v5_11 (val_hole (by simp only [List.getD_cons_zero, List.getD_cons_succ]))]
   try simp only [Act.put, List.setIfInBounds_toArray, List.set_cons_zero, List.set_cons_succ]
   rw [AnyOrder.lexAt_cons ?v5_12 (val_hole (by simp only [List.getD_cons_zero, List.getD_cons_succ]))]
   try simp only [Act.put, List.setIfInBounds_toArray, List.set_cons_zero, List.set_cons_succ]
   rw [AnyOrder.lexAt_cons ?v5_13 (val_hole (by simp only [List.getD_cons_zero, List.getD_cons_succ]))]
   try simp only [Act.put, List.setIfInBounds_toArray, List.set_cons_zero, List.set_cons_succ]
   rw [AnyOrder.lexAt_nil]
   clear same
   obtain ⟨nd, rfl⟩ := hD
   rw [HN.out]
   go_upto_region 4 with fail
   have HIs := Aside0.mk (show QAt (w.drewN nd) w0.heap.size g q from HI.out.drawn rfl)
   have HBs := Aside0.mk (pw_below_drewN HB.out nd)
   have HKs := Aside0.mk (show KeepG g w (w.drewN nd) from KeepG.of_below (pw_below_drewN (Below.refl _ _) nd))
   clear hbg hge hle hcm hc0 hc1 hc2 hc3 hc4 hf0 hf1 hf2 hf3 hf4 HQ
   clear HI HB
   have HI := HIs; have HB := HBs
   clear HIs HBs b2
   generalize w.drewN nd = W1 at HI HB HKs ⊢
   obtain ⟨Az, cz, ⟨hbg, hge⟩, ⟨hle, hcm⟩, ⟨hc0, hc1, hc2, hc3, hc4⟩, ⟨hf0, hf1, hf2, hf3, hf4⟩, HQ⟩ := HI.out.cell
   have same : ∀ (ph : Nat) W', Drawn0 W1 W' → True := fun _ _ _ => trivial
   refine AnyEvents.region_then 8 (E := []) (C := fun (_ : Nat) W' => Drawn0 W1 W') (G := fun _ _ _ _ => True) (T := []) (R := fun _ _ _ _ => True) (vs := [?v7_0, ?v7_1, ?v7_2, ?v7_3, ?v7_4, ?v7_5, (.string (cutS s 0 n)), ?v7_7]) (by kernel_rfl) (by kernel_rfl) rfl (by kernel_rfl) ?hc7r same (fun _ _ _ _ _ _ _ _ _ => trivial) (fun _ h => nomatch h) (fun x => ?obs7r) ?fin7r
   case hc7r => exact ⟨1, rfl⟩
   case obs7r =>
    refine AnyEvents.obs_cons ?v7_0 (val_hole (by simp only [List.getD_cons_zero, List.getD_cons_succ])) (AnyEvents.ob_plain (v := ?v7_0) rfl rfl rfl same (by simp only [List.getD_cons_zero, List.getD_cons_succ]) (fun ph W' hwn hW => ?_)) ?_
    ·obtain ⟨nd, rfl⟩ := hW; have z0 := drew_cell nd hc3; first | (go_simp; done) | (go_simp; (try simp only [i64_w]); rfl) | (go_simp; simp; rfl)
    try simp only [Act.put, List.setIfInBounds_toArray, List.set_cons_zero, List.set_cons_succ]
    refine AnyEvents.obs_cons ?v7_1 (val_hole (by simp only [List.getD_cons_zero, List.getD_cons_succ])) (AnyEvents.ob_plain (v := ?v7_1) rfl rfl rfl same (by simp only [List.getD_cons_zero, List.getD_cons_succ]) (fun ph W' hwn hW => ?_)) ?_
    ·obtain ⟨nd, rfl⟩ := hW; have z0 := drew_cell nd hc3; first | (go_simp; done) | (go_simp; (try simp only [i64_w]); rfl) | (go_simp; simp; rfl)
    try simp only [Act.put, List.setIfInBounds_toArray, List.set_cons_zero, List.set_cons_succ]
    refine AnyEvents.obs_cons ?v7_2 (val_hole (by simp only [List.getD_cons_zero, List.getD_cons_succ])) (AnyEvents.ob_plain (v := ?v7_2) rfl rfl rfl same (by simp only [List.getD_cons_zero, List.getD_cons_succ]) (fun ph W' hwn hW => ?_)) ?_
    ·obtain ⟨nd, rfl⟩ := hW; have z0 := drew_cell nd hc3; first | (go_simp; done) | (go_simp; (try simp only [i64_w]); rfl) | (go_simp; simp; rfl)
    try simp only [Act.put, List.setIfInBounds_toArray, List.set_cons_zero, List.set_cons_succ]
    refine AnyEvents.obs_cons ?v7_3 (val_hole (by simp only [List.getD_cons_zero, List.getD_cons_succ])) (AnyEvents.ob_plain (v := ?v7_3) rfl rfl rfl same (by simp only [List.getD_cons_zero, List.getD_cons_succ]) (fun ph W' hwn hW => ?_)) ?_
    ·obtain ⟨nd, rfl⟩ := hW; have z0 := drew_cell nd hc3; first | (go_simp; done) | (go_simp; (try simp only [i64_w]); rfl) | (go_simp; simp; rfl)
    try simp only [Act.put, List.setIfInBounds_toArray, List.set_cons_zero, List.set_cons_succ]
    refine AnyEvents.obs_cons ?v7_4 (val_hole (by simp only [List.getD_cons_zero, List.getD_cons_succ])) (AnyEvents.ob_plain (v := ?v7_4) rfl rfl rfl same (by simp only [List.getD_cons_zero, List.getD_cons_succ]) (fun ph W' hwn hW => ?_)) ?_
    ·obtain ⟨nd, rfl⟩ := hW; have z0 := drew_cell nd hc3; first | (go_simp; done) | (go_simp; (try simp only [i64_w]); rfl) | (go_simp; simp; rfl)
    try simp only [Act.put, List.setIfInBounds_toArray, List.set_cons_zero, List.set_cons_succ]
    refine AnyEvents.obs_cons ?v7_5 (val_hole (by simp only [List.getD_cons_zero, List.getD_cons_succ])) (AnyEvents.ob_plain (v := ?v7_5) rfl rfl rfl same (by simp only [List.getD_cons_zero, List.getD_cons_succ]) (fun ph W' hwn hW => ?_)) ?_
    ·obtain ⟨nd, rfl⟩ := hW; have z0 := drew_cell nd hc3; first | (go_simp; done) | (go_simp; (try simp only [i64_w]); rfl) | (go_simp; simp; rfl)
    try simp only [Act.put, List.setIfInBounds_toArray, List.set_cons_zero, List.set_cons_succ]
    refine AnyEvents.obs_cons (.string (cutS s 0 n)) (val_hole (by simp only [List.getD_cons_zero, List.getD_cons_succ])) (AnyEvents.ob_plain (v := (.string (cutS s 0 n))) rfl rfl rfl same (by simp only [List.getD_cons_zero, List.getD_cons_succ]) (fun ph W' hwn hW => ?_)) ?_
    ·obtain ⟨nd, rfl⟩ := hW; refine (run_sl_to (j := (n : Int)) (s := s) Try.underlying9 rfl rfl rfl (by omega) (by have := HL.out; omega)).trans ?_; rw [Int.toNat_natCast]
    try simp only [Act.put, List.setIfInBounds_toArray, List.set_cons_zero, List.set_cons_succ]
    refine AnyEvents.obs_cons ?v7_7 (val_hole (by simp only [List.getD_cons_zero, List.getD_cons_succ])) (AnyEvents.ob_plain (v := ?v7_7) rfl rfl rfl same (by simp only [List.getD_cons_zero, List.getD_cons_succ]) (fun ph W' hwn hW => ?_)) ?_
    ·obtain ⟨nd, rfl⟩ := hW; have z0 := drew_cell nd hc3; refine (run_concat (s := q.s) (s' := cutS s 0 n) Try.underlying9 rfl rfl rfl (by have := HL.out; have := cutS_szle s 0 n; omega)).trans ?_; rfl
    try simp only [Act.put, List.setIfInBounds_toArray, List.set_cons_zero, List.set_cons_succ]
    trivial
   case fin7r =>
    intro x W' hD _
    simp only [List.take_succ_cons, List.take_zero, List.drop_succ_cons, List.drop_zero]
    rw [AnyOrder.lexAt_cons ?v7_0 (val_hole (by simp only [List.getD_cons_zero, List.getD_cons_succ]))]
    try simp only [Act.put, List.setIfInBounds_toArray, List.set_cons_zero, List.set_cons_succ]
    rw [AnyOrder.lexAt_cons ?v7_1 (val_hole (by simp only [List.getD_cons_zero, List.getD_cons_succ]))]
    try simp only [Act.put, List.setIfInBounds_toArray, List.set_cons_zero, List.set_cons_succ]
    rw [AnyOrder.lexAt_cons ?v7_2 (val_hole (by simp only [List.getD_cons_zero, List.getD_cons_succ]))]
    try simp only [Act.put, List.setIfInBounds_toArray, List.set_cons_zero, List.set_cons_succ]
    rw [AnyOrder.lexAt_cons ?v7_3 (val_hole (by simp only [List.getD_cons_zero, List.getD_cons_succ]))]
    try simp only [Act.put, List.setIfInBounds_toArray, List.set_cons_zero, List.set_cons_succ]
    rw [AnyOrder.lexAt_cons ?v7_4 (val_hole (by simp only [List.getD_cons_zero, List.getD_cons_succ]))]
    try simp only [Act.put, List.setIfInBounds_toArray, List.set_cons_zero, List.set_cons_succ]
    rw [AnyOrder.lexAt_cons ?v7_5 (val_hole (by simp only [List.getD_cons_zero, List.getD_cons_succ]))]
    try simp only [Act.put, List.setIfInBounds_toArray, List.set_cons_zero, List.set_cons_succ]
    rw [AnyOrder.lexAt_cons (.string (cutS s 0 n)) (val_hole (by simp only [List.getD_cons_zero, List.getD_cons_succ]))]
    try simp only [Act.put, List.setIfInBounds_toArray, List.set_cons_zero, List.set_cons_succ]
    rw [AnyOrder.lexAt_cons ?v7_7 (val_hole (by simp only [List.getD_cons_zero, List.getD_cons_succ]))]
    try simp only [Act.put, List.setIfInBounds_toArray, List.set_cons_zero, List.set_cons_succ]
    rw [AnyOrder.lexAt_nil]
    clear same
    obtain ⟨nd2, rfl⟩ := hD
    go_wp2
    go_ret2
    exact ⟨rfl, (HI.out.drawn (w' := W1.drewN nd2) rfl).set 3 _ rfl (fun _ => rfl), below_set (pw_below_drewN HB.out nd2) (HI.out.ge), HKs.out.trans ((KeepG.of_below (pw_below_drewN (Below.refl _ _) nd2)).trans (KeepG.set g 3 _ _))⟩


/-! ### seq_within: function 25 -/
def seq_within.f (a0 : Int) (a1 : Int) (a2 : Int) : Option (Bool) := if a0 ≥ a1 then (some (decide (a0 ≤ a2))) else (some false)
set_option maxHeartbeats 8000000 in
set_option maxRecDepth 100000 in
theorem seq_within.calls (a0 : Int) (a1 : Int) (a2 : Int) (r : Bool) (w : World) (h : seq_within.f a0 a1 a2 = some r) :
  Calls Try.prog 25 #[.int .i64 a0, .int .i64 a1, .int .i64 a2] w fun e w' => e = .returned (.bool r) ∧ Drawn0 w w' := by
 have H : (if a0 ≥ a1 then (some (decide (a0 ≤ a2))) else (some false)) = some r := h
 clear h
 by_cases c4 : a0 ≥ a1
 ·rw [if_pos c4] at H
  have c4b0 : decide (a1 ≤ a0) = true := decide_eq_true c4
  clear c4
  obtain rfl := Option.some.inj H
  go_enter Try.func25, Try.ntmps25
  go_wp2
  go_ret
  exact ⟨by first | rfl | (simp; done) | (simp [*]; done), by repeat (first | exact Drawn0.refl _ | apply Drawn0.step)⟩
 ·rw [if_neg c4] at H
  have c4b0 : decide (a1 ≤ a0) = false := decide_eq_false c4
  clear c4
  obtain rfl := Option.some.inj H
  go_enter Try.func25, Try.ntmps25
  go_wp2
  go_ret
  exact ⟨by first | rfl | (simp; done) | (simp [*]; done), by repeat (first | exact Drawn0.refl _ | apply Drawn0.step)⟩

/-! ### seq_Add: function 11 -/
def seq_Add.f (a0 : Int) (a1 : Int) : Option (Int × Int) := (seq_Check.f a0).bind fun t101 => (if t101 = 0 then ((seq_within.f a1 (-4294967296) 4294967296).bind fun t102 => (if t102 = true then (some (Go.bits .and .i64 (wrap64 (a0 + a1)) 4294967295, 0)) else (some (0, 1)))) else (some (0, 1)))
set_option maxHeartbeats 8000000 in
set_option maxRecDepth 100000 in
theorem seq_Add.calls (a0 : Int) (a1 : Int) (r1 : Int) (r2 : Int) (w : World) (h : seq_Add.f a0 a1 = some (r1, r2)) :
  Calls Try.prog 11 #[.int .i64 a0, .int .i64 a1] w fun e w' => e = .returned (.tuple #[.int .i64 r1, .int .i64 r2]) ∧ Drawn0 w w' := by
 have H : ((seq_Check.f a0).bind fun t101 => (if t101 = 0 then ((seq_within.f a1 (-4294967296) 4294967296).bind fun t102 => (if t102 = true then (some (Go.bits .and .i64 (wrap64 (a0 + a1)) 4294967295, 0)) else (some (0, 1)))) else (some (0, 1)))) = some (r1, r2) := h
 clear h
 replace H := Option.bind_eq_some_iff.mp H
 obtain ⟨t101, A30, H⟩ := H
 replace H : (if t101 = 0 then ((seq_within.f a1 (-4294967296) 4294967296).bind fun t102 => (if t102 = true then (some (Go.bits .and .i64 (wrap64 (a0 + a1)) 4294967295, 0)) else (some (0, 1)))) else (some (0, 1))) = some (r1, r2) := H
 have A3 := Aside0.mk A30
 clear A30
 by_cases c4 : t101 = 0
 ·rw [if_pos c4] at H
  have c4b0 : (t101 == 0) = true := beq_iff_eq.mpr c4
  have c4b1 : (t101 != 0) = false := bne_eq_false_iff_eq.mpr c4
  clear c4
  replace H := Option.bind_eq_some_iff.mp H
  obtain ⟨t102, A50, H⟩ := H
  replace H : (if t102 = true then (some (Go.bits .and .i64 (wrap64 (a0 + a1)) 4294967295, 0)) else (some (0, 1))) = some (r1, r2) := H
  have A5 := Aside0.mk A50
  clear A50
  by_cases c6 : t102 = true
  ·subst c6
   have H1 : (some (Go.bits .and .i64 (wrap64 (a0 + a1)) 4294967295, 0)) = some (r1, r2) := by rw [if_pos rfl] at H; exact H
   clear H
   have H := H1
   clear H1
   simp only [Option.some.injEq, Prod.mk.injEq] at H
   obtain ⟨rfl, rfl⟩ := H
   go_enter Try.func11, Try.ntmps11
   go_wp2_with (first | ((with_reducible refine gate_callee (f := 24) rfl ?_); refine goesL_ (some 7) rfl rfl Try.func24 (by kernel_rfl) rfl #[.int .i64 a0] rfl (by (try simp only [List.map_toArray, List.map_cons, List.map_nil]); first | done | rfl | (simp only [List.length_drop, List.length_take]; rfl)) ?_; (with_reducible refine (seq_Check.calls a0 t101 _ A3.out).mono ?_); rintro e w' ⟨rfl, ⟨nd, rfl⟩⟩; refine ⟨_, rfl, ?_⟩) | (go_at_call 25; (with_reducible refine (seq_within.calls a1 (-4294967296) 4294967296 true _ A5.out).mono ?_); rintro e w' ⟨rfl, ⟨nd, rfl⟩⟩))
   go_ret2
   exact ⟨by first | rfl | (simp; done) | (simp [*]; done), by repeat (first | exact Drawn0.refl _ | apply Drawn0.step)⟩
  ·replace c6 := Bool.eq_false_iff.mpr c6
   subst c6
   have H1 : (some (0, 1)) = some (r1, r2) := by rw [if_neg (show ¬ (false = true) by decide)] at H; exact H
   clear H
   have H := H1
   clear H1
   simp only [Option.some.injEq, Prod.mk.injEq] at H
   obtain ⟨rfl, rfl⟩ := H
   go_enter Try.func11, Try.ntmps11
   go_wp2_with (first | ((with_reducible refine gate_callee (f := 24) rfl ?_); refine goesL_ (some 7) rfl rfl Try.func24 (by kernel_rfl) rfl #[.int .i64 a0] rfl (by (try simp only [List.map_toArray, List.map_cons, List.map_nil]); first | done | rfl | (simp only [List.length_drop, List.length_take]; rfl)) ?_; (with_reducible refine (seq_Check.calls a0 t101 _ A3.out).mono ?_); rintro e w' ⟨rfl, ⟨nd, rfl⟩⟩; refine ⟨_, rfl, ?_⟩) | (go_at_call 25; (with_reducible refine (seq_within.calls a1 (-4294967296) 4294967296 false _ A5.out).mono ?_); rintro e w' ⟨rfl, ⟨nd, rfl⟩⟩))
   go_ret2
   exact ⟨by first | rfl | (simp; done) | (simp [*]; done), by repeat (first | exact Drawn0.refl _ | apply Drawn0.step)⟩
 ·rw [if_neg c4] at H
  have c4b0 : (t101 == 0) = false := beq_eq_false_iff_ne.mpr c4
  have c4b1 : (t101 != 0) = true := bne_iff_ne.mpr c4
  simp only [Option.some.injEq, Prod.mk.injEq] at H
  obtain ⟨rfl, rfl⟩ := H
  go_enter Try.func11, Try.ntmps11
  go_wp2_with (first | ((with_reducible refine gate_callee (f := 24) rfl ?_); refine goesL_ (some 7) rfl rfl Try.func24 (by kernel_rfl) rfl #[.int .i64 a0] rfl (by (try simp only [List.map_toArray, List.map_cons, List.map_nil]); first | done | rfl | (simp only [List.length_drop, List.length_take]; rfl)) ?_; (with_reducible refine (seq_Check.calls a0 t101 _ A3.out).mono ?_); rintro e w' ⟨rfl, ⟨nd, rfl⟩⟩; refine ⟨_, rfl, ?_⟩))
  go_ret2
  exact ⟨by first | rfl | (simp; done) | (simp [*]; done), by repeat (first | exact Drawn0.refl _ | apply Drawn0.step)⟩


/-! ### sendq_Queue_at: function 26 (by hand) -/
-- over sendq_New.calls sendq_New.callsR
theorem seqadd_ (a b : Int) (ha : sqOk a) (hb : -4294967296 ≤ b ∧ b ≤ 4294967296) : seq_Add.f a b = some ((a + b) % 4294967296, 0) := by
 have ha' := ha
 unfold sqOk at ha'
 unfold seq_Add.f seq_within.f
 rw [seqcheck_ a, if_pos ha]
 simp only [Option.bind_some]
 rw [if_pos trivial, if_pos (by omega)]
 simp only [Option.bind_some]
 rw [if_pos (decide_eq_true (by omega)), w64p (by omega) (by omega), and_seq]
def QS.at_ (q : QS) (n : Int) : Int := (q.left + n) % 4294967296
set_option maxHeartbeats 4000000 in
set_option maxRecDepth 100000 in
theorem sendq_Queue_at.calls (g : Nat) (q : QS) (n : Int) (w0 w : World) (hI : QAt w w0.heap.size g q) (hl : sqOk q.left) (hn : -4294967296 ≤ n ∧ n ≤ 4294967296) :
  Calls Try.prog 26 #[.pointer (some ⟨g, 0, none⟩), .int .i64 n] w fun e w' => e = .returned (.int .i64 (q.at_ n)) ∧ ∃ nd, w' = w.drewN nd := by
 have HI := Aside0.mk hI
 clear hI
 have HA := Aside0.mk (seqadd_ q.left n hl hn)
 clear hl hn
 obtain ⟨Az, cz, ⟨hbg, hge⟩, ⟨hle, hcm⟩, ⟨hc0, hc1, hc2, hc3, hc4⟩, ⟨hf0, hf1, hf2, hf3, hf4⟩, HQ⟩ := HI.out.cell
 go_enter Try.func26, Try.ntmps26
 go_wp2_with fail
 refine (seq_Add.calls q.left n _ 0 _ HA.out).mono ?_
 rintro e W1 ⟨rfl, nd, rfl⟩
 go_wp2
 go_ret
 exact ⟨rfl, nd, rfl⟩


end Go.Proofs.Ytobndcdohehhbaa.PSendqPlays

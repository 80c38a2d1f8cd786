-- Laid by this claim's own program over the print's words.
import Derived.Test.YtcmpkgmhcbnmbaaPGatePlaysx0
import Derived.Test.YtcmpkgmhcbnmbaaPGatePlaysx1
namespace Go.Proofs.Ytcmpkgmhcbnmbaa.PGatePlays
open Go.RowKit Go.Proofs.YtcmpkgmhcbnmbaaW.PrintWords Go.Proofs.YtcmpkgmhcbnmbaaW.PrintLast Go.Proofs.YtcmpkgmhcbnmbaaW.PrintMore
attribute [local go_sem] max2_int min2_int max_two min_two max_three min_three max_four min_four max_five min_five extract_cut tmod_nat_lit   -- for this text's walks alone
set_option linter.unusedVariables false
set_option linter.unusedSimpArgs false

/-- A state of type 44 at block g of W; what its slices lead to came in by w0. -/
def IsS44 (w0 W : World) (g : Nat) (f0 : Int) (f1 : Int) (f2 : Int) (f3 : Int) (f4 : Int) (f5 : Bool) (f6 : List (S58)) : Prop := ∃ A6 c6, W.heap[g]? = some (.cells #[.int .i64 f0, .int .i64 f1, .int .i64 f2, .int .i64 f3, .int .i64 f4, .bool f5, .slice A6 f6.length c6] 44 (0, 0)) ∧ w0.heap.size ≤ g ∧ Kd.C k58 w0 A6 f6.length f6
theorem IsS44.grown {w0 W : World} {g : Nat} {f0 : Int} {f1 : Int} {f2 : Int} {f3 : Int} {f4 : Int} {f5 : Bool} {f6 : List (S58)} {W1 : World} {row : Option Nat} (h : IsS44 w0 W g f0 f1 f2 f3 f4 f5 f6) (hw : W.grownBy W1 row) (hne : some g ≠ row) : IsS44 w0 W1 g f0 f1 f2 f3 f4 f5 f6 := by
 obtain ⟨A6, c6, hb, hg, hr6⟩ := h
 exact ⟨A6, c6, blk_grown hb hw hne, hg, hr6⟩
theorem IsS44.own_neN {w0 W : World} {g : Nat} {f0 : Int} {f1 : Int} {f2 : Int} {f3 : Int} {f4 : Int} {f5 : Bool} {f6 : List (S58)} {α : Type} {d : Kd α} {e : Nat} {base : Nat} {ok : Nat → Prop} {v : Value} {xs : List α} (h : IsS44 w0 W g f0 f1 f2 f3 f4 f5 f6) (ho : Kd.N d e W base ok v xs) (ht : e ≠ 44) : some g ≠ v.ownBlock := by
 obtain ⟨A6, c6, hb, hg, hr6⟩ := h
 exact Kd.N_ne ho hb ht
theorem IsS44.fresh {w0 W : World} {g : Nat} {f0 : Int} {f1 : Int} {f2 : Int} {f3 : Int} {f4 : Int} {f5 : Bool} {f6 : List (S58)} (h : IsS44 w0 W g f0 f1 f2 f3 f4 f5 f6) : ∀ k, W.heap.size ≤ k → k ≠ g := by
 obtain ⟨A6, c6, hb, hg, hr6⟩ := h
 exact Kd.freshB hb
theorem IsS44.kept {w0 W : World} {g : Nat} {f0 : Int} {f1 : Int} {f2 : Int} {f3 : Int} {f4 : Int} {f5 : Bool} {f6 : List (S58)} {W1 : World} {S : Nat → Prop} (h : IsS44 w0 W g f0 f1 f2 f3 f4 f5 f6) (hk : Kept W W1 S) (hne : ¬ S g) : IsS44 w0 W1 g f0 f1 f2 f3 f4 f5 f6 := by
 obtain ⟨A6, c6, hb, hg, hr6⟩ := h
 exact ⟨A6, c6, blk_kept hb hk hne, hg, hr6⟩
theorem IsS44.below {w0 W : World} {g : Nat} {f0 : Int} {f1 : Int} {f2 : Int} {f3 : Int} {f4 : Int} {f5 : Bool} {f6 : List (S58)} {W1 : World} (h : IsS44 w0 W g f0 f1 f2 f3 f4 f5 f6) (hw : Below W.heap.size W W1) : IsS44 w0 W1 g f0 f1 f2 f3 f4 f5 f6 := h.grown (grown_of_below hw none) (by simp)
theorem IsS44.alloc {w0 W : World} {g : Nat} {f0 : Int} {f1 : Int} {f2 : Int} {f3 : Int} {f4 : Int} {f5 : Bool} {f6 : List (S58)} (h : IsS44 w0 W g f0 f1 f2 f3 f4 f5 f6) (o : Obj) : IsS44 w0 (W.alloc o) g f0 f1 f2 f3 f4 f5 f6 := h.below (below_alloc (Below.refl _ _) o)
theorem IsS44.drewN {w0 W : World} {g : Nat} {f0 : Int} {f1 : Int} {f2 : Int} {f3 : Int} {f4 : Int} {f5 : Bool} {f6 : List (S58)} (h : IsS44 w0 W g f0 f1 f2 f3 f4 f5 f6) (m : Nat) : IsS44 w0 (W.drewN m) g f0 f1 f2 f3 f4 f5 f6 := h
theorem IsS44.drew {w0 W : World} {g : Nat} {f0 : Int} {f1 : Int} {f2 : Int} {f3 : Int} {f4 : Int} {f5 : Bool} {f6 : List (S58)} (h : IsS44 w0 W g f0 f1 f2 f3 f4 f5 f6) : IsS44 w0 W.drew g f0 f1 f2 f3 f4 f5 f6 := h
theorem IsS44.at_ {w0 W : World} {g : Nat} {f0 : Int} {f1 : Int} {f2 : Int} {f3 : Int} {f4 : Int} {f5 : Bool} {f6 : List (S58)} {w' : World} {m : Nat} (hq : W.drewN m = w') (h : IsS44 w0 W g f0 f1 f2 f3 f4 f5 f6) : IsS44 w0 w' g f0 f1 f2 f3 f4 f5 f6 := by subst hq; exact IsS44.drewN h m
theorem IsS44.apart {w0 W : World} {g : Nat} {f0 : Int} {f1 : Int} {f2 : Int} {f3 : Int} {f4 : Int} {f5 : Bool} {f6 : List (S58)} {α : Type} {d : Kd α} {e : Nat} {base : Nat} {ok : Nat → Prop} {v : Value} {xs : List α} (h : IsS44 w0 W g f0 f1 f2 f3 f4 f5 f6) (ho : d.R e W base ok v xs) (ht : ∀ q, q ∈ e :: d.E → q ≠ 44) : d.R e W base (fun k => ok k ∧ k ≠ g) v xs := by
 obtain ⟨A6, c6, hb, hg, hr6⟩ := h
 exact Kd.R_types ho hb ht
theorem IsS44.own_ne {w0 W : World} {g : Nat} {f0 : Int} {f1 : Int} {f2 : Int} {f3 : Int} {f4 : Int} {f5 : Bool} {f6 : List (S58)} {α : Type} {d : Kd α} {e : Nat} {base : Nat} {ok : Nat → Prop} {v : Value} {xs : List α} (h : IsS44 w0 W g f0 f1 f2 f3 f4 f5 f6) (ho : d.R e W base ok v xs) (ht : e ≠ 44) : some g ≠ v.ownBlock := by
 obtain ⟨A6, c6, hb, hg, hr6⟩ := h
 exact Kd.R_ne ho hb ht
theorem IsS44.apartQ {w0 W : World} {g : Nat} {f0 : Int} {f1 : Int} {f2 : Int} {f3 : Int} {f4 : Int} {f5 : Bool} {f6 : List (S58)} {α : Type} {d : Kd α} {e : Nat} {base : Nat} {ok : Nat → Prop} {v : Value} {xs : List α} (h : IsS44 w0 W g f0 f1 f2 f3 f4 f5 f6) (ho : d.Q e W base ok v xs) (ht : ∀ q, q ∈ e :: d.E → q ≠ 44) : d.Q e W base (fun k => ok k ∧ k ≠ g) v xs := by
 obtain ⟨A6, c6, hb, hg, hr6⟩ := h
 exact Kd.Q_types ho hb ht
theorem IsS44.own_neQ {w0 W : World} {g : Nat} {f0 : Int} {f1 : Int} {f2 : Int} {f3 : Int} {f4 : Int} {f5 : Bool} {f6 : List (S58)} {α : Type} {d : Kd α} {e : Nat} {base : Nat} {ok : Nat → Prop} {v : Value} {xs : List α} (h : IsS44 w0 W g f0 f1 f2 f3 f4 f5 f6) (ho : d.Q e W base ok v xs) (ht : e ≠ 44) : some g ≠ v.ownBlock := by
 obtain ⟨A6, c6, hb, hg, hr6⟩ := h
 exact Kd.Q_ne ho hb ht
theorem IsS44.apartS {w0 W : World} {g : Nat} {f0 : Int} {f1 : Int} {f2 : Int} {f3 : Int} {f4 : Int} {f5 : Bool} {f6 : List (S58)} {α : Type} {d : Kd α} {e : Nat} {base : Nat} {ok : Nat → Prop} {v : Value} {xs : List α} (h : IsS44 w0 W g f0 f1 f2 f3 f4 f5 f6) (ho : d.S e W base ok v xs) (ht : ∀ q, q ∈ e :: d.E → q ≠ 44) : d.S e W base (fun k => ok k ∧ k ≠ g) v xs := by
 obtain ⟨A6, c6, hb, hg, hr6⟩ := h
 exact Kd.S_types ho hb ht
theorem IsS44.own_neS {w0 W : World} {g : Nat} {f0 : Int} {f1 : Int} {f2 : Int} {f3 : Int} {f4 : Int} {f5 : Bool} {f6 : List (S58)} {α : Type} {d : Kd α} {e : Nat} {base : Nat} {ok : Nat → Prop} {v : Value} {xs : List α} (h : IsS44 w0 W g f0 f1 f2 f3 f4 f5 f6) (ho : d.S e W base ok v xs) (ht : e ≠ 44) : some g ≠ v.ownBlock := by
 obtain ⟨A6, c6, hb, hg, hr6⟩ := h
 exact Kd.S_ne ho hb ht
theorem IsS44.lt {w0 W : World} {g : Nat} {f0 : Int} {f1 : Int} {f2 : Int} {f3 : Int} {f4 : Int} {f5 : Bool} {f6 : List (S58)} (h : IsS44 w0 W g f0 f1 f2 f3 f4 f5 f6) : g < W.heap.size := by
 obtain ⟨A6, c6, hb, hg, hr6⟩ := h
 exact blk_lt hb
theorem IsS44.ge {w0 W : World} {g : Nat} {f0 : Int} {f1 : Int} {f2 : Int} {f3 : Int} {f4 : Int} {f5 : Bool} {f6 : List (S58)} (h : IsS44 w0 W g f0 f1 f2 f3 f4 f5 f6) : w0.heap.size ≤ g := by
 obtain ⟨A6, c6, hb, hg, hr6⟩ := h
 exact hg
theorem IsS44.ne_blk {w0 W : World} {g : Nat} {f0 : Int} {f1 : Int} {f2 : Int} {f3 : Int} {f4 : Int} {f5 : Bool} {f6 : List (S58)} {a : Nat} {cs : Array Value} {t : TypeId} {fr : Nat × Nat} (h : IsS44 w0 W g f0 f1 f2 f3 f4 f5 f6) (hb2 : W.heap[a]? = some (.cells cs t fr)) (ht : t ≠ 44) : g ≠ a := by
 obtain ⟨A6, c6, hb, hg, hr6⟩ := h
 rintro rfl
 rw [hb] at hb2
 injection hb2 with hb2
 injection hb2 with _ ht2
 exact ht ht2.symm
theorem IsS44.far {w0 W : World} {g : Nat} {f0 : Int} {f1 : Int} {f2 : Int} {f3 : Int} {f4 : Int} {f5 : Bool} {f6 : List (S58)} {p : Addr} (h : IsS44 w0 W g f0 f1 f2 f3 f4 f5 f6) (hne : g ≠ p.block) (u : Value) : IsS44 w0 (W.setCell p u) g f0 f1 f2 f3 f4 f5 f6 := by
 obtain ⟨A6, c6, hb, hg, hr6⟩ := h
 exact ⟨A6, c6, blk_far hb hne u, hg, hr6⟩
theorem cellS44_0 {W : World} {g : Nat} {A6 : Option Addr} {c6 : Nat} {f0 : Int} {f1 : Int} {f2 : Int} {f3 : Int} {f4 : Int} {f5 : Bool} {f6 : List (S58)} (h : W.heap[g]? = some (.cells #[.int .i64 f0, .int .i64 f1, .int .i64 f2, .int .i64 f3, .int .i64 f4, .bool f5, .slice A6 f6.length c6] 44 (0, 0))) : W.cell? ⟨g, 0, none⟩ = some (.int .i64 f0) := (blk_cell h 0).trans rfl
theorem IsS44.set_0 {w0 W : World} {g : Nat} {f0 : Int} {f1 : Int} {f2 : Int} {f3 : Int} {f4 : Int} {f5 : Bool} {f6 : List (S58)} (h : IsS44 w0 W g f0 f1 f2 f3 f4 f5 f6) (x : Int) : IsS44 w0 (W.setCell ⟨g, 0, none⟩ (.int .i64 x)) g x f1 f2 f3 f4 f5 f6 := by
 obtain ⟨A6, c6, hb, hg, hr6⟩ := h
 exact ⟨A6, c6, by simpa using blk_set hb 0 (.int .i64 x), hg, hr6⟩
theorem cellS44_1 {W : World} {g : Nat} {A6 : Option Addr} {c6 : Nat} {f0 : Int} {f1 : Int} {f2 : Int} {f3 : Int} {f4 : Int} {f5 : Bool} {f6 : List (S58)} (h : W.heap[g]? = some (.cells #[.int .i64 f0, .int .i64 f1, .int .i64 f2, .int .i64 f3, .int .i64 f4, .bool f5, .slice A6 f6.length c6] 44 (0, 0))) : W.cell? ⟨g, 1, none⟩ = some (.int .i64 f1) := (blk_cell h 1).trans rfl
theorem IsS44.set_1 {w0 W : World} {g : Nat} {f0 : Int} {f1 : Int} {f2 : Int} {f3 : Int} {f4 : Int} {f5 : Bool} {f6 : List (S58)} (h : IsS44 w0 W g f0 f1 f2 f3 f4 f5 f6) (x : Int) : IsS44 w0 (W.setCell ⟨g, 1, none⟩ (.int .i64 x)) g f0 x f2 f3 f4 f5 f6 := by
 obtain ⟨A6, c6, hb, hg, hr6⟩ := h
 exact ⟨A6, c6, by simpa using blk_set hb 1 (.int .i64 x), hg, hr6⟩
theorem cellS44_2 {W : World} {g : Nat} {A6 : Option Addr} {c6 : Nat} {f0 : Int} {f1 : Int} {f2 : Int} {f3 : Int} {f4 : Int} {f5 : Bool} {f6 : List (S58)} (h : W.heap[g]? = some (.cells #[.int .i64 f0, .int .i64 f1, .int .i64 f2, .int .i64 f3, .int .i64 f4, .bool f5, .slice A6 f6.length c6] 44 (0, 0))) : W.cell? ⟨g, 2, none⟩ = some (.int .i64 f2) := (blk_cell h 2).trans rfl
theorem IsS44.set_2 {w0 W : World} {g : Nat} {f0 : Int} {f1 : Int} {f2 : Int} {f3 : Int} {f4 : Int} {f5 : Bool} {f6 : List (S58)} (h : IsS44 w0 W g f0 f1 f2 f3 f4 f5 f6) (x : Int) : IsS44 w0 (W.setCell ⟨g, 2, none⟩ (.int .i64 x)) g f0 f1 x f3 f4 f5 f6 := by
 obtain ⟨A6, c6, hb, hg, hr6⟩ := h
 exact ⟨A6, c6, by simpa using blk_set hb 2 (.int .i64 x), hg, hr6⟩
theorem cellS44_3 {W : World} {g : Nat} {A6 : Option Addr} {c6 : Nat} {f0 : Int} {f1 : Int} {f2 : Int} {f3 : Int} {f4 : Int} {f5 : Bool} {f6 : List (S58)} (h : W.heap[g]? = some (.cells #[.int .i64 f0, .int .i64 f1, .int .i64 f2, .int .i64 f3, .int .i64 f4, .bool f5, .slice A6 f6.length c6] 44 (0, 0))) : W.cell? ⟨g, 3, none⟩ = some (.int .i64 f3) := (blk_cell h 3).trans rfl
theorem IsS44.set_3 {w0 W : World} {g : Nat} {f0 : Int} {f1 : Int} {f2 : Int} {f3 : Int} {f4 : Int} {f5 : Bool} {f6 : List (S58)} (h : IsS44 w0 W g f0 f1 f2 f3 f4 f5 f6) (x : Int) : IsS44 w0 (W.setCell ⟨g, 3, none⟩ (.int .i64 x)) g f0 f1 f2 x f4 f5 f6 := by
 obtain ⟨A6, c6, hb, hg, hr6⟩ := h
 exact ⟨A6, c6, by simpa using blk_set hb 3 (.int .i64 x), hg, hr6⟩
theorem cellS44_4 {W : World} {g : Nat} {A6 : Option Addr} {c6 : Nat} {f0 : Int} {f1 : Int} {f2 : Int} {f3 : Int} {f4 : Int} {f5 : Bool} {f6 : List (S58)} (h : W.heap[g]? = some (.cells #[.int .i64 f0, .int .i64 f1, .int .i64 f2, .int .i64 f3, .int .i64 f4, .bool f5, .slice A6 f6.length c6] 44 (0, 0))) : W.cell? ⟨g, 4, none⟩ = some (.int .i64 f4) := (blk_cell h 4).trans rfl
theorem IsS44.set_4 {w0 W : World} {g : Nat} {f0 : Int} {f1 : Int} {f2 : Int} {f3 : Int} {f4 : Int} {f5 : Bool} {f6 : List (S58)} (h : IsS44 w0 W g f0 f1 f2 f3 f4 f5 f6) (x : Int) : IsS44 w0 (W.setCell ⟨g, 4, none⟩ (.int .i64 x)) g f0 f1 f2 f3 x f5 f6 := by
 obtain ⟨A6, c6, hb, hg, hr6⟩ := h
 exact ⟨A6, c6, by simpa using blk_set hb 4 (.int .i64 x), hg, hr6⟩
theorem cellS44_5 {W : World} {g : Nat} {A6 : Option Addr} {c6 : Nat} {f0 : Int} {f1 : Int} {f2 : Int} {f3 : Int} {f4 : Int} {f5 : Bool} {f6 : List (S58)} (h : W.heap[g]? = some (.cells #[.int .i64 f0, .int .i64 f1, .int .i64 f2, .int .i64 f3, .int .i64 f4, .bool f5, .slice A6 f6.length c6] 44 (0, 0))) : W.cell? ⟨g, 5, none⟩ = some (.bool f5) := (blk_cell h 5).trans rfl
theorem IsS44.set_5 {w0 W : World} {g : Nat} {f0 : Int} {f1 : Int} {f2 : Int} {f3 : Int} {f4 : Int} {f5 : Bool} {f6 : List (S58)} (h : IsS44 w0 W g f0 f1 f2 f3 f4 f5 f6) (x : Bool) : IsS44 w0 (W.setCell ⟨g, 5, none⟩ (.bool x)) g f0 f1 f2 f3 f4 x f6 := by
 obtain ⟨A6, c6, hb, hg, hr6⟩ := h
 exact ⟨A6, c6, by simpa using blk_set hb 5 (.bool x), hg, hr6⟩
theorem cellS44_6 {W : World} {g : Nat} {A6 : Option Addr} {c6 : Nat} {f0 : Int} {f1 : Int} {f2 : Int} {f3 : Int} {f4 : Int} {f5 : Bool} {f6 : List (S58)} (h : W.heap[g]? = some (.cells #[.int .i64 f0, .int .i64 f1, .int .i64 f2, .int .i64 f3, .int .i64 f4, .bool f5, .slice A6 f6.length c6] 44 (0, 0))) : W.cell? ⟨g, 6, none⟩ = some (.slice A6 f6.length c6) := (blk_cell h 6).trans rfl
theorem IsS44.new (w0 W : World) (A6 : Option Addr) (c6 : Nat) (f0 : Int) (f1 : Int) (f2 : Int) (f3 : Int) (f4 : Int) (f5 : Bool) (f6 : List (S58)) (hB : Below w0.heap.size w0 W) (hr6 : Kd.C k58 w0 A6 f6.length f6) : IsS44 w0 (W.alloc (.cells #[.int .i64 f0, .int .i64 f1, .int .i64 f2, .int .i64 f3, .int .i64 f4, .bool f5, .slice A6 f6.length c6] 44)) W.heap.size f0 f1 f2 f3 f4 f5 f6 := ⟨A6, c6, by simpa using heap_alloc_new W _, hB.size, hr6⟩

/-! ### sternpostref25_New: function 14 (by hand) -/
structure RSt where
 room : Int
 last : Int
 conf : Int
 gone : Int
 lost : Int
 opn : Bool
 l : List (Int × ByteArray)
def fcs (l : List (Int × ByteArray)) : List Value := l.flatMap (fun x => [.int .i64 x.1, .string x.2])
theorem fcs_app (a b : List (Int × ByteArray)) : fcs (a ++ b) = fcs a ++ fcs b := by unfold fcs; rw [List.flatMap_append]
theorem fcs_one : ∀ l : List (Int × ByteArray), (fcs l).all (·.oneCell') = true
 | [] => rfl
 | x :: l => by show (_ :: _ :: fcs l).all _ = true; rw [List.all_cons, List.all_cons, fcs_one l]; rfl
theorem fcs_get : ∀ (l : List (Int × ByteArray)) (i : Nat) (x : Int × ByteArray), l[i]? = some x → (fcs l)[i * 2]? = some (.int .i64 x.1) ∧ (fcs l)[i * 2 + 1]? = some (.string x.2)
 | [], i, x, h => by simp at h
 | y :: l, 0, x, h => by simp at h; subst h; exact ⟨rfl, rfl⟩
 | y :: l, i + 1, x, h => by
  obtain ⟨h1, h2⟩ := fcs_get l i x (by simpa using h)
  rw [Nat.add_mul]
  exact ⟨h1, h2⟩
theorem w64r {x : Int} (h1 : -9223372036854775808 ≤ x) (h2 : x < 9223372036854775808) : wrap64 x = x := by unfold wrap64; omega
def cellsR (r : RSt) (v : Value) : Array Value := #[.int .i64 r.room, .int .i64 r.last, .int .i64 r.conf, .int .i64 r.gone, .int .i64 r.lost, .bool r.opn, v]
def RefAt (w : World) (base g : Nat) (r : RSt) : Prop := ∃ v, w.heap[g]? = some (.cells (cellsR r v) 44 (0, 0)) ∧ base ≤ g ∧ ownsAt w base 58 2 v r.l.length (fcs r.l)
theorem RefAt.kept {w w' : World} {base g : Nat} {r : RSt} (h : RefAt w base g r) (hb : Below w.heap.size w w') : RefAt w' base g r := by
 obtain ⟨v, h1, h2, h3⟩ := h
 exact ⟨v, blk_below h1 hb, h2, ownsAt_below h3 hb⟩
theorem RefAt.keepT {T : List TypeId} {w w' : World} {base g : Nat} {r : RSt} (h : RefAt w base g r) (hk : KeepT T w w') (h1 : 44 ∉ T) (h2 : 58 ∉ T) : RefAt w' base g r := by
 obtain ⟨v, h3, h4, h5⟩ := h
 exact ⟨v, (hk.cells h3 h1).trans h3, h4, ownsAt_keepT h5 hk h2⟩
theorem RefAt.drawn {w w' : World} {base g : Nat} {r : RSt} (h : RefAt w base g r) (he : w'.heap = w.heap) : RefAt w' base g r := by
 obtain ⟨v, h1, h2, h3⟩ := h
 exact ⟨v, by rw [he]; exact h1, h2, ownsAt_kept h3 (fun g cur _ hg => by rw [he])⟩
theorem RefAt.ge {w : World} {base g : Nat} {r : RSt} (h : RefAt w base g r) : base ≤ g := h.choose_spec.2.1
theorem RefAt.set {w : World} {base g : Nat} {r r' : RSt} (h : RefAt w base g r) (k : Nat) (u : Value) (hq : r'.l = r.l) (hc : ∀ v, (cellsR r v).setIfInBounds k u = cellsR r' v) : RefAt (w.setCell ⟨g, k, none⟩ u) base g r' := by
 obtain ⟨v, h1, h2, h3⟩ := h
 have hk := KeepT.set (T := [44]) h1 (by decide) k u
 refine ⟨v, by rw [blk_put h1 k u rfl, hc], h2, ?_⟩
 rw [hq]; exact ownsAt_keepT h3 hk (by decide)
theorem RefAt.keep_set {w0 w : World} {base g : Nat} {r : RSt} (hk : KeepT [44] w0 w) (h : RefAt w base g r) (k : Nat) (u : Value) : KeepT [44] w0 (w.setCell ⟨g, k, none⟩ u) := by
 obtain ⟨v, h1, h2, h3⟩ := h
 exact hk.trans (KeepT.set h1 (by decide) k u)
theorem RefAt.cell {w : World} {base g : Nat} {r : RSt} (h : RefAt w base g r) : ∃ A c, (w.heap[g]? = some (.cells (cellsR r (.slice A r.l.length c)) 44 (0, 0)) ∧ r.l.length ≤ c) ∧ c ≤ maxLen ∧ (w.cell? ⟨g, 0, none⟩ = some (.int .i64 r.room) ∧ w.cell? ⟨g, 1, none⟩ = some (.int .i64 r.last) ∧ w.cell? ⟨g, 2, none⟩ = some (.int .i64 r.conf) ∧ w.cell? ⟨g, 3, none⟩ = some (.int .i64 r.gone)) ∧ (w.cell? ⟨g, 4, none⟩ = some (.int .i64 r.lost) ∧ w.cell? ⟨g, 5, none⟩ = some (.bool r.opn) ∧ w.cell? ⟨g, 6, none⟩ = some (.slice A r.l.length c)) ∧ (w.frozen? ⟨g, 0, none⟩ = false ∧ w.frozen? ⟨g, 1, none⟩ = false ∧ w.frozen? ⟨g, 2, none⟩ = false ∧ w.frozen? ⟨g, 3, none⟩ = false) ∧ (w.frozen? ⟨g, 4, none⟩ = false ∧ w.frozen? ⟨g, 5, none⟩ = false ∧ w.frozen? ⟨g, 6, none⟩ = false) ∧ ownsAt w base 58 2 (.slice A r.l.length c) r.l.length (fcs r.l) := by
 obtain ⟨v, h1, h2, h3⟩ := h
 obtain ⟨A, c, rfl, h5, h6, _⟩ := ownsAt_len h3
 exact ⟨A, c, ⟨h1, h5⟩, h6, ⟨blk_cell h1 0, blk_cell h1 1, blk_cell h1 2, blk_cell h1 3⟩, ⟨blk_cell h1 4, blk_cell h1 5, blk_cell h1 6⟩, ⟨blk_frozen h1 0, blk_frozen h1 1, blk_frozen h1 2, blk_frozen h1 3⟩, ⟨blk_frozen h1 4, blk_frozen h1 5, blk_frozen h1 6⟩, h3⟩
def RSt.new (room : Int) : RSt := ⟨room, 0, 0, 0, 0, true, []⟩
set_option maxHeartbeats 4000000 in
set_option maxRecDepth 100000 in
theorem sternpostref25_New.calls (room : Int) (w0 w : World) (hB : Below w0.heap.size w0 w) (h1 : 1 ≤ room) (h2 : room ≤ 4096) :
  Calls Try.prog 14 #[.int .i64 room] w fun e w' => ∃ g, e = .returned (.tuple #[.pointer (some ⟨g, 0, none⟩), .int .i64 0]) ∧ RefAt w' w0.heap.size g (RSt.new room) ∧ Below w0.heap.size w0 w' ∧ Below w.heap.size w w' ∧ w.heap.size ≤ g := by
 have HB := Aside0.mk hB
 have d1 : decide (room < 1) = false := decide_eq_false (by omega)
 have d2 : decide (4096 < room) = false := decide_eq_false (by omega)
 go_enter Try.func14, Try.ntmps14
 go_wp2_with (first | ((with_reducible refine gate_dst (N := 12) rfl ?_); refine box_event ?hg (N := 12) ?hd (cs := cellsR (RSt.new room) (.slice none 0 0)) (t := 44) ?hr ?_; (case hd => rfl); (case hg => rfl); (case hr => first | (go_simp; done) | (go_simp; rfl)); intro g hg w2 hbox hb; have BX := Aside0.mk hbox; have HB2 := Aside0.mk (below_step HB.out hb); have HB3 := Aside0.mk hb; have GG := Aside0.mk (show w.heap.size ≤ g by rw [hg]; exact Nat.le_refl _); clear hbox hb hg))
 go_ret2
 exact ⟨g, rfl, ⟨_, BX.out, Nat.le_trans HB.out.size GG.out, ownsAt_nil _ _ _ _⟩, HB2.out, HB3.out, GG.out⟩
set_option maxHeartbeats 4000000 in
set_option maxRecDepth 100000 in
theorem sternpostref25_New.bad (room : Int) (w : World) (h1 : room < 1 ∨ 4096 < room) :
  Calls Try.prog 14 #[.int .i64 room] w fun e w' => e = .returned (.tuple #[.pointer none, .int .i64 1]) ∧ w' = w := by
 by_cases h : room < 1
 ·have d1 : decide (room < 1) = true := decide_eq_true h
  go_enter Try.func14, Try.ntmps14
  go_wp2
  go_ret2
  exact ⟨rfl, rfl⟩
 ·have d1 : decide (room < 1) = false := decide_eq_false h
  have d2 : decide (4096 < room) = true := decide_eq_true (by omega)
  clear h1
  go_enter Try.func14, Try.ntmps14
  go_wp2
  go_ret2
  exact ⟨rfl, rfl⟩



/-! ### sternpostref25_Gate_out: function 25 (by hand) -/
def outS (n : Int) : List (Int × ByteArray) → List ByteArray
 | [] => []
 | x :: l => if x.1 ≤ n then x.2 :: outS n l else outS n l
def outL (n : Int) : List (Int × ByteArray) → List (Int × ByteArray)
 | [] => []
 | x :: l => if x.1 ≤ n then outL n l else x :: outL n l
def outG (n : Int) (g : Int) : List (Int × ByteArray) → Int
 | [] => g
 | x :: l => if x.1 ≤ n then outG n (if g < x.1 then x.1 else g) l else outG n g l
def RSt.out (r : RSt) (n : Int) : RSt × List ByteArray := ({ r with l := outL n r.l, gone := outG n r.gone r.l }, outS n r.l)
theorem outS_snoc (n : Int) (x : Int × ByteArray) : ∀ l, outS n (l ++ [x]) = outS n l ++ (if x.1 ≤ n then [x.2] else [])
 | [] => by simp [outS]
 | y :: l => by simp only [List.cons_append, outS, outS_snoc n x l]; split <;> rfl
theorem outL_snoc (n : Int) (x : Int × ByteArray) : ∀ l, outL n (l ++ [x]) = outL n l ++ (if x.1 ≤ n then [] else [x])
 | [] => by simp [outL]
 | y :: l => by simp only [List.cons_append, outL, outL_snoc n x l]; split <;> rfl
theorem outG_snoc (n : Int) (x : Int × ByteArray) : ∀ l g, outG n g (l ++ [x]) = if x.1 ≤ n then (if outG n g l < x.1 then x.1 else outG n g l) else outG n g l
 | [], g => rfl
 | y :: l, g => by simp only [List.cons_append, outG, outG_snoc n x l]; split <;> rfl
theorem outS_le (n : Int) : ∀ l, (outS n l).length ≤ l.length
 | [] => Nat.le_refl _
 | y :: l => by have := outS_le n l; unfold outS; split <;> simp <;> omega
theorem outL_le (n : Int) : ∀ l, (outL n l).length ≤ l.length
 | [] => Nat.le_refl _
 | y :: l => by have := outL_le n l; unfold outL; split <;> simp <;> omega
structure sternpostref25_Gate_out.I (w0 w : World) (g : Nat) (r : RSt) (n : Int) (vq : Value) (k : Nat) (v5 v6 v7 : Value) (W : World) : Prop where
 h : ∃ (i : Nat) (iz : Int), v7 = .int .i64 iz ∧ iz = (i : Int) ∧ k + i = r.l.length ∧ W.heap[g]? = some (.cells (cellsR { r with gone := outG n r.gone (r.l.take i) } vq) 44 (0, 0)) ∧ ownsAt W w.heap.size 9 1 v5 (outS n (r.l.take i)).length (txt (outS n (r.l.take i))) ∧ ownsAt W w.heap.size 58 2 v6 (outL n (r.l.take i)).length (fcs (outL n (r.l.take i))) ∧ Below w0.heap.size w0 W ∧ KeepT [44] w W
set_option maxHeartbeats 4000000 in
set_option maxRecDepth 100000 in
theorem sternpostref25_Gate_out.calls (g : Nat) (r : RSt) (n : Int) (w0 w : World) (hG : RefAt w w0.heap.size g r) (hB : Below w0.heap.size w0 w) (hl : r.l.length ≤ 1073741824) :
  Calls Try.prog 25 #[.pointer (some ⟨g, 0, none⟩), .int .i64 n] w fun e w' => ∃ v, e = .returned v ∧ RefAt w' w0.heap.size g (r.out n).1 ∧ ownsAt w' w.heap.size 9 1 v (r.out n).2.length (txt (r.out n).2) ∧ Below w0.heap.size w0 w' ∧ KeepT [44] w w' := by
 have HI := Aside0.mk hG
 have HB0 := Aside0.mk hB
 have HS0 := Aside0.mk hB.size
 have HGE := Aside0.mk hG.ge
 clear hG hB
 obtain ⟨Az, cz, ⟨hbg, hle⟩, hcm, ⟨hc0, hc1, hc2, hc3⟩, ⟨hc4, hc5, hc6⟩, ⟨hf0, hf1, hf2, hf3⟩, ⟨hf4, hf5, hf6⟩, HQ⟩ := HI.out.cell
 have HBG := Aside0.mk hbg
 have HQ0 := Aside0.mk HQ
 have HLE := Aside0.mk (And.intro hle hcm)
 clear hc0 hc1 hc2 hc3 hc4 hc5 hc6 hf0 hf1 hf2 hf3 hf4 hf5 hf6 HQ hbg HI hle hcm
 go_enter Try.func25, Try.ntmps25
 go_wp2
 go_loopg [5, 6, 7] r.l.length (fun kq v5 v6 v7 W => sternpostref25_Gate_out.I w0 w g r n (.slice Az r.l.length cz) kq v5 v6 v7 W)
 case atStart => exact ⟨0, 0, rfl, rfl, rfl, HBG.out, ownsAt_nil _ _ _ _, ownsAt_nil _ _ _ _, HB0.out, KeepT.refl _ _⟩
 case round =>
  clear HBG HB0
  obtain ⟨⟨i, iz, rfl, hi, hk, i1, i2, i3, i4, i5⟩⟩ := hrel
  have HZ := Aside0.mk hi
  have HK := Aside0.mk hk
  have HV := Aside0.mk i2
  have HU := Aside0.mk i3
  have HBB := Aside0.mk i4
  have HKK := Aside0.mk i5
  have HGG := Aside0.mk i1
  have HQ := Aside0.mk (ownsAt_keepT HQ0.out i5 (by decide))
  clear i2 i3 i4 i5
  obtain ⟨A5, c5, hv5, _⟩ := ownsAt_len HV.out
  obtain ⟨A6, c6, hv6, _⟩ := ownsAt_len HU.out
  subst hv5 hv6
  have hc6 := blk_cell i1 6
  have hf6 := blk_frozen i1 6
  change _ = some (Value.slice Az r.l.length cz) at hc6
  by_cases hlt : iz < (r.l.length : Int)
  ·have d1 : decide (iz < (r.l.length : Int)) = true := decide_eq_true hlt
   have p0 : 0 ≤ iz := by omega
   obtain ⟨k1, rfl⟩ : ∃ k1, gk = k1 + 1 := ⟨gk - 1, by omega⟩
   have hil : i < r.l.length := by omega
   obtain ⟨⟨m, f⟩, hx⟩ : ∃ x, r.l[i]? = some x := ⟨_, List.getElem?_eq_getElem hil⟩
   have HX := Aside0.mk hx
   have HIL := Aside0.mk hil
   have HTK := Aside0.mk (show r.l.take (i + 1) = r.l.take i ++ [(m, f)] by rw [List.take_add_one, hx]; rfl)
   obtain ⟨hq, oq, rfl, hcells⟩ := ownsAt_cells HQ.out (by omega)
   obtain ⟨g1, g2⟩ := fcs_get r.l i (m, f) hx
   have hq0 := hcells _ _ g1
   have hq1 := hcells _ _ g2
   rw [← Nat.add_assoc] at hq1
   have hz0 := ownsAt_frozen HQ.out (oq + i * 2)
   have hz1 := ownsAt_frozen HQ.out (oq + i * 2 + 1)
   have hn : wrap64 (iz + 1) = ((i + 1 : Nat) : Int) := by rw [w64r (by omega) (by omega)]; omega
   have HN := Aside0.mk hn
   have tn : iz.toNat = i := by omega
   have HTN := Aside0.mk tn
   have HSL := Aside0.mk (show (outS n (r.l.take i)).length + 1 ≤ 1073741824 ∧ (outL n (r.l.take i)).length + 1 ≤ 1073741824 by
    have h1 := outS_le n (r.l.take i); have h2 := outL_le n (r.l.take i); rw [List.length_take] at h1 h2; omega)
   clear hcells g1 g2 hx hi hk hil hn
   replace p0 := eq_true p0
   replace hlt := eq_true hlt
   obtain ⟨ls, hls⟩ : ∃ l_, outS n (r.l.take i) = l_ := ⟨_, rfl⟩
   obtain ⟨ll, hll⟩ : ∃ l_, outL n (r.l.take i) = l_ := ⟨_, rfl⟩
   obtain ⟨gi, hgi⟩ : ∃ l_, outG n r.gone (r.l.take i) = l_ := ⟨_, rfl⟩
   rw [hls] at HV HSL ⊢
   rw [hll] at HU HSL ⊢
   rw [hgi] at HGG
   have HLS := Aside0.mk hls
   have HLL := Aside0.mk hll
   have HGI := Aside0.mk hgi
   clear hls hll hgi i1
   by_cases hm : m ≤ n
   ·have d2 : decide (m ≤ n) = true := decide_eq_true hm
    have HM := Aside0.mk hm
    have hb1 := below_alloc (Below.refl wr.heap.size wr) (Obj.cells #[.string f] 9)
    have HL := Aside0.mk (ownsAt_lit wr #[.string f] 9 1 1 rfl (by decide))
    have HV1 := Aside0.mk (ownsAt_below HV.out hb1)
    have HU1 := Aside0.mk (ownsAt_below HU.out hb1)
    have HQ1 := Aside0.mk (ownsAt_below HQ.out hb1)
    have HGG1 := Aside0.mk (blk_below HGG.out hb1)
    have HBB1 := Aside0.mk (below_step HBB.out hb1)
    have HKK1 := Aside0.mk (HKK.out.trans (KeepT.of_below hb1))
    clear hm HV HU HQ HGG HBB HKK hb1
    go_upto_region 8 with (first | ((with_reducible refine gate_dst (N := 37) rfl ?_); refine wl_append 28 9 (.string (⟨#[]⟩ : ByteArray)) 1 16 rfl rfl Try.underlying28 (by kernel_rfl) rfl (by decide) (v := .slice A5 ls.length c5) rfl rfl HV1.out HL.out rfl (by have := HSL.out; simp only [maxLen]; omega) (by have := HSL.out; omega) HKK1.out.1 (fun v8 W8 hv8 hg8 _ => ?_); have HV8 := Aside0.mk hv8; have HG8 := Aside0.mk hg8; clear hv8 hg8))
    have hrow : ∀ b, Value.ownBlock (.slice A5 ls.length c5) = some b → w.heap.size ≤ b ∧ ∃ cur, (wr.alloc (Obj.cells #[.string f] 9)).heap[b]? = some (Obj.cells cur 9 (0, 0)) := fun b hb => ownsAt_block HV1.out hb
    have hk8 : KeepT [9] (wr.alloc (Obj.cells #[.string f] 9)) W8 := KeepT.of_grown HG8.out (fun b hb => by obtain ⟨_, cur, hc⟩ := hrow b hb; exact ⟨cur, _, hc, by decide⟩)
    have hg8 := (hk8.cells HGG1.out (by decide)).trans HGG1.out
    have hu8 := ownsAt_keepT HU1.out hk8 (by decide)
    have hq8 := ownsAt_keepT HQ1.out hk8 (by decide)
    have hb8 := below_of_grown HBB1.out HG8.out HBB1.out.size (fun b hb => Nat.le_trans HS0.out (hrow b hb).1)
    have hkk8 := HKK1.out.grown_new HG8.out (fun b hb => (hrow b hb).1)
    obtain ⟨A8, c8, rfl, _⟩ := ownsAt_len HV8.out
    clear hrow hk8 HV1 HU1 HQ1 HGG1 HBB1 HKK1 HG8 HL hc6 hf6 hq0 hq1 hz0 hz1
    have HA8 := Aside0.mk (And.intro hg8 (And.intro HV8.out (And.intro hu8 (And.intro hq8 (And.intro hb8 hkk8)))))
    have hc3 := blk_cell hg8 3
    have hf3 := blk_frozen hg8 3
    change _ = some (Value.int .i64 gi) at hc3
    have hc6 := blk_cell hg8 6
    have hf6 := blk_frozen hg8 6
    change _ = some (Value.slice (some ⟨hq, oq, none⟩) r.l.length cz) at hc6
    obtain ⟨hq_, oq_, he_, hcells⟩ := ownsAt_cells hq8 (by have := HIL.out; omega)
    injection he_ with he_; injection he_ with he1 he2 _; subst he1 he2
    obtain ⟨g1, g2⟩ := fcs_get r.l i (m, f) HX.out
    have hq0 := hcells _ _ g1
    have hz0 := ownsAt_frozen hq8 (oq + i * 2)
    clear hg8 hu8 hq8 hb8 hkk8 HV8 hcells g1 g2
    have same : ∀ (p : Nat) W', Drawn0 W8 W' → True := fun _ _ _ => trivial
    refine AnyEvents.region_then 14 (E := []) (C := fun (_ : Nat) W' => Drawn0 W8 W') (G := fun _ _ _ _ => True) (T := []) (R := fun _ _ _ _ => True) (vs := [(.pointer (some ⟨g, 0, none⟩)), (.pointer (some ⟨g, 0, none⟩)), (.pointer (some ⟨g, 0, none⟩)), (.pointer (some ⟨g, 3, none⟩)), (.int .i64 gi), (.pointer (some ⟨g, 0, none⟩)), (.pointer (some ⟨g, 0, none⟩)), (.pointer (some ⟨g, 6, none⟩)), (.slice (some ⟨hq, oq, none⟩) r.l.length cz), (.int .i64 iz), (.pointer (some ⟨hq, oq + i * 2, none⟩)), (.pointer (some ⟨hq, oq + i * 2, none⟩)), (.int .i64 m), (.int .i64 (if gi < m then m else gi))]) (by kernel_rfl) (by kernel_rfl) rfl (by kernel_rfl) ?hc0 same (fun _ _ _ _ _ _ _ _ _ => trivial) (fun _ h => nomatch h) (fun x => ?obs) ?fin
    case hc0 => exact ⟨1, rfl⟩
    case obs =>
     refine AnyEvents.obs_cons (.pointer (some ⟨g, 0, none⟩)) rfl (AnyEvents.ob_plain rfl rfl rfl same rfl (fun p W' hwn hW => ?_)) ?_
     ·obtain ⟨nd, rfl⟩ := hW; first | rfl | (go_simp; done) | (go_simp; rfl) | (go_simp; simp only [i64_w]; done)
     try simp only [Act.put, List.setIfInBounds_toArray, List.set_cons_zero, List.set_cons_succ]
     refine AnyEvents.obs_cons (.pointer (some ⟨g, 0, none⟩)) rfl (AnyEvents.ob_plain rfl rfl rfl same rfl (fun p W' hwn hW => ?_)) ?_
     ·obtain ⟨nd, rfl⟩ := hW; first | rfl | (go_simp; done) | (go_simp; rfl) | (go_simp; simp only [i64_w]; done)
     try simp only [Act.put, List.setIfInBounds_toArray, List.set_cons_zero, List.set_cons_succ]
     refine AnyEvents.obs_cons (.pointer (some ⟨g, 0, none⟩)) rfl (AnyEvents.ob_plain rfl rfl rfl same rfl (fun p W' hwn hW => ?_)) ?_
     ·obtain ⟨nd, rfl⟩ := hW; first | rfl | (go_simp; done) | (go_simp; rfl) | (go_simp; simp only [i64_w]; done)
     try simp only [Act.put, List.setIfInBounds_toArray, List.set_cons_zero, List.set_cons_succ]
     refine AnyEvents.obs_cons (.pointer (some ⟨g, 3, none⟩)) rfl (AnyEvents.ob_plain rfl rfl rfl same rfl (fun p W' hwn hW => ?_)) ?_
     ·obtain ⟨nd, rfl⟩ := hW; first | rfl | (go_simp; done) | (go_simp; rfl) | (go_simp; simp only [i64_w]; done)
     try simp only [Act.put, List.setIfInBounds_toArray, List.set_cons_zero, List.set_cons_succ]
     refine AnyEvents.obs_cons (.int .i64 gi) rfl (AnyEvents.ob_plain rfl rfl rfl same rfl (fun p W' hwn hW => ?_)) ?_
     ·obtain ⟨nd, rfl⟩ := hW; have z0 : (W8.drewN nd).cell? ⟨g, 3, none⟩ = some (.int .i64 gi) := hc3; have z1 : (W8.drewN nd).frozen? ⟨g, 3, none⟩ = false := hf3; first | rfl | (go_simp; done) | (go_simp; rfl) | (go_simp; simp only [i64_w]; done)
     try simp only [Act.put, List.setIfInBounds_toArray, List.set_cons_zero, List.set_cons_succ]
     refine AnyEvents.obs_cons (.pointer (some ⟨g, 0, none⟩)) rfl (AnyEvents.ob_plain rfl rfl rfl same rfl (fun p W' hwn hW => ?_)) ?_
     ·obtain ⟨nd, rfl⟩ := hW; first | rfl | (go_simp; done) | (go_simp; rfl) | (go_simp; simp only [i64_w]; done)
     try simp only [Act.put, List.setIfInBounds_toArray, List.set_cons_zero, List.set_cons_succ]
     refine AnyEvents.obs_cons (.pointer (some ⟨g, 0, none⟩)) rfl (AnyEvents.ob_plain rfl rfl rfl same rfl (fun p W' hwn hW => ?_)) ?_
     ·obtain ⟨nd, rfl⟩ := hW; first | rfl | (go_simp; done) | (go_simp; rfl) | (go_simp; simp only [i64_w]; done)
     try simp only [Act.put, List.setIfInBounds_toArray, List.set_cons_zero, List.set_cons_succ]
     refine AnyEvents.obs_cons (.pointer (some ⟨g, 6, none⟩)) rfl (AnyEvents.ob_plain rfl rfl rfl same rfl (fun p W' hwn hW => ?_)) ?_
     ·obtain ⟨nd, rfl⟩ := hW; first | rfl | (go_simp; done) | (go_simp; rfl) | (go_simp; simp only [i64_w]; done)
     try simp only [Act.put, List.setIfInBounds_toArray, List.set_cons_zero, List.set_cons_succ]
     refine AnyEvents.obs_cons (.slice (some ⟨hq, oq, none⟩) r.l.length cz) rfl (AnyEvents.ob_plain rfl rfl rfl same rfl (fun p W' hwn hW => ?_)) ?_
     ·obtain ⟨nd, rfl⟩ := hW; have z0 : (W8.drewN nd).cell? ⟨g, 6, none⟩ = some (.slice (some ⟨hq, oq, none⟩) r.l.length cz) := hc6; have z1 : (W8.drewN nd).frozen? ⟨g, 6, none⟩ = false := hf6; first | rfl | (go_simp; done) | (go_simp; rfl) | (go_simp; simp only [i64_w]; done)
     try simp only [Act.put, List.setIfInBounds_toArray, List.set_cons_zero, List.set_cons_succ]
     refine AnyEvents.obs_cons (.int .i64 iz) rfl (AnyEvents.ob_plain rfl rfl rfl same rfl (fun p W' hwn hW => ?_)) ?_
     ·obtain ⟨nd, rfl⟩ := hW; first | rfl | (go_simp; done) | (go_simp; rfl) | (go_simp; simp only [i64_w]; done)
     try simp only [Act.put, List.setIfInBounds_toArray, List.set_cons_zero, List.set_cons_succ]
     refine AnyEvents.obs_cons (.pointer (some ⟨hq, oq + i * 2, none⟩)) rfl (AnyEvents.ob_plain rfl rfl rfl same rfl (fun p W' hwn hW => ?_)) ?_
     ·obtain ⟨nd, rfl⟩ := hW; first | rfl | (go_simp; done) | (go_simp; rfl) | (go_simp; simp only [i64_w]; done)
     try simp only [Act.put, List.setIfInBounds_toArray, List.set_cons_zero, List.set_cons_succ]
     refine AnyEvents.obs_cons (.pointer (some ⟨hq, oq + i * 2, none⟩)) rfl (AnyEvents.ob_plain rfl rfl rfl same rfl (fun p W' hwn hW => ?_)) ?_
     ·obtain ⟨nd, rfl⟩ := hW; first | rfl | (go_simp; done) | (go_simp; rfl) | (go_simp; simp only [i64_w]; done)
     try simp only [Act.put, List.setIfInBounds_toArray, List.set_cons_zero, List.set_cons_succ]
     refine AnyEvents.obs_cons (.int .i64 m) rfl (AnyEvents.ob_plain rfl rfl rfl same rfl (fun p W' hwn hW => ?_)) ?_
     ·obtain ⟨nd, rfl⟩ := hW; have z0 : (W8.drewN nd).cell? ⟨hq, oq + i * 2, none⟩ = some (.int .i64 m) := hq0; have z1 : (W8.drewN nd).frozen? ⟨hq, oq + i * 2, none⟩ = false := hz0; first | rfl | (go_simp; done) | (go_simp; rfl) | (go_simp; simp only [i64_w]; done)
     try simp only [Act.put, List.setIfInBounds_toArray, List.set_cons_zero, List.set_cons_succ]
     refine AnyEvents.obs_cons (.int .i64 (if gi < m then m else gi)) rfl (AnyEvents.ob_plain rfl rfl rfl same rfl (fun p W' hwn hW => ?_)) ?_
     ·obtain ⟨nd, rfl⟩ := hW; first | rfl | (go_simp; done) | (go_simp; rfl) | (go_simp; simp only [i64_w]; done)
     try simp only [Act.put, List.setIfInBounds_toArray, List.set_cons_zero, List.set_cons_succ]
     trivial
    case fin =>
     intro x W' hD _
     simp only [List.take_succ_cons, List.take_zero, List.drop_succ_cons, List.drop_zero]
     rw [AnyOrder.lexAt_cons (.pointer (some ⟨g, 0, none⟩)) rfl]
     try simp only [Act.put, List.setIfInBounds_toArray, List.set_cons_zero, List.set_cons_succ]
     rw [AnyOrder.lexAt_cons (.pointer (some ⟨g, 0, none⟩)) rfl]
     try simp only [Act.put, List.setIfInBounds_toArray, List.set_cons_zero, List.set_cons_succ]
     rw [AnyOrder.lexAt_cons (.pointer (some ⟨g, 0, none⟩)) rfl]
     try simp only [Act.put, List.setIfInBounds_toArray, List.set_cons_zero, List.set_cons_succ]
     rw [AnyOrder.lexAt_cons (.pointer (some ⟨g, 3, none⟩)) rfl]
     try simp only [Act.put, List.setIfInBounds_toArray, List.set_cons_zero, List.set_cons_succ]
     rw [AnyOrder.lexAt_cons (.int .i64 gi) rfl]
     try simp only [Act.put, List.setIfInBounds_toArray, List.set_cons_zero, List.set_cons_succ]
     rw [AnyOrder.lexAt_cons (.pointer (some ⟨g, 0, none⟩)) rfl]
     try simp only [Act.put, List.setIfInBounds_toArray, List.set_cons_zero, List.set_cons_succ]
     rw [AnyOrder.lexAt_cons (.pointer (some ⟨g, 0, none⟩)) rfl]
     try simp only [Act.put, List.setIfInBounds_toArray, List.set_cons_zero, List.set_cons_succ]
     rw [AnyOrder.lexAt_cons (.pointer (some ⟨g, 6, none⟩)) rfl]
     try simp only [Act.put, List.setIfInBounds_toArray, List.set_cons_zero, List.set_cons_succ]
     rw [AnyOrder.lexAt_cons (.slice (some ⟨hq, oq, none⟩) r.l.length cz) rfl]
     try simp only [Act.put, List.setIfInBounds_toArray, List.set_cons_zero, List.set_cons_succ]
     rw [AnyOrder.lexAt_cons (.int .i64 iz) rfl]
     try simp only [Act.put, List.setIfInBounds_toArray, List.set_cons_zero, List.set_cons_succ]
     rw [AnyOrder.lexAt_cons (.pointer (some ⟨hq, oq + i * 2, none⟩)) rfl]
     try simp only [Act.put, List.setIfInBounds_toArray, List.set_cons_zero, List.set_cons_succ]
     rw [AnyOrder.lexAt_cons (.pointer (some ⟨hq, oq + i * 2, none⟩)) rfl]
     try simp only [Act.put, List.setIfInBounds_toArray, List.set_cons_zero, List.set_cons_succ]
     rw [AnyOrder.lexAt_cons (.int .i64 m) rfl]
     try simp only [Act.put, List.setIfInBounds_toArray, List.set_cons_zero, List.set_cons_succ]
     rw [AnyOrder.lexAt_cons (.int .i64 (if gi < m then m else gi)) rfl]
     try simp only [Act.put, List.setIfInBounds_toArray, List.set_cons_zero, List.set_cons_succ]
     rw [AnyOrder.lexAt_nil]
     clear same
     obtain ⟨nd, rfl⟩ := hD
     obtain ⟨mg, hmg⟩ : ∃ m_, (if gi < m then m else gi) = m_ := ⟨_, rfl⟩
     rw [hmg]
     have HMG := Aside0.mk hmg
     have ha9 : (W8.drewN nd).heap[g]? = _ ∧ ownsAt (W8.drewN nd) _ _ _ _ _ _ ∧ ownsAt (W8.drewN nd) _ _ _ _ _ _ ∧ ownsAt (W8.drewN nd) _ _ _ _ _ _ ∧ Below w0.heap.size w0 (W8.drewN nd) ∧ KeepT _ w (W8.drewN nd) := ⟨HA8.out.1, HA8.out.2.1, HA8.out.2.2.1, HA8.out.2.2.2.1, pw_below_drewN HA8.out.2.2.2.2.1 nd, HA8.out.2.2.2.2.2⟩
     clear hmg HA8 hc3 hf3 hc6 hf6 hq0 hz0
     generalize W8.drewN nd = W9 at ha9 ⊢
     have hc3 := blk_cell ha9.1 3
     have hf3 := blk_frozen ha9.1 3
     have HA9 := Aside0.mk ha9
     clear ha9
     go_wp2
     go_roundg k1
     case measure => omega
     case rel =>
      have hh := HA9.out
      have hp := blk_put hh.1 3 (.int .i64 mg) rfl
      have hk := KeepT.set (T := [44]) hh.1 (by decide) 3 (.int .i64 mg)
      refine ⟨⟨i + 1, _, rfl, HN.out, by have := HK.out; omega, ?_, ?_, ?_, below_set hh.2.2.2.2.1 HGE.out, hh.2.2.2.2.2.trans hk⟩⟩
      ·rw [HTK.out, outG_snoc, if_pos HM.out, HGI.out]; rw [HMG.out]; exact hp
      ·rw [HTK.out, outS_snoc, if_pos HM.out, HLS.out, List.length_append]; have h := ownsAt_keepT hh.2.1 hk (by decide); simpa [txt] using h
      ·rw [HTK.out, outL_snoc, if_pos HM.out, HLL.out, List.append_nil]; exact ownsAt_keepT hh.2.2.1 hk (by decide)
   ·have d2 : decide (m ≤ n) = false := decide_eq_false hm
    have HM := Aside0.mk hm
    have hb1 := below_alloc (Below.refl wr.heap.size wr) (Obj.cells #[.int .i64 m, .string f] 58)
    have HL := Aside0.mk (ownsAt_lit wr #[.int .i64 m, .string f] 58 2 1 rfl (by decide))
    have HV1 := Aside0.mk (ownsAt_below HV.out hb1)
    have HU1 := Aside0.mk (ownsAt_below HU.out hb1)
    have HGG1 := Aside0.mk (blk_below HGG.out hb1)
    have HBB1 := Aside0.mk (below_step HBB.out hb1)
    have HKK1 := Aside0.mk (HKK.out.trans (KeepT.of_below hb1))
    clear hm HV HU HQ HGG HBB HKK hb1
    go_wp2_with (first | ((with_reducible refine gate_dst (N := 63) rfl ?_); refine wl_append 42 58 (.agg #[.int .i64 0, .string (⟨#[]⟩ : ByteArray)]) 2 24 rfl rfl Try.underlying42 (by kernel_rfl) rfl (by decide) (v := .slice A6 ll.length c6) rfl rfl HU1.out HL.out rfl (by have := HSL.out; simp only [maxLen]; omega) (by have := HSL.out; omega) HKK1.out.1 (fun v8 W8 hv8 hg8 _ => ?_); have HU8 := Aside0.mk hv8; have HG8 := Aside0.mk hg8; clear hv8 hg8))
    go_roundg k1
    case measure => omega
    case rel =>
     have hrow : ∀ b, Value.ownBlock (.slice A6 ll.length c6) = some b → w.heap.size ≤ b ∧ ∃ cur, (wr.alloc (Obj.cells #[.int .i64 m, .string f] 58)).heap[b]? = some (Obj.cells cur 58 (0, 0)) := fun b hb => ownsAt_block HU1.out hb
     have hk8 : KeepT [58] (wr.alloc (Obj.cells #[.int .i64 m, .string f] 58)) W8 := KeepT.of_grown HG8.out (fun b hb => by obtain ⟨_, cur, hc⟩ := hrow b hb; exact ⟨cur, _, hc, by decide⟩)
     refine ⟨⟨i + 1, _, rfl, HN.out, by have := HK.out; omega, ?_, ?_, ?_, below_of_grown HBB1.out HG8.out HBB1.out.size (fun b hb => Nat.le_trans HS0.out (hrow b hb).1), HKK1.out.grown_new HG8.out (fun b hb => (hrow b hb).1)⟩⟩
     ·rw [HTK.out, outG_snoc, if_neg (show ¬ m ≤ n by have := HM.out; omega), HGI.out]; exact (hk8.cells HGG1.out (by decide)).trans HGG1.out
     ·rw [HTK.out, outS_snoc, if_neg (show ¬ m ≤ n by have := HM.out; omega), HLS.out, List.append_nil]; exact ownsAt_keepT HV1.out hk8 (by decide)
     ·rw [HTK.out, outL_snoc, if_neg (show ¬ m ≤ n by have := HM.out; omega), HLL.out, List.length_append, fcs_app]; exact HU8.out
  ·have d1 : decide (iz < (r.l.length : Int)) = false := decide_eq_false hlt
   have hi2 : i = r.l.length := by omega
   have htk : r.l.take i = r.l := by rw [hi2, List.take_length]
   rw [htk] at HV HU HGG ⊢
   clear hi hk hlt hi2 htk i1
   go_wp2
   go_ret
   have hp := blk_put HGG.out 6 (.slice A6 (outL n r.l).length c6) rfl
   have hk := KeepT.set (T := [44]) HGG.out (by decide) 6 (.slice A6 (outL n r.l).length c6)
   exact ⟨_, rfl, ⟨_, hp, HGE.out, ownsAt_base (ownsAt_keepT HU.out hk (by decide)) HS0.out⟩, ownsAt_keepT HV.out hk (by decide), below_set HBB.out HGE.out, HKK.out.trans hk⟩


end Go.Proofs.Ytcmpkgmhcbnmbaa.PGatePlays

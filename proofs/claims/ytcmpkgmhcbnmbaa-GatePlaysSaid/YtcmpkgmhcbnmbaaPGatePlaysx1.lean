-- Laid by this claim's own program over the print's words.
import Derived.Test.YtcmpkgmhcbnmbaaPGatePlaysx0
namespace Go.Proofs.Ytcmpkgmhcbnmbaa.PGatePlays
open Go.RowKit Go.Proofs.YtcmpkgmhcbnmbaaW.PrintWords Go.Proofs.YtcmpkgmhcbnmbaaW.PrintLast Go.Proofs.YtcmpkgmhcbnmbaaW.PrintMore
attribute [local go_sem] max2_int min2_int max_two min_two max_three min_three max_four min_four max_five min_five extract_cut tmod_nat_lit   -- for this text's walks alone
set_option linter.unusedVariables false
set_option linter.unusedSimpArgs false

/-- A state of type 53 at block g of W; what its slices lead to came in by w0. -/
def IsS53 (w0 W : World) (g : Nat) (f0 : Int) (f1 : Int) (f2 : Int) (f3 : Int) (f4 : Int) (f5 : Int) (f6 : Bool) (f7 : List (S56)) : Prop := ∃ A7 c7, W.heap[g]? = some (.cells #[.int .i64 f0, .int .i64 f1, .int .i64 f2, .int .i64 f3, .int .i64 f4, .int .i64 f5, .bool f6, .slice A7 f7.length c7] 53 (0, 0)) ∧ w0.heap.size ≤ g ∧ Kd.C k56 w0 A7 f7.length f7
theorem IsS53.grown {w0 W : World} {g : Nat} {f0 : Int} {f1 : Int} {f2 : Int} {f3 : Int} {f4 : Int} {f5 : Int} {f6 : Bool} {f7 : List (S56)} {W1 : World} {row : Option Nat} (h : IsS53 w0 W g f0 f1 f2 f3 f4 f5 f6 f7) (hw : W.grownBy W1 row) (hne : some g ≠ row) : IsS53 w0 W1 g f0 f1 f2 f3 f4 f5 f6 f7 := by
 obtain ⟨A7, c7, hb, hg, hr7⟩ := h
 exact ⟨A7, c7, blk_grown hb hw hne, hg, hr7⟩
theorem IsS53.own_neN {w0 W : World} {g : Nat} {f0 : Int} {f1 : Int} {f2 : Int} {f3 : Int} {f4 : Int} {f5 : Int} {f6 : Bool} {f7 : List (S56)} {α : Type} {d : Kd α} {e : Nat} {base : Nat} {ok : Nat → Prop} {v : Value} {xs : List α} (h : IsS53 w0 W g f0 f1 f2 f3 f4 f5 f6 f7) (ho : Kd.N d e W base ok v xs) (ht : e ≠ 53) : some g ≠ v.ownBlock := by
 obtain ⟨A7, c7, hb, hg, hr7⟩ := h
 exact Kd.N_ne ho hb ht
theorem IsS53.fresh {w0 W : World} {g : Nat} {f0 : Int} {f1 : Int} {f2 : Int} {f3 : Int} {f4 : Int} {f5 : Int} {f6 : Bool} {f7 : List (S56)} (h : IsS53 w0 W g f0 f1 f2 f3 f4 f5 f6 f7) : ∀ k, W.heap.size ≤ k → k ≠ g := by
 obtain ⟨A7, c7, hb, hg, hr7⟩ := h
 exact Kd.freshB hb
theorem IsS53.kept {w0 W : World} {g : Nat} {f0 : Int} {f1 : Int} {f2 : Int} {f3 : Int} {f4 : Int} {f5 : Int} {f6 : Bool} {f7 : List (S56)} {W1 : World} {S : Nat → Prop} (h : IsS53 w0 W g f0 f1 f2 f3 f4 f5 f6 f7) (hk : Kept W W1 S) (hne : ¬ S g) : IsS53 w0 W1 g f0 f1 f2 f3 f4 f5 f6 f7 := by
 obtain ⟨A7, c7, hb, hg, hr7⟩ := h
 exact ⟨A7, c7, blk_kept hb hk hne, hg, hr7⟩
theorem IsS53.below {w0 W : World} {g : Nat} {f0 : Int} {f1 : Int} {f2 : Int} {f3 : Int} {f4 : Int} {f5 : Int} {f6 : Bool} {f7 : List (S56)} {W1 : World} (h : IsS53 w0 W g f0 f1 f2 f3 f4 f5 f6 f7) (hw : Below W.heap.size W W1) : IsS53 w0 W1 g f0 f1 f2 f3 f4 f5 f6 f7 := h.grown (grown_of_below hw none) (by simp)
theorem IsS53.alloc {w0 W : World} {g : Nat} {f0 : Int} {f1 : Int} {f2 : Int} {f3 : Int} {f4 : Int} {f5 : Int} {f6 : Bool} {f7 : List (S56)} (h : IsS53 w0 W g f0 f1 f2 f3 f4 f5 f6 f7) (o : Obj) : IsS53 w0 (W.alloc o) g f0 f1 f2 f3 f4 f5 f6 f7 := h.below (below_alloc (Below.refl _ _) o)
theorem IsS53.drewN {w0 W : World} {g : Nat} {f0 : Int} {f1 : Int} {f2 : Int} {f3 : Int} {f4 : Int} {f5 : Int} {f6 : Bool} {f7 : List (S56)} (h : IsS53 w0 W g f0 f1 f2 f3 f4 f5 f6 f7) (m : Nat) : IsS53 w0 (W.drewN m) g f0 f1 f2 f3 f4 f5 f6 f7 := h
theorem IsS53.drew {w0 W : World} {g : Nat} {f0 : Int} {f1 : Int} {f2 : Int} {f3 : Int} {f4 : Int} {f5 : Int} {f6 : Bool} {f7 : List (S56)} (h : IsS53 w0 W g f0 f1 f2 f3 f4 f5 f6 f7) : IsS53 w0 W.drew g f0 f1 f2 f3 f4 f5 f6 f7 := h
theorem IsS53.at_ {w0 W : World} {g : Nat} {f0 : Int} {f1 : Int} {f2 : Int} {f3 : Int} {f4 : Int} {f5 : Int} {f6 : Bool} {f7 : List (S56)} {w' : World} {m : Nat} (hq : W.drewN m = w') (h : IsS53 w0 W g f0 f1 f2 f3 f4 f5 f6 f7) : IsS53 w0 w' g f0 f1 f2 f3 f4 f5 f6 f7 := by subst hq; exact IsS53.drewN h m
theorem IsS53.apart {w0 W : World} {g : Nat} {f0 : Int} {f1 : Int} {f2 : Int} {f3 : Int} {f4 : Int} {f5 : Int} {f6 : Bool} {f7 : List (S56)} {α : Type} {d : Kd α} {e : Nat} {base : Nat} {ok : Nat → Prop} {v : Value} {xs : List α} (h : IsS53 w0 W g f0 f1 f2 f3 f4 f5 f6 f7) (ho : d.R e W base ok v xs) (ht : ∀ q, q ∈ e :: d.E → q ≠ 53) : d.R e W base (fun k => ok k ∧ k ≠ g) v xs := by
 obtain ⟨A7, c7, hb, hg, hr7⟩ := h
 exact Kd.R_types ho hb ht
theorem IsS53.own_ne {w0 W : World} {g : Nat} {f0 : Int} {f1 : Int} {f2 : Int} {f3 : Int} {f4 : Int} {f5 : Int} {f6 : Bool} {f7 : List (S56)} {α : Type} {d : Kd α} {e : Nat} {base : Nat} {ok : Nat → Prop} {v : Value} {xs : List α} (h : IsS53 w0 W g f0 f1 f2 f3 f4 f5 f6 f7) (ho : d.R e W base ok v xs) (ht : e ≠ 53) : some g ≠ v.ownBlock := by
 obtain ⟨A7, c7, hb, hg, hr7⟩ := h
 exact Kd.R_ne ho hb ht
theorem IsS53.apartQ {w0 W : World} {g : Nat} {f0 : Int} {f1 : Int} {f2 : Int} {f3 : Int} {f4 : Int} {f5 : Int} {f6 : Bool} {f7 : List (S56)} {α : Type} {d : Kd α} {e : Nat} {base : Nat} {ok : Nat → Prop} {v : Value} {xs : List α} (h : IsS53 w0 W g f0 f1 f2 f3 f4 f5 f6 f7) (ho : d.Q e W base ok v xs) (ht : ∀ q, q ∈ e :: d.E → q ≠ 53) : d.Q e W base (fun k => ok k ∧ k ≠ g) v xs := by
 obtain ⟨A7, c7, hb, hg, hr7⟩ := h
 exact Kd.Q_types ho hb ht
theorem IsS53.own_neQ {w0 W : World} {g : Nat} {f0 : Int} {f1 : Int} {f2 : Int} {f3 : Int} {f4 : Int} {f5 : Int} {f6 : Bool} {f7 : List (S56)} {α : Type} {d : Kd α} {e : Nat} {base : Nat} {ok : Nat → Prop} {v : Value} {xs : List α} (h : IsS53 w0 W g f0 f1 f2 f3 f4 f5 f6 f7) (ho : d.Q e W base ok v xs) (ht : e ≠ 53) : some g ≠ v.ownBlock := by
 obtain ⟨A7, c7, hb, hg, hr7⟩ := h
 exact Kd.Q_ne ho hb ht
theorem IsS53.apartS {w0 W : World} {g : Nat} {f0 : Int} {f1 : Int} {f2 : Int} {f3 : Int} {f4 : Int} {f5 : Int} {f6 : Bool} {f7 : List (S56)} {α : Type} {d : Kd α} {e : Nat} {base : Nat} {ok : Nat → Prop} {v : Value} {xs : List α} (h : IsS53 w0 W g f0 f1 f2 f3 f4 f5 f6 f7) (ho : d.S e W base ok v xs) (ht : ∀ q, q ∈ e :: d.E → q ≠ 53) : d.S e W base (fun k => ok k ∧ k ≠ g) v xs := by
 obtain ⟨A7, c7, hb, hg, hr7⟩ := h
 exact Kd.S_types ho hb ht
theorem IsS53.own_neS {w0 W : World} {g : Nat} {f0 : Int} {f1 : Int} {f2 : Int} {f3 : Int} {f4 : Int} {f5 : Int} {f6 : Bool} {f7 : List (S56)} {α : Type} {d : Kd α} {e : Nat} {base : Nat} {ok : Nat → Prop} {v : Value} {xs : List α} (h : IsS53 w0 W g f0 f1 f2 f3 f4 f5 f6 f7) (ho : d.S e W base ok v xs) (ht : e ≠ 53) : some g ≠ v.ownBlock := by
 obtain ⟨A7, c7, hb, hg, hr7⟩ := h
 exact Kd.S_ne ho hb ht
theorem IsS53.lt {w0 W : World} {g : Nat} {f0 : Int} {f1 : Int} {f2 : Int} {f3 : Int} {f4 : Int} {f5 : Int} {f6 : Bool} {f7 : List (S56)} (h : IsS53 w0 W g f0 f1 f2 f3 f4 f5 f6 f7) : g < W.heap.size := by
 obtain ⟨A7, c7, hb, hg, hr7⟩ := h
 exact blk_lt hb
theorem IsS53.ge {w0 W : World} {g : Nat} {f0 : Int} {f1 : Int} {f2 : Int} {f3 : Int} {f4 : Int} {f5 : Int} {f6 : Bool} {f7 : List (S56)} (h : IsS53 w0 W g f0 f1 f2 f3 f4 f5 f6 f7) : w0.heap.size ≤ g := by
 obtain ⟨A7, c7, hb, hg, hr7⟩ := h
 exact hg
theorem IsS53.ne_blk {w0 W : World} {g : Nat} {f0 : Int} {f1 : Int} {f2 : Int} {f3 : Int} {f4 : Int} {f5 : Int} {f6 : Bool} {f7 : List (S56)} {a : Nat} {cs : Array Value} {t : TypeId} {fr : Nat × Nat} (h : IsS53 w0 W g f0 f1 f2 f3 f4 f5 f6 f7) (hb2 : W.heap[a]? = some (.cells cs t fr)) (ht : t ≠ 53) : g ≠ a := by
 obtain ⟨A7, c7, hb, hg, hr7⟩ := h
 rintro rfl
 rw [hb] at hb2
 injection hb2 with hb2
 injection hb2 with _ ht2
 exact ht ht2.symm
theorem IsS53.far {w0 W : World} {g : Nat} {f0 : Int} {f1 : Int} {f2 : Int} {f3 : Int} {f4 : Int} {f5 : Int} {f6 : Bool} {f7 : List (S56)} {p : Addr} (h : IsS53 w0 W g f0 f1 f2 f3 f4 f5 f6 f7) (hne : g ≠ p.block) (u : Value) : IsS53 w0 (W.setCell p u) g f0 f1 f2 f3 f4 f5 f6 f7 := by
 obtain ⟨A7, c7, hb, hg, hr7⟩ := h
 exact ⟨A7, c7, blk_far hb hne u, hg, hr7⟩
theorem cellS53_0 {W : World} {g : Nat} {A7 : Option Addr} {c7 : Nat} {f0 : Int} {f1 : Int} {f2 : Int} {f3 : Int} {f4 : Int} {f5 : Int} {f6 : Bool} {f7 : List (S56)} (h : W.heap[g]? = some (.cells #[.int .i64 f0, .int .i64 f1, .int .i64 f2, .int .i64 f3, .int .i64 f4, .int .i64 f5, .bool f6, .slice A7 f7.length c7] 53 (0, 0))) : W.cell? ⟨g, 0, none⟩ = some (.int .i64 f0) := (blk_cell h 0).trans rfl
theorem IsS53.set_0 {w0 W : World} {g : Nat} {f0 : Int} {f1 : Int} {f2 : Int} {f3 : Int} {f4 : Int} {f5 : Int} {f6 : Bool} {f7 : List (S56)} (h : IsS53 w0 W g f0 f1 f2 f3 f4 f5 f6 f7) (x : Int) : IsS53 w0 (W.setCell ⟨g, 0, none⟩ (.int .i64 x)) g x f1 f2 f3 f4 f5 f6 f7 := by
 obtain ⟨A7, c7, hb, hg, hr7⟩ := h
 exact ⟨A7, c7, by simpa using blk_set hb 0 (.int .i64 x), hg, hr7⟩
theorem cellS53_1 {W : World} {g : Nat} {A7 : Option Addr} {c7 : Nat} {f0 : Int} {f1 : Int} {f2 : Int} {f3 : Int} {f4 : Int} {f5 : Int} {f6 : Bool} {f7 : List (S56)} (h : W.heap[g]? = some (.cells #[.int .i64 f0, .int .i64 f1, .int .i64 f2, .int .i64 f3, .int .i64 f4, .int .i64 f5, .bool f6, .slice A7 f7.length c7] 53 (0, 0))) : W.cell? ⟨g, 1, none⟩ = some (.int .i64 f1) := (blk_cell h 1).trans rfl
theorem IsS53.set_1 {w0 W : World} {g : Nat} {f0 : Int} {f1 : Int} {f2 : Int} {f3 : Int} {f4 : Int} {f5 : Int} {f6 : Bool} {f7 : List (S56)} (h : IsS53 w0 W g f0 f1 f2 f3 f4 f5 f6 f7) (x : Int) : IsS53 w0 (W.setCell ⟨g, 1, none⟩ (.int .i64 x)) g f0 x f2 f3 f4 f5 f6 f7 := by
 obtain ⟨A7, c7, hb, hg, hr7⟩ := h
 exact ⟨A7, c7, by simpa using blk_set hb 1 (.int .i64 x), hg, hr7⟩
theorem cellS53_2 {W : World} {g : Nat} {A7 : Option Addr} {c7 : Nat} {f0 : Int} {f1 : Int} {f2 : Int} {f3 : Int} {f4 : Int} {f5 : Int} {f6 : Bool} {f7 : List (S56)} (h : W.heap[g]? = some (.cells #[.int .i64 f0, .int .i64 f1, .int .i64 f2, .int .i64 f3, .int .i64 f4, .int .i64 f5, .bool f6, .slice A7 f7.length c7] 53 (0, 0))) : W.cell? ⟨g, 2, none⟩ = some (.int .i64 f2) := (blk_cell h 2).trans rfl
theorem IsS53.set_2 {w0 W : World} {g : Nat} {f0 : Int} {f1 : Int} {f2 : Int} {f3 : Int} {f4 : Int} {f5 : Int} {f6 : Bool} {f7 : List (S56)} (h : IsS53 w0 W g f0 f1 f2 f3 f4 f5 f6 f7) (x : Int) : IsS53 w0 (W.setCell ⟨g, 2, none⟩ (.int .i64 x)) g f0 f1 x f3 f4 f5 f6 f7 := by
 obtain ⟨A7, c7, hb, hg, hr7⟩ := h
 exact ⟨A7, c7, by simpa using blk_set hb 2 (.int .i64 x), hg, hr7⟩
theorem cellS53_3 {W : World} {g : Nat} {A7 : Option Addr} {c7 : Nat} {f0 : Int} {f1 : Int} {f2 : Int} {f3 : Int} {f4 : Int} {f5 : Int} {f6 : Bool} {f7 : List (S56)} (h : W.heap[g]? = some (.cells #[.int .i64 f0, .int .i64 f1, .int .i64 f2, .int .i64 f3, .int .i64 f4, .int .i64 f5, .bool f6, .slice A7 f7.length c7] 53 (0, 0))) : W.cell? ⟨g, 3, none⟩ = some (.int .i64 f3) := (blk_cell h 3).trans rfl
theorem IsS53.set_3 {w0 W : World} {g : Nat} {f0 : Int} {f1 : Int} {f2 : Int} {f3 : Int} {f4 : Int} {f5 : Int} {f6 : Bool} {f7 : List (S56)} (h : IsS53 w0 W g f0 f1 f2 f3 f4 f5 f6 f7) (x : Int) : IsS53 w0 (W.setCell ⟨g, 3, none⟩ (.int .i64 x)) g f0 f1 f2 x f4 f5 f6 f7 := by
 obtain ⟨A7, c7, hb, hg, hr7⟩ := h
 exact ⟨A7, c7, by simpa using blk_set hb 3 (.int .i64 x), hg, hr7⟩
theorem cellS53_4 {W : World} {g : Nat} {A7 : Option Addr} {c7 : Nat} {f0 : Int} {f1 : Int} {f2 : Int} {f3 : Int} {f4 : Int} {f5 : Int} {f6 : Bool} {f7 : List (S56)} (h : W.heap[g]? = some (.cells #[.int .i64 f0, .int .i64 f1, .int .i64 f2, .int .i64 f3, .int .i64 f4, .int .i64 f5, .bool f6, .slice A7 f7.length c7] 53 (0, 0))) : W.cell? ⟨g, 4, none⟩ = some (.int .i64 f4) := (blk_cell h 4).trans rfl
theorem IsS53.set_4 {w0 W : World} {g : Nat} {f0 : Int} {f1 : Int} {f2 : Int} {f3 : Int} {f4 : Int} {f5 : Int} {f6 : Bool} {f7 : List (S56)} (h : IsS53 w0 W g f0 f1 f2 f3 f4 f5 f6 f7) (x : Int) : IsS53 w0 (W.setCell ⟨g, 4, none⟩ (.int .i64 x)) g f0 f1 f2 f3 x f5 f6 f7 := by
 obtain ⟨A7, c7, hb, hg, hr7⟩ := h
 exact ⟨A7, c7, by simpa using blk_set hb 4 (.int .i64 x), hg, hr7⟩
theorem cellS53_5 {W : World} {g : Nat} {A7 : Option Addr} {c7 : Nat} {f0 : Int} {f1 : Int} {f2 : Int} {f3 : Int} {f4 : Int} {f5 : Int} {f6 : Bool} {f7 : List (S56)} (h : W.heap[g]? = some (.cells #[.int .i64 f0, .int .i64 f1, .int .i64 f2, .int .i64 f3, .int .i64 f4, .int .i64 f5, .bool f6, .slice A7 f7.length c7] 53 (0, 0))) : W.cell? ⟨g, 5, none⟩ = some (.int .i64 f5) := (blk_cell h 5).trans rfl
theorem IsS53.set_5 {w0 W : World} {g : Nat} {f0 : Int} {f1 : Int} {f2 : Int} {f3 : Int} {f4 : Int} {f5 : Int} {f6 : Bool} {f7 : List (S56)} (h : IsS53 w0 W g f0 f1 f2 f3 f4 f5 f6 f7) (x : Int) : IsS53 w0 (W.setCell ⟨g, 5, none⟩ (.int .i64 x)) g f0 f1 f2 f3 f4 x f6 f7 := by
 obtain ⟨A7, c7, hb, hg, hr7⟩ := h
 exact ⟨A7, c7, by simpa using blk_set hb 5 (.int .i64 x), hg, hr7⟩
theorem cellS53_6 {W : World} {g : Nat} {A7 : Option Addr} {c7 : Nat} {f0 : Int} {f1 : Int} {f2 : Int} {f3 : Int} {f4 : Int} {f5 : Int} {f6 : Bool} {f7 : List (S56)} (h : W.heap[g]? = some (.cells #[.int .i64 f0, .int .i64 f1, .int .i64 f2, .int .i64 f3, .int .i64 f4, .int .i64 f5, .bool f6, .slice A7 f7.length c7] 53 (0, 0))) : W.cell? ⟨g, 6, none⟩ = some (.bool f6) := (blk_cell h 6).trans rfl
theorem IsS53.set_6 {w0 W : World} {g : Nat} {f0 : Int} {f1 : Int} {f2 : Int} {f3 : Int} {f4 : Int} {f5 : Int} {f6 : Bool} {f7 : List (S56)} (h : IsS53 w0 W g f0 f1 f2 f3 f4 f5 f6 f7) (x : Bool) : IsS53 w0 (W.setCell ⟨g, 6, none⟩ (.bool x)) g f0 f1 f2 f3 f4 f5 x f7 := by
 obtain ⟨A7, c7, hb, hg, hr7⟩ := h
 exact ⟨A7, c7, by simpa using blk_set hb 6 (.bool x), hg, hr7⟩
theorem cellS53_7 {W : World} {g : Nat} {A7 : Option Addr} {c7 : Nat} {f0 : Int} {f1 : Int} {f2 : Int} {f3 : Int} {f4 : Int} {f5 : Int} {f6 : Bool} {f7 : List (S56)} (h : W.heap[g]? = some (.cells #[.int .i64 f0, .int .i64 f1, .int .i64 f2, .int .i64 f3, .int .i64 f4, .int .i64 f5, .bool f6, .slice A7 f7.length c7] 53 (0, 0))) : W.cell? ⟨g, 7, none⟩ = some (.slice A7 f7.length c7) := (blk_cell h 7).trans rfl
theorem IsS53.new (w0 W : World) (A7 : Option Addr) (c7 : Nat) (f0 : Int) (f1 : Int) (f2 : Int) (f3 : Int) (f4 : Int) (f5 : Int) (f6 : Bool) (f7 : List (S56)) (hB : Below w0.heap.size w0 W) (hr7 : Kd.C k56 w0 A7 f7.length f7) : IsS53 w0 (W.alloc (.cells #[.int .i64 f0, .int .i64 f1, .int .i64 f2, .int .i64 f3, .int .i64 f4, .int .i64 f5, .bool f6, .slice A7 f7.length c7] 53)) W.heap.size f0 f1 f2 f3 f4 f5 f6 f7 := ⟨A7, c7, by simpa using heap_alloc_new W _, hB.size, hr7⟩

/-! ### gate_New: function 5 (by hand) -/
structure GSt where
 room : Int
 last : Int
 conf : Int
 gone : Int
 lost : Int
 long : Int
 opn : Bool
 q : List (Int × List ByteArray)
abbrev txt (l : List ByteArray) : List Value := l.map Value.string
def QC (w : World) (base top : Nat) : List (Int × List ByteArray) → List Value → Prop
 | [], cs => cs = []
 | (n, fr) :: q, cs => ∃ f cs', cs = .int .i64 n :: f :: cs' ∧ ownsAt w base 9 1 f fr.length (txt fr) ∧ (∀ b, f.ownBlock = some b → b < top) ∧ QC w base top q cs'
def cellsG (s : GSt) (v : Value) : Array Value := #[.int .i64 s.room, .int .i64 s.last, .int .i64 s.conf, .int .i64 s.gone, .int .i64 s.lost, .int .i64 s.long, .bool s.opn, v]
def GateAt (w : World) (base top g : Nat) (s : GSt) : Prop := ∃ v cs, w.heap[g]? = some (.cells (cellsG s v) 53 (0, 0)) ∧ base ≤ g ∧ ownsAt w base 56 2 v s.q.length cs ∧ QC w base top s.q cs
theorem QC_kept {w w' : World} {base top : Nat} (hk : KeepT [53, 56] w w') : ∀ {q : List (Int × List ByteArray)} {cs : List Value}, QC w base top q cs → QC w' base top q cs
 | [], _, h => h
 | (_, _) :: _, _, ⟨f, cs', h1, h2, h3, h4⟩ => ⟨f, cs', h1, ownsAt_keepT h2 hk (by decide), h3, QC_kept hk h4⟩
theorem QC_top {w : World} {base top top' : Nat} (ht : top ≤ top') : ∀ {q : List (Int × List ByteArray)} {cs : List Value}, QC w base top q cs → QC w base top' q cs
 | [], _, h => h
 | (_, _) :: _, _, ⟨f, cs', h1, h2, h3, h4⟩ => ⟨f, cs', h1, h2, fun b hb => Nat.lt_of_lt_of_le (h3 b hb) ht, QC_top ht h4⟩
theorem QC_snoc {w : World} {base top : Nat} {n : Int} {fr : List ByteArray} {f : Value} (h2 : ownsAt w base 9 1 f fr.length (txt fr)) (h3 : ∀ b, f.ownBlock = some b → b < top) : ∀ {q : List (Int × List ByteArray)} {cs : List Value}, QC w base top q cs → QC w base top (q ++ [(n, fr)]) (cs ++ [.int .i64 n, f])
 | [], _, h => by cases h; exact ⟨f, [], rfl, h2, h3, rfl⟩
 | (_, _) :: _, _, ⟨f', cs', h1, h2', h3', h4⟩ => ⟨f', cs' ++ [.int .i64 n, f], by rw [h1]; rfl, h2', h3', QC_snoc h2 h3 h4⟩
theorem QC_one {w : World} {base top : Nat} : ∀ {q : List (Int × List ByteArray)} {cs : List Value}, QC w base top q cs → cs.all (·.oneCell') = true
 | [], _, h => by cases h; rfl
 | (_, _) :: _, _, ⟨f, cs', h1, h2, h3, h4⟩ => by
  obtain ⟨A, c, rfl, _⟩ := ownsAt_len h2
  rw [h1, List.all_cons, List.all_cons, QC_one h4]; rfl
theorem GateAt.kept {w w' : World} {base top g : Nat} {s : GSt} (h : GateAt w base top g s) (hb : Below w.heap.size w w') : GateAt w' base top g s := by
 obtain ⟨v, cs, h1, h2, h3, h4⟩ := h
 exact ⟨v, cs, blk_below h1 hb, h2, ownsAt_kept h3 (fun g cur _ hg => hb.block g (Array.getElem?_eq_some_iff.1 hg).1), QC_kept (KeepT.of_below hb) h4⟩
theorem GateAt.drawn {w w' : World} {base top g : Nat} {s : GSt} (h : GateAt w base top g s) (he : w'.heap = w.heap) : GateAt w' base top g s := by
 obtain ⟨v, cs, h1, h2, h3, h4⟩ := h
 exact ⟨v, cs, by rw [he]; exact h1, h2, ownsAt_kept h3 (fun g cur _ hg => by rw [he]), QC_kept ⟨by rw [he]; exact Nat.le_refl _, fun k _ _ _ => by rw [he]⟩ h4⟩
theorem QC_low {w w' : World} {base top : Nat} (hk : ∀ b, b < top → w'.heap[b]? = w.heap[b]?) : ∀ {q : List (Int × List ByteArray)} {cs : List Value}, QC w base top q cs → QC w' base top q cs
 | [], _, h => h
 | (_, _) :: _, _, ⟨f, cs', h1, h2, h3, h4⟩ => ⟨f, cs', h1, ownsAt_kept h2 (fun b _ hb _ => hk b (h3 b hb)), h3, QC_low hk h4⟩
theorem GateAt.grown {w w' : World} {base top g : Nat} {s : GSt} {row : Option Nat} (h : GateAt w base top g s) (hg : w.grownBy w' row) (hr : ∀ b, row = some b → top ≤ b ∧ ∃ cur, w.heap[b]? = some (Obj.cells cur 9 (0, 0))) : GateAt w' base top g s := by
 obtain ⟨v, cs, h1, h2, h3, h4⟩ := h
 have far : ∀ b cur t, w.heap[b]? = some (Obj.cells cur t (0, 0)) → t ≠ 9 → w'.heap[b]? = w.heap[b]? := fun b cur t hb ht => hg.block b (Array.getElem?_eq_some_iff.1 hb).1 (fun he => by
  obtain ⟨_, cur', hc⟩ := hr b he.symm
  rw [hb] at hc; simp at hc; exact ht hc.2)
 have lt : ∀ {b x}, w.heap[b]? = some x → b < w.heap.size := fun hb => (Array.getElem?_eq_some_iff.1 hb).1
 have low : ∀ {q : List (Int × List ByteArray)} {cs : List Value}, QC w base top q cs → QC w' base top q cs := fun {q} {cs} hq => by
  induction q generalizing cs with
  | nil => exact hq
  | cons x q ih =>
   obtain ⟨f, cs', e1, e2, e3, e4⟩ := hq
   exact ⟨f, cs', e1, ownsAt_kept e2 (fun b _ hb hbb => hg.block b (lt hbb) (fun he => by have := (hr b he.symm).1; have := e3 b hb; omega)), e3, ih e4⟩
 exact ⟨v, cs, (far g _ _ h1 (by decide)).trans h1, h2, ownsAt_kept h3 (fun b cur _ hb => far b cur _ hb (by decide)), low h4⟩
theorem GateAt.top {w : World} {base top top' g : Nat} {s : GSt} (h : GateAt w base top g s) (ht : top ≤ top') : GateAt w base top' g s := by
 obtain ⟨v, cs, h1, h2, h3, h4⟩ := h
 exact ⟨v, cs, h1, h2, h3, QC_top ht h4⟩
theorem GateAt.ge {w : World} {base top g : Nat} {s : GSt} (h : GateAt w base top g s) : base ≤ g := h.choose_spec.choose_spec.2.1
theorem GateAt.set {w : World} {base top g : Nat} {s s' : GSt} (h : GateAt w base top g s) (k : Nat) (u : Value) (hq : s'.q = s.q) (hc : ∀ v, (cellsG s v).setIfInBounds k u = cellsG s' v) : GateAt (w.setCell ⟨g, k, none⟩ u) base top g s' := by
 obtain ⟨v, cs, h1, h2, h3, h4⟩ := h
 have hk := KeepT.set (T := [53]) h1 (by decide) k u
 refine ⟨v, cs, by rw [blk_put h1 k u rfl, hc], h2, ?_, ?_⟩
 ·rw [hq]; exact ownsAt_keepT h3 hk (by decide)
 ·rw [hq]; exact QC_kept (hk.mono (by decide)) h4
theorem GateAt.keep_set {w0 w : World} {base top g : Nat} {s : GSt} (hk : KeepT [53, 56] w0 w) (h : GateAt w base top g s) (k : Nat) (u : Value) : KeepT [53, 56] w0 (w.setCell ⟨g, k, none⟩ u) := by
 obtain ⟨v, cs, h1, h2, h3, h4⟩ := h
 exact hk.trans (KeepT.set h1 (by decide) k u)
theorem GateAt.cell {w : World} {base top g : Nat} {s : GSt} (h : GateAt w base top g s) : ∃ A c, (w.heap[g]? = some (.cells (cellsG s (.slice A s.q.length c)) 53 (0, 0)) ∧ s.q.length ≤ c) ∧ c ≤ maxLen ∧ (w.cell? ⟨g, 0, none⟩ = some (.int .i64 s.room) ∧ w.cell? ⟨g, 1, none⟩ = some (.int .i64 s.last) ∧ w.cell? ⟨g, 2, none⟩ = some (.int .i64 s.conf) ∧ w.cell? ⟨g, 3, none⟩ = some (.int .i64 s.gone)) ∧ (w.cell? ⟨g, 4, none⟩ = some (.int .i64 s.lost) ∧ w.cell? ⟨g, 5, none⟩ = some (.int .i64 s.long) ∧ w.cell? ⟨g, 6, none⟩ = some (.bool s.opn) ∧ w.cell? ⟨g, 7, none⟩ = some (.slice A s.q.length c)) ∧ (w.frozen? ⟨g, 0, none⟩ = false ∧ w.frozen? ⟨g, 1, none⟩ = false ∧ w.frozen? ⟨g, 2, none⟩ = false ∧ w.frozen? ⟨g, 3, none⟩ = false) ∧ (w.frozen? ⟨g, 4, none⟩ = false ∧ w.frozen? ⟨g, 5, none⟩ = false ∧ w.frozen? ⟨g, 6, none⟩ = false ∧ w.frozen? ⟨g, 7, none⟩ = false) ∧ ∃ cs, ownsAt w base 56 2 (.slice A s.q.length c) s.q.length cs ∧ QC w base top s.q cs := by
 obtain ⟨v, cs, h1, h2, h3, h4⟩ := h
 obtain ⟨A, c, rfl, h5, h6, _⟩ := ownsAt_len h3
 exact ⟨A, c, ⟨h1, h5⟩, h6, ⟨blk_cell h1 0, blk_cell h1 1, blk_cell h1 2, blk_cell h1 3⟩, ⟨blk_cell h1 4, blk_cell h1 5, blk_cell h1 6, blk_cell h1 7⟩, ⟨blk_frozen h1 0, blk_frozen h1 1, blk_frozen h1 2, blk_frozen h1 3⟩, ⟨blk_frozen h1 4, blk_frozen h1 5, blk_frozen h1 6, blk_frozen h1 7⟩, cs, h3, h4⟩
def GSt.new (room : Int) : GSt := ⟨room, 0, 0, 0, 0, 0, true, []⟩
set_option maxHeartbeats 4000000 in
set_option maxRecDepth 100000 in
theorem gate_New.calls (room : Int) (w0 w : World) (hB : Below w0.heap.size w0 w) (h1 : 1 ≤ room) (h2 : room ≤ 4096) :
  Calls Try.prog 5 #[.int .i64 room] w fun e w' => ∃ g, e = .returned (.tuple #[.pointer (some ⟨g, 0, none⟩), .int .i64 0]) ∧ GateAt w' w0.heap.size 0 g (GSt.new room) ∧ Below w0.heap.size w0 w' ∧ Below w.heap.size w w' ∧ w.heap.size ≤ g := by
 have HB := Aside0.mk hB
 have d1 : decide (room < 1) = false := decide_eq_false (by omega)
 have d2 : decide (4096 < room) = false := decide_eq_false (by omega)
 go_enter Try.func5, Try.ntmps5
 go_wp2_with (first | ((with_reducible refine gate_dst (N := 12) rfl ?_); refine box_event ?hg (N := 12) ?hd (cs := cellsG (GSt.new room) (.slice none 0 0)) (t := 53) ?hr ?_; (case hd => rfl); (case hg => rfl); (case hr => first | (go_simp; done) | (go_simp; rfl)); intro g hg w2 hbox hb; have BX := Aside0.mk hbox; have HB2 := Aside0.mk (below_step HB.out hb); have HB3 := Aside0.mk hb; have GG := Aside0.mk (show w.heap.size ≤ g by rw [hg]; exact Nat.le_refl _); clear hbox hb hg))
 go_ret2
 exact ⟨g, rfl, ⟨_, [], BX.out, Nat.le_trans HB.out.size GG.out, ownsAt_nil _ _ _ _, rfl⟩, HB2.out, HB3.out, GG.out⟩



/-! ### gate_Gate_went: function 24 (by hand) -/
def GSt.went (s : GSt) (n : Int) (fr : List ByteArray) : GSt := if 0 < fr.length then { s with gone := if s.gone < n then n else s.gone } else s
set_option maxHeartbeats 4000000 in
set_option maxRecDepth 100000 in
theorem gate_Gate_went.calls (g bf top : Nat) (s : GSt) (n : Int) (fv : Value) (fr : List ByteArray) (w0 w : World) (hG : GateAt w w0.heap.size top g s) (hB : Below w0.heap.size w0 w) (hF : ownsAt w bf 9 1 fv fr.length (txt fr)) (hl : fr.length ≤ 1099511627776) :
  Calls Try.prog 24 #[.pointer (some ⟨g, 0, none⟩), .int .i64 n, fv] w fun e w' => ∃ v, e = .returned v ∧ GateAt w' w0.heap.size top g (s.went n fr) ∧ ownsAt w' w.heap.size 9 1 v fr.length (txt fr) ∧ Below w0.heap.size w0 w' ∧ KeepT [53, 56] w w' := by
 obtain ⟨Af, cf, rfl, hf1, hf2, _⟩ := ownsAt_len hF
 have HI := Aside0.mk hG
 have HB := Aside0.mk hB
 have HF := Aside0.mk hF
 clear hG hB hF
 by_cases hp : 0 < fr.length
 ·have d1 : decide ((0 : Int) < (fr.length : Int)) = true := decide_eq_true (by omega)
  obtain ⟨Az, cz, ⟨hbg, hle⟩, hcm, ⟨hc0, hc1, hc2, hc3⟩, ⟨hc4, hc5, hc6, hc7⟩, ⟨hf0, hf1, hf2, hf3⟩, ⟨hf4, hf5, hf6, hf7⟩, csz, HQ, HE⟩ := HI.out.cell
  go_enter Try.func24, Try.ntmps24
  go_upto_region 3 with fail
  clear hbg hc0 hc1 hc2 hc3 hc4 hc5 hc6 hc7 hf0 hf1 hf2 hf3 hf4 hf5 hf6 hf7 HQ HE hle hcm
  have HI1 : GateAt (w.setCell ⟨g, 3, none⟩ (.int .i64 (if s.gone < n then n else s.gone))) w0.heap.size top g (s.went n fr) := HI.out.set 3 _ (by unfold GSt.went; rw [if_pos hp]) (fun v => by unfold GSt.went; rw [if_pos hp]; rfl)
  have HK1 : KeepT [53, 56] w (w.setCell ⟨g, 3, none⟩ (.int .i64 (if s.gone < n then n else s.gone))) := GateAt.keep_set (KeepT.refl _ _) HI.out 3 _
  have HB1 : Below w0.heap.size w0 (w.setCell ⟨g, 3, none⟩ (.int .i64 (if s.gone < n then n else s.gone))) := below_set HB.out HI.out.ge
  have HF1 := ownsAt_keepT HF.out HK1 (by decide)
  have hz : (w.setCell ⟨g, 3, none⟩ (.int .i64 (if s.gone < n then n else s.gone))).heap.size = w.heap.size := by simp [World.setCell]
  generalize w.setCell ⟨g, 3, none⟩ (.int .i64 (if s.gone < n then n else s.gone)) = W1 at HI1 HK1 HB1 HF1 hz ⊢
  clear HI HB HF
  have HA := Aside0.mk (And.intro HI1 (And.intro HK1 (And.intro HB1 (And.intro HF1 hz))))
  clear HI1 HK1 HB1 HF1 hz
  generalize (if s.gone < n then n else s.gone) = mg
  go_wp2_with (first | ((with_reducible refine gate_dst (N := 20) rfl ?_); refine wl_append 28 9 (.string (⟨#[]⟩ : ByteArray)) 1 16 rfl rfl Try.underlying28 (by kernel_rfl) rfl (by decide) (v := .slice none 0 0) (xs := []) (n := 0) rfl rfl (ownsAt_nil _ _ _ _) HA.out.2.2.2.1 (texts_one fr) (by simp only [maxLen]; omega) (by omega) (Nat.le_refl _) (fun v' w' hv' hg' _ => ?_); have HV' := Aside0.mk hv'; have HG' := Aside0.mk hg'; clear hv' hg'))
  go_ret
  exact ⟨v', rfl, (HA.out.1).kept (below_grown HG'.out), by rw [← HA.out.2.2.2.2]; simpa using HV'.out, below_of_grown HA.out.2.2.1 HG'.out HA.out.2.2.1.size (fun _ h => by simp [Value.ownBlock] at h), HA.out.2.1.trans (KeepT.of_grown HG'.out (fun _ h => by simp [Value.ownBlock] at h))⟩
 ·have d1 : decide ((0 : Int) < (fr.length : Int)) = false := decide_eq_false (by omega)
  have hw : s.went n fr = s := by unfold GSt.went; rw [if_neg hp]
  rw [hw]
  go_enter Try.func24, Try.ntmps24
  go_upto_region 3 with fail
  have HA := Aside0.mk (And.intro HI.out (And.intro (KeepT.refl [53, 56] w) (And.intro HB.out (And.intro HF.out (rfl : w.heap.size = w.heap.size)))))
  clear HI HB HF
  go_wp2_with (first | ((with_reducible refine gate_dst (N := 20) rfl ?_); refine wl_append 28 9 (.string (⟨#[]⟩ : ByteArray)) 1 16 rfl rfl Try.underlying28 (by kernel_rfl) rfl (by decide) (v := .slice none 0 0) (xs := []) (n := 0) rfl rfl (ownsAt_nil _ _ _ _) HA.out.2.2.2.1 (texts_one fr) (by simp only [maxLen]; omega) (by omega) (Nat.le_refl _) (fun v' w' hv' hg' _ => ?_); have HV' := Aside0.mk hv'; have HG' := Aside0.mk hg'; clear hv' hg'))
  go_ret
  exact ⟨v', rfl, (HA.out.1).kept (below_grown HG'.out), by simpa using HV'.out, below_of_grown HA.out.2.2.1 HG'.out HA.out.2.2.1.size (fun _ h => by simp [Value.ownBlock] at h), HA.out.2.1.trans (KeepT.of_grown HG'.out (fun _ h => by simp [Value.ownBlock] at h))⟩



/-! ### gate_Gate_until: function 23 (by hand) -/
def gUntil (n : Int) : List (Int × List ByteArray) → GSt → GSt × List ByteArray
 | [], s => ({ s with q := [] }, [])
 | (m, fr) :: q, s => if m ≤ n then ((gUntil n q (GSt.went { s with q := q, long := wrap64 (s.long - (fr.length : Int)) } m fr)).1, fr ++ (gUntil n q (GSt.went { s with q := q, long := wrap64 (s.long - (fr.length : Int)) } m fr)).2) else ({ s with q := (m, fr) :: q }, [])
def GSt.until (s : GSt) (n : Int) : GSt × List ByteArray := gUntil n s.q s
theorem went_q (s : GSt) (n : Int) (fr : List ByteArray) : (s.went n fr).q = s.q := by unfold GSt.went; split <;> rfl
theorem until_nil {s : GSt} {n : Int} (h : s.q = []) : s.until n = (s, []) := by unfold GSt.until; rw [h]; unfold gUntil; rw [← h]
theorem until_out {s : GSt} {n m : Int} {fr : List ByteArray} {q : List (Int × List ByteArray)} (h : s.q = (m, fr) :: q) (hm : ¬ m ≤ n) : s.until n = (s, []) := by unfold GSt.until; rw [h]; unfold gUntil; rw [if_neg hm, ← h]
theorem until_in {s : GSt} {n m : Int} {fr : List ByteArray} {q : List (Int × List ByteArray)} (h : s.q = (m, fr) :: q) (hm : m ≤ n) : s.until n = (((GSt.went { s with q := q, long := wrap64 (s.long - (fr.length : Int)) } m fr).until n).1, fr ++ ((GSt.went { s with q := q, long := wrap64 (s.long - (fr.length : Int)) } m fr).until n).2) := by
 have hq : (GSt.went { s with q := q, long := wrap64 (s.long - (fr.length : Int)) } m fr).q = q := went_q _ _ _
 unfold GSt.until; rw [h, hq]; conv => lhs; unfold gUntil
 rw [if_pos hm]
structure gate_Gate_until.I (w0 w : World) (g top : Nat) (s : GSt) (n : Int) (k : Nat) (v : Value) (W : World) : Prop where
 h : ∃ s1 acc top1, s1.q.length ≤ k ∧ (s.until n).1 = (s1.until n).1 ∧ (s.until n).2 = acc ++ (s1.until n).2 ∧ GateAt W w0.heap.size top g s1 ∧ ownsAt W w.heap.size 9 1 v acc.length (txt acc) ∧ Below w0.heap.size w0 W ∧ KeepT [53, 56] w W ∧ top1 = top
set_option maxHeartbeats 4000000 in
set_option maxRecDepth 100000 in
theorem gate_Gate_until.calls (g top : Nat) (s : GSt) (n : Int) (w0 w : World) (hG : GateAt w w0.heap.size top g s) (hB : Below w0.heap.size w0 w) (ht : top ≤ w.heap.size) (hl : (s.until n).2.length ≤ 1099511627776) :
  Calls Try.prog 23 #[.pointer (some ⟨g, 0, none⟩), .int .i64 n] w fun e w' => ∃ v, e = .returned v ∧ GateAt w' w0.heap.size top g (s.until n).1 ∧ ownsAt w' w.heap.size 9 1 v (s.until n).2.length (txt (s.until n).2) ∧ Below w0.heap.size w0 w' ∧ KeepT [53, 56] w w' := by
 have HI0 := Aside0.mk hG
 have HB0 := Aside0.mk hB
 have hs0 := hB.size
 clear hG hB
 go_enter Try.func23, Try.ntmps23
 go_wp2
 go_loopg [5] s.q.length (fun kq v5 W => gate_Gate_until.I w0 w g top s n kq v5 W)
 case atStart => exact ⟨s, [], top, Nat.le_refl _, rfl, rfl, HI0.out, ownsAt_nil _ _ _ _, HB0.out, KeepT.refl _ _, rfl⟩
 case round =>
  clear HI0 HB0
  obtain ⟨⟨s1, acc, _, hk, e1, e2, i1, i2, i3, i4, _⟩⟩ := hrel
  have HK := Aside0.mk hk
  have HE1 := Aside0.mk e1
  have HE2 := Aside0.mk e2
  have HI := Aside0.mk i1
  have HV := Aside0.mk i2
  have HBB := Aside0.mk i3
  have HKK := Aside0.mk i4
  clear hk e1 e2 i1 i2 i3 i4
  obtain ⟨Av, cv, hv5, hv1, hv2, _⟩ := ownsAt_len HV.out
  subst hv5
  obtain ⟨Az, cz, ⟨hbg, hle⟩, hcm, ⟨hc0, hc1, hc2, hc3⟩, ⟨hc4, hc5, hc6, hc7⟩, ⟨hf0, hf1, hf2, hf3⟩, ⟨hf4, hf5, hf6, hf7⟩, csz, HQ, HE⟩ := HI.out.cell
  cases hq : s1.q with
  | nil =>
   rw [hq] at hc7
   simp only [List.length_nil] at hc7
   clear HQ HE hle hcm
   go_wp2
   go_ret
   rw [HE1.out, HE2.out, until_nil hq]
   exact ⟨_, rfl, HI.out, by simpa using HV.out, HBB.out, HKK.out⟩
  | cons x q =>
   obtain ⟨m, fr⟩ := x
   obtain ⟨k1, rfl⟩ : ∃ k1, gk = k1 + 1 := ⟨gk - 1, by have := HK.out; rw [hq, List.length_cons] at this; omega⟩
   rw [hq] at hc7 HQ HE
   simp only [List.length_cons] at hc7 HQ
   obtain ⟨f, cs', rfl, o1, o2, o3⟩ := HE
   obtain ⟨Af, cf, rfl, hf8, hf9, _⟩ := ownsAt_len o1
   obtain ⟨hh, oo, rfl, hcells⟩ := ownsAt_cells HQ (by omega)
   have hq0 := hcells 0 _ rfl
   have hq1 := hcells 1 _ rfl
   have hz0 := ownsAt_frozen HQ oo
   have hz1 := ownsAt_frozen HQ (oo + 1)
   simp only [Nat.add_zero] at hq0
   have d1 : decide ((0 : Int) < ((q.length + 1 : Nat) : Int)) = true := decide_eq_true (by omega)
   have HQ_ := Aside0.mk HQ
   have O1 := Aside0.mk o1
   have O2 := Aside0.mk o2
   have O3 := Aside0.mk o3
   clear HQ hcells o1 o2 o3 hle hcm
   by_cases hm : m ≤ n
   ·have d2 : decide (m ≤ n) = true := decide_eq_true hm
    go_upto_region 4 with fail
    clear hc0 hc1 hc2 hc3 hc4 hc5 hc6 hc7 hf0 hf1 hf2 hf3 hf4 hf5 hf6 hf7 hq0 hq1 hz0 hz1
    have hb3 := below_alloc (Below.refl wr.heap.size wr) (Obj.cells #[.int .i64 m, .slice Af fr.length cf] 56)
    have hx3 := blk_new wr (.cells #[.int .i64 m, .slice Af fr.length cf] 56)
    have hgx : g ≠ wr.heap.size := Nat.ne_of_lt (blk_lt hbg)
    generalize hbx : wr.heap.size = bx at hx3 hgx ⊢
    rw [hbx] at hb3
    generalize wr.alloc (Obj.cells #[.int .i64 m, .slice Af fr.length cf] 56) = W3 at hb3 hx3 ⊢
    have hg3 := blk_below hbg (by rw [hbx]; exact hb3)
    rw [hq] at hg3
    have hc7 : W3.cell? ⟨g, 7, none⟩ = some (.slice (some ⟨hh, oo, none⟩) (q.length + 1) cz) := blk_cell hg3 7
    have hf7 := blk_frozen hg3 7
    have HG3 := Aside0.mk hg3
    have HX3 := Aside0.mk hx3
    have HB3 := Aside0.mk hb3
    have HGX := Aside0.mk hgx
    clear hbg hg3 hx3 hb3 hgx
    have hle : q.length + 1 ≤ cz := by
     obtain ⟨_, _, he, hl, _⟩ := ownsAt_len HQ_.out
     injection he with _ _ h; rw [h]; exact hl
    go_upto_region 5 with (first | ((with_reducible refine gate_dst (N := 35) rfl ?_); refine step_run rfl (run_tail Try.underlying51 (by kernel_rfl) rfl rfl rfl hle) ?_))
    clear hc7 hf7
    obtain ⟨tl, htl⟩ : ∃ tl_, Value.slice (if cz = 1 then some (⟨hh, oo, none⟩ : Addr) else some ⟨hh, oo + 2, none⟩) q.length (cz - 1) = tl_ := ⟨_, rfl⟩
    have ht3 : ownsAt W3 w0.heap.size 56 2 tl q.length cs' := by
     have h := ownsAt_kept (ownsAt_tail HQ_.out) (w' := W3) (fun b cur _ hb => HB3.out.block b (by rw [← hbx]; exact (Array.getElem?_eq_some_iff.1 hb).1))
     rw [← htl]; simpa [Addr.add] using h
    rw [htl]
    clear htl
    obtain ⟨At, ct, rfl, _⟩ := ownsAt_len ht3
    have hg4 := blk_put HG3.out 7 (.slice At q.length ct) rfl
    have hx4 := blk_far HX3.out (p := ⟨g, 7, none⟩) (fun h => HGX.out h.symm) (.slice At q.length ct)
    have HI4 : GateAt (W3.setCell ⟨g, 7, none⟩ (.slice At q.length ct)) w0.heap.size top g { s1 with q := q } := by
     have hk := KeepT.set (T := [53]) HG3.out (by decide) 7 (.slice At q.length ct)
     exact ⟨_, cs', hg4, HI.out.ge, ownsAt_keepT ht3 hk (by decide), QC_kept (hk.mono (by decide)) (QC_kept (KeepT.of_below (by rw [hbx]; exact HB3.out)) O3.out)⟩
    have HB4 : Below w0.heap.size w0 (W3.setCell ⟨g, 7, none⟩ (.slice At q.length ct)) := below_set (below_step HBB.out (by rw [hbx]; exact HB3.out)) HI.out.ge
    have HK4 : KeepT [53, 56] w (W3.setCell ⟨g, 7, none⟩ (.slice At q.length ct)) := (HKK.out.trans (KeepT.of_below (by rw [hbx]; exact HB3.out))).trans (KeepT.set HG3.out (by decide) _ _)
    have hb34 : KeepT [53] wr (W3.setCell ⟨g, 7, none⟩ (.slice At q.length ct)) := (KeepT.of_below (by rw [hbx]; exact HB3.out)).trans (KeepT.set HG3.out (by decide) _ _)
    have HV4 := ownsAt_keepT HV.out hb34 (by decide)
    have HF4 := ownsAt_keepT O1.out hb34 (by decide)
    have hgx := HGX.out
    clear hb34 hg4 ht3 HB3 HG3 HX3 HI HV HBB HKK HQ_ O1 O3 HGX
    generalize W3.setCell ⟨g, 7, none⟩ (.slice At q.length ct) = W4 at hx4 HI4 HB4 HK4 HV4 HF4 ⊢
    have hc5 : W4.cell? ⟨g, 5, none⟩ = some (.int .i64 s1.long) := by obtain ⟨_, _, ⟨h, _⟩, _⟩ := HI4.cell; exact blk_cell h 5
    have hf5 : W4.frozen? ⟨g, 5, none⟩ = false := by obtain ⟨_, _, ⟨h, _⟩, _⟩ := HI4.cell; exact blk_frozen h 5
    have hx0 := blk_cell hx4 0
    have hx1 := blk_cell hx4 1
    have hy0 := blk_frozen hx4 0
    have hy1 := blk_frozen hx4 1
    have HX4 := Aside0.mk hx4
    have HA4 := Aside0.mk (And.intro HI4 (And.intro HB4 (And.intro HK4 (And.intro HV4 HF4))))
    clear HI4 HB4 HK4 HV4 HF4 hx4
    have same : ∀ (p : Nat) W', Drawn0 W4 W' → True := fun _ _ _ => trivial
    refine AnyEvents.region_then 8 (E := []) (C := fun (_ : Nat) W' => Drawn0 W4 W') (G := fun _ _ _ _ => True) (T := []) (R := fun _ _ _ _ => True) (vs := [(.pointer (some ⟨g, 0, none⟩)), (.pointer (some ⟨g, 0, none⟩)), (.pointer (some ⟨g, 5, none⟩)), (.int .i64 s1.long), (.pointer (some ⟨bx, 1, none⟩)), (.slice Af fr.length cf), (.int .i64 (fr.length : Int)), (.int .i64 (wrap64 (s1.long - (fr.length : Int))))]) (by kernel_rfl) (by kernel_rfl) rfl (by kernel_rfl) ?hc0 same (fun _ _ _ _ _ _ _ _ _ => trivial) (fun _ h => nomatch h) (fun x => ?obs) ?fin
    case hc0 => exact ⟨1, rfl⟩
    case obs =>
     refine AnyEvents.obs_cons (.pointer (some ⟨g, 0, none⟩)) rfl (AnyEvents.ob_plain rfl rfl rfl same rfl (fun p W' hwn hW => ?_)) ?_
     ·obtain ⟨nd, rfl⟩ := hW; first | rfl | (go_simp; done) | (go_simp; rfl) | (go_simp; simp only [i64_w]; done)
     try simp only [Act.put, List.setIfInBounds_toArray, List.set_cons_zero, List.set_cons_succ]
     refine AnyEvents.obs_cons (.pointer (some ⟨g, 0, none⟩)) rfl (AnyEvents.ob_plain rfl rfl rfl same rfl (fun p W' hwn hW => ?_)) ?_
     ·obtain ⟨nd, rfl⟩ := hW; first | rfl | (go_simp; done) | (go_simp; rfl) | (go_simp; simp only [i64_w]; done)
     try simp only [Act.put, List.setIfInBounds_toArray, List.set_cons_zero, List.set_cons_succ]
     refine AnyEvents.obs_cons (.pointer (some ⟨g, 5, none⟩)) rfl (AnyEvents.ob_plain rfl rfl rfl same rfl (fun p W' hwn hW => ?_)) ?_
     ·obtain ⟨nd, rfl⟩ := hW; first | rfl | (go_simp; done) | (go_simp; rfl) | (go_simp; simp only [i64_w]; done)
     try simp only [Act.put, List.setIfInBounds_toArray, List.set_cons_zero, List.set_cons_succ]
     refine AnyEvents.obs_cons (.int .i64 s1.long) rfl (AnyEvents.ob_plain rfl rfl rfl same rfl (fun p W' hwn hW => ?_)) ?_
     ·obtain ⟨nd, rfl⟩ := hW; have z0 : (W4.drewN nd).cell? ⟨g, 5, none⟩ = some (.int .i64 s1.long) := hc5; have z1 : (W4.drewN nd).frozen? ⟨g, 5, none⟩ = false := hf5; first | rfl | (go_simp; done) | (go_simp; rfl) | (go_simp; simp only [i64_w]; done)
     try simp only [Act.put, List.setIfInBounds_toArray, List.set_cons_zero, List.set_cons_succ]
     refine AnyEvents.obs_cons (.pointer (some ⟨bx, 1, none⟩)) rfl (AnyEvents.ob_plain rfl rfl rfl same rfl (fun p W' hwn hW => ?_)) ?_
     ·obtain ⟨nd, rfl⟩ := hW; first | rfl | (go_simp; done) | (go_simp; rfl) | (go_simp; simp only [i64_w]; done)
     try simp only [Act.put, List.setIfInBounds_toArray, List.set_cons_zero, List.set_cons_succ]
     refine AnyEvents.obs_cons (.slice Af fr.length cf) rfl (AnyEvents.ob_plain rfl rfl rfl same rfl (fun p W' hwn hW => ?_)) ?_
     ·obtain ⟨nd, rfl⟩ := hW; have z0 : (W4.drewN nd).cell? ⟨bx, 1, none⟩ = some (.slice Af fr.length cf) := hx1; have z1 : (W4.drewN nd).frozen? ⟨bx, 1, none⟩ = false := hy1; first | rfl | (go_simp; done) | (go_simp; rfl) | (go_simp; simp only [i64_w]; done)
     try simp only [Act.put, List.setIfInBounds_toArray, List.set_cons_zero, List.set_cons_succ]
     refine AnyEvents.obs_cons (.int .i64 (fr.length : Int)) rfl (AnyEvents.ob_plain rfl rfl rfl same rfl (fun p W' hwn hW => ?_)) ?_
     ·obtain ⟨nd, rfl⟩ := hW; first | rfl | (go_simp; done) | (go_simp; rfl) | (go_simp; simp only [i64_w]; done)
     try simp only [Act.put, List.setIfInBounds_toArray, List.set_cons_zero, List.set_cons_succ]
     refine AnyEvents.obs_cons (.int .i64 (wrap64 (s1.long - (fr.length : Int)))) rfl (AnyEvents.ob_plain rfl rfl rfl same rfl (fun p W' hwn hW => ?_)) ?_
     ·obtain ⟨nd, rfl⟩ := hW; first | rfl | (go_simp; done) | (go_simp; rfl) | (go_simp; simp only [i64_w]; done)
     try simp only [Act.put, List.setIfInBounds_toArray, List.set_cons_zero, List.set_cons_succ]
     trivial
    case fin =>
     intro x W' hD _
     simp only [List.take_succ_cons, List.take_zero, List.drop_succ_cons, List.drop_zero]
     rw [AnyOrder.lexAt_cons (.pointer (some ⟨g, 0, none⟩)) rfl]
     try simp only [Act.put, List.setIfInBounds_toArray, List.set_cons_zero, List.set_cons_succ]
     rw [AnyOrder.lexAt_cons (.pointer (some ⟨g, 0, none⟩)) rfl]
     try simp only [Act.put, List.setIfInBounds_toArray, List.set_cons_zero, List.set_cons_succ]
     rw [AnyOrder.lexAt_cons (.pointer (some ⟨g, 5, none⟩)) rfl]
     try simp only [Act.put, List.setIfInBounds_toArray, List.set_cons_zero, List.set_cons_succ]
     rw [AnyOrder.lexAt_cons (.int .i64 s1.long) rfl]
     try simp only [Act.put, List.setIfInBounds_toArray, List.set_cons_zero, List.set_cons_succ]
     rw [AnyOrder.lexAt_cons (.pointer (some ⟨bx, 1, none⟩)) rfl]
     try simp only [Act.put, List.setIfInBounds_toArray, List.set_cons_zero, List.set_cons_succ]
     rw [AnyOrder.lexAt_cons (.slice Af fr.length cf) rfl]
     try simp only [Act.put, List.setIfInBounds_toArray, List.set_cons_zero, List.set_cons_succ]
     rw [AnyOrder.lexAt_cons (.int .i64 (fr.length : Int)) rfl]
     try simp only [Act.put, List.setIfInBounds_toArray, List.set_cons_zero, List.set_cons_succ]
     rw [AnyOrder.lexAt_cons (.int .i64 (wrap64 (s1.long - (fr.length : Int)))) rfl]
     try simp only [Act.put, List.setIfInBounds_toArray, List.set_cons_zero, List.set_cons_succ]
     rw [AnyOrder.lexAt_nil]
     clear same
     obtain ⟨nd, rfl⟩ := hD
     have ha5 : GateAt (W4.drewN nd) w0.heap.size top g { s1 with q := q } ∧ Below w0.heap.size w0 (W4.drewN nd) ∧ KeepT [53, 56] w (W4.drewN nd) ∧ ownsAt (W4.drewN nd) w.heap.size 9 1 (.slice Av acc.length cv) acc.length (txt acc) ∧ ownsAt (W4.drewN nd) w0.heap.size 9 1 (.slice Af fr.length cf) fr.length (txt fr) := ⟨HA4.out.1.drawn rfl, pw_below_drewN HA4.out.2.1 nd, HA4.out.2.2.1, HA4.out.2.2.2.1, HA4.out.2.2.2.2⟩
     have hx5 : (W4.drewN nd).heap[bx]? = some (.cells #[.int .i64 m, .slice Af fr.length cf] 56 (0, 0)) := HX4.out
     clear hc5 hf5 hx0 hx1 hy0 hy1 HX4 HA4
     generalize W4.drewN nd = W5 at ha5 hx5 ⊢
     obtain ⟨HI5, HB5, HK5, HV5, HF5⟩ := ha5
     have hc5 : W5.cell? ⟨g, 5, none⟩ = some (.int .i64 s1.long) := by obtain ⟨_, _, ⟨h, _⟩, _⟩ := HI5.cell; exact blk_cell h 5
     have hf5 : W5.frozen? ⟨g, 5, none⟩ = false := by obtain ⟨_, _, ⟨h, _⟩, _⟩ := HI5.cell; exact blk_frozen h 5
     have HA5 := Aside0.mk (And.intro HI5 (And.intro HB5 (And.intro HK5 (And.intro HV5 HF5))))
     have HX5 := Aside0.mk hx5
     clear HI5 HB5 HK5 HV5 HF5 hx5
     go_upto_region 6 with fail
     clear hc5 hf5
     have HI6 : GateAt (W5.setCell ⟨g, 5, none⟩ (.int .i64 (wrap64 (s1.long - (fr.length : Int))))) w0.heap.size top g { s1 with q := q, long := wrap64 (s1.long - (fr.length : Int)) } := HA5.out.1.set 5 _ rfl (fun v => rfl)
     have HB6 : Below w0.heap.size w0 (W5.setCell ⟨g, 5, none⟩ (.int .i64 (wrap64 (s1.long - (fr.length : Int))))) := below_set HA5.out.2.1 HA5.out.1.ge
     have HK6 : KeepT [53, 56] w (W5.setCell ⟨g, 5, none⟩ (.int .i64 (wrap64 (s1.long - (fr.length : Int))))) := GateAt.keep_set HA5.out.2.2.1 HA5.out.1 5 _
     have hk56 : KeepT [53, 56] W5 (W5.setCell ⟨g, 5, none⟩ (.int .i64 (wrap64 (s1.long - (fr.length : Int))))) := GateAt.keep_set (KeepT.refl _ _) HA5.out.1 5 _
     have HV6 := ownsAt_keepT HA5.out.2.2.2.1 hk56 (by decide)
     have HF6 := ownsAt_keepT HA5.out.2.2.2.2 hk56 (by decide)
     have hx6 := blk_far HX5.out (p := ⟨g, 5, none⟩) (fun h => hgx h.symm) (.int .i64 (wrap64 (s1.long - (fr.length : Int))))
     clear hk56 HA5 HX5
     generalize W5.setCell ⟨g, 5, none⟩ (.int .i64 (wrap64 (s1.long - (fr.length : Int)))) = W6 at HI6 HB6 HK6 HV6 HF6 hx6 ⊢
     have hx0 := blk_cell hx6 0
     have hx1 := blk_cell hx6 1
     have hy0 := blk_frozen hx6 0
     have hy1 := blk_frozen hx6 1
     have HA6 := Aside0.mk (And.intro HI6 (And.intro HB6 (And.intro HK6 (And.intro HV6 HF6))))
     clear HI6 HB6 HK6 HV6 HF6 hx6
     have htw : top ≤ W6.heap.size := Nat.le_trans ht HA6.out.2.2.1.1
     have hut := until_in hq hm
     have htot : acc.length + fr.length + ((GSt.went { s1 with q := q, long := wrap64 (s1.long - (fr.length : Int)) } m fr).until n).2.length ≤ 1099511627776 := by
      have h := hl; rw [HE2.out, hut, List.length_append, List.length_append] at h; omega
     have HT := Aside0.mk htot
     clear htot
     go_wp2_with fail
     refine (gate_Gate_went.calls g w0.heap.size top { s1 with q := q, long := wrap64 (s1.long - (fr.length : Int)) } m (.slice Af fr.length cf) fr w0 W6 HA6.out.1 HA6.out.2.1 HA6.out.2.2.2.2 (by have := HT.out; omega)).mono ?_
     rintro e W7 ⟨v7, rfl, i7, o7, b7, k7⟩
     clear hx0 hx1 hy0 hy1
     obtain ⟨A7, c7, rfl, _⟩ := ownsAt_len o7
     have HI7 := Aside0.mk i7
     have HO7 := Aside0.mk o7
     have HB7 := Aside0.mk b7
     have HV7 := Aside0.mk (ownsAt_keepT HA6.out.2.2.2.1 k7 (by decide))
     have HK7 := Aside0.mk (HA6.out.2.2.1.trans k7)
     clear i7 o7 b7 k7 HA6
     go_wp2_with (first | ((with_reducible refine gate_dst (N := 55) rfl ?_); refine wl_append 28 9 (.string (⟨#[]⟩ : ByteArray)) 1 16 rfl rfl Try.underlying28 (by kernel_rfl) rfl (by decide) (v := .slice Av acc.length cv) rfl rfl HV7.out HO7.out (texts_one fr) (by have := HT.out; simp only [maxLen]; omega) (by have := HT.out; omega) HK7.out.1 (fun v8 W8 hv8 hg8 hat8 => ?_); have HV8 := Aside0.mk hv8; have HG8 := Aside0.mk hg8; clear hv8 hg8 hat8))
     go_roundg k1
     case measure => omega
     case rel =>
      have hrow : ∀ b, Value.ownBlock (.slice Av acc.length cv) = some b → w.heap.size ≤ b ∧ ∃ cur, W7.heap[b]? = some (Obj.cells cur 9 (0, 0)) := fun b hb => ownsAt_block HV7.out hb
      refine ⟨⟨_, acc ++ fr, top, ?_, HE1.out.trans (by rw [hut]), by rw [HE2.out, hut, List.append_assoc], HI7.out.grown HG8.out (fun b hb => ⟨Nat.le_trans ht (hrow b hb).1, (hrow b hb).2⟩), ?_, below_of_grown HB7.out HG8.out HB7.out.size (fun b hb => Nat.le_trans hs0 (hrow b hb).1), HK7.out.grown_new HG8.out (fun b hb => (hrow b hb).1), rfl⟩⟩
      ·have h := HK.out; rw [hq, List.length_cons] at h; rw [went_q]; show q.length ≤ k1; omega
      ·have h := HV8.out; rw [← List.length_append] at h; simpa [txt] using h
   ·have d2 : decide (m ≤ n) = false := decide_eq_false hm
    have HM := Aside0.mk hm
    go_wp2
    go_ret
    rw [HE1.out, HE2.out, until_out hq (by have := HM.out; omega)]
    exact ⟨_, rfl, HI.out, by simpa using HV.out, HBB.out, HKK.out⟩



/-! ### gate_Gate_Confirm: function 12 (by hand) -/
theorem ownsAt_base {w : World} {base base' : Nat} {e : TypeId} {size : Nat} {v : Value} {n : Nat} {xs : List Value} (h : ownsAt w base e size v n xs) (hb : base' ≤ base) : ownsAt w base' e size v n xs :=
 ⟨h.1, h.2.imp id fun ⟨g, o, cap, cur, h1, h2, h3⟩ => ⟨g, o, cap, cur, h1, Nat.le_trans hb h2, h3⟩⟩
def GSt.max (s : GSt) (n : Int) : GSt := { s with conf := if s.conf < n then n else s.conf }
def GSt.confirm (s : GSt) (n : Int) : GSt × List ByteArray := if s.opn = true then (s, []) else (s.max n).until (if s.conf < n then n else s.conf)
set_option maxHeartbeats 4000000 in
set_option maxRecDepth 100000 in
theorem gate_Gate_Confirm.calls (g top : Nat) (s : GSt) (n : Int) (w0 w : World) (hG : GateAt w w0.heap.size top g s) (hB : Below w0.heap.size w0 w) (ht : top ≤ w.heap.size) (hl : (s.confirm n).2.length ≤ 1099511627776) :
  Calls Try.prog 12 #[.pointer (some ⟨g, 0, none⟩), .int .i64 n] w fun e w' => ∃ v, e = .returned v ∧ GateAt w' w0.heap.size top g (s.confirm n).1 ∧ ownsAt w' w.heap.size 9 1 v (s.confirm n).2.length (txt (s.confirm n).2) ∧ Below w0.heap.size w0 w' ∧ KeepT [53, 56] w w' := by
 have HI := Aside0.mk hG
 have HB := Aside0.mk hB
 clear hG hB
 obtain ⟨Az, cz, ⟨hbg, hle⟩, hcm, ⟨hc0, hc1, hc2, hc3⟩, ⟨hc4, hc5, hc6, hc7⟩, ⟨hf0, hf1, hf2, hf3⟩, ⟨hf4, hf5, hf6, hf7⟩, csz, HQ, HE⟩ := HI.out.cell
 by_cases ho : s.opn = true
 ·have hc : s.confirm n = (s, []) := by unfold GSt.confirm; rw [if_pos ho]
  rw [ho] at hc6
  go_enter Try.func12, Try.ntmps12
  go_wp2
  go_ret
  rw [hc]
  exact ⟨_, rfl, HI.out, ownsAt_nil _ _ _ _, HB.out, KeepT.refl _ _⟩
 have ho' : s.opn = false := by simpa using ho
 have hc : s.confirm n = (s.max n).until (if s.conf < n then n else s.conf) := by unfold GSt.confirm; rw [if_neg ho]
 rw [ho'] at hc6
 rw [hc] at hl ⊢
 have hk : (s.max n).conf = if s.conf < n then n else s.conf := rfl
 obtain ⟨mc, hmc⟩ : ∃ m_, (if s.conf < n then n else s.conf) = m_ := ⟨_, rfl⟩
 rw [hmc] at hl hk ⊢
 clear hc
 have hq1 : (s.max n).q = s.q := rfl
 have hg1 : ∀ v, (cellsG s v).setIfInBounds 2 (.int .i64 (s.max n).conf) = cellsG (s.max n) v := fun v => rfl
 rw [hk] at hg1
 generalize s.max n = s1 at hl hk hq1 hg1 ⊢
 have HQ1 := Aside0.mk hq1
 have HG1 := Aside0.mk hg1
 clear hq1 hg1
 go_enter Try.func12, Try.ntmps12
 go_upto_region 4 with fail
 clear hbg hc0 hc1 hc2 hc3 hc4 hc5 hc6 hc7 hf0 hf1 hf2 hf3 hf4 hf5 hf6 hf7 HQ HE hle hcm
 have i1 : GateAt (w.setCell ⟨g, 2, none⟩ (.int .i64 mc)) w0.heap.size top g s1 := HI.out.set 2 _ HQ1.out HG1.out
 have ha := And.intro i1 (And.intro (show Below w0.heap.size w0 (w.setCell ⟨g, 2, none⟩ (.int .i64 mc)) from below_set HB.out HI.out.ge) (And.intro (show w.heap.size ≤ (w.setCell ⟨g, 2, none⟩ (.int .i64 mc)).heap.size by simp [World.setCell]) (GateAt.keep_set (KeepT.refl [53, 56] _) HI.out 2 (.int .i64 mc))))
 clear i1 HI HB hmc
 generalize w.setCell ⟨g, 2, none⟩ (.int .i64 mc) = W1 at ha ⊢
 have HA := Aside0.mk ha
 clear ha
 have HI := Aside0.mk HA.out.1
 obtain ⟨Az, cz, ⟨hbg, hle⟩, hcm, ⟨hc0, hc1, hc2, hc3⟩, ⟨hc4, hc5, hc6, hc7⟩, ⟨hf0, hf1, hf2, hf3⟩, ⟨hf4, hf5, hf6, hf7⟩, csz, HQ, HE⟩ := HI.out.cell
 rw [hk] at hc2
 go_wp2_with fail
 refine (gate_Gate_until.calls g top s1 mc w0 _ HA.out.1 HA.out.2.1 (Nat.le_trans ht HA.out.2.2.1) hl).mono ?_
 rintro e W2 ⟨v, rfl, i2, o2, b2, k2⟩
 have i2 := Aside0.mk i2; have o2 := Aside0.mk o2; have b2 := Aside0.mk b2; have k2 := Aside0.mk (HA.out.2.2.2.trans k2)
 have hz := HA.out.2.2.1
 clear HA
 go_wp2
 go_ret
 exact ⟨v, rfl, i2.out, ownsAt_base o2.out hz, b2.out, k2.out⟩



/-! ### gate_Gate_Shut: function 7 (by hand) -/
def GSt.shut (s : GSt) (n : Int) : GSt × List ByteArray := GSt.until { s.max n with opn := false } (s.max n).conf
set_option maxHeartbeats 4000000 in
set_option maxRecDepth 100000 in
theorem gate_Gate_Shut.calls (g top : Nat) (s : GSt) (n : Int) (w0 w : World) (hG : GateAt w w0.heap.size top g s) (hB : Below w0.heap.size w0 w) (ht : top ≤ w.heap.size) (hl : (s.shut n).2.length ≤ 1099511627776) :
  Calls Try.prog 7 #[.pointer (some ⟨g, 0, none⟩), .int .i64 n] w fun e w' => ∃ v, e = .returned v ∧ GateAt w' w0.heap.size top g (s.shut n).1 ∧ ownsAt w' w.heap.size 9 1 v (s.shut n).2.length (txt (s.shut n).2) ∧ Below w0.heap.size w0 w' ∧ KeepT [53, 56] w w' := by
 have HI := Aside0.mk hG
 have HB := Aside0.mk hB
 clear hG hB
 obtain ⟨Az, cz, ⟨hbg, hle⟩, hcm, ⟨hc0, hc1, hc2, hc3⟩, ⟨hc4, hc5, hc6, hc7⟩, ⟨hf0, hf1, hf2, hf3⟩, ⟨hf4, hf5, hf6, hf7⟩, csz, HQ, HE⟩ := HI.out.cell
 unfold GSt.shut at hl ⊢
 obtain ⟨mc, hmc⟩ : ∃ m_, (if s.conf < n then n else s.conf) = m_ := ⟨_, rfl⟩
 have hk : (s.max n).conf = mc := hmc
 rw [hk] at hl ⊢
 have hq1 : (GSt.q { s.max n with opn := false }) = s.q := rfl
 have hg1 : ∀ v, ((cellsG s v).setIfInBounds 6 (.bool false)).setIfInBounds 2 (.int .i64 (s.max n).conf) = cellsG { s.max n with opn := false } v := fun v => rfl
 have hk : (GSt.conf { s.max n with opn := false }) = mc := hk
 rw [show (s.max n).conf = mc from hk] at hg1
 generalize ({ s.max n with opn := false } : GSt) = s1 at hl hk hq1 hg1 ⊢
 have HQ1 := Aside0.mk hq1
 have HG1 := Aside0.mk hg1
 clear hq1 hg1
 go_enter Try.func7, Try.ntmps7
 go_upto_region 2 with fail
 clear hbg hc0 hc1 hc2 hc3 hc4 hc5 hc6 hc7 hf0 hf1 hf2 hf3 hf4 hf5 hf6 hf7 HQ HE hle hcm
 have i1 : GateAt (w.setCell ⟨g, 6, none⟩ (.bool false)) w0.heap.size top g { s with opn := false } := HI.out.set 6 _ rfl (fun v => rfl)
 have k1 : KeepT [53, 56] w (w.setCell ⟨g, 6, none⟩ (.bool false)) := GateAt.keep_set (KeepT.refl [53, 56] _) HI.out 6 _
 have i2 : GateAt ((w.setCell ⟨g, 6, none⟩ (.bool false)).setCell ⟨g, 2, none⟩ (.int .i64 mc)) w0.heap.size top g s1 := i1.set 2 _ HQ1.out HG1.out
 have k2 : KeepT [53, 56] w ((w.setCell ⟨g, 6, none⟩ (.bool false)).setCell ⟨g, 2, none⟩ (.int .i64 mc)) := GateAt.keep_set k1 i1 2 _
 have b2 : Below w0.heap.size w0 ((w.setCell ⟨g, 6, none⟩ (.bool false)).setCell ⟨g, 2, none⟩ (.int .i64 mc)) := below_set (below_set HB.out HI.out.ge) HI.out.ge
 have ha := And.intro i2 (And.intro b2 (And.intro k2.1 k2))
 clear i1 i2 b2 k1 k2 HI HB hmc
 generalize (w.setCell ⟨g, 6, none⟩ (.bool false)).setCell ⟨g, 2, none⟩ (.int .i64 mc) = W1 at ha ⊢
 have HA := Aside0.mk ha
 clear ha
 have HI := Aside0.mk HA.out.1
 obtain ⟨Az, cz, ⟨hbg, hle⟩, hcm, ⟨hc0, hc1, hc2, hc3⟩, ⟨hc4, hc5, hc6, hc7⟩, ⟨hf0, hf1, hf2, hf3⟩, ⟨hf4, hf5, hf6, hf7⟩, csz, HQ, HE⟩ := HI.out.cell
 rw [hk] at hc2
 go_wp2_with fail
 refine (gate_Gate_until.calls g top s1 mc w0 _ HA.out.1 HA.out.2.1 (Nat.le_trans ht HA.out.2.2.1) hl).mono ?_
 rintro e W2 ⟨v, rfl, i2, o2, b2, k2⟩
 have i2 := Aside0.mk i2; have o2 := Aside0.mk o2; have b2 := Aside0.mk b2; have k2 := Aside0.mk (HA.out.2.2.2.trans k2)
 have hz := HA.out.2.2.1
 clear HA
 go_wp2
 go_ret
 exact ⟨v, rfl, i2.out, ownsAt_base o2.out hz, b2.out, k2.out⟩


end Go.Proofs.Ytcmpkgmhcbnmbaa.PGatePlays

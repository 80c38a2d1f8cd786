-- Laid by this claim's own program over the print's words.
import Derived.Test.YtobndcdohehhbaaPSendqStreamx0
namespace Go.Proofs.Ytobndcdohehhbaa.PSendqStream
open Go.RowKit Go.Proofs.YtobndcdohehhbaaW.PrintWords Go.Proofs.YtobndcdohehhbaaW.PrintLast Go.Proofs.YtobndcdohehhbaaW.PrintMore
attribute [local go_sem] max2_int min2_int max_two min_two max_three min_three max_four min_four max_five min_five extract_cut tmod_nat_lit   -- for this text's walks alone
set_option linter.unusedVariables false
set_option linter.unusedSimpArgs false

/-! ### seq_Check: function 24 -/
def seq_Check.f (a0 : Int) : Option (Int) := if (Go.bits .and .i64 a0 4294967295) = a0 then (some 0) else (some 1)
set_option maxHeartbeats 8000000 in
set_option maxRecDepth 100000 in
theorem seq_Check.calls (a0 : Int) (r : Int) (w : World) (h : seq_Check.f a0 = some r) :
  Calls Try.prog 24 #[.int .i64 a0] w fun e w' => e = .returned (.int .i64 r) ∧ Drawn0 w w' := by
 have H : (if (Go.bits .and .i64 a0 4294967295) = a0 then (some 0) else (some 1)) = some r := h
 clear h
 by_cases c2 : (Go.bits .and .i64 a0 4294967295) = a0
 ·rw [if_pos c2] at H
  have c2b0 : ((Go.bits .and .i64 a0 4294967295) == a0) = true := beq_iff_eq.mpr c2
  have c2b1 : ((Go.bits .and .i64 a0 4294967295) != a0) = false := bne_eq_false_iff_eq.mpr c2
  clear c2
  obtain rfl := Option.some.inj H
  go_enter Try.func24, Try.ntmps24
  go_wp2
  go_ret
  exact ⟨by first | rfl | (simp; done) | (simp [*]; done), by repeat (first | exact Drawn0.refl _ | apply Drawn0.step)⟩
 ·rw [if_neg c2] at H
  have c2b0 : ((Go.bits .and .i64 a0 4294967295) == a0) = false := beq_eq_false_iff_ne.mpr c2
  have c2b1 : ((Go.bits .and .i64 a0 4294967295) != a0) = true := bne_iff_ne.mpr c2
  obtain rfl := Option.some.inj H
  go_enter Try.func24, Try.ntmps24
  go_wp2
  go_ret
  exact ⟨by first | rfl | (simp; done) | (simp [*]; done), by repeat (first | exact Drawn0.refl _ | apply Drawn0.step)⟩

/-- A state of type 67 at block g of W; what its slices lead to came in by w0. -/
def IsS67 (w0 W : World) (g : Nat) (f0 : Int) (f1 : Int) (f2 : Int) (f3 : ByteArray) (f4 : List (S73)) : Prop := ∃ A4 c4, W.heap[g]? = some (.cells #[.int .i64 f0, .int .i64 f1, .int .i64 f2, .string f3, .slice A4 f4.length c4] 67 (0, 0)) ∧ w0.heap.size ≤ g ∧ Kd.C k73 w0 A4 f4.length f4
theorem IsS67.grown {w0 W : World} {g : Nat} {f0 : Int} {f1 : Int} {f2 : Int} {f3 : ByteArray} {f4 : List (S73)} {W1 : World} {row : Option Nat} (h : IsS67 w0 W g f0 f1 f2 f3 f4) (hw : W.grownBy W1 row) (hne : some g ≠ row) : IsS67 w0 W1 g f0 f1 f2 f3 f4 := by
 obtain ⟨A4, c4, hb, hg, hr4⟩ := h
 exact ⟨A4, c4, blk_grown hb hw hne, hg, hr4⟩
theorem IsS67.own_neN {w0 W : World} {g : Nat} {f0 : Int} {f1 : Int} {f2 : Int} {f3 : ByteArray} {f4 : List (S73)} {α : Type} {d : Kd α} {e : Nat} {base : Nat} {ok : Nat → Prop} {v : Value} {xs : List α} (h : IsS67 w0 W g f0 f1 f2 f3 f4) (ho : Kd.N d e W base ok v xs) (ht : e ≠ 67) : some g ≠ v.ownBlock := by
 obtain ⟨A4, c4, hb, hg, hr4⟩ := h
 exact Kd.N_ne ho hb ht
theorem IsS67.fresh {w0 W : World} {g : Nat} {f0 : Int} {f1 : Int} {f2 : Int} {f3 : ByteArray} {f4 : List (S73)} (h : IsS67 w0 W g f0 f1 f2 f3 f4) : ∀ k, W.heap.size ≤ k → k ≠ g := by
 obtain ⟨A4, c4, hb, hg, hr4⟩ := h
 exact Kd.freshB hb
theorem IsS67.kept {w0 W : World} {g : Nat} {f0 : Int} {f1 : Int} {f2 : Int} {f3 : ByteArray} {f4 : List (S73)} {W1 : World} {S : Nat → Prop} (h : IsS67 w0 W g f0 f1 f2 f3 f4) (hk : Kept W W1 S) (hne : ¬ S g) : IsS67 w0 W1 g f0 f1 f2 f3 f4 := by
 obtain ⟨A4, c4, hb, hg, hr4⟩ := h
 exact ⟨A4, c4, blk_kept hb hk hne, hg, hr4⟩
theorem IsS67.below {w0 W : World} {g : Nat} {f0 : Int} {f1 : Int} {f2 : Int} {f3 : ByteArray} {f4 : List (S73)} {W1 : World} (h : IsS67 w0 W g f0 f1 f2 f3 f4) (hw : Below W.heap.size W W1) : IsS67 w0 W1 g f0 f1 f2 f3 f4 := h.grown (grown_of_below hw none) (by simp)
theorem IsS67.alloc {w0 W : World} {g : Nat} {f0 : Int} {f1 : Int} {f2 : Int} {f3 : ByteArray} {f4 : List (S73)} (h : IsS67 w0 W g f0 f1 f2 f3 f4) (o : Obj) : IsS67 w0 (W.alloc o) g f0 f1 f2 f3 f4 := h.below (below_alloc (Below.refl _ _) o)
theorem IsS67.drewN {w0 W : World} {g : Nat} {f0 : Int} {f1 : Int} {f2 : Int} {f3 : ByteArray} {f4 : List (S73)} (h : IsS67 w0 W g f0 f1 f2 f3 f4) (m : Nat) : IsS67 w0 (W.drewN m) g f0 f1 f2 f3 f4 := h
theorem IsS67.drew {w0 W : World} {g : Nat} {f0 : Int} {f1 : Int} {f2 : Int} {f3 : ByteArray} {f4 : List (S73)} (h : IsS67 w0 W g f0 f1 f2 f3 f4) : IsS67 w0 W.drew g f0 f1 f2 f3 f4 := h
theorem IsS67.at_ {w0 W : World} {g : Nat} {f0 : Int} {f1 : Int} {f2 : Int} {f3 : ByteArray} {f4 : List (S73)} {w' : World} {m : Nat} (hq : W.drewN m = w') (h : IsS67 w0 W g f0 f1 f2 f3 f4) : IsS67 w0 w' g f0 f1 f2 f3 f4 := by subst hq; exact IsS67.drewN h m
theorem IsS67.apart {w0 W : World} {g : Nat} {f0 : Int} {f1 : Int} {f2 : Int} {f3 : ByteArray} {f4 : List (S73)} {α : Type} {d : Kd α} {e : Nat} {base : Nat} {ok : Nat → Prop} {v : Value} {xs : List α} (h : IsS67 w0 W g f0 f1 f2 f3 f4) (ho : d.R e W base ok v xs) (ht : ∀ q, q ∈ e :: d.E → q ≠ 67) : d.R e W base (fun k => ok k ∧ k ≠ g) v xs := by
 obtain ⟨A4, c4, hb, hg, hr4⟩ := h
 exact Kd.R_types ho hb ht
theorem IsS67.own_ne {w0 W : World} {g : Nat} {f0 : Int} {f1 : Int} {f2 : Int} {f3 : ByteArray} {f4 : List (S73)} {α : Type} {d : Kd α} {e : Nat} {base : Nat} {ok : Nat → Prop} {v : Value} {xs : List α} (h : IsS67 w0 W g f0 f1 f2 f3 f4) (ho : d.R e W base ok v xs) (ht : e ≠ 67) : some g ≠ v.ownBlock := by
 obtain ⟨A4, c4, hb, hg, hr4⟩ := h
 exact Kd.R_ne ho hb ht
theorem IsS67.apartQ {w0 W : World} {g : Nat} {f0 : Int} {f1 : Int} {f2 : Int} {f3 : ByteArray} {f4 : List (S73)} {α : Type} {d : Kd α} {e : Nat} {base : Nat} {ok : Nat → Prop} {v : Value} {xs : List α} (h : IsS67 w0 W g f0 f1 f2 f3 f4) (ho : d.Q e W base ok v xs) (ht : ∀ q, q ∈ e :: d.E → q ≠ 67) : d.Q e W base (fun k => ok k ∧ k ≠ g) v xs := by
 obtain ⟨A4, c4, hb, hg, hr4⟩ := h
 exact Kd.Q_types ho hb ht
theorem IsS67.own_neQ {w0 W : World} {g : Nat} {f0 : Int} {f1 : Int} {f2 : Int} {f3 : ByteArray} {f4 : List (S73)} {α : Type} {d : Kd α} {e : Nat} {base : Nat} {ok : Nat → Prop} {v : Value} {xs : List α} (h : IsS67 w0 W g f0 f1 f2 f3 f4) (ho : d.Q e W base ok v xs) (ht : e ≠ 67) : some g ≠ v.ownBlock := by
 obtain ⟨A4, c4, hb, hg, hr4⟩ := h
 exact Kd.Q_ne ho hb ht
theorem IsS67.apartS {w0 W : World} {g : Nat} {f0 : Int} {f1 : Int} {f2 : Int} {f3 : ByteArray} {f4 : List (S73)} {α : Type} {d : Kd α} {e : Nat} {base : Nat} {ok : Nat → Prop} {v : Value} {xs : List α} (h : IsS67 w0 W g f0 f1 f2 f3 f4) (ho : d.S e W base ok v xs) (ht : ∀ q, q ∈ e :: d.E → q ≠ 67) : d.S e W base (fun k => ok k ∧ k ≠ g) v xs := by
 obtain ⟨A4, c4, hb, hg, hr4⟩ := h
 exact Kd.S_types ho hb ht
theorem IsS67.own_neS {w0 W : World} {g : Nat} {f0 : Int} {f1 : Int} {f2 : Int} {f3 : ByteArray} {f4 : List (S73)} {α : Type} {d : Kd α} {e : Nat} {base : Nat} {ok : Nat → Prop} {v : Value} {xs : List α} (h : IsS67 w0 W g f0 f1 f2 f3 f4) (ho : d.S e W base ok v xs) (ht : e ≠ 67) : some g ≠ v.ownBlock := by
 obtain ⟨A4, c4, hb, hg, hr4⟩ := h
 exact Kd.S_ne ho hb ht
theorem IsS67.lt {w0 W : World} {g : Nat} {f0 : Int} {f1 : Int} {f2 : Int} {f3 : ByteArray} {f4 : List (S73)} (h : IsS67 w0 W g f0 f1 f2 f3 f4) : g < W.heap.size := by
 obtain ⟨A4, c4, hb, hg, hr4⟩ := h
 exact blk_lt hb
theorem IsS67.ge {w0 W : World} {g : Nat} {f0 : Int} {f1 : Int} {f2 : Int} {f3 : ByteArray} {f4 : List (S73)} (h : IsS67 w0 W g f0 f1 f2 f3 f4) : w0.heap.size ≤ g := by
 obtain ⟨A4, c4, hb, hg, hr4⟩ := h
 exact hg
theorem IsS67.ne_blk {w0 W : World} {g : Nat} {f0 : Int} {f1 : Int} {f2 : Int} {f3 : ByteArray} {f4 : List (S73)} {a : Nat} {cs : Array Value} {t : TypeId} {fr : Nat × Nat} (h : IsS67 w0 W g f0 f1 f2 f3 f4) (hb2 : W.heap[a]? = some (.cells cs t fr)) (ht : t ≠ 67) : g ≠ a := by
 obtain ⟨A4, c4, hb, hg, hr4⟩ := h
 rintro rfl
 rw [hb] at hb2
 injection hb2 with hb2
 injection hb2 with _ ht2
 exact ht ht2.symm
theorem IsS67.far {w0 W : World} {g : Nat} {f0 : Int} {f1 : Int} {f2 : Int} {f3 : ByteArray} {f4 : List (S73)} {p : Addr} (h : IsS67 w0 W g f0 f1 f2 f3 f4) (hne : g ≠ p.block) (u : Value) : IsS67 w0 (W.setCell p u) g f0 f1 f2 f3 f4 := by
 obtain ⟨A4, c4, hb, hg, hr4⟩ := h
 exact ⟨A4, c4, blk_far hb hne u, hg, hr4⟩
theorem cellS67_0 {W : World} {g : Nat} {A4 : Option Addr} {c4 : Nat} {f0 : Int} {f1 : Int} {f2 : Int} {f3 : ByteArray} {f4 : List (S73)} (h : W.heap[g]? = some (.cells #[.int .i64 f0, .int .i64 f1, .int .i64 f2, .string f3, .slice A4 f4.length c4] 67 (0, 0))) : W.cell? ⟨g, 0, none⟩ = some (.int .i64 f0) := (blk_cell h 0).trans rfl
theorem IsS67.set_0 {w0 W : World} {g : Nat} {f0 : Int} {f1 : Int} {f2 : Int} {f3 : ByteArray} {f4 : List (S73)} (h : IsS67 w0 W g f0 f1 f2 f3 f4) (x : Int) : IsS67 w0 (W.setCell ⟨g, 0, none⟩ (.int .i64 x)) g x f1 f2 f3 f4 := by
 obtain ⟨A4, c4, hb, hg, hr4⟩ := h
 exact ⟨A4, c4, by simpa using blk_set hb 0 (.int .i64 x), hg, hr4⟩
theorem cellS67_1 {W : World} {g : Nat} {A4 : Option Addr} {c4 : Nat} {f0 : Int} {f1 : Int} {f2 : Int} {f3 : ByteArray} {f4 : List (S73)} (h : W.heap[g]? = some (.cells #[.int .i64 f0, .int .i64 f1, .int .i64 f2, .string f3, .slice A4 f4.length c4] 67 (0, 0))) : W.cell? ⟨g, 1, none⟩ = some (.int .i64 f1) := (blk_cell h 1).trans rfl
theorem IsS67.set_1 {w0 W : World} {g : Nat} {f0 : Int} {f1 : Int} {f2 : Int} {f3 : ByteArray} {f4 : List (S73)} (h : IsS67 w0 W g f0 f1 f2 f3 f4) (x : Int) : IsS67 w0 (W.setCell ⟨g, 1, none⟩ (.int .i64 x)) g f0 x f2 f3 f4 := by
 obtain ⟨A4, c4, hb, hg, hr4⟩ := h
 exact ⟨A4, c4, by simpa using blk_set hb 1 (.int .i64 x), hg, hr4⟩
theorem cellS67_2 {W : World} {g : Nat} {A4 : Option Addr} {c4 : Nat} {f0 : Int} {f1 : Int} {f2 : Int} {f3 : ByteArray} {f4 : List (S73)} (h : W.heap[g]? = some (.cells #[.int .i64 f0, .int .i64 f1, .int .i64 f2, .string f3, .slice A4 f4.length c4] 67 (0, 0))) : W.cell? ⟨g, 2, none⟩ = some (.int .i64 f2) := (blk_cell h 2).trans rfl
theorem IsS67.set_2 {w0 W : World} {g : Nat} {f0 : Int} {f1 : Int} {f2 : Int} {f3 : ByteArray} {f4 : List (S73)} (h : IsS67 w0 W g f0 f1 f2 f3 f4) (x : Int) : IsS67 w0 (W.setCell ⟨g, 2, none⟩ (.int .i64 x)) g f0 f1 x f3 f4 := by
 obtain ⟨A4, c4, hb, hg, hr4⟩ := h
 exact ⟨A4, c4, by simpa using blk_set hb 2 (.int .i64 x), hg, hr4⟩
theorem cellS67_3 {W : World} {g : Nat} {A4 : Option Addr} {c4 : Nat} {f0 : Int} {f1 : Int} {f2 : Int} {f3 : ByteArray} {f4 : List (S73)} (h : W.heap[g]? = some (.cells #[.int .i64 f0, .int .i64 f1, .int .i64 f2, .string f3, .slice A4 f4.length c4] 67 (0, 0))) : W.cell? ⟨g, 3, none⟩ = some (.string f3) := (blk_cell h 3).trans rfl
theorem IsS67.set_3 {w0 W : World} {g : Nat} {f0 : Int} {f1 : Int} {f2 : Int} {f3 : ByteArray} {f4 : List (S73)} (h : IsS67 w0 W g f0 f1 f2 f3 f4) (x : ByteArray) : IsS67 w0 (W.setCell ⟨g, 3, none⟩ (.string x)) g f0 f1 f2 x f4 := by
 obtain ⟨A4, c4, hb, hg, hr4⟩ := h
 exact ⟨A4, c4, by simpa using blk_set hb 3 (.string x), hg, hr4⟩
theorem cellS67_4 {W : World} {g : Nat} {A4 : Option Addr} {c4 : Nat} {f0 : Int} {f1 : Int} {f2 : Int} {f3 : ByteArray} {f4 : List (S73)} (h : W.heap[g]? = some (.cells #[.int .i64 f0, .int .i64 f1, .int .i64 f2, .string f3, .slice A4 f4.length c4] 67 (0, 0))) : W.cell? ⟨g, 4, none⟩ = some (.slice A4 f4.length c4) := (blk_cell h 4).trans rfl
theorem IsS67.new (w0 W : World) (A4 : Option Addr) (c4 : Nat) (f0 : Int) (f1 : Int) (f2 : Int) (f3 : ByteArray) (f4 : List (S73)) (hB : Below w0.heap.size w0 W) (hr4 : Kd.C k73 w0 A4 f4.length f4) : IsS67 w0 (W.alloc (.cells #[.int .i64 f0, .int .i64 f1, .int .i64 f2, .string f3, .slice A4 f4.length c4] 67)) W.heap.size f0 f1 f2 f3 f4 := ⟨A4, c4, by simpa using heap_alloc_new W _, hB.size, hr4⟩

/-! ### sendq_New: function 9 (by hand) -/
theorem sendq_New.C_nil {α : Type} (d : Kd α) (w : World) : Kd.C d w none 0 [] := by
 obtain ⟨A, c, h1, _, h3⟩ := Kd.R_reads (Kd.R_nil d 0 w 0 (fun _ => True))
 simp only [List.length_nil] at h1 h3
 injection h1 with h1 _ _
 rw [h1]; exact h3
theorem IsS67.nil4 {w0 W : World} {g : Nat} {f0 f1 f2 : Int} {f3 : ByteArray} (h : IsS67 w0 W g f0 f1 f2 f3 []) : IsS67 w0 (W.setCell ⟨g, 4, none⟩ (.slice none 0 0)) g f0 f1 f2 f3 [] := by
 obtain ⟨A, c, HG, hg, _⟩ := h
 exact ⟨none, 0, blk_put HG 4 _ rfl, hg, sendq_New.C_nil _ _⟩
set_option maxHeartbeats 4000000 in
set_option maxRecDepth 100000 in
theorem sendq_New.calls (first room : Int) (w0 w : World) (hB : Below w0.heap.size w0 w) (h : seq_Check.f first = some 0) (h1 : 1 ≤ room) (h2 : room ≤ 65536) :
  Calls Try.prog 9 #[.int .i64 first, .int .i64 room] w fun e w' => ∃ g, e = .returned (.tuple #[.pointer (some ⟨g, 0, none⟩), .int .i64 0]) ∧ IsS67 w0 w' g first 0 room (⟨#[]⟩ : ByteArray) [] ∧ Below w0.heap.size w0 w' ∧ w.heap.size ≤ g := by
 have HB := Aside0.mk hB
 have d1 : decide (room < 1) = false := decide_eq_false (by omega)
 have d2 : decide (65536 < room) = false := decide_eq_false (by omega)
 go_enter Try.func9, Try.ntmps9
 go_wp2_with fail
 refine (seq_Check.calls first 0 _ h).mono ?_
 rintro e w' ⟨rfl, nd, rfl⟩
 have hb1 : Below w0.heap.size w0 (w.drewN nd) := pw_below_drewN HB.out nd
 have hs1 : (w.drewN nd).heap.size = w.heap.size := rfl
 clear HB
 generalize w.drewN nd = w1 at hb1 hs1 ⊢
 have HB := Aside0.mk hb1
 have HS := Aside0.mk hs1
 clear hb1 hs1
 go_wp2_with (first | ((with_reducible refine gate_dst (N := 20) rfl ?_); refine box_event ?hg (N := 20) ?hd (cs := #[.int .i64 first, .int .i64 0, .int .i64 room, .string (⟨#[]⟩ : ByteArray), .slice none 0 0]) (t := 67) ?hr ?_; (case hd => rfl); (case hg => rfl); (case hr => first | (go_simp; done) | (go_simp; rfl)); intro g hg w2 hbox hb; have BX := Aside0.mk hbox; have HB2 := Aside0.mk (below_step HB.out hb); have GG := Aside0.mk (show w1.heap.size ≤ g by rw [hg]; exact Nat.le_refl _); clear hbox hb hg))
 go_ret2
 exact ⟨g, rfl, ⟨none, 0, BX.out, Nat.le_trans HB.out.size GG.out, sendq_New.C_nil _ _⟩, HB2.out, by rw [← HS.out]; exact GG.out⟩



/-! ### sendq_Queue_Write: function 10 (by hand) -/
def sendq_Queue_Write.f (s0_0 s0_1 s0_2 : Int) (s0_3 : ByteArray) (s0_4 : List S73) (a1 : ByteArray) : Option (Int × Int × ByteArray) :=
 if (mn (a1.size : Int) (wrap64 (s0_2 - (s0_3.size : Int)))) = 0 ∧ a1.toList ≠ [] then some (0, 150, s0_3) else if 0 ≤ (mn (a1.size : Int) (wrap64 (s0_2 - (s0_3.size : Int)))) ∧ (mn (a1.size : Int) (wrap64 (s0_2 - (s0_3.size : Int)))) ≤ (a1.size : Int) ∧ s0_3.size + (cutS a1 0 (mn (a1.size : Int) (wrap64 (s0_2 - (s0_3.size : Int)))).toNat).size ≤ 9223372036854775807 then some ((mn (a1.size : Int) (wrap64 (s0_2 - (s0_3.size : Int)))), 0, s0_3 ++ cutS a1 0 (mn (a1.size : Int) (wrap64 (s0_2 - (s0_3.size : Int)))).toNat) else none
set_option maxHeartbeats 4000000 in
set_option maxRecDepth 100000 in
theorem sendq_Queue_Write.calls (g : Nat) (s0_0 s0_1 s0_2 : Int) (s0_3 : ByteArray) (s0_4 : List S73) (a1 : ByteArray) (r1 r2 : Int) (r3 : ByteArray) (w0 w : World) (hI : IsS67 w0 w g s0_0 s0_1 s0_2 s0_3 s0_4) (hB : Below w0.heap.size w0 w) (h : sendq_Queue_Write.f s0_0 s0_1 s0_2 s0_3 s0_4 a1 = some (r1, r2, r3)) :
  Calls Try.prog 10 #[.pointer (some ⟨g, 0, none⟩), .string a1] w fun e w' => e = .returned (.tuple #[.int .i64 r1, .int .i64 r2]) ∧ IsS67 w0 w' g s0_0 s0_1 s0_2 r3 s0_4 ∧ Below w0.heap.size w0 w' ∧ KeepBut w w' g none := by
 have HI0 := Aside0.mk hI
 have HK := Aside0.mk (KeepBut.refl w g none)
 have HB := Aside0.mk hB
 clear hI hB
 unfold sendq_Queue_Write.f at h
 obtain ⟨n, hn⟩ : ∃ n_, (mn (a1.size : Int) (wrap64 (s0_2 - (s0_3.size : Int)))) = n_ := ⟨_, rfl⟩
 rw [hn] at h
 have hn_ : (if wrap64 (s0_2 - (s0_3.size : Int)) < (a1.size : Int) then wrap64 (s0_2 - (s0_3.size : Int)) else (a1.size : Int)) = n := hn
 obtain ⟨Az, cz, HGz, hgz, HSz⟩ := HI0.out
 have hcz_0 := cellS67_0 HGz
 have hcz_1 := cellS67_1 HGz
 have hcz_2 := cellS67_2 HGz
 have hcz_3 := cellS67_3 HGz
 have hcz_4 := cellS67_4 HGz
 have hfz_0 := blk_frozen HGz 0
 have hfz_1 := blk_frozen HGz 1
 have hfz_2 := blk_frozen HGz 2
 have hfz_3 := blk_frozen HGz 3
 have hfz_4 := blk_frozen HGz 4
 clear HGz hgz
 by_cases c1 : n = 0 ∧ a1.toList ≠ []
 ·rw [if_pos c1] at h
  simp only [Option.some.injEq, Prod.mk.injEq] at h
  obtain ⟨rfl, rfl, rfl⟩ := h
  obtain ⟨c2, c3⟩ := c1
  have b2 : (n == 0) = true := beq_iff_eq.mpr c2
  have b3 : a1.toList.isEmpty = false := by cases h : a1.toList with | nil => exact absurd h c3 | cons _ _ => rfl
  go_enter Try.func10, Try.ntmps10
  go_wp2
  repeat (go_quiet (fail); try go_wp2)
  go_ret2
  exact ⟨by first | rfl | (simp; done) | (simp [*]; done), by repeat (first | (with_reducible first | exact HI0.out | apply IsS67.alloc | apply IsS67.drewN | apply IsS67.drew | apply IsS67.set_0 | apply IsS67.set_1 | apply IsS67.set_2 | apply IsS67.set_3) | exact HI0.out), by repeat (first | (with_reducible first | exact HB.out | apply below_alloc | apply pw_below_drewN | apply below_drew1 | refine below_set ?_ (IsS67.ge HI0.out)) | exact HB.out), by repeat (first | (with_reducible first | exact HK.out | apply KeepBut.set_ | apply keep_drewN | apply keep_drew | apply keep_alloc) | exact HK.out)⟩
 rw [if_neg c1] at h
 by_cases c2 : 0 ≤ n ∧ n ≤ (a1.size : Int) ∧ s0_3.size + (cutS a1 0 n.toNat).size ≤ 9223372036854775807
 case neg => rw [if_neg c2] at h; cases h
 rw [if_pos c2] at h
 simp only [Option.some.injEq, Prod.mk.injEq] at h
 obtain ⟨rfl, rfl, rfl⟩ := h
 obtain ⟨k1, k2, k3⟩ := c2
 have e2 : ¬ ((a1.size : Int) < n) := by omega
 have e3 : s0_3.size + (cutS a1 0 n.toNat).size ≤ 9223372036854775807 := k3
 have K3 := Aside0.mk k3
 have K1 := Aside0.mk (And.intro k1 k2)
 go_enter Try.func10, Try.ntmps10
 go_wp2
 have b2 : (n == 0) = false ∨ ((n == 0) = true ∧ a1.toList.isEmpty = true) := by
  by_cases h : n = 0
  ·refine .inr ⟨beq_iff_eq.mpr h, ?_⟩
   cases h3 : a1.toList with | nil => rfl | cons _ _ => exact absurd ⟨h, by rw [h3]; simp⟩ c1
  ·exact .inl (beq_eq_false_iff_ne.mpr h)
 rcases b2 with b2 | ⟨b2, b3⟩
 all_goals
  repeat (go_quiet (fail); try go_wp2)
  have same : ∀ (p : Nat) (W' : World), (fun p W' => IsS67 w0 W' g s0_0 s0_1 s0_2 (if p = 0 then s0_3 else s0_3 ++ cutS a1 0 n.toNat) s0_4 ∧ Below w0.heap.size w0 W' ∧ KeepBut w W' g none ∧ p ≤ 1) p W' → True := fun _ _ _ => trivial
  clear hcz_0 hcz_1 hcz_2 hcz_3 hcz_4 hfz_0 hfz_1 hfz_2 hfz_3 hfz_4
  refine AnyEvents.region_then 11 (E := [10]) (C := fun p W' => IsS67 w0 W' g s0_0 s0_1 s0_2 (if p = 0 then s0_3 else s0_3 ++ cutS a1 0 n.toNat) s0_4 ∧ Below w0.heap.size w0 W' ∧ KeepBut w W' g none ∧ p ≤ 1) (G := fun _ _ _ _ => True) (T := []) (R := fun _ _ _ _ => True) (vs := [(.pointer (some ⟨g, 0, none⟩)), (.pointer (some ⟨g, 0, none⟩)), (.pointer (some ⟨g, 3, none⟩)), (.string s0_3), (.string a1), (.int .i64 n), (.string (cutS a1 0 n.toNat)), (.string (s0_3 ++ cutS a1 0 n.toNat)), (.pointer (some ⟨g, 0, none⟩)), (.pointer (some ⟨g, 3, none⟩)), undef]) (by kernel_rfl) (by kernel_rfl) rfl (by kernel_rfl) ?hc0 same (fun _ _ _ _ _ _ _ _ _ => trivial) (by decide) (fun x => ?obs) ?fin
  case hc0 => exact ⟨by first | exact HI0.out | (exact (IsS67.drewN HI0.out _)), below_drew1 (by repeat (first | (with_reducible first | exact HB.out | apply below_alloc | apply pw_below_drewN | apply below_drew1 | refine below_set ?_ (IsS67.ge HI0.out)) | exact HB.out)), by repeat (first | (with_reducible first | exact HK.out | apply KeepBut.set_ | apply keep_drewN | apply keep_drew | apply keep_alloc) | exact HK.out), by decide⟩
  case obs =>
   refine AnyEvents.obs_cons (.pointer (some ⟨g, 0, none⟩)) rfl (AnyEvents.ob_plain rfl rfl rfl same rfl (fun p W' hwn hC => by first | rfl | (go_simp; done) | (go_simp; rfl) | (go_simp; simp only [i64_w]; done))) ?_
   try simp only [Act.put, List.setIfInBounds_toArray, List.set_cons_zero, List.set_cons_succ]
   refine AnyEvents.obs_cons (.pointer (some ⟨g, 0, none⟩)) rfl (AnyEvents.ob_plain rfl rfl rfl same rfl (fun p W' hwn hC => by first | rfl | (go_simp; done) | (go_simp; rfl) | (go_simp; simp only [i64_w]; done))) ?_
   try simp only [Act.put, List.setIfInBounds_toArray, List.set_cons_zero, List.set_cons_succ]
   refine AnyEvents.obs_cons (.pointer (some ⟨g, 3, none⟩)) rfl (AnyEvents.ob_plain rfl rfl rfl same rfl (fun p W' hwn hC => by first | rfl | (go_simp; done) | (go_simp; rfl) | (go_simp; simp only [i64_w]; done))) ?_
   try simp only [Act.put, List.setIfInBounds_toArray, List.set_cons_zero, List.set_cons_succ]
   refine AnyEvents.obs_cons (.string s0_3) rfl (AnyEvents.ob_plain rfl rfl rfl same rfl (fun p W' hwn hC => ?_)) ?_
   ·have hp1 := hwn.hi 0 10 rfl (by kernel_rfl); have hp3 : p ≤ 1 := hC.2.2.2; obtain ⟨A_, c_, HG, _, _⟩ := hC.1; have hcz := cellS67_3 HG; obtain rfl : p = 0 := (by omega); all_goals (clear HG; first | (go_simp; done) | (go_simp; rfl))
   try simp only [Act.put, List.setIfInBounds_toArray, List.set_cons_zero, List.set_cons_succ]
   refine AnyEvents.obs_cons (.string a1) rfl (AnyEvents.ob_plain rfl rfl rfl same rfl (fun p W' hwn hC => by first | rfl | (go_simp; done) | (go_simp; rfl) | (go_simp; simp only [i64_w]; done))) ?_
   try simp only [Act.put, List.setIfInBounds_toArray, List.set_cons_zero, List.set_cons_succ]
   refine AnyEvents.obs_cons (.int .i64 n) rfl (AnyEvents.ob_plain rfl rfl rfl same rfl (fun p W' hwn hC => by first | rfl | (go_simp; done) | (go_simp; rfl) | (go_simp; simp only [i64_w]; done))) ?_
   try simp only [Act.put, List.setIfInBounds_toArray, List.set_cons_zero, List.set_cons_succ]
   refine AnyEvents.obs_cons (.string (cutS a1 0 n.toNat)) rfl (AnyEvents.ob_plain rfl rfl rfl same rfl (fun p W' hwn hC => run_sl_to Try.underlying9 rfl rfl rfl K1.out.1 K1.out.2)) ?_
   try simp only [Act.put, List.setIfInBounds_toArray, List.set_cons_zero, List.set_cons_succ]
   refine AnyEvents.obs_cons (.string (s0_3 ++ cutS a1 0 n.toNat)) rfl (AnyEvents.ob_plain rfl rfl rfl same rfl (fun p W' hwn hC => run_concat Try.underlying9 rfl rfl rfl K3.out)) ?_
   try simp only [Act.put, List.setIfInBounds_toArray, List.set_cons_zero, List.set_cons_succ]
   refine AnyEvents.obs_cons (.pointer (some ⟨g, 0, none⟩)) rfl (AnyEvents.ob_plain rfl rfl rfl same rfl (fun p W' hwn hC => by first | rfl | (go_simp; done) | (go_simp; rfl) | (go_simp; simp only [i64_w]; done))) ?_
   try simp only [Act.put, List.setIfInBounds_toArray, List.set_cons_zero, List.set_cons_succ]
   refine AnyEvents.obs_cons (.pointer (some ⟨g, 3, none⟩)) rfl (AnyEvents.ob_plain rfl rfl rfl same rfl (fun p W' hwn hC => by first | rfl | (go_simp; done) | (go_simp; rfl) | (go_simp; simp only [i64_w]; done))) ?_
   try simp only [Act.put, List.setIfInBounds_toArray, List.set_cons_zero, List.set_cons_succ]
   refine AnyEvents.obs_cons undef rfl (AnyEvents.ob_evstore (q := 0) rfl rfl rfl rfl (fun W' hC => ⟨W'.setCell ⟨g, 3, none⟩ (.string (s0_3 ++ cutS a1 0 n.toNat)), ?_, ⟨IsS67.set_3 hC.1 _, below_set hC.2.1 (IsS67.ge hC.1), KeepBut.set_ hC.2.2.1 _ _, by omega⟩, trivial⟩)) ?_
   ·obtain ⟨A_, c_, HG, _, _⟩ := hC.1; exact run_store1 rfl rfl rfl HG (by simp) rfl rfl (by kernel_rfl)
   try simp only [Act.put, List.setIfInBounds_toArray, List.set_cons_zero, List.set_cons_succ]
   trivial
  case fin =>
   intro x W' hE _
   simp only [List.take_succ_cons, List.take_zero, List.drop_succ_cons, List.drop_zero]
   rw [AnyOrder.lexAt_cons (.pointer (some ⟨g, 0, none⟩)) rfl]
   try simp only [Act.put, List.setIfInBounds_toArray, List.set_cons_zero, List.set_cons_succ]
   rw [AnyOrder.lexAt_cons (.pointer (some ⟨g, 0, none⟩)) rfl]
   try simp only [Act.put, List.setIfInBounds_toArray, List.set_cons_zero, List.set_cons_succ]
   rw [AnyOrder.lexAt_cons (.pointer (some ⟨g, 3, none⟩)) rfl]
   try simp only [Act.put, List.setIfInBounds_toArray, List.set_cons_zero, List.set_cons_succ]
   rw [AnyOrder.lexAt_cons (.string s0_3) rfl]
   try simp only [Act.put, List.setIfInBounds_toArray, List.set_cons_zero, List.set_cons_succ]
   rw [AnyOrder.lexAt_cons (.string a1) rfl]
   try simp only [Act.put, List.setIfInBounds_toArray, List.set_cons_zero, List.set_cons_succ]
   rw [AnyOrder.lexAt_cons (.int .i64 n) rfl]
   try simp only [Act.put, List.setIfInBounds_toArray, List.set_cons_zero, List.set_cons_succ]
   rw [AnyOrder.lexAt_cons (.string (cutS a1 0 n.toNat)) rfl]
   try simp only [Act.put, List.setIfInBounds_toArray, List.set_cons_zero, List.set_cons_succ]
   rw [AnyOrder.lexAt_cons (.string (s0_3 ++ cutS a1 0 n.toNat)) rfl]
   try simp only [Act.put, List.setIfInBounds_toArray, List.set_cons_zero, List.set_cons_succ]
   rw [AnyOrder.lexAt_cons (.pointer (some ⟨g, 0, none⟩)) rfl]
   try simp only [Act.put, List.setIfInBounds_toArray, List.set_cons_zero, List.set_cons_succ]
   rw [AnyOrder.lexAt_cons (.pointer (some ⟨g, 3, none⟩)) rfl]
   try simp only [Act.put, List.setIfInBounds_toArray, List.set_cons_zero, List.set_cons_succ]
   rw [AnyOrder.lexAt_cons undef rfl]
   try simp only [Act.put, List.setIfInBounds_toArray, List.set_cons_zero, List.set_cons_succ]
   rw [AnyOrder.lexAt_nil]
   have HE := hE
   clear hE same
   go_wp2
   go_ret2
   exact ⟨rfl, HE.1, HE.2.1, HE.2.2.1⟩


/-! ### seq_within: function 25 -/
def seq_within.f (a0 : Int) (a1 : Int) (a2 : Int) : Option (Bool) := if a0 ≥ a1 then (some (decide (a0 ≤ a2))) else (some false)
set_option maxHeartbeats 8000000 in
set_option maxRecDepth 100000 in
theorem seq_within.calls (a0 : Int) (a1 : Int) (a2 : Int) (r : Bool) (w : World) (h : seq_within.f a0 a1 a2 = some r) :
  Calls Try.prog 25 #[.int .i64 a0, .int .i64 a1, .int .i64 a2] w fun e w' => e = .returned (.bool r) ∧ Drawn0 w w' := by
 have H : (if a0 ≥ a1 then (some (decide (a0 ≤ a2))) else (some false)) = some r := h
 clear h
 by_cases c4 : a0 ≥ a1
 ·rw [if_pos c4] at H
  have c4b0 : decide (a1 ≤ a0) = true := decide_eq_true c4
  clear c4
  obtain rfl := Option.some.inj H
  go_enter Try.func25, Try.ntmps25
  go_wp2
  go_ret
  exact ⟨by first | rfl | (simp; done) | (simp [*]; done), by repeat (first | exact Drawn0.refl _ | apply Drawn0.step)⟩
 ·rw [if_neg c4] at H
  have c4b0 : decide (a1 ≤ a0) = false := decide_eq_false c4
  clear c4
  obtain rfl := Option.some.inj H
  go_enter Try.func25, Try.ntmps25
  go_wp2
  go_ret
  exact ⟨by first | rfl | (simp; done) | (simp [*]; done), by repeat (first | exact Drawn0.refl _ | apply Drawn0.step)⟩

/-! ### seq_Add: function 11 -/
def seq_Add.f (a0 : Int) (a1 : Int) : Option (Int × Int) := (seq_Check.f a0).bind fun t101 => (if t101 = 0 then ((seq_within.f a1 (-4294967296) 4294967296).bind fun t102 => (if t102 = true then (some (Go.bits .and .i64 (wrap64 (a0 + a1)) 4294967295, 0)) else (some (0, 1)))) else (some (0, 1)))
set_option maxHeartbeats 8000000 in
set_option maxRecDepth 100000 in
theorem seq_Add.calls (a0 : Int) (a1 : Int) (r1 : Int) (r2 : Int) (w : World) (h : seq_Add.f a0 a1 = some (r1, r2)) :
  Calls Try.prog 11 #[.int .i64 a0, .int .i64 a1] w fun e w' => e = .returned (.tuple #[.int .i64 r1, .int .i64 r2]) ∧ Drawn0 w w' := by
 have H : ((seq_Check.f a0).bind fun t101 => (if t101 = 0 then ((seq_within.f a1 (-4294967296) 4294967296).bind fun t102 => (if t102 = true then (some (Go.bits .and .i64 (wrap64 (a0 + a1)) 4294967295, 0)) else (some (0, 1)))) else (some (0, 1)))) = some (r1, r2) := h
 clear h
 replace H := Option.bind_eq_some_iff.mp H
 obtain ⟨t101, A30, H⟩ := H
 replace H : (if t101 = 0 then ((seq_within.f a1 (-4294967296) 4294967296).bind fun t102 => (if t102 = true then (some (Go.bits .and .i64 (wrap64 (a0 + a1)) 4294967295, 0)) else (some (0, 1)))) else (some (0, 1))) = some (r1, r2) := H
 have A3 := Aside0.mk A30
 clear A30
 by_cases c4 : t101 = 0
 ·rw [if_pos c4] at H
  have c4b0 : (t101 == 0) = true := beq_iff_eq.mpr c4
  have c4b1 : (t101 != 0) = false := bne_eq_false_iff_eq.mpr c4
  clear c4
  replace H := Option.bind_eq_some_iff.mp H
  obtain ⟨t102, A50, H⟩ := H
  replace H : (if t102 = true then (some (Go.bits .and .i64 (wrap64 (a0 + a1)) 4294967295, 0)) else (some (0, 1))) = some (r1, r2) := H
  have A5 := Aside0.mk A50
  clear A50
  by_cases c6 : t102 = true
  ·subst c6
   have H1 : (some (Go.bits .and .i64 (wrap64 (a0 + a1)) 4294967295, 0)) = some (r1, r2) := by rw [if_pos rfl] at H; exact H
   clear H
   have H := H1
   clear H1
   simp only [Option.some.injEq, Prod.mk.injEq] at H
   obtain ⟨rfl, rfl⟩ := H
   go_enter Try.func11, Try.ntmps11
   go_wp2_with (first | ((with_reducible refine gate_callee (f := 24) rfl ?_); refine goesL_ (some 7) rfl rfl Try.func24 (by kernel_rfl) rfl #[.int .i64 a0] rfl (by (try simp only [List.map_toArray, List.map_cons, List.map_nil]); first | done | rfl | (simp only [List.length_drop, List.length_take]; rfl)) ?_; (with_reducible refine (seq_Check.calls a0 t101 _ A3.out).mono ?_); rintro e w' ⟨rfl, ⟨nd, rfl⟩⟩; refine ⟨_, rfl, ?_⟩) | (go_at_call 25; (with_reducible refine (seq_within.calls a1 (-4294967296) 4294967296 true _ A5.out).mono ?_); rintro e w' ⟨rfl, ⟨nd, rfl⟩⟩))
   go_ret2
   exact ⟨by first | rfl | (simp; done) | (simp [*]; done), by repeat (first | exact Drawn0.refl _ | apply Drawn0.step)⟩
  ·replace c6 := Bool.eq_false_iff.mpr c6
   subst c6
   have H1 : (some (0, 1)) = some (r1, r2) := by rw [if_neg (show ¬ (false = true) by decide)] at H; exact H
   clear H
   have H := H1
   clear H1
   simp only [Option.some.injEq, Prod.mk.injEq] at H
   obtain ⟨rfl, rfl⟩ := H
   go_enter Try.func11, Try.ntmps11
   go_wp2_with (first | ((with_reducible refine gate_callee (f := 24) rfl ?_); refine goesL_ (some 7) rfl rfl Try.func24 (by kernel_rfl) rfl #[.int .i64 a0] rfl (by (try simp only [List.map_toArray, List.map_cons, List.map_nil]); first | done | rfl | (simp only [List.length_drop, List.length_take]; rfl)) ?_; (with_reducible refine (seq_Check.calls a0 t101 _ A3.out).mono ?_); rintro e w' ⟨rfl, ⟨nd, rfl⟩⟩; refine ⟨_, rfl, ?_⟩) | (go_at_call 25; (with_reducible refine (seq_within.calls a1 (-4294967296) 4294967296 false _ A5.out).mono ?_); rintro e w' ⟨rfl, ⟨nd, rfl⟩⟩))
   go_ret2
   exact ⟨by first | rfl | (simp; done) | (simp [*]; done), by repeat (first | exact Drawn0.refl _ | apply Drawn0.step)⟩
 ·rw [if_neg c4] at H
  have c4b0 : (t101 == 0) = false := beq_eq_false_iff_ne.mpr c4
  have c4b1 : (t101 != 0) = true := bne_iff_ne.mpr c4
  simp only [Option.some.injEq, Prod.mk.injEq] at H
  obtain ⟨rfl, rfl⟩ := H
  go_enter Try.func11, Try.ntmps11
  go_wp2_with (first | ((with_reducible refine gate_callee (f := 24) rfl ?_); refine goesL_ (some 7) rfl rfl Try.func24 (by kernel_rfl) rfl #[.int .i64 a0] rfl (by (try simp only [List.map_toArray, List.map_cons, List.map_nil]); first | done | rfl | (simp only [List.length_drop, List.length_take]; rfl)) ?_; (with_reducible refine (seq_Check.calls a0 t101 _ A3.out).mono ?_); rintro e w' ⟨rfl, ⟨nd, rfl⟩⟩; refine ⟨_, rfl, ?_⟩))
  go_ret2
  exact ⟨by first | rfl | (simp; done) | (simp [*]; done), by repeat (first | exact Drawn0.refl _ | apply Drawn0.step)⟩

/-! ### sendq_Queue_at: function 26 -/
def sendq_Queue_at.f (s0_0 : Int) (s0_1 : Int) (s0_2 : Int) (s0_3 : ByteArray) (s0_4 : List (S73)) (a1 : Int) : Option (Int × Int × Int × Int × ByteArray) := (seq_Add.f s0_0 a1).bind fun bt103 => (some (bt103.1, s0_0, s0_1, s0_2, s0_3))
set_option maxHeartbeats 8000000 in
set_option maxRecDepth 100000 in
theorem sendq_Queue_at.calls (g : Nat) (s0_0 : Int) (s0_1 : Int) (s0_2 : Int) (s0_3 : ByteArray) (s0_4 : List (S73)) (a1 : Int) (r1 : Int) (r2 : Int) (r3 : Int) (r4 : Int) (r5 : ByteArray) (w0 w : World) (hI : IsS67 w0 w g s0_0 s0_1 s0_2 s0_3 s0_4) (hB : Below w0.heap.size w0 w) (h : sendq_Queue_at.f s0_0 s0_1 s0_2 s0_3 s0_4 a1 = some (r1, r2, r3, r4, r5)) :
  Calls Try.prog 26 #[.pointer (some ⟨g, 0, none⟩), .int .i64 a1] w fun e w' => e = .returned (.int .i64 r1) ∧ IsS67 w0 w' g r2 r3 r4 r5 s0_4 ∧ Below w0.heap.size w0 w' ∧ KeepBut w w' g none := by
 have HI0 := Aside0.mk hI
 have HK := Aside0.mk (KeepBut.refl w g none)
 have HL := Aside0.mk hB.size
 clear hI
 have HW0 := Aside0.mk hB.size
 have HB := Aside0.mk hB
 clear hB
 have H : ((seq_Add.f s0_0 a1).bind fun bt103 => (some (bt103.1, s0_0, s0_1, s0_2, s0_3))) = some (r1, r2, r3, r4, r5) := h
 clear h
 replace H := Option.bind_eq_some_iff.mp H
 obtain ⟨⟨t103, t104⟩, A30, H⟩ := H
 replace H : (some (t103, s0_0, s0_1, s0_2, s0_3)) = some (r1, r2, r3, r4, r5) := H
 have A3 := Aside0.mk A30
 clear A30
 simp only [Option.some.injEq, Prod.mk.injEq] at H
 obtain ⟨rfl, rfl, rfl, rfl, rfl⟩ := H
 obtain ⟨ASz4_4, cSz4_4, HGz4, hgz4, HSz4_4⟩ := HI0.out
 have hcz4_0 := cellS67_0 HGz4
 have hcz4_1 := cellS67_1 HGz4
 have hcz4_2 := cellS67_2 HGz4
 have hcz4_3 := cellS67_3 HGz4
 have hcz4_4 := cellS67_4 HGz4
 obtain ⟨hfz4_0, hfz4_1, hfz4_2, hfz4_3⟩ := blk_frozens4 HGz4
 clear HGz4 hgz4
 go_enter Try.func26, Try.ntmps26
 go_wp2_with (first | ((with_reducible refine gate_callee (f := 11) rfl ?_); refine goesL_ (some 13) rfl rfl Try.func11 (by kernel_rfl) rfl #[.int .i64 s0_0, .int .i64 a1] rfl (by (try simp only [List.map_toArray, List.map_cons, List.map_nil]); first | done | rfl | (simp only [List.length_drop, List.length_take]; rfl)) ?_; (with_reducible refine (seq_Add.calls s0_0 a1 t103 t104 _ A3.out).mono ?_); rintro e w' ⟨rfl, ⟨nd, rfl⟩⟩; refine ⟨_, rfl, ?_⟩))
 go_ret
 exact ⟨by first | rfl | (simp [errW_none, errW_some] <;> rfl) | (simp [*, errW_none, errW_some] <;> rfl), by repeat (first | (with_reducible first | exact HI0.out | apply IsS67.alloc | apply IsS67.drewN | apply IsS67.drew | apply IsS67.set_0 | apply IsS67.set_1 | apply IsS67.set_2 | apply IsS67.set_3) | exact HI0.out), by repeat (first | (with_reducible first | exact HB.out | apply below_alloc | apply pw_below_drewN | apply below_drew1 | refine below_set ?_ (IsS67.ge HI0.out)) | exact HB.out), by repeat (first | (with_reducible first | exact HK.out | apply KeepBut.set_ | apply keep_drewN | apply keep_drew | apply keep_alloc) | exact HK.out)⟩

/-! ### sendq_Queue_Next: function 12 -/
def sendq_Queue_Next.f (s0_0 : Int) (s0_1 : Int) (s0_2 : Int) (s0_3 : ByteArray) (s0_4 : List (S73)) (a1 : Int) (a2 : Int) : Option (Int × ByteArray × Int × Int × Int × ByteArray) := (sendq_Queue_at.f s0_0 s0_1 s0_2 s0_3 s0_4 s0_1).bind fun bt105 => (if (mn a1 a2) < 1 then (some (bt105.1, (⟨#[]⟩ : ByteArray), bt105.2.1, bt105.2.2.1, bt105.2.2.2.1, bt105.2.2.2.2)) else (if a1 ≤ bt105.2.2.1 then (some (bt105.1, (⟨#[]⟩ : ByteArray), bt105.2.1, bt105.2.2.1, bt105.2.2.2.1, bt105.2.2.2.2)) else (if 0 ≤ bt105.2.2.1 then (if bt105.2.2.1 ≤ (wrap64 (bt105.2.2.1 + (mn (mn (wrap64 ((bt105.2.2.2.2.size : Int) - bt105.2.2.1)) a2) (wrap64 (a1 - bt105.2.2.1))))) then (if (wrap64 (bt105.2.2.1 + (mn (mn (wrap64 ((bt105.2.2.2.2.size : Int) - bt105.2.2.1)) a2) (wrap64 (a1 - bt105.2.2.1))))) ≤ (bt105.2.2.2.2.size : Int) then (some (bt105.1, cutS bt105.2.2.2.2 (bt105.2.2.1 : Int).toNat ((wrap64 (bt105.2.2.1 + (mn (mn (wrap64 ((bt105.2.2.2.2.size : Int) - bt105.2.2.1)) a2) (wrap64 (a1 - bt105.2.2.1))))) : Int).toNat, bt105.2.1, wrap64 (bt105.2.2.1 + ((cutS bt105.2.2.2.2 (bt105.2.2.1 : Int).toNat ((wrap64 (bt105.2.2.1 + (mn (mn (wrap64 ((bt105.2.2.2.2.size : Int) - bt105.2.2.1)) a2) (wrap64 (a1 - bt105.2.2.1))))) : Int).toNat).size : Int)), bt105.2.2.2.1, bt105.2.2.2.2)) else (none)) else (none)) else (none))))
set_option maxHeartbeats 8000000 in
set_option maxRecDepth 100000 in
theorem sendq_Queue_Next.calls (g : Nat) (s0_0 : Int) (s0_1 : Int) (s0_2 : Int) (s0_3 : ByteArray) (s0_4 : List (S73)) (a1 : Int) (a2 : Int) (r1 : Int) (r2 : ByteArray) (r3 : Int) (r4 : Int) (r5 : Int) (r6 : ByteArray) (w0 w : World) (hI : IsS67 w0 w g s0_0 s0_1 s0_2 s0_3 s0_4) (hB : Below w0.heap.size w0 w) (h : sendq_Queue_Next.f s0_0 s0_1 s0_2 s0_3 s0_4 a1 a2 = some (r1, r2, r3, r4, r5, r6)) :
  Calls Try.prog 12 #[.pointer (some ⟨g, 0, none⟩), .int .i64 a1, .int .i64 a2] w fun e w' => e = .returned (.tuple #[.int .i64 r1, .string r2]) ∧ IsS67 w0 w' g r3 r4 r5 r6 s0_4 ∧ Below w0.heap.size w0 w' ∧ KeepBut w w' g none := by
 have HI0 := Aside0.mk hI
 have HK := Aside0.mk (KeepBut.refl w g none)
 have HL := Aside0.mk hB.size
 clear hI
 have HW0 := Aside0.mk hB.size
 have HB := Aside0.mk hB
 clear hB
 have H : ((sendq_Queue_at.f s0_0 s0_1 s0_2 s0_3 s0_4 s0_1).bind fun bt105 => (if (mn a1 a2) < 1 then (some (bt105.1, (⟨#[]⟩ : ByteArray), bt105.2.1, bt105.2.2.1, bt105.2.2.2.1, bt105.2.2.2.2)) else (if a1 ≤ bt105.2.2.1 then (some (bt105.1, (⟨#[]⟩ : ByteArray), bt105.2.1, bt105.2.2.1, bt105.2.2.2.1, bt105.2.2.2.2)) else (if 0 ≤ bt105.2.2.1 then (if bt105.2.2.1 ≤ (wrap64 (bt105.2.2.1 + (mn (mn (wrap64 ((bt105.2.2.2.2.size : Int) - bt105.2.2.1)) a2) (wrap64 (a1 - bt105.2.2.1))))) then (if (wrap64 (bt105.2.2.1 + (mn (mn (wrap64 ((bt105.2.2.2.2.size : Int) - bt105.2.2.1)) a2) (wrap64 (a1 - bt105.2.2.1))))) ≤ (bt105.2.2.2.2.size : Int) then (some (bt105.1, cutS bt105.2.2.2.2 (bt105.2.2.1 : Int).toNat ((wrap64 (bt105.2.2.1 + (mn (mn (wrap64 ((bt105.2.2.2.2.size : Int) - bt105.2.2.1)) a2) (wrap64 (a1 - bt105.2.2.1))))) : Int).toNat, bt105.2.1, wrap64 (bt105.2.2.1 + ((cutS bt105.2.2.2.2 (bt105.2.2.1 : Int).toNat ((wrap64 (bt105.2.2.1 + (mn (mn (wrap64 ((bt105.2.2.2.2.size : Int) - bt105.2.2.1)) a2) (wrap64 (a1 - bt105.2.2.1))))) : Int).toNat).size : Int)), bt105.2.2.2.1, bt105.2.2.2.2)) else (none)) else (none)) else (none))))) = some (r1, r2, r3, r4, r5, r6) := h
 clear h
 replace H := Option.bind_eq_some_iff.mp H
 obtain ⟨⟨t105, t106, t107, t108, t109⟩, A40, H⟩ := H
 replace H : (if (mn a1 a2) < 1 then (some (t105, (⟨#[]⟩ : ByteArray), t106, t107, t108, t109)) else (if a1 ≤ t107 then (some (t105, (⟨#[]⟩ : ByteArray), t106, t107, t108, t109)) else (if 0 ≤ t107 then (if t107 ≤ (wrap64 (t107 + (mn (mn (wrap64 ((t109.size : Int) - t107)) a2) (wrap64 (a1 - t107))))) then (if (wrap64 (t107 + (mn (mn (wrap64 ((t109.size : Int) - t107)) a2) (wrap64 (a1 - t107))))) ≤ (t109.size : Int) then (some (t105, cutS t109 (t107 : Int).toNat ((wrap64 (t107 + (mn (mn (wrap64 ((t109.size : Int) - t107)) a2) (wrap64 (a1 - t107))))) : Int).toNat, t106, wrap64 (t107 + ((cutS t109 (t107 : Int).toNat ((wrap64 (t107 + (mn (mn (wrap64 ((t109.size : Int) - t107)) a2) (wrap64 (a1 - t107))))) : Int).toNat).size : Int)), t108, t109)) else (none)) else (none)) else (none)))) = some (r1, r2, r3, r4, r5, r6) := H
 have A4 := Aside0.mk A40
 clear A40
 obtain ⟨ji5, hji5⟩ : ∃ j_ : Int, (mn (wrap64 ((t109.size : Int) - t107)) a2) = j_ := ⟨_, rfl⟩
 replace H : (if (mn a1 a2) < 1 then (some (t105, (⟨#[]⟩ : ByteArray), t106, t107, t108, t109)) else (if a1 ≤ t107 then (some (t105, (⟨#[]⟩ : ByteArray), t106, t107, t108, t109)) else (if 0 ≤ t107 then (if t107 ≤ (wrap64 (t107 + (mn (ji5) (wrap64 (a1 - t107))))) then (if (wrap64 (t107 + (mn (ji5) (wrap64 (a1 - t107))))) ≤ (t109.size : Int) then (some (t105, cutS t109 (t107 : Int).toNat ((wrap64 (t107 + (mn (ji5) (wrap64 (a1 - t107))))) : Int).toNat, t106, wrap64 (t107 + ((cutS t109 (t107 : Int).toNat ((wrap64 (t107 + (mn (ji5) (wrap64 (a1 - t107))))) : Int).toNat).size : Int)), t108, t109)) else (none)) else (none)) else (none)))) = some (r1, r2, r3, r4, r5, r6) := by first | (rw [hji5] at H; exact H) | (simp only [hji5] at H ⊢; exact H)
 (try rw [hji5] at A4)
 have hji5_ : (if a2 < (wrap64 ((t109.size : Int) - t107)) then a2 else (wrap64 ((t109.size : Int) - t107))) = ji5 := hji5
 obtain ⟨ji6, hji6⟩ : ∃ j_ : Int, (mn a1 a2) = j_ := ⟨_, rfl⟩
 replace H : (if (ji6) < 1 then (some (t105, (⟨#[]⟩ : ByteArray), t106, t107, t108, t109)) else (if a1 ≤ t107 then (some (t105, (⟨#[]⟩ : ByteArray), t106, t107, t108, t109)) else (if 0 ≤ t107 then (if t107 ≤ (wrap64 (t107 + (mn (ji5) (wrap64 (a1 - t107))))) then (if (wrap64 (t107 + (mn (ji5) (wrap64 (a1 - t107))))) ≤ (t109.size : Int) then (some (t105, cutS t109 (t107 : Int).toNat ((wrap64 (t107 + (mn (ji5) (wrap64 (a1 - t107))))) : Int).toNat, t106, wrap64 (t107 + ((cutS t109 (t107 : Int).toNat ((wrap64 (t107 + (mn (ji5) (wrap64 (a1 - t107))))) : Int).toNat).size : Int)), t108, t109)) else (none)) else (none)) else (none)))) = some (r1, r2, r3, r4, r5, r6) := by first | (rw [hji6] at H; exact H) | (simp only [hji6] at H ⊢; exact H)
 (try rw [hji6] at A4)
 have hji6_ : (if a2 < a1 then a2 else a1) = ji6 := hji6
 by_cases c7 : (ji6) < 1
 ·rw [if_pos c7] at H
  have c7b0 : decide ((ji6) < 1) = true := decide_eq_true c7
  clear c7
  simp only [Option.some.injEq, Prod.mk.injEq] at H
  obtain ⟨rfl, rfl, rfl, rfl, rfl, rfl⟩ := H
  obtain ⟨ASz8_4, cSz8_4, HGz8, hgz8, HSz8_4⟩ := HI0.out
  have hcz8_0 := cellS67_0 HGz8
  have hcz8_1 := cellS67_1 HGz8
  have hcz8_2 := cellS67_2 HGz8
  have hcz8_3 := cellS67_3 HGz8
  have hcz8_4 := cellS67_4 HGz8
  obtain ⟨hfz8_0, hfz8_1, hfz8_2, hfz8_3⟩ := blk_frozens4 HGz8
  clear HGz8 hgz8
  go_enter Try.func12, Try.ntmps12
  go_wp2_with (first | (go_at_call 26; (with_reducible refine (sendq_Queue_at.calls g s0_0 s0_1 s0_2 s0_3 s0_4 s0_1 t105 t106 t107 t108 t109 w0 _ ?side1 ?side2 A4.out).mono ?_); (case side1 => repeat (first | (with_reducible first | exact HI0.out | apply IsS67.alloc | apply IsS67.drewN | apply IsS67.drew | apply IsS67.set_0 | apply IsS67.set_1 | apply IsS67.set_2 | apply IsS67.set_3) | exact HI0.out)); (case side2 => repeat (first | (with_reducible first | exact HB.out | apply below_alloc | apply pw_below_drewN | apply below_drew1 | refine below_set ?_ (IsS67.ge HI0.out)) | exact HB.out)); rintro e w9 ⟨rfl, hi, hb, hk⟩; have n0_ := Aside0.mk (KeepBut.trans (by repeat (first | (with_reducible first | exact HK.out | apply KeepBut.set_ | apply keep_drewN | apply keep_drew | apply keep_alloc) | exact HK.out)) hk (.inl rfl)); have n1_ := Aside0.mk (hb); have n2_ := Aside0.mk (hi); clear HK; clear HB; clear HI0; have HK := n0_; have HB := n1_; have HI0 := n2_; clear n0_ n1_ n2_; (try clear hb); (try clear hb2); (try clear hk); (try clear hi); obtain ⟨ASz10_4, cSz10_4, HGz10, hgz10, HSz10_4⟩ := HI0.out; have hcz10_0 := cellS67_0 HGz10; have hcz10_1 := cellS67_1 HGz10; have hcz10_2 := cellS67_2 HGz10; have hcz10_3 := cellS67_3 HGz10; have hcz10_4 := cellS67_4 HGz10; obtain ⟨hfz10_0, hfz10_1, hfz10_2, hfz10_3⟩ := blk_frozens4 HGz10; clear HGz10 hgz10))
  repeat (go_quiet (first | (go_at_call 26; (with_reducible refine (sendq_Queue_at.calls g s0_0 s0_1 s0_2 s0_3 s0_4 s0_1 t105 t106 t107 t108 t109 w0 _ ?side1 ?side2 A4.out).mono ?_); (case side1 => repeat (first | (with_reducible first | exact HI0.out | apply IsS67.alloc | apply IsS67.drewN | apply IsS67.drew | apply IsS67.set_0 | apply IsS67.set_1 | apply IsS67.set_2 | apply IsS67.set_3) | exact HI0.out)); (case side2 => repeat (first | (with_reducible first | exact HB.out | apply below_alloc | apply pw_below_drewN | apply below_drew1 | refine below_set ?_ (IsS67.ge HI0.out)) | exact HB.out)); rintro e w9 ⟨rfl, hi, hb, hk⟩; have n0_ := Aside0.mk (KeepBut.trans (by repeat (first | (with_reducible first | exact HK.out | apply KeepBut.set_ | apply keep_drewN | apply keep_drew | apply keep_alloc) | exact HK.out)) hk (.inl rfl)); have n1_ := Aside0.mk (hb); have n2_ := Aside0.mk (hi); clear HK; clear HB; clear HI0; have HK := n0_; have HB := n1_; have HI0 := n2_; clear n0_ n1_ n2_; (try clear hb); (try clear hb2); (try clear hk); (try clear hi); obtain ⟨ASz10_4, cSz10_4, HGz10, hgz10, HSz10_4⟩ := HI0.out; have hcz10_0 := cellS67_0 HGz10; have hcz10_1 := cellS67_1 HGz10; have hcz10_2 := cellS67_2 HGz10; have hcz10_3 := cellS67_3 HGz10; have hcz10_4 := cellS67_4 HGz10; obtain ⟨hfz10_0, hfz10_1, hfz10_2, hfz10_3⟩ := blk_frozens4 HGz10; clear HGz10 hgz10)); try go_wp2_with (first | (go_at_call 26; (with_reducible refine (sendq_Queue_at.calls g s0_0 s0_1 s0_2 s0_3 s0_4 s0_1 t105 t106 t107 t108 t109 w0 _ ?side1 ?side2 A4.out).mono ?_); (case side1 => repeat (first | (with_reducible first | exact HI0.out | apply IsS67.alloc | apply IsS67.drewN | apply IsS67.drew | apply IsS67.set_0 | apply IsS67.set_1 | apply IsS67.set_2 | apply IsS67.set_3) | exact HI0.out)); (case side2 => repeat (first | (with_reducible first | exact HB.out | apply below_alloc | apply pw_below_drewN | apply below_drew1 | refine below_set ?_ (IsS67.ge HI0.out)) | exact HB.out)); rintro e w9 ⟨rfl, hi, hb, hk⟩; have n0_ := Aside0.mk (KeepBut.trans (by repeat (first | (with_reducible first | exact HK.out | apply KeepBut.set_ | apply keep_drewN | apply keep_drew | apply keep_alloc) | exact HK.out)) hk (.inl rfl)); have n1_ := Aside0.mk (hb); have n2_ := Aside0.mk (hi); clear HK; clear HB; clear HI0; have HK := n0_; have HB := n1_; have HI0 := n2_; clear n0_ n1_ n2_; (try clear hb); (try clear hb2); (try clear hk); (try clear hi); obtain ⟨ASz10_4, cSz10_4, HGz10, hgz10, HSz10_4⟩ := HI0.out; have hcz10_0 := cellS67_0 HGz10; have hcz10_1 := cellS67_1 HGz10; have hcz10_2 := cellS67_2 HGz10; have hcz10_3 := cellS67_3 HGz10; have hcz10_4 := cellS67_4 HGz10; obtain ⟨hfz10_0, hfz10_1, hfz10_2, hfz10_3⟩ := blk_frozens4 HGz10; clear HGz10 hgz10)))
  go_ret2
  exact ⟨by first | rfl | (simp [errW_none, errW_some] <;> rfl) | (simp only [← hji5, ← hji6]; first | rfl | (simp [errW_none, errW_some] <;> rfl)) | (simp [*, errW_none, errW_some] <;> rfl), by repeat (first | (with_reducible first | exact HI0.out | apply IsS67.alloc | apply IsS67.drewN | apply IsS67.drew | apply IsS67.set_0 | apply IsS67.set_1 | apply IsS67.set_2 | apply IsS67.set_3) | exact HI0.out), by repeat (first | (with_reducible first | exact HB.out | apply below_alloc | apply pw_below_drewN | apply below_drew1 | refine below_set ?_ (IsS67.ge HI0.out)) | exact HB.out), by repeat (first | (with_reducible first | exact HK.out | apply KeepBut.set_ | apply keep_drewN | apply keep_drew | apply keep_alloc) | exact HK.out)⟩
 ·rw [if_neg c7] at H
  have c7b0 : decide ((ji6) < 1) = false := decide_eq_false c7
  clear c7
  by_cases c11 : a1 ≤ t107
  ·rw [if_pos c11] at H
   have c11b0 : decide (a1 ≤ t107) = true := decide_eq_true c11
   clear c11
   simp only [Option.some.injEq, Prod.mk.injEq] at H
   obtain ⟨rfl, rfl, rfl, rfl, rfl, rfl⟩ := H
   obtain ⟨ASz12_4, cSz12_4, HGz12, hgz12, HSz12_4⟩ := HI0.out
   have hcz12_0 := cellS67_0 HGz12
   have hcz12_1 := cellS67_1 HGz12
   have hcz12_2 := cellS67_2 HGz12
   have hcz12_3 := cellS67_3 HGz12
   have hcz12_4 := cellS67_4 HGz12
   obtain ⟨hfz12_0, hfz12_1, hfz12_2, hfz12_3⟩ := blk_frozens4 HGz12
   clear HGz12 hgz12
   go_enter Try.func12, Try.ntmps12
   go_wp2_with (first | (go_at_call 26; (with_reducible refine (sendq_Queue_at.calls g s0_0 s0_1 s0_2 s0_3 s0_4 s0_1 t105 t106 t107 t108 t109 w0 _ ?side1 ?side2 A4.out).mono ?_); (case side1 => repeat (first | (with_reducible first | exact HI0.out | apply IsS67.alloc | apply IsS67.drewN | apply IsS67.drew | apply IsS67.set_0 | apply IsS67.set_1 | apply IsS67.set_2 | apply IsS67.set_3) | exact HI0.out)); (case side2 => repeat (first | (with_reducible first | exact HB.out | apply below_alloc | apply pw_below_drewN | apply below_drew1 | refine below_set ?_ (IsS67.ge HI0.out)) | exact HB.out)); rintro e w13 ⟨rfl, hi, hb, hk⟩; have n0_ := Aside0.mk (KeepBut.trans (by repeat (first | (with_reducible first | exact HK.out | apply KeepBut.set_ | apply keep_drewN | apply keep_drew | apply keep_alloc) | exact HK.out)) hk (.inl rfl)); have n1_ := Aside0.mk (hb); have n2_ := Aside0.mk (hi); clear HK; clear HB; clear HI0; have HK := n0_; have HB := n1_; have HI0 := n2_; clear n0_ n1_ n2_; (try clear hb); (try clear hb2); (try clear hk); (try clear hi); obtain ⟨ASz14_4, cSz14_4, HGz14, hgz14, HSz14_4⟩ := HI0.out; have hcz14_0 := cellS67_0 HGz14; have hcz14_1 := cellS67_1 HGz14; have hcz14_2 := cellS67_2 HGz14; have hcz14_3 := cellS67_3 HGz14; have hcz14_4 := cellS67_4 HGz14; obtain ⟨hfz14_0, hfz14_1, hfz14_2, hfz14_3⟩ := blk_frozens4 HGz14; clear HGz14 hgz14))
   repeat (go_quiet (first | (go_at_call 26; (with_reducible refine (sendq_Queue_at.calls g s0_0 s0_1 s0_2 s0_3 s0_4 s0_1 t105 t106 t107 t108 t109 w0 _ ?side1 ?side2 A4.out).mono ?_); (case side1 => repeat (first | (with_reducible first | exact HI0.out | apply IsS67.alloc | apply IsS67.drewN | apply IsS67.drew | apply IsS67.set_0 | apply IsS67.set_1 | apply IsS67.set_2 | apply IsS67.set_3) | exact HI0.out)); (case side2 => repeat (first | (with_reducible first | exact HB.out | apply below_alloc | apply pw_below_drewN | apply below_drew1 | refine below_set ?_ (IsS67.ge HI0.out)) | exact HB.out)); rintro e w13 ⟨rfl, hi, hb, hk⟩; have n0_ := Aside0.mk (KeepBut.trans (by repeat (first | (with_reducible first | exact HK.out | apply KeepBut.set_ | apply keep_drewN | apply keep_drew | apply keep_alloc) | exact HK.out)) hk (.inl rfl)); have n1_ := Aside0.mk (hb); have n2_ := Aside0.mk (hi); clear HK; clear HB; clear HI0; have HK := n0_; have HB := n1_; have HI0 := n2_; clear n0_ n1_ n2_; (try clear hb); (try clear hb2); (try clear hk); (try clear hi); obtain ⟨ASz14_4, cSz14_4, HGz14, hgz14, HSz14_4⟩ := HI0.out; have hcz14_0 := cellS67_0 HGz14; have hcz14_1 := cellS67_1 HGz14; have hcz14_2 := cellS67_2 HGz14; have hcz14_3 := cellS67_3 HGz14; have hcz14_4 := cellS67_4 HGz14; obtain ⟨hfz14_0, hfz14_1, hfz14_2, hfz14_3⟩ := blk_frozens4 HGz14; clear HGz14 hgz14)); try go_wp2_with (first | (go_at_call 26; (with_reducible refine (sendq_Queue_at.calls g s0_0 s0_1 s0_2 s0_3 s0_4 s0_1 t105 t106 t107 t108 t109 w0 _ ?side1 ?side2 A4.out).mono ?_); (case side1 => repeat (first | (with_reducible first | exact HI0.out | apply IsS67.alloc | apply IsS67.drewN | apply IsS67.drew | apply IsS67.set_0 | apply IsS67.set_1 | apply IsS67.set_2 | apply IsS67.set_3) | exact HI0.out)); (case side2 => repeat (first | (with_reducible first | exact HB.out | apply below_alloc | apply pw_below_drewN | apply below_drew1 | refine below_set ?_ (IsS67.ge HI0.out)) | exact HB.out)); rintro e w13 ⟨rfl, hi, hb, hk⟩; have n0_ := Aside0.mk (KeepBut.trans (by repeat (first | (with_reducible first | exact HK.out | apply KeepBut.set_ | apply keep_drewN | apply keep_drew | apply keep_alloc) | exact HK.out)) hk (.inl rfl)); have n1_ := Aside0.mk (hb); have n2_ := Aside0.mk (hi); clear HK; clear HB; clear HI0; have HK := n0_; have HB := n1_; have HI0 := n2_; clear n0_ n1_ n2_; (try clear hb); (try clear hb2); (try clear hk); (try clear hi); obtain ⟨ASz14_4, cSz14_4, HGz14, hgz14, HSz14_4⟩ := HI0.out; have hcz14_0 := cellS67_0 HGz14; have hcz14_1 := cellS67_1 HGz14; have hcz14_2 := cellS67_2 HGz14; have hcz14_3 := cellS67_3 HGz14; have hcz14_4 := cellS67_4 HGz14; obtain ⟨hfz14_0, hfz14_1, hfz14_2, hfz14_3⟩ := blk_frozens4 HGz14; clear HGz14 hgz14)))
   go_ret2
   exact ⟨by first | rfl | (simp [errW_none, errW_some] <;> rfl) | (simp only [← hji5, ← hji6]; first | rfl | (simp [errW_none, errW_some] <;> rfl)) | (simp [*, errW_none, errW_some] <;> rfl), by repeat (first | (with_reducible first | exact HI0.out | apply IsS67.alloc | apply IsS67.drewN | apply IsS67.drew | apply IsS67.set_0 | apply IsS67.set_1 | apply IsS67.set_2 | apply IsS67.set_3) | exact HI0.out), by repeat (first | (with_reducible first | exact HB.out | apply below_alloc | apply pw_below_drewN | apply below_drew1 | refine below_set ?_ (IsS67.ge HI0.out)) | exact HB.out), by repeat (first | (with_reducible first | exact HK.out | apply KeepBut.set_ | apply keep_drewN | apply keep_drew | apply keep_alloc) | exact HK.out)⟩
  ·rw [if_neg c11] at H
   have c11b0 : decide (a1 ≤ t107) = false := decide_eq_false c11
   clear c11
   obtain ⟨ji15, hji15⟩ : ∃ j_ : Int, (mn (ji5) (wrap64 (a1 - t107))) = j_ := ⟨_, rfl⟩
   replace H : (if 0 ≤ t107 then (if t107 ≤ (wrap64 (t107 + (ji15))) then (if (wrap64 (t107 + (ji15))) ≤ (t109.size : Int) then (some (t105, cutS t109 (t107 : Int).toNat ((wrap64 (t107 + (ji15))) : Int).toNat, t106, wrap64 (t107 + ((cutS t109 (t107 : Int).toNat ((wrap64 (t107 + (ji15))) : Int).toNat).size : Int)), t108, t109)) else (none)) else (none)) else (none)) = some (r1, r2, r3, r4, r5, r6) := by first | (rw [hji15] at H; exact H) | (simp only [hji15] at H ⊢; exact H)
   (try rw [hji15] at A4)
   have hji15_ : (if (wrap64 (a1 - t107)) < (ji5) then (wrap64 (a1 - t107)) else (ji5)) = ji15 := hji15
   by_cases c16 : 0 ≤ t107
   ·rw [if_pos c16] at H
    have c16b0 := eq_true c16
    have c16b1 : decide (0 ≤ t107) = true := decide_eq_true c16
    clear c16
    by_cases c17 : t107 ≤ (wrap64 (t107 + (ji15)))
    ·rw [if_pos c17] at H
     have c17b0 := eq_true c17
     have c17b1 : decide (t107 ≤ (wrap64 (t107 + (ji15)))) = true := decide_eq_true c17
     by_cases c18 : (wrap64 (t107 + (ji15))) ≤ (t109.size : Int)
     ·rw [if_pos c18] at H
      have c18b0 := eq_true c18
      have c18b1 : decide ((wrap64 (t107 + (ji15))) ≤ (t109.size : Int)) = true := decide_eq_true c18
      simp only [Option.some.injEq, Prod.mk.injEq] at H
      obtain ⟨rfl, rfl, rfl, rfl, rfl, rfl⟩ := H
      obtain ⟨ASz19_4, cSz19_4, HGz19, hgz19, HSz19_4⟩ := HI0.out
      have hcz19_0 := cellS67_0 HGz19
      have hcz19_1 := cellS67_1 HGz19
      have hcz19_2 := cellS67_2 HGz19
      have hcz19_3 := cellS67_3 HGz19
      have hcz19_4 := cellS67_4 HGz19
      obtain ⟨hfz19_0, hfz19_1, hfz19_2, hfz19_3⟩ := blk_frozens4 HGz19
      clear HGz19 hgz19
      go_enter Try.func12, Try.ntmps12
      go_wp2_with (first | (go_at_call 26; (with_reducible refine (sendq_Queue_at.calls g s0_0 s0_1 s0_2 s0_3 s0_4 s0_1 t105 t106 t107 t108 t109 w0 _ ?side1 ?side2 A4.out).mono ?_); (case side1 => repeat (first | (with_reducible first | exact HI0.out | apply IsS67.alloc | apply IsS67.drewN | apply IsS67.drew | apply IsS67.set_0 | apply IsS67.set_1 | apply IsS67.set_2 | apply IsS67.set_3) | exact HI0.out)); (case side2 => repeat (first | (with_reducible first | exact HB.out | apply below_alloc | apply pw_below_drewN | apply below_drew1 | refine below_set ?_ (IsS67.ge HI0.out)) | exact HB.out)); rintro e w20 ⟨rfl, hi, hb, hk⟩; have n0_ := Aside0.mk (KeepBut.trans (by repeat (first | (with_reducible first | exact HK.out | apply KeepBut.set_ | apply keep_drewN | apply keep_drew | apply keep_alloc) | exact HK.out)) hk (.inl rfl)); have n1_ := Aside0.mk (hb); have n2_ := Aside0.mk (hi); clear HK; clear HB; clear HI0; have HK := n0_; have HB := n1_; have HI0 := n2_; clear n0_ n1_ n2_; (try clear hb); (try clear hb2); (try clear hk); (try clear hi); obtain ⟨ASz21_4, cSz21_4, HGz21, hgz21, HSz21_4⟩ := HI0.out; have hcz21_0 := cellS67_0 HGz21; have hcz21_1 := cellS67_1 HGz21; have hcz21_2 := cellS67_2 HGz21; have hcz21_3 := cellS67_3 HGz21; have hcz21_4 := cellS67_4 HGz21; obtain ⟨hfz21_0, hfz21_1, hfz21_2, hfz21_3⟩ := blk_frozens4 HGz21; clear HGz21 hgz21))
      repeat (go_quiet (first | (go_at_call 26; (with_reducible refine (sendq_Queue_at.calls g s0_0 s0_1 s0_2 s0_3 s0_4 s0_1 t105 t106 t107 t108 t109 w0 _ ?side1 ?side2 A4.out).mono ?_); (case side1 => repeat (first | (with_reducible first | exact HI0.out | apply IsS67.alloc | apply IsS67.drewN | apply IsS67.drew | apply IsS67.set_0 | apply IsS67.set_1 | apply IsS67.set_2 | apply IsS67.set_3) | exact HI0.out)); (case side2 => repeat (first | (with_reducible first | exact HB.out | apply below_alloc | apply pw_below_drewN | apply below_drew1 | refine below_set ?_ (IsS67.ge HI0.out)) | exact HB.out)); rintro e w20 ⟨rfl, hi, hb, hk⟩; have n0_ := Aside0.mk (KeepBut.trans (by repeat (first | (with_reducible first | exact HK.out | apply KeepBut.set_ | apply keep_drewN | apply keep_drew | apply keep_alloc) | exact HK.out)) hk (.inl rfl)); have n1_ := Aside0.mk (hb); have n2_ := Aside0.mk (hi); clear HK; clear HB; clear HI0; have HK := n0_; have HB := n1_; have HI0 := n2_; clear n0_ n1_ n2_; (try clear hb); (try clear hb2); (try clear hk); (try clear hi); obtain ⟨ASz21_4, cSz21_4, HGz21, hgz21, HSz21_4⟩ := HI0.out; have hcz21_0 := cellS67_0 HGz21; have hcz21_1 := cellS67_1 HGz21; have hcz21_2 := cellS67_2 HGz21; have hcz21_3 := cellS67_3 HGz21; have hcz21_4 := cellS67_4 HGz21; obtain ⟨hfz21_0, hfz21_1, hfz21_2, hfz21_3⟩ := blk_frozens4 HGz21; clear HGz21 hgz21)); try go_wp2_with (first | (go_at_call 26; (with_reducible refine (sendq_Queue_at.calls g s0_0 s0_1 s0_2 s0_3 s0_4 s0_1 t105 t106 t107 t108 t109 w0 _ ?side1 ?side2 A4.out).mono ?_); (case side1 => repeat (first | (with_reducible first | exact HI0.out | apply IsS67.alloc | apply IsS67.drewN | apply IsS67.drew | apply IsS67.set_0 | apply IsS67.set_1 | apply IsS67.set_2 | apply IsS67.set_3) | exact HI0.out)); (case side2 => repeat (first | (with_reducible first | exact HB.out | apply below_alloc | apply pw_below_drewN | apply below_drew1 | refine below_set ?_ (IsS67.ge HI0.out)) | exact HB.out)); rintro e w20 ⟨rfl, hi, hb, hk⟩; have n0_ := Aside0.mk (KeepBut.trans (by repeat (first | (with_reducible first | exact HK.out | apply KeepBut.set_ | apply keep_drewN | apply keep_drew | apply keep_alloc) | exact HK.out)) hk (.inl rfl)); have n1_ := Aside0.mk (hb); have n2_ := Aside0.mk (hi); clear HK; clear HB; clear HI0; have HK := n0_; have HB := n1_; have HI0 := n2_; clear n0_ n1_ n2_; (try clear hb); (try clear hb2); (try clear hk); (try clear hi); obtain ⟨ASz21_4, cSz21_4, HGz21, hgz21, HSz21_4⟩ := HI0.out; have hcz21_0 := cellS67_0 HGz21; have hcz21_1 := cellS67_1 HGz21; have hcz21_2 := cellS67_2 HGz21; have hcz21_3 := cellS67_3 HGz21; have hcz21_4 := cellS67_4 HGz21; obtain ⟨hfz21_0, hfz21_1, hfz21_2, hfz21_3⟩ := blk_frozens4 HGz21; clear HGz21 hgz21)))
      go_ret2
      exact ⟨by first | rfl | (simp [errW_none, errW_some] <;> rfl) | (simp only [← hji5, ← hji6, ← hji15]; first | rfl | (simp [errW_none, errW_some] <;> rfl)) | (simp [*, errW_none, errW_some] <;> rfl), by repeat (first | (with_reducible first | exact HI0.out | apply IsS67.alloc | apply IsS67.drewN | apply IsS67.drew | apply IsS67.set_0 | apply IsS67.set_1 | apply IsS67.set_2 | apply IsS67.set_3) | exact HI0.out), by repeat (first | (with_reducible first | exact HB.out | apply below_alloc | apply pw_below_drewN | apply below_drew1 | refine below_set ?_ (IsS67.ge HI0.out)) | exact HB.out), by repeat (first | (with_reducible first | exact HK.out | apply KeepBut.set_ | apply keep_drewN | apply keep_drew | apply keep_alloc) | exact HK.out)⟩
     ·rw [if_neg c18] at H
      exact absurd H (by simp)
    ·rw [if_neg c17] at H
     exact absurd H (by simp)
   ·rw [if_neg c16] at H
    exact absurd H (by simp)

/-! ### seq_both: function 28 -/
def seq_both.f (a0 : Int) (a1 : Int) : Option (Int) := (seq_Check.f a0).bind fun t110 => ((seq_Check.f a1).bind fun t111 => (some (mx t110 t111)))
set_option maxHeartbeats 8000000 in
set_option maxRecDepth 100000 in
theorem seq_both.calls (a0 : Int) (a1 : Int) (r : Int) (w : World) (h : seq_both.f a0 a1 = some r) :
  Calls Try.prog 28 #[.int .i64 a0, .int .i64 a1] w fun e w' => e = .returned (.int .i64 r) ∧ Below w.heap.size w w' := by
 have HB := Aside0.mk (Below.refl w.heap.size w)
 have H : ((seq_Check.f a0).bind fun t110 => ((seq_Check.f a1).bind fun t111 => (some (mx t110 t111)))) = some r := h
 clear h
 replace H := Option.bind_eq_some_iff.mp H
 obtain ⟨t110, A30, H⟩ := H
 replace H : ((seq_Check.f a1).bind fun t111 => (some (mx t110 t111))) = some r := H
 have A3 := Aside0.mk A30
 clear A30
 replace H := Option.bind_eq_some_iff.mp H
 obtain ⟨t111, A40, H⟩ := H
 replace H : (some (mx t110 t111)) = some r := H
 have A4 := Aside0.mk A40
 clear A40
 obtain ⟨ji5, hji5⟩ : ∃ j_ : Int, (mx t110 t111) = j_ := ⟨_, rfl⟩
 replace H : (some ji5) = some r := by first | (rw [hji5] at H; exact H) | (simp only [hji5] at H ⊢; exact H)
 (try rw [hji5] at A3)
 (try rw [hji5] at A4)
 have hji5_ : (if t110 < t111 then t111 else t110) = ji5 := hji5
 obtain rfl := Option.some.inj H
 go_enter Try.func28, Try.ntmps28
 go_wp2_with (first | ((with_reducible refine gate_callee (f := 24) rfl ?_); refine goesL_ (some 6) rfl rfl Try.func24 (by kernel_rfl) rfl #[.int .i64 a0] rfl (by (try simp only [List.map_toArray, List.map_cons, List.map_nil]); first | done | rfl | (simp only [List.length_drop, List.length_take]; rfl)) ?_; (with_reducible refine (seq_Check.calls a0 t110 _ A3.out).mono ?_); rintro e w' ⟨rfl, ⟨nd, rfl⟩⟩; refine ⟨_, rfl, ?_⟩) | ((with_reducible refine gate_callee (f := 24) rfl ?_); refine goesL_ (some 8) rfl rfl Try.func24 (by kernel_rfl) rfl #[.int .i64 a1] rfl (by (try simp only [List.map_toArray, List.map_cons, List.map_nil]); first | done | rfl | (simp only [List.length_drop, List.length_take]; rfl)) ?_; (with_reducible refine (seq_Check.calls a1 t111 _ A4.out).mono ?_); rintro e w' ⟨rfl, ⟨nd, rfl⟩⟩; refine ⟨_, rfl, ?_⟩))
 go_ret
 exact ⟨by first | rfl | (simp [errW_none, errW_some] <;> rfl) | (simp only [← hji5]; first | rfl | (simp [errW_none, errW_some] <;> rfl)) | (simp [*, errW_none, errW_some] <;> rfl), by repeat (first | (with_reducible first | exact HB.out | apply below_alloc | apply pw_below_drewN | apply below_drew1) | exact HB.out)⟩

/-! ### seq_Distance: function 17 -/
def seq_Distance.f (a0 : Int) (a1 : Int) : Option (Int × Int) := (seq_both.f a0 a1).bind fun t112 => (if t112 = 0 then (some (Go.bits .and .i64 (wrap64 (a1 - a0)) 4294967295, 0)) else (some (0, t112)))
set_option maxHeartbeats 8000000 in
set_option maxRecDepth 100000 in
theorem seq_Distance.calls (a0 : Int) (a1 : Int) (r1 : Int) (r2 : Int) (w : World) (h : seq_Distance.f a0 a1 = some (r1, r2)) :
  Calls Try.prog 17 #[.int .i64 a0, .int .i64 a1] w fun e w' => e = .returned (.tuple #[.int .i64 r1, .int .i64 r2]) ∧ Below w.heap.size w w' := by
 have HB := Aside0.mk (Below.refl w.heap.size w)
 have H : ((seq_both.f a0 a1).bind fun t112 => (if t112 = 0 then (some (Go.bits .and .i64 (wrap64 (a1 - a0)) 4294967295, 0)) else (some (0, t112)))) = some (r1, r2) := h
 clear h
 replace H := Option.bind_eq_some_iff.mp H
 obtain ⟨t112, A30, H⟩ := H
 replace H : (if t112 = 0 then (some (Go.bits .and .i64 (wrap64 (a1 - a0)) 4294967295, 0)) else (some (0, t112))) = some (r1, r2) := H
 have A3 := Aside0.mk A30
 clear A30
 by_cases c4 : t112 = 0
 ·rw [if_pos c4] at H
  have c4b0 : (t112 == 0) = true := beq_iff_eq.mpr c4
  have c4b1 : (t112 != 0) = false := bne_eq_false_iff_eq.mpr c4
  clear c4
  simp only [Option.some.injEq, Prod.mk.injEq] at H
  obtain ⟨rfl, rfl⟩ := H
  go_enter Try.func17, Try.ntmps17
  go_wp2_with (first | ((with_reducible refine gate_callee (f := 28) rfl ?_); refine goesL_ (some 9) rfl rfl Try.func28 (by kernel_rfl) rfl #[.int .i64 a0, .int .i64 a1] rfl (by (try simp only [List.map_toArray, List.map_cons, List.map_nil]); first | done | rfl | (simp only [List.length_drop, List.length_take]; rfl)) ?_; (with_reducible refine (seq_both.calls a0 a1 t112 _ A3.out).mono ?_); rintro e w5 ⟨rfl, hb⟩; refine ⟨_, rfl, ?_⟩; have n0_ := Aside0.mk (below_step (by repeat (first | (with_reducible first | exact HB.out | apply below_alloc | apply pw_below_drewN | apply below_drew1) | exact HB.out)) hb); clear HB; have HB := n0_; clear n0_; (try clear hb); (try clear hb2); (try clear hk); (try clear hi)))
  go_ret2
  exact ⟨by first | rfl | (simp [errW_none, errW_some] <;> rfl) | (simp [*, errW_none, errW_some] <;> rfl), by repeat (first | (with_reducible first | exact HB.out | apply below_alloc | apply pw_below_drewN | apply below_drew1) | exact HB.out)⟩
 ·rw [if_neg c4] at H
  have c4b0 : (t112 == 0) = false := beq_eq_false_iff_ne.mpr c4
  have c4b1 : (t112 != 0) = true := bne_iff_ne.mpr c4
  simp only [Option.some.injEq, Prod.mk.injEq] at H
  obtain ⟨rfl, rfl⟩ := H
  go_enter Try.func17, Try.ntmps17
  go_wp2_with (first | ((with_reducible refine gate_callee (f := 28) rfl ?_); refine goesL_ (some 9) rfl rfl Try.func28 (by kernel_rfl) rfl #[.int .i64 a0, .int .i64 a1] rfl (by (try simp only [List.map_toArray, List.map_cons, List.map_nil]); first | done | rfl | (simp only [List.length_drop, List.length_take]; rfl)) ?_; (with_reducible refine (seq_both.calls a0 a1 t112 _ A3.out).mono ?_); rintro e w6 ⟨rfl, hb⟩; refine ⟨_, rfl, ?_⟩; have n0_ := Aside0.mk (below_step (by repeat (first | (with_reducible first | exact HB.out | apply below_alloc | apply pw_below_drewN | apply below_drew1) | exact HB.out)) hb); clear HB; have HB := n0_; clear n0_; (try clear hb); (try clear hb2); (try clear hk); (try clear hi)))
  go_ret2
  exact ⟨by first | rfl | (simp [errW_none, errW_some] <;> rfl) | (simp [*, errW_none, errW_some] <;> rfl), by repeat (first | (with_reducible first | exact HB.out | apply below_alloc | apply pw_below_drewN | apply below_drew1) | exact HB.out)⟩

/-! ### sendq_Queue_off: function 27 -/
def sendq_Queue_off.f (s0_0 : Int) (s0_1 : Int) (s0_2 : Int) (s0_3 : ByteArray) (s0_4 : List (S73)) (a1 : Int) : Option (Int × Bool × Int × Int × Int × ByteArray) := (seq_Distance.f s0_0 a1).bind fun bt113 => (if bt113.2 = 0 then (some (bt113.1, decide (bt113.1 ≤ s0_1), s0_0, s0_1, s0_2, s0_3)) else (some (bt113.1, false, s0_0, s0_1, s0_2, s0_3)))
set_option maxHeartbeats 8000000 in
set_option maxRecDepth 100000 in
theorem sendq_Queue_off.calls (g : Nat) (s0_0 : Int) (s0_1 : Int) (s0_2 : Int) (s0_3 : ByteArray) (s0_4 : List (S73)) (a1 : Int) (r1 : Int) (r2 : Bool) (r3 : Int) (r4 : Int) (r5 : Int) (r6 : ByteArray) (w0 w : World) (hI : IsS67 w0 w g s0_0 s0_1 s0_2 s0_3 s0_4) (hB : Below w0.heap.size w0 w) (h : sendq_Queue_off.f s0_0 s0_1 s0_2 s0_3 s0_4 a1 = some (r1, r2, r3, r4, r5, r6)) :
  Calls Try.prog 27 #[.pointer (some ⟨g, 0, none⟩), .int .i64 a1] w fun e w' => e = .returned (.tuple #[.int .i64 r1, .bool r2]) ∧ IsS67 w0 w' g r3 r4 r5 r6 s0_4 ∧ Below w0.heap.size w0 w' ∧ KeepBut w w' g none := by
 have HI0 := Aside0.mk hI
 have HK := Aside0.mk (KeepBut.refl w g none)
 have HL := Aside0.mk hB.size
 clear hI
 have HW0 := Aside0.mk hB.size
 have HB := Aside0.mk hB
 clear hB
 have H : ((seq_Distance.f s0_0 a1).bind fun bt113 => (if bt113.2 = 0 then (some (bt113.1, decide (bt113.1 ≤ s0_1), s0_0, s0_1, s0_2, s0_3)) else (some (bt113.1, false, s0_0, s0_1, s0_2, s0_3)))) = some (r1, r2, r3, r4, r5, r6) := h
 clear h
 replace H := Option.bind_eq_some_iff.mp H
 obtain ⟨⟨t113, t114⟩, A30, H⟩ := H
 replace H : (if t114 = 0 then (some (t113, decide (t113 ≤ s0_1), s0_0, s0_1, s0_2, s0_3)) else (some (t113, false, s0_0, s0_1, s0_2, s0_3))) = some (r1, r2, r3, r4, r5, r6) := H
 have A3 := Aside0.mk A30
 clear A30
 by_cases c4 : t114 = 0
 ·rw [if_pos c4] at H
  have c4b0 : (t114 == 0) = true := beq_iff_eq.mpr c4
  have c4b1 : (t114 != 0) = false := bne_eq_false_iff_eq.mpr c4
  clear c4
  simp only [Option.some.injEq, Prod.mk.injEq] at H
  obtain ⟨rfl, rfl, rfl, rfl, rfl, rfl⟩ := H
  obtain ⟨ASz5_4, cSz5_4, HGz5, hgz5, HSz5_4⟩ := HI0.out
  have hcz5_0 := cellS67_0 HGz5
  have hcz5_1 := cellS67_1 HGz5
  have hcz5_2 := cellS67_2 HGz5
  have hcz5_3 := cellS67_3 HGz5
  have hcz5_4 := cellS67_4 HGz5
  obtain ⟨hfz5_0, hfz5_1, hfz5_2, hfz5_3⟩ := blk_frozens4 HGz5
  clear HGz5 hgz5
  go_enter Try.func27, Try.ntmps27
  go_wp2_with (first | (go_at_call 17; (with_reducible refine (seq_Distance.calls s0_0 a1 t113 t114 _ A3.out).mono ?_); rintro e w6 ⟨rfl, hb⟩; have n0_ := Aside0.mk (IsS67.below (by repeat (first | (with_reducible first | exact HI0.out | apply IsS67.alloc | apply IsS67.drewN | apply IsS67.drew | apply IsS67.set_0 | apply IsS67.set_1 | apply IsS67.set_2 | apply IsS67.set_3) | exact HI0.out)) hb); have n1_ := Aside0.mk (KeepBut.trans (by repeat (first | (with_reducible first | exact HK.out | apply KeepBut.set_ | apply keep_drewN | apply keep_drew | apply keep_alloc) | exact HK.out)) (KeepBut.of_below hb g none) (.inl rfl)); have n2_ := Aside0.mk (below_step (by repeat (first | (with_reducible first | exact HB.out | apply below_alloc | apply pw_below_drewN | apply below_drew1 | refine below_set ?_ (IsS67.ge HI0.out)) | exact HB.out)) hb); clear HI0; clear HK; clear HB; have HI0 := n0_; have HK := n1_; have HB := n2_; clear n0_ n1_ n2_; (try clear hb); (try clear hb2); (try clear hk); (try clear hi); obtain ⟨ASz7_4, cSz7_4, HGz7, hgz7, HSz7_4⟩ := HI0.out; have hcz7_0 := cellS67_0 HGz7; have hcz7_1 := cellS67_1 HGz7; have hcz7_2 := cellS67_2 HGz7; have hcz7_3 := cellS67_3 HGz7; have hcz7_4 := cellS67_4 HGz7; obtain ⟨hfz7_0, hfz7_1, hfz7_2, hfz7_3⟩ := blk_frozens4 HGz7; clear HGz7 hgz7))
  repeat (go_quiet (first | (go_at_call 17; (with_reducible refine (seq_Distance.calls s0_0 a1 t113 t114 _ A3.out).mono ?_); rintro e w6 ⟨rfl, hb⟩; have n0_ := Aside0.mk (IsS67.below (by repeat (first | (with_reducible first | exact HI0.out | apply IsS67.alloc | apply IsS67.drewN | apply IsS67.drew | apply IsS67.set_0 | apply IsS67.set_1 | apply IsS67.set_2 | apply IsS67.set_3) | exact HI0.out)) hb); have n1_ := Aside0.mk (KeepBut.trans (by repeat (first | (with_reducible first | exact HK.out | apply KeepBut.set_ | apply keep_drewN | apply keep_drew | apply keep_alloc) | exact HK.out)) (KeepBut.of_below hb g none) (.inl rfl)); have n2_ := Aside0.mk (below_step (by repeat (first | (with_reducible first | exact HB.out | apply below_alloc | apply pw_below_drewN | apply below_drew1 | refine below_set ?_ (IsS67.ge HI0.out)) | exact HB.out)) hb); clear HI0; clear HK; clear HB; have HI0 := n0_; have HK := n1_; have HB := n2_; clear n0_ n1_ n2_; (try clear hb); (try clear hb2); (try clear hk); (try clear hi); obtain ⟨ASz7_4, cSz7_4, HGz7, hgz7, HSz7_4⟩ := HI0.out; have hcz7_0 := cellS67_0 HGz7; have hcz7_1 := cellS67_1 HGz7; have hcz7_2 := cellS67_2 HGz7; have hcz7_3 := cellS67_3 HGz7; have hcz7_4 := cellS67_4 HGz7; obtain ⟨hfz7_0, hfz7_1, hfz7_2, hfz7_3⟩ := blk_frozens4 HGz7; clear HGz7 hgz7)); try go_wp2_with (first | (go_at_call 17; (with_reducible refine (seq_Distance.calls s0_0 a1 t113 t114 _ A3.out).mono ?_); rintro e w6 ⟨rfl, hb⟩; have n0_ := Aside0.mk (IsS67.below (by repeat (first | (with_reducible first | exact HI0.out | apply IsS67.alloc | apply IsS67.drewN | apply IsS67.drew | apply IsS67.set_0 | apply IsS67.set_1 | apply IsS67.set_2 | apply IsS67.set_3) | exact HI0.out)) hb); have n1_ := Aside0.mk (KeepBut.trans (by repeat (first | (with_reducible first | exact HK.out | apply KeepBut.set_ | apply keep_drewN | apply keep_drew | apply keep_alloc) | exact HK.out)) (KeepBut.of_below hb g none) (.inl rfl)); have n2_ := Aside0.mk (below_step (by repeat (first | (with_reducible first | exact HB.out | apply below_alloc | apply pw_below_drewN | apply below_drew1 | refine below_set ?_ (IsS67.ge HI0.out)) | exact HB.out)) hb); clear HI0; clear HK; clear HB; have HI0 := n0_; have HK := n1_; have HB := n2_; clear n0_ n1_ n2_; (try clear hb); (try clear hb2); (try clear hk); (try clear hi); obtain ⟨ASz7_4, cSz7_4, HGz7, hgz7, HSz7_4⟩ := HI0.out; have hcz7_0 := cellS67_0 HGz7; have hcz7_1 := cellS67_1 HGz7; have hcz7_2 := cellS67_2 HGz7; have hcz7_3 := cellS67_3 HGz7; have hcz7_4 := cellS67_4 HGz7; obtain ⟨hfz7_0, hfz7_1, hfz7_2, hfz7_3⟩ := blk_frozens4 HGz7; clear HGz7 hgz7)))
  go_ret2
  exact ⟨by first | rfl | (simp [errW_none, errW_some] <;> rfl) | (simp [*, errW_none, errW_some] <;> rfl), by repeat (first | (with_reducible first | exact HI0.out | apply IsS67.alloc | apply IsS67.drewN | apply IsS67.drew | apply IsS67.set_0 | apply IsS67.set_1 | apply IsS67.set_2 | apply IsS67.set_3) | exact HI0.out), by repeat (first | (with_reducible first | exact HB.out | apply below_alloc | apply pw_below_drewN | apply below_drew1 | refine below_set ?_ (IsS67.ge HI0.out)) | exact HB.out), by repeat (first | (with_reducible first | exact HK.out | apply KeepBut.set_ | apply keep_drewN | apply keep_drew | apply keep_alloc) | exact HK.out)⟩
 ·rw [if_neg c4] at H
  have c4b0 : (t114 == 0) = false := beq_eq_false_iff_ne.mpr c4
  have c4b1 : (t114 != 0) = true := bne_iff_ne.mpr c4
  simp only [Option.some.injEq, Prod.mk.injEq] at H
  obtain ⟨rfl, rfl, rfl, rfl, rfl, rfl⟩ := H
  obtain ⟨ASz8_4, cSz8_4, HGz8, hgz8, HSz8_4⟩ := HI0.out
  have hcz8_0 := cellS67_0 HGz8
  have hcz8_1 := cellS67_1 HGz8
  have hcz8_2 := cellS67_2 HGz8
  have hcz8_3 := cellS67_3 HGz8
  have hcz8_4 := cellS67_4 HGz8
  obtain ⟨hfz8_0, hfz8_1, hfz8_2, hfz8_3⟩ := blk_frozens4 HGz8
  clear HGz8 hgz8
  go_enter Try.func27, Try.ntmps27
  go_wp2_with (first | (go_at_call 17; (with_reducible refine (seq_Distance.calls s0_0 a1 t113 t114 _ A3.out).mono ?_); rintro e w9 ⟨rfl, hb⟩; have n0_ := Aside0.mk (IsS67.below (by repeat (first | (with_reducible first | exact HI0.out | apply IsS67.alloc | apply IsS67.drewN | apply IsS67.drew | apply IsS67.set_0 | apply IsS67.set_1 | apply IsS67.set_2 | apply IsS67.set_3) | exact HI0.out)) hb); have n1_ := Aside0.mk (KeepBut.trans (by repeat (first | (with_reducible first | exact HK.out | apply KeepBut.set_ | apply keep_drewN | apply keep_drew | apply keep_alloc) | exact HK.out)) (KeepBut.of_below hb g none) (.inl rfl)); have n2_ := Aside0.mk (below_step (by repeat (first | (with_reducible first | exact HB.out | apply below_alloc | apply pw_below_drewN | apply below_drew1 | refine below_set ?_ (IsS67.ge HI0.out)) | exact HB.out)) hb); clear HI0; clear HK; clear HB; have HI0 := n0_; have HK := n1_; have HB := n2_; clear n0_ n1_ n2_; (try clear hb); (try clear hb2); (try clear hk); (try clear hi)))
  repeat (go_quiet (first | (go_at_call 17; (with_reducible refine (seq_Distance.calls s0_0 a1 t113 t114 _ A3.out).mono ?_); rintro e w9 ⟨rfl, hb⟩; have n0_ := Aside0.mk (IsS67.below (by repeat (first | (with_reducible first | exact HI0.out | apply IsS67.alloc | apply IsS67.drewN | apply IsS67.drew | apply IsS67.set_0 | apply IsS67.set_1 | apply IsS67.set_2 | apply IsS67.set_3) | exact HI0.out)) hb); have n1_ := Aside0.mk (KeepBut.trans (by repeat (first | (with_reducible first | exact HK.out | apply KeepBut.set_ | apply keep_drewN | apply keep_drew | apply keep_alloc) | exact HK.out)) (KeepBut.of_below hb g none) (.inl rfl)); have n2_ := Aside0.mk (below_step (by repeat (first | (with_reducible first | exact HB.out | apply below_alloc | apply pw_below_drewN | apply below_drew1 | refine below_set ?_ (IsS67.ge HI0.out)) | exact HB.out)) hb); clear HI0; clear HK; clear HB; have HI0 := n0_; have HK := n1_; have HB := n2_; clear n0_ n1_ n2_; (try clear hb); (try clear hb2); (try clear hk); (try clear hi))); try go_wp2_with (first | (go_at_call 17; (with_reducible refine (seq_Distance.calls s0_0 a1 t113 t114 _ A3.out).mono ?_); rintro e w9 ⟨rfl, hb⟩; have n0_ := Aside0.mk (IsS67.below (by repeat (first | (with_reducible first | exact HI0.out | apply IsS67.alloc | apply IsS67.drewN | apply IsS67.drew | apply IsS67.set_0 | apply IsS67.set_1 | apply IsS67.set_2 | apply IsS67.set_3) | exact HI0.out)) hb); have n1_ := Aside0.mk (KeepBut.trans (by repeat (first | (with_reducible first | exact HK.out | apply KeepBut.set_ | apply keep_drewN | apply keep_drew | apply keep_alloc) | exact HK.out)) (KeepBut.of_below hb g none) (.inl rfl)); have n2_ := Aside0.mk (below_step (by repeat (first | (with_reducible first | exact HB.out | apply below_alloc | apply pw_below_drewN | apply below_drew1 | refine below_set ?_ (IsS67.ge HI0.out)) | exact HB.out)) hb); clear HI0; clear HK; clear HB; have HI0 := n0_; have HK := n1_; have HB := n2_; clear n0_ n1_ n2_; (try clear hb); (try clear hb2); (try clear hk); (try clear hi))))
  go_ret2
  exact ⟨by first | rfl | (simp [errW_none, errW_some] <;> rfl) | (simp [*, errW_none, errW_some] <;> rfl), by repeat (first | (with_reducible first | exact HI0.out | apply IsS67.alloc | apply IsS67.drewN | apply IsS67.drew | apply IsS67.set_0 | apply IsS67.set_1 | apply IsS67.set_2 | apply IsS67.set_3) | exact HI0.out), by repeat (first | (with_reducible first | exact HB.out | apply below_alloc | apply pw_below_drewN | apply below_drew1 | refine below_set ?_ (IsS67.ge HI0.out)) | exact HB.out), by repeat (first | (with_reducible first | exact HK.out | apply KeepBut.set_ | apply keep_drewN | apply keep_drew | apply keep_alloc) | exact HK.out)⟩


/-! ### sendq_Queue_Ack: function 14 (by hand) -/
def sendq_Queue_Ack.f (s0_0 s0_1 s0_2 : Int) (s0_3 : ByteArray) (a1 : Int) : Option (Int × Int × Int × Int × ByteArray) :=
 (seq_Distance.f s0_0 a1).bind fun o => if o.2 = 0 ∧ o.1 ≤ s0_1 then (if 0 ≤ o.1 ∧ o.1 ≤ (s0_3.size : Int) then some (o.1, 0, a1, wrap64 (s0_1 - o.1), cutS s0_3 o.1.toNat s0_3.size) else none) else some (0, 1, s0_0, s0_1, s0_3)
set_option maxHeartbeats 4000000 in
set_option maxRecDepth 100000 in
theorem sendq_Queue_Ack.calls (g : Nat) (s0_0 s0_1 s0_2 : Int) (s0_3 : ByteArray) (a1 r1 r2 r3 r4 : Int) (r5 : ByteArray) (w0 w : World) (hI : IsS67 w0 w g s0_0 s0_1 s0_2 s0_3 []) (hB : Below w0.heap.size w0 w) (h : sendq_Queue_Ack.f s0_0 s0_1 s0_2 s0_3 a1 = some (r1, r2, r3, r4, r5)) :
  Calls Try.prog 14 #[.pointer (some ⟨g, 0, none⟩), .int .i64 a1] w fun e w' => e = .returned (.tuple #[.int .i64 r1, .int .i64 r2]) ∧ IsS67 w0 w' g r3 r4 s0_2 r5 [] ∧ Below w0.heap.size w0 w' ∧ KeepBut w w' g none := by
 have HI0 := Aside0.mk hI
 have HK := Aside0.mk (KeepBut.refl w g none)
 have HB := Aside0.mk hB
 clear hI hB
 unfold sendq_Queue_Ack.f at h
 obtain ⟨⟨d, e⟩, hA, h⟩ := Option.bind_eq_some_iff.mp h
 have HO := Aside0.mk (show sendq_Queue_off.f s0_0 s0_1 s0_2 s0_3 [] a1 = some (d, decide (e = 0 ∧ d ≤ s0_1), s0_0, s0_1, s0_2, s0_3) by
  unfold sendq_Queue_off.f; rw [hA]; show (if e = 0 then _ else _) = _
  by_cases he : e = 0
  ·rw [if_pos he]; simp [he]
  ·rw [if_neg he]; simp [he])
 clear hA
 dsimp only at h
 replace h := Aside0.mk h
 go_enter Try.func14, Try.ntmps14
 go_wp2_with fail
 refine (sendq_Queue_off.calls g s0_0 s0_1 s0_2 s0_3 [] a1 d _ s0_0 s0_1 s0_2 s0_3 w0 _ HI0.out HB.out HO.out).mono ?_
 rintro e1 w1 ⟨rfl, i1, b1, k1⟩
 have HI := Aside0.mk i1
 have HB1 := Aside0.mk b1
 have HK1 := Aside0.mk (HK.out.trans k1 (.inl rfl))
 clear i1 b1 k1 HI0 HB HK
 have HI0 := HI; have HB := HB1; have HK := HK1
 clear HI HB1 HK1
 have h := h.out
 by_cases c : e = 0 ∧ d ≤ s0_1
 case neg =>
  rw [if_neg c] at h
  simp only [Option.some.injEq, Prod.mk.injEq] at h
  obtain ⟨rfl, rfl, rfl, rfl, rfl⟩ := h
  have b := decide_eq_false c
  go_wp2
  go_ret2
  exact ⟨by first | rfl | (simp; done) | (simp [*]; done), by repeat (first | (with_reducible first | exact HI0.out | apply IsS67.alloc | apply IsS67.drewN | apply IsS67.drew | apply IsS67.set_0 | apply IsS67.set_1 | apply IsS67.set_2 | apply IsS67.set_3) | exact HI0.out), by repeat (first | (with_reducible first | exact HB.out | apply below_alloc | apply pw_below_drewN | apply below_drew1 | refine below_set ?_ (IsS67.ge HI0.out)) | exact HB.out), by repeat (first | (with_reducible first | exact HK.out | apply KeepBut.set_ | apply keep_drewN | apply keep_drew | apply keep_alloc) | exact HK.out)⟩
 rw [if_pos c] at h
 by_cases c2 : 0 ≤ d ∧ d ≤ (s0_3.size : Int)
 case neg => rw [if_neg c2] at h; cases h
 rw [if_pos c2] at h
 simp only [Option.some.injEq, Prod.mk.injEq] at h
 obtain ⟨rfl, rfl, rfl, rfl, rfl⟩ := h
 have b := decide_eq_true c
 have K1 := Aside0.mk c2
 clear c c2
 go_wp2
 have same : ∀ (p : Nat) (W' : World), (fun p W' => IsS67 w0 W' g (if p = 0 then s0_0 else a1) (if p ≤ 2 then s0_1 else wrap64 (s0_1 - d)) s0_2 (if p ≤ 1 then s0_3 else (cutS s0_3 d.toNat s0_3.size)) [] ∧ Below w0.heap.size w0 W' ∧ KeepBut w W' g none ∧ p ≤ 3) p W' → True := fun _ _ _ => trivial
 refine AnyEvents.region_then 25 (E := [18, 21, 24]) (C := fun p W' => IsS67 w0 W' g (if p = 0 then s0_0 else a1) (if p ≤ 2 then s0_1 else wrap64 (s0_1 - d)) s0_2 (if p ≤ 1 then s0_3 else (cutS s0_3 d.toNat s0_3.size)) [] ∧ Below w0.heap.size w0 W' ∧ KeepBut w W' g none ∧ p ≤ 3) (G := fun _ _ _ _ => True) (T := []) (R := fun _ _ _ _ => True) (vs := [(.pointer (some ⟨g, 0, none⟩)), (.pointer (some ⟨g, 0, none⟩)), (.pointer (some ⟨g, 0, none⟩)), (.int .i64 a1), (.pointer (some ⟨g, 0, none⟩)), (.pointer (some ⟨g, 0, none⟩)), (.pointer (some ⟨g, 3, none⟩)), (.string s0_3), (.int .i64 d), (.string (cutS s0_3 d.toNat s0_3.size)), (.pointer (some ⟨g, 0, none⟩)), (.pointer (some ⟨g, 0, none⟩)), (.pointer (some ⟨g, 1, none⟩)), (.int .i64 s0_1), (.int .i64 d), (.int .i64 (wrap64 (s0_1 - d))), (.pointer (some ⟨g, 0, none⟩)), (.pointer (some ⟨g, 0, none⟩)), undef, (.pointer (some ⟨g, 0, none⟩)), (.pointer (some ⟨g, 3, none⟩)), undef, (.pointer (some ⟨g, 0, none⟩)), (.pointer (some ⟨g, 1, none⟩)), undef]) (by kernel_rfl) (by kernel_rfl) rfl (by kernel_rfl) ?hc0 same (fun _ _ _ _ _ _ _ _ _ => trivial) (by decide) (fun x => ?obs) ?fin
 case hc0 => exact ⟨by first | exact HI0.out | (exact (IsS67.drewN HI0.out _)), below_drew1 (by repeat (first | (with_reducible first | exact HB.out | apply below_alloc | apply pw_below_drewN | apply below_drew1 | refine below_set ?_ (IsS67.ge HI0.out)) | exact HB.out)), by repeat (first | (with_reducible first | exact HK.out | apply KeepBut.set_ | apply keep_drewN | apply keep_drew | apply keep_alloc) | exact HK.out), by decide⟩
 case obs =>
  refine AnyEvents.obs_cons (.pointer (some ⟨g, 0, none⟩)) rfl (AnyEvents.ob_plain rfl rfl rfl same rfl (fun p W' hwn hC => by first | rfl | (go_simp; done) | (go_simp; rfl) | (go_simp; simp only [i64_w]; done))) ?_
  try simp only [Act.put, List.setIfInBounds_toArray, List.set_cons_zero, List.set_cons_succ]
  refine AnyEvents.obs_cons (.pointer (some ⟨g, 0, none⟩)) rfl (AnyEvents.ob_plain rfl rfl rfl same rfl (fun p W' hwn hC => by first | rfl | (go_simp; done) | (go_simp; rfl) | (go_simp; simp only [i64_w]; done))) ?_
  try simp only [Act.put, List.setIfInBounds_toArray, List.set_cons_zero, List.set_cons_succ]
  refine AnyEvents.obs_cons (.pointer (some ⟨g, 0, none⟩)) rfl (AnyEvents.ob_plain rfl rfl rfl same rfl (fun p W' hwn hC => by first | rfl | (go_simp; done) | (go_simp; rfl) | (go_simp; simp only [i64_w]; done))) ?_
  try simp only [Act.put, List.setIfInBounds_toArray, List.set_cons_zero, List.set_cons_succ]
  refine AnyEvents.obs_cons (.int .i64 a1) rfl (AnyEvents.ob_plain rfl rfl rfl same rfl (fun p W' hwn hC => by first | rfl | (go_simp; done) | (go_simp; rfl) | (go_simp; simp only [i64_w]; done))) ?_
  try simp only [Act.put, List.setIfInBounds_toArray, List.set_cons_zero, List.set_cons_succ]
  refine AnyEvents.obs_cons (.pointer (some ⟨g, 0, none⟩)) rfl (AnyEvents.ob_plain rfl rfl rfl same rfl (fun p W' hwn hC => by first | rfl | (go_simp; done) | (go_simp; rfl) | (go_simp; simp only [i64_w]; done))) ?_
  try simp only [Act.put, List.setIfInBounds_toArray, List.set_cons_zero, List.set_cons_succ]
  refine AnyEvents.obs_cons (.pointer (some ⟨g, 0, none⟩)) rfl (AnyEvents.ob_plain rfl rfl rfl same rfl (fun p W' hwn hC => by first | rfl | (go_simp; done) | (go_simp; rfl) | (go_simp; simp only [i64_w]; done))) ?_
  try simp only [Act.put, List.setIfInBounds_toArray, List.set_cons_zero, List.set_cons_succ]
  refine AnyEvents.obs_cons (.pointer (some ⟨g, 3, none⟩)) rfl (AnyEvents.ob_plain rfl rfl rfl same rfl (fun p W' hwn hC => by first | rfl | (go_simp; done) | (go_simp; rfl) | (go_simp; simp only [i64_w]; done))) ?_
  try simp only [Act.put, List.setIfInBounds_toArray, List.set_cons_zero, List.set_cons_succ]
  refine AnyEvents.obs_cons (.string s0_3) rfl (AnyEvents.ob_plain rfl rfl rfl same rfl (fun p W' hwn hC => ?_)) ?_
  ·have hp1 := hwn.hi 0 18 rfl (by kernel_rfl); have hp3 : p ≤ 3 := hC.2.2.2; obtain ⟨A_, c_, HG, _, _⟩ := hC.1; have hcz := cellS67_3 HG; obtain rfl : p = 0 := (by omega); all_goals (clear HG; first | (go_simp; done) | (go_simp; rfl))
  try simp only [Act.put, List.setIfInBounds_toArray, List.set_cons_zero, List.set_cons_succ]
  refine AnyEvents.obs_cons (.int .i64 d) rfl (AnyEvents.ob_plain rfl rfl rfl same rfl (fun p W' hwn hC => by first | rfl | (go_simp; done) | (go_simp; rfl) | (go_simp; simp only [i64_w]; done))) ?_
  try simp only [Act.put, List.setIfInBounds_toArray, List.set_cons_zero, List.set_cons_succ]
  refine AnyEvents.obs_cons (.string (cutS s0_3 d.toNat s0_3.size)) rfl (AnyEvents.ob_plain rfl rfl rfl same rfl (fun p W' hwn hC => run_sl_from Try.underlying9 rfl rfl rfl K1.out.1 K1.out.2)) ?_
  try simp only [Act.put, List.setIfInBounds_toArray, List.set_cons_zero, List.set_cons_succ]
  refine AnyEvents.obs_cons (.pointer (some ⟨g, 0, none⟩)) rfl (AnyEvents.ob_plain rfl rfl rfl same rfl (fun p W' hwn hC => by first | rfl | (go_simp; done) | (go_simp; rfl) | (go_simp; simp only [i64_w]; done))) ?_
  try simp only [Act.put, List.setIfInBounds_toArray, List.set_cons_zero, List.set_cons_succ]
  refine AnyEvents.obs_cons (.pointer (some ⟨g, 0, none⟩)) rfl (AnyEvents.ob_plain rfl rfl rfl same rfl (fun p W' hwn hC => by first | rfl | (go_simp; done) | (go_simp; rfl) | (go_simp; simp only [i64_w]; done))) ?_
  try simp only [Act.put, List.setIfInBounds_toArray, List.set_cons_zero, List.set_cons_succ]
  refine AnyEvents.obs_cons (.pointer (some ⟨g, 1, none⟩)) rfl (AnyEvents.ob_plain rfl rfl rfl same rfl (fun p W' hwn hC => by first | rfl | (go_simp; done) | (go_simp; rfl) | (go_simp; simp only [i64_w]; done))) ?_
  try simp only [Act.put, List.setIfInBounds_toArray, List.set_cons_zero, List.set_cons_succ]
  refine AnyEvents.obs_cons (.int .i64 s0_1) rfl (AnyEvents.ob_plain rfl rfl rfl same rfl (fun p W' hwn hC => ?_)) ?_
  ·have hp1 := hwn.hi 0 18 rfl (by kernel_rfl); have hp3 : p ≤ 3 := hC.2.2.2; obtain ⟨A_, c_, HG, _, _⟩ := hC.1; have hcz := cellS67_1 HG; obtain rfl : p = 0 := (by omega); all_goals (clear HG; first | (go_simp; done) | (go_simp; rfl))
  try simp only [Act.put, List.setIfInBounds_toArray, List.set_cons_zero, List.set_cons_succ]
  refine AnyEvents.obs_cons (.int .i64 d) rfl (AnyEvents.ob_plain rfl rfl rfl same rfl (fun p W' hwn hC => by first | rfl | (go_simp; done) | (go_simp; rfl) | (go_simp; simp only [i64_w]; done))) ?_
  try simp only [Act.put, List.setIfInBounds_toArray, List.set_cons_zero, List.set_cons_succ]
  refine AnyEvents.obs_cons (.int .i64 (wrap64 (s0_1 - d))) rfl (AnyEvents.ob_plain rfl rfl rfl same rfl (fun p W' hwn hC => by first | rfl | (go_simp; done) | (go_simp; rfl) | (go_simp; simp only [i64_w]; done))) ?_
  try simp only [Act.put, List.setIfInBounds_toArray, List.set_cons_zero, List.set_cons_succ]
  refine AnyEvents.obs_cons (.pointer (some ⟨g, 0, none⟩)) rfl (AnyEvents.ob_plain rfl rfl rfl same rfl (fun p W' hwn hC => by first | rfl | (go_simp; done) | (go_simp; rfl) | (go_simp; simp only [i64_w]; done))) ?_
  try simp only [Act.put, List.setIfInBounds_toArray, List.set_cons_zero, List.set_cons_succ]
  refine AnyEvents.obs_cons (.pointer (some ⟨g, 0, none⟩)) rfl (AnyEvents.ob_plain rfl rfl rfl same rfl (fun p W' hwn hC => by first | rfl | (go_simp; done) | (go_simp; rfl) | (go_simp; simp only [i64_w]; done))) ?_
  try simp only [Act.put, List.setIfInBounds_toArray, List.set_cons_zero, List.set_cons_succ]
  refine AnyEvents.obs_cons undef rfl (AnyEvents.ob_evstore (q := 0) rfl rfl rfl rfl (fun W' hC => ⟨W'.setCell ⟨g, 0, none⟩ (.int .i64 a1), ?_, ⟨IsS67.set_0 hC.1 _, below_set hC.2.1 (IsS67.ge hC.1), KeepBut.set_ hC.2.2.1 _ _, by omega⟩, trivial⟩)) ?_
  ·obtain ⟨A_, c_, HG, _, _⟩ := hC.1; exact run_store1 rfl rfl rfl HG (by simp) rfl rfl (by kernel_rfl)
  try simp only [Act.put, List.setIfInBounds_toArray, List.set_cons_zero, List.set_cons_succ]
  refine AnyEvents.obs_cons (.pointer (some ⟨g, 0, none⟩)) rfl (AnyEvents.ob_plain rfl rfl rfl same rfl (fun p W' hwn hC => by first | rfl | (go_simp; done) | (go_simp; rfl) | (go_simp; simp only [i64_w]; done))) ?_
  try simp only [Act.put, List.setIfInBounds_toArray, List.set_cons_zero, List.set_cons_succ]
  refine AnyEvents.obs_cons (.pointer (some ⟨g, 3, none⟩)) rfl (AnyEvents.ob_plain rfl rfl rfl same rfl (fun p W' hwn hC => by first | rfl | (go_simp; done) | (go_simp; rfl) | (go_simp; simp only [i64_w]; done))) ?_
  try simp only [Act.put, List.setIfInBounds_toArray, List.set_cons_zero, List.set_cons_succ]
  refine AnyEvents.obs_cons undef rfl (AnyEvents.ob_evstore (q := 1) rfl rfl rfl rfl (fun W' hC => ⟨W'.setCell ⟨g, 3, none⟩ (.string (cutS s0_3 d.toNat s0_3.size)), ?_, ⟨IsS67.set_3 hC.1 _, below_set hC.2.1 (IsS67.ge hC.1), KeepBut.set_ hC.2.2.1 _ _, by omega⟩, trivial⟩)) ?_
  ·obtain ⟨A_, c_, HG, _, _⟩ := hC.1; exact run_store1 rfl rfl rfl HG (by simp) rfl rfl (by kernel_rfl)
  try simp only [Act.put, List.setIfInBounds_toArray, List.set_cons_zero, List.set_cons_succ]
  refine AnyEvents.obs_cons (.pointer (some ⟨g, 0, none⟩)) rfl (AnyEvents.ob_plain rfl rfl rfl same rfl (fun p W' hwn hC => by first | rfl | (go_simp; done) | (go_simp; rfl) | (go_simp; simp only [i64_w]; done))) ?_
  try simp only [Act.put, List.setIfInBounds_toArray, List.set_cons_zero, List.set_cons_succ]
  refine AnyEvents.obs_cons (.pointer (some ⟨g, 1, none⟩)) rfl (AnyEvents.ob_plain rfl rfl rfl same rfl (fun p W' hwn hC => by first | rfl | (go_simp; done) | (go_simp; rfl) | (go_simp; simp only [i64_w]; done))) ?_
  try simp only [Act.put, List.setIfInBounds_toArray, List.set_cons_zero, List.set_cons_succ]
  refine AnyEvents.obs_cons undef rfl (AnyEvents.ob_evstore (q := 2) rfl rfl rfl rfl (fun W' hC => ⟨W'.setCell ⟨g, 1, none⟩ (.int .i64 (wrap64 (s0_1 - d))), ?_, ⟨IsS67.set_1 hC.1 _, below_set hC.2.1 (IsS67.ge hC.1), KeepBut.set_ hC.2.2.1 _ _, by omega⟩, trivial⟩)) ?_
  ·obtain ⟨A_, c_, HG, _, _⟩ := hC.1; exact run_store1 rfl rfl rfl HG (by simp) rfl rfl (by kernel_rfl)
  try simp only [Act.put, List.setIfInBounds_toArray, List.set_cons_zero, List.set_cons_succ]
  trivial
 case fin =>
  intro x W' hE _
  simp only [List.take_succ_cons, List.take_zero, List.drop_succ_cons, List.drop_zero]
  rw [AnyOrder.lexAt_cons (.pointer (some ⟨g, 0, none⟩)) rfl]
  try simp only [Act.put, List.setIfInBounds_toArray, List.set_cons_zero, List.set_cons_succ]
  rw [AnyOrder.lexAt_cons (.pointer (some ⟨g, 0, none⟩)) rfl]
  try simp only [Act.put, List.setIfInBounds_toArray, List.set_cons_zero, List.set_cons_succ]
  rw [AnyOrder.lexAt_cons (.pointer (some ⟨g, 0, none⟩)) rfl]
  try simp only [Act.put, List.setIfInBounds_toArray, List.set_cons_zero, List.set_cons_succ]
  rw [AnyOrder.lexAt_cons (.int .i64 a1) rfl]
  try simp only [Act.put, List.setIfInBounds_toArray, List.set_cons_zero, List.set_cons_succ]
  rw [AnyOrder.lexAt_cons (.pointer (some ⟨g, 0, none⟩)) rfl]
  try simp only [Act.put, List.setIfInBounds_toArray, List.set_cons_zero, List.set_cons_succ]
  rw [AnyOrder.lexAt_cons (.pointer (some ⟨g, 0, none⟩)) rfl]
  try simp only [Act.put, List.setIfInBounds_toArray, List.set_cons_zero, List.set_cons_succ]
  rw [AnyOrder.lexAt_cons (.pointer (some ⟨g, 3, none⟩)) rfl]
  try simp only [Act.put, List.setIfInBounds_toArray, List.set_cons_zero, List.set_cons_succ]
  rw [AnyOrder.lexAt_cons (.string s0_3) rfl]
  try simp only [Act.put, List.setIfInBounds_toArray, List.set_cons_zero, List.set_cons_succ]
  rw [AnyOrder.lexAt_cons (.int .i64 d) rfl]
  try simp only [Act.put, List.setIfInBounds_toArray, List.set_cons_zero, List.set_cons_succ]
  rw [AnyOrder.lexAt_cons (.string (cutS s0_3 d.toNat s0_3.size)) rfl]
  try simp only [Act.put, List.setIfInBounds_toArray, List.set_cons_zero, List.set_cons_succ]
  rw [AnyOrder.lexAt_cons (.pointer (some ⟨g, 0, none⟩)) rfl]
  try simp only [Act.put, List.setIfInBounds_toArray, List.set_cons_zero, List.set_cons_succ]
  rw [AnyOrder.lexAt_cons (.pointer (some ⟨g, 0, none⟩)) rfl]
  try simp only [Act.put, List.setIfInBounds_toArray, List.set_cons_zero, List.set_cons_succ]
  rw [AnyOrder.lexAt_cons (.pointer (some ⟨g, 1, none⟩)) rfl]
  try simp only [Act.put, List.setIfInBounds_toArray, List.set_cons_zero, List.set_cons_succ]
  rw [AnyOrder.lexAt_cons (.int .i64 s0_1) rfl]
  try simp only [Act.put, List.setIfInBounds_toArray, List.set_cons_zero, List.set_cons_succ]
  rw [AnyOrder.lexAt_cons (.int .i64 d) rfl]
  try simp only [Act.put, List.setIfInBounds_toArray, List.set_cons_zero, List.set_cons_succ]
  rw [AnyOrder.lexAt_cons (.int .i64 (wrap64 (s0_1 - d))) rfl]
  try simp only [Act.put, List.setIfInBounds_toArray, List.set_cons_zero, List.set_cons_succ]
  rw [AnyOrder.lexAt_cons (.pointer (some ⟨g, 0, none⟩)) rfl]
  try simp only [Act.put, List.setIfInBounds_toArray, List.set_cons_zero, List.set_cons_succ]
  rw [AnyOrder.lexAt_cons (.pointer (some ⟨g, 0, none⟩)) rfl]
  try simp only [Act.put, List.setIfInBounds_toArray, List.set_cons_zero, List.set_cons_succ]
  rw [AnyOrder.lexAt_cons undef rfl]
  try simp only [Act.put, List.setIfInBounds_toArray, List.set_cons_zero, List.set_cons_succ]
  rw [AnyOrder.lexAt_cons (.pointer (some ⟨g, 0, none⟩)) rfl]
  try simp only [Act.put, List.setIfInBounds_toArray, List.set_cons_zero, List.set_cons_succ]
  rw [AnyOrder.lexAt_cons (.pointer (some ⟨g, 3, none⟩)) rfl]
  try simp only [Act.put, List.setIfInBounds_toArray, List.set_cons_zero, List.set_cons_succ]
  rw [AnyOrder.lexAt_cons undef rfl]
  try simp only [Act.put, List.setIfInBounds_toArray, List.set_cons_zero, List.set_cons_succ]
  rw [AnyOrder.lexAt_cons (.pointer (some ⟨g, 0, none⟩)) rfl]
  try simp only [Act.put, List.setIfInBounds_toArray, List.set_cons_zero, List.set_cons_succ]
  rw [AnyOrder.lexAt_cons (.pointer (some ⟨g, 1, none⟩)) rfl]
  try simp only [Act.put, List.setIfInBounds_toArray, List.set_cons_zero, List.set_cons_succ]
  rw [AnyOrder.lexAt_cons undef rfl]
  try simp only [Act.put, List.setIfInBounds_toArray, List.set_cons_zero, List.set_cons_succ]
  rw [AnyOrder.lexAt_nil]
  have HE := hE
  clear hE same
  have HI1 := Aside0.mk (show IsS67 w0 W' g a1 (wrap64 (s0_1 - d)) s0_2 (cutS s0_3 d.toNat s0_3.size) [] from HE.1)
  have HB1 := Aside0.mk HE.2.1
  have HK1 := Aside0.mk HE.2.2.1
  clear HE
  obtain ⟨Az, cz, HGz, _, _⟩ := HI1.out
  have hcz_4 := cellS67_4 HGz
  clear HGz
  simp only [List.length_nil] at hcz_4
  go_wp2
  go_loopg [8, 46] 0 (fun _ v8 v46 W => v8 = .slice none 0 0 ∧ v46 = .int .i64 0 ∧ Aside0 (IsS67 w0 W g a1 (wrap64 (s0_1 - d)) s0_2 (cutS s0_3 d.toNat s0_3.size) []) ∧ Aside0 (Below w0.heap.size w0 W) ∧ Aside0 (KeepBut w W g none))
  case atStart => exact ⟨rfl, rfl, HI1, HB1, HK1⟩
  case round =>
   obtain ⟨h8, h46, HI2, HB2, HK2⟩ := hrel
   subst h8 h46
   clear HI1 HB1 HK1 hcz_4
   obtain ⟨A2, c2, HGz, _, _⟩ := HI2.out
   have hcz_4 := cellS67_4 HGz
   have hfz_4 := blk_frozen HGz 4
   clear HGz
   go_wp2
   go_ret2
   exact ⟨rfl, IsS67.nil4 HI2.out, below_set HB2.out (IsS67.ge HI2.out), KeepBut.set_ HK2.out _ _⟩



/-! ### sternpostlaw15_works: function 7 (by hand) -/
def sternpostlaw15_works.f : Option Bool :=
 (seq_Check.f 10).bind fun c => if c = 0 then (sendq_Queue_Write.f 10 0 8 (⟨#[]⟩ : ByteArray) [] (⟨#[97, 98, 99, 100, 101, 102, 103, 104, 105, 106]⟩ : ByteArray)).bind fun a => (sendq_Queue_Next.f 10 0 8 a.2.2 [] 5 3).bind fun b => (sendq_Queue_Next.f b.2.2.1 b.2.2.2.1 b.2.2.2.2.1 b.2.2.2.2.2 [] 5 3).bind fun d => (sendq_Queue_Ack.f d.2.2.1 d.2.2.2.1 d.2.2.2.2.1 d.2.2.2.2.2 12).bind fun x =>
  if a.1 = 8 ∧ a.2.1 = 0 ∧ b.1 = 10 ∧ b.2.1 = (⟨#[97, 98, 99]⟩ : ByteArray) ∧ d.1 = 13 ∧ d.2.1 = (⟨#[100, 101]⟩ : ByteArray) ∧ x.1 = 2 ∧ x.2.1 = 0 then some true else none
 else none
set_option maxHeartbeats 4000000 in
set_option maxRecDepth 100000 in
theorem sternpostlaw15_works.calls (w : World) (h : sternpostlaw15_works.f = some true) : Calls Try.prog 7 #[] w fun e w' => e = .returned (.bool true) ∧ Below w.heap.size w w' := by
 unfold sternpostlaw15_works.f at h
 replace h := Option.bind_eq_some_iff.mp h
 obtain ⟨c, hq_, h⟩ := h
 have AC := Aside0.mk hq_
 clear hq_
 try dsimp only at h
 by_cases c0 : c = 0
 case neg => rw [if_neg c0] at h; cases h
 rw [if_pos c0] at h
 subst c0
 replace h := Option.bind_eq_some_iff.mp h
 obtain ⟨⟨a1, a2, a3⟩, hq_, h⟩ := h
 have AA := Aside0.mk hq_
 clear hq_
 try dsimp only at h
 replace h := Option.bind_eq_some_iff.mp h
 obtain ⟨⟨b1, b2, b3, b4, b5, b6⟩, hq_, h⟩ := h
 have AB := Aside0.mk hq_
 clear hq_
 try dsimp only at h
 replace h := Option.bind_eq_some_iff.mp h
 obtain ⟨⟨d1, d2, d3, d4, d5, d6⟩, hq_, h⟩ := h
 have AD := Aside0.mk hq_
 clear hq_
 try dsimp only at h
 replace h := Option.bind_eq_some_iff.mp h
 obtain ⟨⟨x1, x2, x3, x4, x5⟩, hq_, h⟩ := h
 have AX := Aside0.mk hq_
 clear hq_
 try dsimp only at h
 by_cases c1 : a1 = 8 ∧ a2 = 0 ∧ b1 = 10 ∧ b2 = (⟨#[97, 98, 99]⟩ : ByteArray) ∧ d1 = 13 ∧ d2 = (⟨#[100, 101]⟩ : ByteArray) ∧ x1 = 2 ∧ x2 = 0
 case neg => rw [if_neg c1] at h; cases h
 clear h
 obtain ⟨rfl, rfl, rfl, rfl, rfl, rfl, rfl, rfl⟩ := c1
 go_enter Try.func7, Try.ntmps7
 go_wp2_with fail
 refine (sendq_New.calls 10 8 w _ (Below.refl _ _) AC.out (by decide) (by decide)).mono ?_
 rintro e w1 ⟨g, rfl, i1, b1, k1⟩
 have HI := Aside0.mk i1; have HB := Aside0.mk b1; clear i1 b1 k1
 go_wp2_with fail
 refine (sendq_Queue_Write.calls g 10 0 8 (⟨#[]⟩ : ByteArray) [] (⟨#[97, 98, 99, 100, 101, 102, 103, 104, 105, 106]⟩ : ByteArray) 8 0 a3 w _ HI.out HB.out AA.out).mono ?_
 rintro e w2 ⟨rfl, i1, b1, k1⟩
 have HIn := Aside0.mk i1; have HBn := Aside0.mk b1; clear i1 b1 k1 HI HB; have HI := HIn; have HB := HBn; clear HIn HBn
 go_wp2_with fail
 refine (sendq_Queue_Next.calls g 10 0 8 a3 [] 5 3 10 _ b3 b4 b5 b6 w _ HI.out HB.out AB.out).mono ?_
 rintro e w3 ⟨rfl, i1, b1, k1⟩
 have HIn := Aside0.mk i1; have HBn := Aside0.mk b1; clear i1 b1 k1 HI HB; have HI := HIn; have HB := HBn; clear HIn HBn
 go_wp2_with fail
 refine (sendq_Queue_Next.calls g b3 b4 b5 b6 [] 5 3 13 _ d3 d4 d5 d6 w _ HI.out HB.out AD.out).mono ?_
 rintro e w4 ⟨rfl, i1, b1, k1⟩
 have HIn := Aside0.mk i1; have HBn := Aside0.mk b1; clear i1 b1 k1 HI HB; have HI := HIn; have HB := HBn; clear HIn HBn
 go_wp2_with fail
 refine (sendq_Queue_Ack.calls g d3 d4 d5 d6 12 2 0 x3 x4 x5 w _ HI.out HB.out AX.out).mono ?_
 rintro e w5 ⟨rfl, i1, b1, k1⟩
 have HIn := Aside0.mk i1; have HBn := Aside0.mk b1; clear i1 b1 k1 HI HB; have HI := HIn; have HB := HBn; clear HIn HBn
 go_wp2
 go_ret
 exact ⟨by first | rfl | (simp; done), HB.out⟩


/-! ### sternpostbook_Among: function 8 -/
def sternpostbook_Among.f (a0 : Int) (a1 : Int) : Option (Int) := if a1 = 0 then (none) else (some (Int.tmod (wrap64 ((Int.tmod a0 a1) + a1)) a1))
set_option maxHeartbeats 8000000 in
set_option maxRecDepth 100000 in
theorem sternpostbook_Among.calls (a0 : Int) (a1 : Int) (r : Int) (w : World) (h : sternpostbook_Among.f a0 a1 = some r) :
  Calls Try.prog 8 #[.int .i64 a0, .int .i64 a1] w fun e w' => e = .returned (.int .i64 r) ∧ Drawn0 w w' := by
 have H : (if a1 = 0 then (none) else (some (Int.tmod (wrap64 ((Int.tmod a0 a1) + a1)) a1))) = some r := h
 clear h
 by_cases c3 : a1 = 0
 ·rw [if_pos c3] at H
  exact absurd H (by simp)
 ·rw [if_neg c3] at H
  have c3b0 : (a1 == 0) = false := beq_eq_false_iff_ne.mpr c3
  have c3b1 : (a1 != 0) = true := bne_iff_ne.mpr c3
  obtain rfl := Option.some.inj H
  go_enter Try.func8, Try.ntmps8
  go_wp2
  go_ret
  exact ⟨by first | rfl | (simp; done) | (simp [*]; done), by repeat (first | exact Drawn0.refl _ | apply Drawn0.step)⟩

end Go.Proofs.Ytobndcdohehhbaa.PSendqStream

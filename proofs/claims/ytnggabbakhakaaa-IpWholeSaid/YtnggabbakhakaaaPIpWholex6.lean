-- Laid by this claim's own program over the print's words.
import Derived.Test.YtnggabbakhakaaaPIpWholex0
import Derived.Test.YtnggabbakhakaaaPIpWholex1
import Derived.Test.YtnggabbakhakaaaPIpWholex2
import Derived.Test.YtnggabbakhakaaaPIpWholex5
namespace Go.Proofs.Ytnggabbakhakaaa.PIpWhole
open Go.RowKit Go.Proofs.YtnggabbakhakaaaW.PrintWords Go.Proofs.YtnggabbakhakaaaW.PrintLast Go.Proofs.YtnggabbakhakaaaW.PrintMore
attribute [local go_sem] max2_int min2_int max_two min_two max_three min_three max_four min_four max_five min_five extract_cut tmod_nat_lit   -- for this text's walks alone
set_option linter.unusedVariables false
set_option linter.unusedSimpArgs false

/-! ### sternpostlaw05_works: function 16 -/
def sternpostlaw05_works.f (k : Nat)  : Option (Bool) := (ip_Encode.f k 10 11 64 6 0 0 false false (⟨#[]⟩ : ByteArray) (⟨#[97, 98]⟩ : ByteArray)).bind fun bt151 => (if bt151.2 = 0 then (if (bt151.1.size : Int) = 22 then (if 0 ≤ 10 then (if 10 ≤ (bt151.1.size : Int) then (if (cutS bt151.1 0 10).toList = ([69, 0, 0, 22, 0, 0, 0, 0, 64, 6] : List UInt8) then (if 12 ≤ (bt151.1.size : Int) then (some ((cutS bt151.1 12 bt151.1.size).toList == ([0, 0, 0, 10, 0, 0, 0, 11, 97, 98] : List UInt8))) else (none)) else (some false)) else (none)) else (none)) else (some false)) else (some false))
theorem sternpostlaw05_works.mono : ∀ k, LeO (sternpostlaw05_works.f k ) (sternpostlaw05_works.f (k + 1) ) := by
 intro  k
 unfold sternpostlaw05_works.f
 repeat' first
   | (with_reducible exact ip_Encode.mono _ _ _ _ _ _ _ _ _ _ _)
   | (with_reducible exact LeO.refl _)
   | (with_reducible exact LeO.none _)
   | (with_reducible refine LeO.ite ?_ ?_)
   | (with_reducible refine LeO.bind ?_ (fun _ => ?_))
   | exact ip_Encode.mono _ _ _ _ _ _ _ _ _ _ _
   | exact LeO.none _
   | refine LeO.ite ?_ ?_
   | refine LeO.bind ?_ (fun _ => ?_)
set_option maxHeartbeats 8000000 in
set_option maxRecDepth 100000 in
theorem sternpostlaw05_works.calls (k : Nat)  (r : Bool) (w : World) (h : sternpostlaw05_works.f k  = some r) :
  Calls Try.prog 16 #[] w fun e w' => e = .returned (.bool r) ∧ Below w.heap.size w w' := by
 have hu23 := Try.underlying23
 have HB := Aside0.mk (Below.refl w.heap.size w)
 have H : ((ip_Encode.f k 10 11 64 6 0 0 false false (⟨#[]⟩ : ByteArray) (⟨#[97, 98]⟩ : ByteArray)).bind fun bt151 => (if bt151.2 = 0 then (if (bt151.1.size : Int) = 22 then (if 0 ≤ 10 then (if 10 ≤ (bt151.1.size : Int) then (if (cutS bt151.1 0 10).toList = ([69, 0, 0, 22, 0, 0, 0, 0, 64, 6] : List UInt8) then (if 12 ≤ (bt151.1.size : Int) then (some ((cutS bt151.1 12 bt151.1.size).toList == ([0, 0, 0, 10, 0, 0, 0, 11, 97, 98] : List UInt8))) else (none)) else (some false)) else (none)) else (none)) else (some false)) else (some false))) = some r := h
 clear h
 replace H := Option.bind_eq_some_iff.mp H
 obtain ⟨⟨t151, t152⟩, A10, H⟩ := H
 replace H : (if t152 = 0 then (if (t151.size : Int) = 22 then (if 0 ≤ 10 then (if 10 ≤ (t151.size : Int) then (if (cutS t151 0 10).toList = ([69, 0, 0, 22, 0, 0, 0, 0, 64, 6] : List UInt8) then (if 12 ≤ (t151.size : Int) then (some ((cutS t151 12 t151.size).toList == ([0, 0, 0, 10, 0, 0, 0, 11, 97, 98] : List UInt8))) else (none)) else (some false)) else (none)) else (none)) else (some false)) else (some false)) = some r := H
 have A1 := Aside0.mk A10
 clear A10
 by_cases c2 : t152 = 0
 ·rw [if_pos c2] at H
  have c2b0 : (t152 == 0) = true := beq_iff_eq.mpr c2
  have c2b1 : (t152 != 0) = false := bne_eq_false_iff_eq.mpr c2
  clear c2
  by_cases c3 : (t151.size : Int) = 22
  ·rw [if_pos c3] at H
   have c3b0 : ((t151.size : Int) == 22) = true := beq_iff_eq.mpr c3
   have c3b1 : ((t151.size : Int) != 22) = false := bne_eq_false_iff_eq.mpr c3
   clear c3
   by_cases c4 : 0 ≤ 10
   ·rw [if_pos c4] at H
    have c4b0 := eq_true c4
    have c4b1 : decide (0 ≤ 10) = true := decide_eq_true c4
    clear c4
    by_cases c5 : 10 ≤ (t151.size : Int)
    ·rw [if_pos c5] at H
     have c5b0 := eq_true c5
     have c5b1 : decide (10 ≤ (t151.size : Int)) = true := decide_eq_true c5
     clear c5
     by_cases c6 : (cutS t151 0 10).toList = ([69, 0, 0, 22, 0, 0, 0, 0, 64, 6] : List UInt8)
     ·rw [if_pos c6] at H
      have c6b0 : ((cutS t151 0 10).toList == ([69, 0, 0, 22, 0, 0, 0, 0, 64, 6] : List UInt8)) = true := beq_iff_eq.mpr c6
      have c6b1 : ((cutS t151 0 10).toList != ([69, 0, 0, 22, 0, 0, 0, 0, 64, 6] : List UInt8)) = false := bne_eq_false_iff_eq.mpr c6
      clear c6
      by_cases c7 : 12 ≤ (t151.size : Int)
      ·rw [if_pos c7] at H
       have c7b0 := eq_true c7
       have c7b1 : decide (12 ≤ (t151.size : Int)) = true := decide_eq_true c7
       clear c7
       obtain rfl := Option.some.inj H
       go_enter Try.func16, Try.ntmps16
       go_wp2_with (first | ((with_reducible refine gate_callee (f := 8) rfl ?_); refine goesL_ (some 5) rfl rfl Try.func8 (by kernel_rfl) rfl #[.agg #[.int .i64 10, .int .i64 11, .int .i64 64, .int .i64 6, .int .i64 0, .int .i64 0, .bool false, .bool false, .string (⟨#[]⟩ : ByteArray), .string (⟨#[97, 98]⟩ : ByteArray)]] rfl (by (try simp only [List.map_toArray, List.map_cons, List.map_nil]); first | done | rfl | (simp only [List.length_drop, List.length_take]; rfl)) ?_; (with_reducible refine (ip_Encode.calls k 10 11 64 6 0 0 false false (⟨#[]⟩ : ByteArray) (⟨#[97, 98]⟩ : ByteArray) t151 t152 _ A1.out).mono ?_); rintro e w8 ⟨rfl, hb⟩; refine ⟨_, rfl, ?_⟩; have n0_ := Aside0.mk (below_step (by repeat (first | (with_reducible first | exact HB.out | apply below_alloc | apply pw_below_drewN | apply below_drew1) | exact HB.out)) hb); clear HB; have HB := n0_; clear n0_; (try clear hb); (try clear hb2); (try clear hk); (try clear hi)))
       go_ret
       exact ⟨by first | rfl | (simp [errW_none, errW_some] <;> rfl) | (simp [*, errW_none, errW_some] <;> rfl), by repeat (first | (with_reducible first | exact HB.out | apply below_alloc | apply pw_below_drewN | apply below_drew1) | exact HB.out)⟩
      ·rw [if_neg c7] at H
       exact absurd H (by simp)
     ·rw [if_neg c6] at H
      have c6b0 : ((cutS t151 0 10).toList == ([69, 0, 0, 22, 0, 0, 0, 0, 64, 6] : List UInt8)) = false := beq_eq_false_iff_ne.mpr c6
      have c6b1 : ((cutS t151 0 10).toList != ([69, 0, 0, 22, 0, 0, 0, 0, 64, 6] : List UInt8)) = true := bne_iff_ne.mpr c6
      obtain rfl := Option.some.inj H
      go_enter Try.func16, Try.ntmps16
      go_wp2_with (first | ((with_reducible refine gate_callee (f := 8) rfl ?_); refine goesL_ (some 5) rfl rfl Try.func8 (by kernel_rfl) rfl #[.agg #[.int .i64 10, .int .i64 11, .int .i64 64, .int .i64 6, .int .i64 0, .int .i64 0, .bool false, .bool false, .string (⟨#[]⟩ : ByteArray), .string (⟨#[97, 98]⟩ : ByteArray)]] rfl (by (try simp only [List.map_toArray, List.map_cons, List.map_nil]); first | done | rfl | (simp only [List.length_drop, List.length_take]; rfl)) ?_; (with_reducible refine (ip_Encode.calls k 10 11 64 6 0 0 false false (⟨#[]⟩ : ByteArray) (⟨#[97, 98]⟩ : ByteArray) t151 t152 _ A1.out).mono ?_); rintro e w9 ⟨rfl, hb⟩; refine ⟨_, rfl, ?_⟩; have n0_ := Aside0.mk (below_step (by repeat (first | (with_reducible first | exact HB.out | apply below_alloc | apply pw_below_drewN | apply below_drew1) | exact HB.out)) hb); clear HB; have HB := n0_; clear n0_; (try clear hb); (try clear hb2); (try clear hk); (try clear hi)))
      go_ret
      exact ⟨by first | rfl | (simp [errW_none, errW_some] <;> rfl) | (simp [*, errW_none, errW_some] <;> rfl), by repeat (first | (with_reducible first | exact HB.out | apply below_alloc | apply pw_below_drewN | apply below_drew1) | exact HB.out)⟩
    ·rw [if_neg c5] at H
     exact absurd H (by simp)
   ·rw [if_neg c4] at H
    exact absurd H (by simp)
  ·rw [if_neg c3] at H
   have c3b0 : ((t151.size : Int) == 22) = false := beq_eq_false_iff_ne.mpr c3
   have c3b1 : ((t151.size : Int) != 22) = true := bne_iff_ne.mpr c3
   obtain rfl := Option.some.inj H
   go_enter Try.func16, Try.ntmps16
   go_wp2_with (first | ((with_reducible refine gate_callee (f := 8) rfl ?_); refine goesL_ (some 5) rfl rfl Try.func8 (by kernel_rfl) rfl #[.agg #[.int .i64 10, .int .i64 11, .int .i64 64, .int .i64 6, .int .i64 0, .int .i64 0, .bool false, .bool false, .string (⟨#[]⟩ : ByteArray), .string (⟨#[97, 98]⟩ : ByteArray)]] rfl (by (try simp only [List.map_toArray, List.map_cons, List.map_nil]); first | done | rfl | (simp only [List.length_drop, List.length_take]; rfl)) ?_; (with_reducible refine (ip_Encode.calls k 10 11 64 6 0 0 false false (⟨#[]⟩ : ByteArray) (⟨#[97, 98]⟩ : ByteArray) t151 t152 _ A1.out).mono ?_); rintro e w10 ⟨rfl, hb⟩; refine ⟨_, rfl, ?_⟩; have n0_ := Aside0.mk (below_step (by repeat (first | (with_reducible first | exact HB.out | apply below_alloc | apply pw_below_drewN | apply below_drew1) | exact HB.out)) hb); clear HB; have HB := n0_; clear n0_; (try clear hb); (try clear hb2); (try clear hk); (try clear hi)))
   go_ret
   exact ⟨by first | rfl | (simp [errW_none, errW_some] <;> rfl) | (simp [*, errW_none, errW_some] <;> rfl), by repeat (first | (with_reducible first | exact HB.out | apply below_alloc | apply pw_below_drewN | apply below_drew1) | exact HB.out)⟩
 ·rw [if_neg c2] at H
  have c2b0 : (t152 == 0) = false := beq_eq_false_iff_ne.mpr c2
  have c2b1 : (t152 != 0) = true := bne_iff_ne.mpr c2
  obtain rfl := Option.some.inj H
  go_enter Try.func16, Try.ntmps16
  go_wp2_with (first | ((with_reducible refine gate_callee (f := 8) rfl ?_); refine goesL_ (some 5) rfl rfl Try.func8 (by kernel_rfl) rfl #[.agg #[.int .i64 10, .int .i64 11, .int .i64 64, .int .i64 6, .int .i64 0, .int .i64 0, .bool false, .bool false, .string (⟨#[]⟩ : ByteArray), .string (⟨#[97, 98]⟩ : ByteArray)]] rfl (by (try simp only [List.map_toArray, List.map_cons, List.map_nil]); first | done | rfl | (simp only [List.length_drop, List.length_take]; rfl)) ?_; (with_reducible refine (ip_Encode.calls k 10 11 64 6 0 0 false false (⟨#[]⟩ : ByteArray) (⟨#[97, 98]⟩ : ByteArray) t151 t152 _ A1.out).mono ?_); rintro e w11 ⟨rfl, hb⟩; refine ⟨_, rfl, ?_⟩; have n0_ := Aside0.mk (below_step (by repeat (first | (with_reducible first | exact HB.out | apply below_alloc | apply pw_below_drewN | apply below_drew1) | exact HB.out)) hb); clear HB; have HB := n0_; clear n0_; (try clear hb); (try clear hb2); (try clear hk); (try clear hi)))
  go_ret
  exact ⟨by first | rfl | (simp [errW_none, errW_some] <;> rfl) | (simp [*, errW_none, errW_some] <;> rfl), by repeat (first | (with_reducible first | exact HB.out | apply below_alloc | apply pw_below_drewN | apply below_drew1) | exact HB.out)⟩


/-! ### ip_Pieces_1: function 28 (by hand) -/
structure Pk where
 src : Int
 dst : Int
 ttl : Int
 proto : Int
 ident : Int
 frag : Int
 more : Bool
 dont : Bool
 opts : ByteArray
 data : ByteArray
def pkc (p : Pk) : List Value := [.int .i64 p.src, .int .i64 p.dst, .int .i64 p.ttl, .int .i64 p.proto, .int .i64 p.ident, .int .i64 p.frag, .bool p.more, .bool p.dont, .string p.opts, .string p.data]
def pks (l : List Pk) : List Value := l.flatMap pkc
def Pk.cut (p : Pk) (at_ : Int) (d : ByteArray) (m : Bool) : Pk := { p with frag := wrap64 (p.frag + wrap64 (at_.tdiv 8)), data := d, more := m }
/-- the box of a slice of packets, its row from a place on -/
def OutAt (w : World) (top bo : Nat) (l : List Pk) : Prop := ∃ v, w.heap[bo]? = some (.cells #[v] 32 (0, 0)) ∧ ownsAt w top 23 10 v l.length (pks l)
theorem OutAt.drawn {w w' : World} {top bo : Nat} {l : List Pk} (h : OutAt w top bo l) (he : w'.heap = w.heap) : OutAt w' top bo l := by
 obtain ⟨v, h1, h2⟩ := h
 exact ⟨v, by rw [he]; exact h1, ownsAt_kept h2 (fun g cur _ hg => by rw [he])⟩
def KeepB (top bo : Nat) (w w' : World) : Prop := w.heap.size ≤ w'.heap.size ∧ ∀ k, k < top → k ≠ bo → w'.heap[k]? = w.heap[k]?
set_option maxHeartbeats 4000000 in
set_option maxRecDepth 100000 in
theorem ip_Pieces_1.calls (bp bo top : Nat) (p : Pk) (l : List Pk) (at_ : Int) (d : ByteArray) (m : Bool) (w0 w : World) (hP : w.heap[bp]? = some (.cells (pkc p).toArray 23 (0, 0))) (hO : OutAt w top bo l) (hB : Below w0.heap.size w0 w) (hb1 : w0.heap.size ≤ bo) (hb2 : bo < top) (hb3 : bp < top) (hb4 : top ≤ w.heap.size) (hl : l.length ≤ 1000000) :
  Calls Try.prog 28 #[.int .i64 at_, .string d, .bool m, .pointer (some ⟨bp, 0, none⟩), .pointer (some ⟨bo, 0, none⟩)] w fun e w' => e = .returned (.tuple #[]) ∧ OutAt w' top bo (l ++ [p.cut at_ d m]) ∧ Below w0.heap.size w0 w' ∧ KeepB top bo w w' := by
 obtain ⟨hc0, hc1, hc2, hc3, hc4, hc5, hc6, hc7, hc8, hc9⟩ : w.cell? ⟨bp, 0, none⟩ = some (.int .i64 p.src) ∧ w.cell? ⟨bp, 1, none⟩ = some (.int .i64 p.dst) ∧ w.cell? ⟨bp, 2, none⟩ = some (.int .i64 p.ttl) ∧ w.cell? ⟨bp, 3, none⟩ = some (.int .i64 p.proto) ∧ w.cell? ⟨bp, 4, none⟩ = some (.int .i64 p.ident) ∧ w.cell? ⟨bp, 5, none⟩ = some (.int .i64 p.frag) ∧ w.cell? ⟨bp, 6, none⟩ = some (.bool p.more) ∧ w.cell? ⟨bp, 7, none⟩ = some (.bool p.dont) ∧ w.cell? ⟨bp, 8, none⟩ = some (.string p.opts) ∧ w.cell? ⟨bp, 9, none⟩ = some (.string p.data) := ⟨blk_cell hP 0, blk_cell hP 1, blk_cell hP 2, blk_cell hP 3, blk_cell hP 4, blk_cell hP 5, blk_cell hP 6, blk_cell hP 7, blk_cell hP 8, blk_cell hP 9⟩
 have HP := Aside0.mk hP
 have HO := Aside0.mk hO
 have HB := Aside0.mk hB
 clear hP hO hB
 go_enter Try.func28, Try.ntmps28
 go_upto_region 1 with fail
 have hx := blk_new w (.cells #[.int .i64 p.src, .int .i64 p.dst, .int .i64 p.ttl, .int .i64 p.proto, .int .i64 p.ident, .int .i64 p.frag, .bool p.more, .bool p.dont, .string p.opts, .string p.data] 23)
 have hb := below_alloc (Below.refl w.heap.size w) (.cells #[.int .i64 p.src, .int .i64 p.dst, .int .i64 p.ttl, .int .i64 p.proto, .int .i64 p.ident, .int .i64 p.frag, .bool p.more, .bool p.dont, .string p.opts, .string p.data] 23)
 have hbo := blk_lt HO.out.choose_spec.1
 generalize hbx : w.heap.size = bx at hx hb hb4 ⊢
 generalize w.alloc (.cells #[.int .i64 p.src, .int .i64 p.dst, .int .i64 p.ttl, .int .i64 p.proto, .int .i64 p.ident, .int .i64 p.frag, .bool p.more, .bool p.dont, .string p.opts, .string p.data] 23) = W1 at hx hb ⊢
 have HX := Aside0.mk hx
 have HB1 := Aside0.mk (show Below w.heap.size w W1 by rw [hbx]; exact hb)
 have HBX := Aside0.mk hbx
 have hc5 := (HB1.out.cell (p := ⟨bp, 5, none⟩) (show bp < w.heap.size by omega)).trans hc5
 have hx5 := blk_cell hx 5
 have hx6 := blk_cell hx 6
 have hx9 := blk_cell hx 9
 have hz5 := blk_frozen hx 5
 have hz6 := blk_frozen hx 6
 have hz9 := blk_frozen hx 9
 clear hx hb hbx
 go_upto_region 2 with fail
 obtain ⟨qf, hqf⟩ : ∃ f_, wrap64 (p.frag + wrap64 (at_.tdiv 8)) = f_ := ⟨_, rfl⟩
 rw [hqf]
 have HQF := Aside0.mk (show p.cut at_ d m = { p with frag := qf, data := d, more := m } by unfold Pk.cut; rw [hqf])
 have h2 : (((W1.setCell ⟨bx, 5, none⟩ (.int .i64 qf)).setCell ⟨bx, 9, none⟩ (.string d)).setCell ⟨bx, 6, none⟩ (.bool m)).heap[bx]? = some (.cells #[.int .i64 p.src, .int .i64 p.dst, .int .i64 p.ttl, .int .i64 p.proto, .int .i64 p.ident, .int .i64 qf, .bool m, .bool p.dont, .string p.opts, .string d] 23 (0, 0)) :=
  blk_put (blk_put (blk_put HX.out 5 (.int .i64 qf) rfl) 9 (.string d) rfl) 6 (.bool m) rfl
 have hsame : ∀ k, k < w.heap.size → (((W1.setCell ⟨bx, 5, none⟩ (.int .i64 qf)).setCell ⟨bx, 9, none⟩ (.string d)).setCell ⟨bx, 6, none⟩ (.bool m)).heap[k]? = w.heap[k]? := fun k hk => by
  have hne : k ≠ bx := by have := HBX.out; omega
  rw [heap_setCell_other _ _ _ _ hne, heap_setCell_other _ _ _ _ hne, heap_setCell_other _ _ _ _ hne, HB1.out.block k hk]
 have hsz : w.heap.size ≤ (((W1.setCell ⟨bx, 5, none⟩ (.int .i64 qf)).setCell ⟨bx, 9, none⟩ (.string d)).setCell ⟨bx, 6, none⟩ (.bool m)).heap.size := by simpa [World.setCell] using HB1.out.size
 have hgx : w0.heap.size ≤ bx := by have := HBX.out; omega
 have hB2 : Below w0.heap.size w0 (((W1.setCell ⟨bx, 5, none⟩ (.int .i64 qf)).setCell ⟨bx, 9, none⟩ (.string d)).setCell ⟨bx, 6, none⟩ (.bool m)) := below_set (below_set (below_set (below_step HB.out HB1.out) hgx) hgx) hgx
 clear hqf hc0 hc1 hc2 hc3 hc4 hc5 hc6 hc7 hc8 hc9 hx5 hx6 hx9 hz5 hz6 hz9 HX HB HB1
 generalize ((W1.setCell ⟨bx, 5, none⟩ (.int .i64 qf)).setCell ⟨bx, 9, none⟩ (.string d)).setCell ⟨bx, 6, none⟩ (.bool m) = W2 at h2 hsame hsz hB2 ⊢
 obtain ⟨v, ho1, ho2⟩ := HO.out
 obtain ⟨A, c, rfl, _⟩ := ownsAt_len ho2
 have ho1 := (hsame bo (blk_lt ho1)).trans ho1
 have ho2 := ownsAt_kept ho2 (w' := W2) (fun g cur _ hg => hsame g (blk_lt hg))
 have hb3_ := below_alloc (Below.refl W2.heap.size W2) (.cells #[.int .i64 p.src, .int .i64 p.dst, .int .i64 p.ttl, .int .i64 p.proto, .int .i64 p.ident, .int .i64 qf, .bool m, .bool p.dont, .string p.opts, .string d] 23)
 have HL := Aside0.mk (ownsAt_lit W2 #[.int .i64 p.src, .int .i64 p.dst, .int .i64 p.ttl, .int .i64 p.proto, .int .i64 p.ident, .int .i64 qf, .bool m, .bool p.dont, .string p.opts, .string d] 23 10 1 rfl (by decide))
 have HO1 := Aside0.mk (blk_below ho1 hb3_)
 have HO2 := Aside0.mk (ownsAt_below ho2 hb3_)
 have HB3 := Aside0.mk hb3_
 have HS := Aside0.mk (And.intro hsame hsz)
 have HB2 := Aside0.mk hB2
 have HT := Aside0.mk (show top ≤ (W2.alloc (.cells #[.int .i64 p.src, .int .i64 p.dst, .int .i64 p.ttl, .int .i64 p.proto, .int .i64 p.ident, .int .i64 qf, .bool m, .bool p.dont, .string p.opts, .string d] 23)).heap.size by have := hb3_.size; have := HBX.out; omega)
 have hv0 := blk_cell ho1 0
 have hz0 := blk_frozen ho1 0
 change _ = some (Value.slice A l.length c) at hv0
 obtain ⟨q0, q1, q2, q3, q4, q5, q6, q7, q8, q9⟩ : W2.cell? ⟨bx, 0, none⟩ = some (.int .i64 p.src) ∧ W2.cell? ⟨bx, 1, none⟩ = some (.int .i64 p.dst) ∧ W2.cell? ⟨bx, 2, none⟩ = some (.int .i64 p.ttl) ∧ W2.cell? ⟨bx, 3, none⟩ = some (.int .i64 p.proto) ∧ W2.cell? ⟨bx, 4, none⟩ = some (.int .i64 p.ident) ∧ W2.cell? ⟨bx, 5, none⟩ = some (.int .i64 qf) ∧ W2.cell? ⟨bx, 6, none⟩ = some (.bool m) ∧ W2.cell? ⟨bx, 7, none⟩ = some (.bool p.dont) ∧ W2.cell? ⟨bx, 8, none⟩ = some (.string p.opts) ∧ W2.cell? ⟨bx, 9, none⟩ = some (.string d) := ⟨blk_cell h2 0, blk_cell h2 1, blk_cell h2 2, blk_cell h2 3, blk_cell h2 4, blk_cell h2 5, blk_cell h2 6, blk_cell h2 7, blk_cell h2 8, blk_cell h2 9⟩
 clear h2 hsame hsz hB2 ho1 ho2 hb3_ hgx HO
 go_wp2_with (first | ((with_reducible refine gate_dst (N := 23) rfl ?_); refine wl_append 32 23 (.agg #[.int .i64 0, .int .i64 0, .int .i64 0, .int .i64 0, .int .i64 0, .int .i64 0, .bool false, .bool false, .string (⟨#[]⟩ : ByteArray), .string (⟨#[]⟩ : ByteArray)]) 10 88 rfl rfl Try.underlying32 (by kernel_rfl) rfl (by decide) (v := .slice A l.length c) rfl rfl HO2.out HL.out rfl (by simp only [maxLen]; omega) (by omega) HT.out (fun v9 W9 hv9 hg9 _ => ?_); obtain ⟨A9, c9, e9, _⟩ := ownsAt_len hv9; subst e9; have hbo9 := (hg9.block bo (blk_lt HO1.out) (fun he => by obtain ⟨_, cur, hc⟩ := ownsAt_block HO2.out he.symm; rw [HO1.out] at hc; simp at hc)).trans HO1.out; have hcb := blk_cell hbo9 0; have hzb := blk_frozen hbo9 0; have HV9 := Aside0.mk hv9; have HG9 := Aside0.mk hg9; have HBO := Aside0.mk hbo9; clear hv9 hg9 hbo9))
 first | go_end0 | ((try simp only [Exit.inBlock, Exit.then]); refine bodyPost_ret (results_none rfl _ _ _) rfl ?_)
 have hrow : ∀ b, Value.ownBlock (.slice A l.length c) = some b → top ≤ b := fun b hb => (ownsAt_block HO2.out hb).1
 refine ⟨rfl, ⟨_, blk_put HBO.out 0 _ rfl, ?_⟩, ?_, ?_, ?_⟩
 ·have h := ownsAt_keepT HV9.out (KeepT.set (T := [32]) HBO.out (by decide) 0 (.slice A9 (l.length + 1) c9)) (by decide)
  rw [HQF.out, List.length_append]
  have e : pks (l ++ [{ p with frag := qf, data := d, more := m }]) = pks l ++ pkc { p with frag := qf, data := d, more := m } := by unfold pks; rw [List.flatMap_append]; simp
  rw [e]; exact h
 ·exact below_set (below_of_grown (below_step HB2.out HB3.out) HG9.out (below_step HB2.out HB3.out).size (fun b hb => by have := hrow b hb; omega)) hb1
 ·have h1 := HS.out.2; have h2 := HB3.out.size; have h3 := HG9.out.size; simp [World.setCell] at *; omega
 ·intro k hk hne
  rw [heap_setCell_other _ _ _ _ hne, HG9.out.block k (by have := HT.out; omega) (fun he => by have := hrow k he.symm; omega), HB3.out.block k (by have := HS.out.2; have := HBX.out; omega)]
  exact HS.out.1 k (by have := HBX.out; omega)



/-! ### ip_Pieces: function 17 (by hand) -/
theorem val_hole {vs : List Value} {x : Nat → Value} {k : Nat} {u : Value} (h : vs.getD k undef = u) : AnyOrder.val_ [] vs x k = u := h
theorem ownsAt_base {w : World} {base base' : Nat} {e : TypeId} {size : Nat} {v : Value} {n : Nat} {xs : List Value} (h : ownsAt w base e size v n xs) (hb : base' ≤ base) : ownsAt w base' e size v n xs :=
 ⟨h.1, h.2.imp id fun ⟨g, o, cap, cur, h1, h2, h3⟩ => ⟨g, o, cap, cur, h1, Nat.le_trans hb h2, h3⟩⟩
theorem w64p {x : Int} (h1 : -9223372036854775808 ≤ x) (h2 : x < 9223372036854775808) : wrap64 x = x := by unfold wrap64; omega
/-- the pieces from a place on, each of step bytes but the last -/
def cutAll (p : Pk) (step : Nat) : Nat → Nat → List Pk
 | 0, at_ => [p.cut at_ (cutS p.data at_ p.data.size) p.more]
 | k + 1, at_ => p.cut at_ (cutS p.data at_ (at_ + step)) true :: cutAll p step k (at_ + step)
theorem drew_cell {W : World} {a : Addr} {v : Value} (n : Nat) (h : W.cell? a = some v) : (W.drewN n).cell? a = some v := h
def headL (p : Pk) : Int := wrap64 (20 + (p.opts.size : Int))
def Pk.pieces (p : Pk) (chk size : Int) : List Pk × Int :=
 if chk ≠ 0 then ([], chk) else if size < headL p + 8 ∨ 65535 < size then ([], 1) else if headL p + (p.data.size : Int) ≤ size then ([p], 0) else if p.dont = true then ([], 2)
 else (cutAll p ((size - headL p) / 8 * 8).toNat ((p.data.size - 1) / ((size - headL p) / 8 * 8).toNat) 0, 0)
set_option maxHeartbeats 4000000 in
set_option maxRecDepth 100000 in
theorem ip_Pieces.calls (k : Nat) (p : Pk) (size chk : Int) (w : World) (hC : ip_Check.f k p.src p.dst p.ttl p.proto p.ident p.frag p.more p.dont p.opts p.data = some chk) (ho : chk = 0 → p.opts.size ≤ 1000000 ∧ p.data.size ≤ 1000000) :
  Calls Try.prog 17 #[.agg (pkc p).toArray, .int .i64 size] w fun e w' => ∃ v, e = .returned (.tuple #[v, .int .i64 (p.pieces chk size).2]) ∧ ownsAt w' w.heap.size 23 10 v (p.pieces chk size).1.length (pks (p.pieces chk size).1) ∧ Below w.heap.size w w' := by
 have HC := Aside0.mk hC
 clear hC
 have HB := Aside0.mk (Below.refl w.heap.size w)
 go_enter Try.func17, Try.ntmps17
 go_upto_region 1 with fail
 have hx := blk_new w (.cells (pkc p).toArray 23)
 have hb := below_alloc (Below.refl w.heap.size w) (.cells (pkc p).toArray 23)
 have HBP := Aside0.mk (show w.heap.size < (w.alloc (.cells (pkc p).toArray 23)).heap.size from blk_lt hx)
 generalize hbp : w.heap.size = bp at hx ⊢
 generalize w.alloc (.cells (pkc p).toArray 23) = W1 at hx hb HBP ⊢
 have HX := Aside0.mk hx
 have HB1 := Aside0.mk hb
 have HEP := Aside0.mk hbp
 clear hb hbp HB
 obtain ⟨hc0, hc1, hc2, hc3, hc4, hc5, hc6, hc7, hc8, hc9⟩ : W1.cell? ⟨bp, 0, none⟩ = some (.int .i64 p.src) ∧ W1.cell? ⟨bp, 1, none⟩ = some (.int .i64 p.dst) ∧ W1.cell? ⟨bp, 2, none⟩ = some (.int .i64 p.ttl) ∧ W1.cell? ⟨bp, 3, none⟩ = some (.int .i64 p.proto) ∧ W1.cell? ⟨bp, 4, none⟩ = some (.int .i64 p.ident) ∧ W1.cell? ⟨bp, 5, none⟩ = some (.int .i64 p.frag) ∧ W1.cell? ⟨bp, 6, none⟩ = some (.bool p.more) ∧ W1.cell? ⟨bp, 7, none⟩ = some (.bool p.dont) ∧ W1.cell? ⟨bp, 8, none⟩ = some (.string p.opts) ∧ W1.cell? ⟨bp, 9, none⟩ = some (.string p.data) := ⟨blk_cell hx 0, blk_cell hx 1, blk_cell hx 2, blk_cell hx 3, blk_cell hx 4, blk_cell hx 5, blk_cell hx 6, blk_cell hx 7, blk_cell hx 8, blk_cell hx 9⟩
 clear hx
 go_wp2_with fail
 refine (ip_Check.calls k p.src p.dst p.ttl p.proto p.ident p.frag p.more p.dont p.opts p.data chk _ HC.out).mono ?_
 rintro e W2 ⟨rfl, hd2⟩
 clear hc0 hc1 hc2 hc3 hc4 hc5 hc6 hc7 hc8 hc9
 have hb2 : Below W1.heap.size W1 W2 := by first | exact hd2.below | exact hd2
 have HX2 := Aside0.mk (blk_below HX.out hb2)
 have HB2 := Aside0.mk (below_step HB1.out hb2)
 clear hd2 hb2 HX HB1
 by_cases hchk : chk = 0
 case neg =>
  have d1 : (chk != 0) = true := bne_iff_ne.mpr hchk
  have d2 : decide (chk = 0) = false := decide_eq_false hchk
  go_wp2
  go_ret2
  have e : p.pieces chk size = ([], chk) := by unfold Pk.pieces; rw [if_pos hchk]
  rw [e]
  exact ⟨_, rfl, ownsAt_nil _ _ _ _, HB2.out⟩
 subst hchk
 obtain ⟨ho, hd⟩ := ho rfl
 have HPD := Aside0.mk hd
 have hhl : 20 ≤ headL p ∧ headL p ≤ 1000020 := by
  have e : headL p = 20 + (p.opts.size : Int) := by unfold headL wrap64; omega
  omega
 have HHL := Aside0.mk hhl
 have hh : wrap64 (headL p + 8) = headL p + 8 := by unfold wrap64; omega
 clear hhl
 have hx := HX2.out
 obtain ⟨hc0, hc1, hc2, hc3, hc4, hc5, hc6, hc7, hc8, hc9⟩ : W2.cell? ⟨bp, 0, none⟩ = some (.int .i64 p.src) ∧ W2.cell? ⟨bp, 1, none⟩ = some (.int .i64 p.dst) ∧ W2.cell? ⟨bp, 2, none⟩ = some (.int .i64 p.ttl) ∧ W2.cell? ⟨bp, 3, none⟩ = some (.int .i64 p.proto) ∧ W2.cell? ⟨bp, 4, none⟩ = some (.int .i64 p.ident) ∧ W2.cell? ⟨bp, 5, none⟩ = some (.int .i64 p.frag) ∧ W2.cell? ⟨bp, 6, none⟩ = some (.bool p.more) ∧ W2.cell? ⟨bp, 7, none⟩ = some (.bool p.dont) ∧ W2.cell? ⟨bp, 8, none⟩ = some (.string p.opts) ∧ W2.cell? ⟨bp, 9, none⟩ = some (.string p.data) := ⟨blk_cell hx 0, blk_cell hx 1, blk_cell hx 2, blk_cell hx 3, blk_cell hx 4, blk_cell hx 5, blk_cell hx 6, blk_cell hx 7, blk_cell hx 8, blk_cell hx 9⟩
 clear hx
 go_upto_region 4 with fail
 go_wp2_with fail
 refine (ip_head.calls p.src p.dst p.ttl p.proto p.ident p.frag p.more p.dont p.opts p.data (headL p) _ rfl).mono ?_
 rintro e W3 ⟨rfl, hb3⟩
 clear hc0 hc1 hc2 hc3 hc4 hc5 hc6 hc7 hc8 hc9
 have HX3 := Aside0.mk (blk_below HX2.out hb3)
 have HB3 := Aside0.mk (below_step HB2.out hb3)
 clear hb3 HX2 HB2
 by_cases hs : size < headL p + 8
 case pos =>
  have d1 : decide (size < headL p + 8) = true := decide_eq_true hs
  have e : p.pieces 0 size = ([], 1) := by unfold Pk.pieces; rw [if_neg (fun h => h rfl), if_pos (.inl hs)]
  clear hs
  go_wp2
  go_ret2
  rw [e]
  exact ⟨_, rfl, ownsAt_nil _ _ _ _, HB3.out⟩
 have d1 : decide (size < headL p + 8) = false := decide_eq_false hs
 by_cases hm : 65535 < size
 case pos =>
  have d2 : decide (65535 < size) = true := decide_eq_true hm
  have e : p.pieces 0 size = ([], 1) := by unfold Pk.pieces; rw [if_neg (fun h => h rfl), if_pos (.inr hm)]
  clear hs hm
  go_wp2
  go_ret2
  rw [e]
  exact ⟨_, rfl, ownsAt_nil _ _ _ _, HB3.out⟩
 have d2 : decide (65535 < size) = false := decide_eq_false hm
 have HSM := Aside0.mk (And.intro hs hm)
 clear hs hm
 go_upto_region 6 with fail
 clear hh d1 d2
 have hx := HX3.out
 obtain ⟨hc0, hc1, hc2, hc3, hc4, hc5, hc6, hc7, hc8, hc9⟩ : W3.cell? ⟨bp, 0, none⟩ = some (.int .i64 p.src) ∧ W3.cell? ⟨bp, 1, none⟩ = some (.int .i64 p.dst) ∧ W3.cell? ⟨bp, 2, none⟩ = some (.int .i64 p.ttl) ∧ W3.cell? ⟨bp, 3, none⟩ = some (.int .i64 p.proto) ∧ W3.cell? ⟨bp, 4, none⟩ = some (.int .i64 p.ident) ∧ W3.cell? ⟨bp, 5, none⟩ = some (.int .i64 p.frag) ∧ W3.cell? ⟨bp, 6, none⟩ = some (.bool p.more) ∧ W3.cell? ⟨bp, 7, none⟩ = some (.bool p.dont) ∧ W3.cell? ⟨bp, 8, none⟩ = some (.string p.opts) ∧ W3.cell? ⟨bp, 9, none⟩ = some (.string p.data) := ⟨blk_cell hx 0, blk_cell hx 1, blk_cell hx 2, blk_cell hx 3, blk_cell hx 4, blk_cell hx 5, blk_cell hx 6, blk_cell hx 7, blk_cell hx 8, blk_cell hx 9⟩
 clear hx
 have same : ∀ (ph : Nat) W', Below W3.heap.size W3 W' → True := fun _ _ _ => trivial
 refine AnyEvents.region_then 9 (E := []) (C := fun (_ : Nat) W' => Below W3.heap.size W3 W') (G := fun _ _ _ _ => True) (T := []) (R := fun _ _ _ _ => True) (vs := [?v1_0, (.int .i64 (headL p)), ?v1_2, ?v1_3, ?v1_4, ?v1_5, ?v1_6, ?v1_7, ?v1_8]) (by kernel_rfl) (by kernel_rfl) rfl (by kernel_rfl) ?hc1r same (fun _ _ _ _ _ _ _ _ _ => trivial) (fun _ h => nomatch h) (fun x => ?obs1r) ?fin1r
 case hc1r => exact ⟨rfl, rfl, rfl, Nat.le_refl _, fun _ _ => rfl⟩
 case obs1r =>
  refine AnyEvents.obs_cons ?v1_0 (val_hole (by simp only [List.getD_cons_zero, List.getD_cons_succ])) (AnyEvents.ob_plain (v := ?v1_0) rfl rfl rfl same (by simp only [List.getD_cons_zero, List.getD_cons_succ]) (fun ph W' hwn hW => ?_)) ?_
  ·have z0 := pw_cell_below hW hc0; have z1 := pw_cell_below hW hc1; have z2 := pw_cell_below hW hc2; have z3 := pw_cell_below hW hc3; have z4 := pw_cell_below hW hc4; have z5 := pw_cell_below hW hc5; have z6 := pw_cell_below hW hc6; have z7 := pw_cell_below hW hc7; have z8 := pw_cell_below hW hc8; have z9 := pw_cell_below hW hc9; first | (go_simp; done) | (go_simp; (try simp only [i64_w]); rfl) | (go_simp; simp; rfl)
  try simp only [Act.put, List.setIfInBounds_toArray, List.set_cons_zero, List.set_cons_succ]
  refine AnyEvents.obs_cons (.int .i64 (headL p)) (val_hole (by simp only [List.getD_cons_zero, List.getD_cons_succ])) (AnyEvents.ob_call (v := (.int .i64 (headL p))) rfl rfl rfl (by simp only [List.getD_cons_zero, List.getD_cons_succ]) 22 #[.agg #[.int .i64 p.src, .int .i64 p.dst, .int .i64 p.ttl, .int .i64 p.proto, .int .i64 p.ident, .int .i64 p.frag, .bool p.more, .bool p.dont, .string p.opts, .string p.data]] (fun ph W' hwn hW => ?_) (fun ph W' hwn hW => ?_)) ?_
  ·first | (go_simp; done) | (go_simp; rfl)
  ·refine (ip_head.calls p.src p.dst p.ttl p.proto p.ident p.frag p.more p.dont p.opts p.data (headL p) _ rfl).mono ?_; rintro e W2_ ⟨rfl, hd⟩; exact ⟨rfl, below_step hW hd, trivial⟩
  try simp only [Act.put, List.setIfInBounds_toArray, List.set_cons_zero, List.set_cons_succ]
  refine AnyEvents.obs_cons ?v1_2 (val_hole (by simp only [List.getD_cons_zero, List.getD_cons_succ])) (AnyEvents.ob_plain (v := ?v1_2) rfl rfl rfl same (by simp only [List.getD_cons_zero, List.getD_cons_succ]) (fun ph W' hwn hW => ?_)) ?_
  ·have z0 := pw_cell_below hW hc0; have z1 := pw_cell_below hW hc1; have z2 := pw_cell_below hW hc2; have z3 := pw_cell_below hW hc3; have z4 := pw_cell_below hW hc4; have z5 := pw_cell_below hW hc5; have z6 := pw_cell_below hW hc6; have z7 := pw_cell_below hW hc7; have z8 := pw_cell_below hW hc8; have z9 := pw_cell_below hW hc9; first | (go_simp; done) | (go_simp; (try simp only [i64_w]); rfl) | (go_simp; simp; rfl)
  try simp only [Act.put, List.setIfInBounds_toArray, List.set_cons_zero, List.set_cons_succ]
  refine AnyEvents.obs_cons ?v1_3 (val_hole (by simp only [List.getD_cons_zero, List.getD_cons_succ])) (AnyEvents.ob_plain (v := ?v1_3) rfl rfl rfl same (by simp only [List.getD_cons_zero, List.getD_cons_succ]) (fun ph W' hwn hW => ?_)) ?_
  ·have z0 := pw_cell_below hW hc0; have z1 := pw_cell_below hW hc1; have z2 := pw_cell_below hW hc2; have z3 := pw_cell_below hW hc3; have z4 := pw_cell_below hW hc4; have z5 := pw_cell_below hW hc5; have z6 := pw_cell_below hW hc6; have z7 := pw_cell_below hW hc7; have z8 := pw_cell_below hW hc8; have z9 := pw_cell_below hW hc9; first | (go_simp; done) | (go_simp; (try simp only [i64_w]); rfl) | (go_simp; simp; rfl)
  try simp only [Act.put, List.setIfInBounds_toArray, List.set_cons_zero, List.set_cons_succ]
  refine AnyEvents.obs_cons ?v1_4 (val_hole (by simp only [List.getD_cons_zero, List.getD_cons_succ])) (AnyEvents.ob_plain (v := ?v1_4) rfl rfl rfl same (by simp only [List.getD_cons_zero, List.getD_cons_succ]) (fun ph W' hwn hW => ?_)) ?_
  ·have z0 := pw_cell_below hW hc0; have z1 := pw_cell_below hW hc1; have z2 := pw_cell_below hW hc2; have z3 := pw_cell_below hW hc3; have z4 := pw_cell_below hW hc4; have z5 := pw_cell_below hW hc5; have z6 := pw_cell_below hW hc6; have z7 := pw_cell_below hW hc7; have z8 := pw_cell_below hW hc8; have z9 := pw_cell_below hW hc9; first | (go_simp; done) | (go_simp; (try simp only [i64_w]); rfl) | (go_simp; simp; rfl)
  try simp only [Act.put, List.setIfInBounds_toArray, List.set_cons_zero, List.set_cons_succ]
  refine AnyEvents.obs_cons ?v1_5 (val_hole (by simp only [List.getD_cons_zero, List.getD_cons_succ])) (AnyEvents.ob_plain (v := ?v1_5) rfl rfl rfl same (by simp only [List.getD_cons_zero, List.getD_cons_succ]) (fun ph W' hwn hW => ?_)) ?_
  ·have z0 := pw_cell_below hW hc0; have z1 := pw_cell_below hW hc1; have z2 := pw_cell_below hW hc2; have z3 := pw_cell_below hW hc3; have z4 := pw_cell_below hW hc4; have z5 := pw_cell_below hW hc5; have z6 := pw_cell_below hW hc6; have z7 := pw_cell_below hW hc7; have z8 := pw_cell_below hW hc8; have z9 := pw_cell_below hW hc9; first | (go_simp; done) | (go_simp; (try simp only [i64_w]); rfl) | (go_simp; simp; rfl)
  try simp only [Act.put, List.setIfInBounds_toArray, List.set_cons_zero, List.set_cons_succ]
  refine AnyEvents.obs_cons ?v1_6 (val_hole (by simp only [List.getD_cons_zero, List.getD_cons_succ])) (AnyEvents.ob_plain (v := ?v1_6) rfl rfl rfl same (by simp only [List.getD_cons_zero, List.getD_cons_succ]) (fun ph W' hwn hW => ?_)) ?_
  ·have z0 := pw_cell_below hW hc0; have z1 := pw_cell_below hW hc1; have z2 := pw_cell_below hW hc2; have z3 := pw_cell_below hW hc3; have z4 := pw_cell_below hW hc4; have z5 := pw_cell_below hW hc5; have z6 := pw_cell_below hW hc6; have z7 := pw_cell_below hW hc7; have z8 := pw_cell_below hW hc8; have z9 := pw_cell_below hW hc9; first | (go_simp; done) | (go_simp; (try simp only [i64_w]); rfl) | (go_simp; simp; rfl)
  try simp only [Act.put, List.setIfInBounds_toArray, List.set_cons_zero, List.set_cons_succ]
  refine AnyEvents.obs_cons ?v1_7 (val_hole (by simp only [List.getD_cons_zero, List.getD_cons_succ])) (AnyEvents.ob_plain (v := ?v1_7) rfl rfl rfl same (by simp only [List.getD_cons_zero, List.getD_cons_succ]) (fun ph W' hwn hW => ?_)) ?_
  ·have z0 := pw_cell_below hW hc0; have z1 := pw_cell_below hW hc1; have z2 := pw_cell_below hW hc2; have z3 := pw_cell_below hW hc3; have z4 := pw_cell_below hW hc4; have z5 := pw_cell_below hW hc5; have z6 := pw_cell_below hW hc6; have z7 := pw_cell_below hW hc7; have z8 := pw_cell_below hW hc8; have z9 := pw_cell_below hW hc9; first | (go_simp; done) | (go_simp; (try simp only [i64_w]); rfl) | (go_simp; simp; rfl)
  try simp only [Act.put, List.setIfInBounds_toArray, List.set_cons_zero, List.set_cons_succ]
  refine AnyEvents.obs_cons ?v1_8 (val_hole (by simp only [List.getD_cons_zero, List.getD_cons_succ])) (AnyEvents.ob_plain (v := ?v1_8) rfl rfl rfl same (by simp only [List.getD_cons_zero, List.getD_cons_succ]) (fun ph W' hwn hW => ?_)) ?_
  ·have z0 := pw_cell_below hW hc0; have z1 := pw_cell_below hW hc1; have z2 := pw_cell_below hW hc2; have z3 := pw_cell_below hW hc3; have z4 := pw_cell_below hW hc4; have z5 := pw_cell_below hW hc5; have z6 := pw_cell_below hW hc6; have z7 := pw_cell_below hW hc7; have z8 := pw_cell_below hW hc8; have z9 := pw_cell_below hW hc9; first | (go_simp; done) | (go_simp; (try simp only [i64_w]); rfl) | (go_simp; simp; rfl)
  try simp only [Act.put, List.setIfInBounds_toArray, List.set_cons_zero, List.set_cons_succ]
  trivial
 case fin1r =>
  intro x W hD _
  simp only [List.take_succ_cons, List.take_zero, List.drop_succ_cons, List.drop_zero]
  rw [AnyOrder.lexAt_cons ?v1_0 (val_hole (by simp only [List.getD_cons_zero, List.getD_cons_succ]))]
  try simp only [Act.put, List.setIfInBounds_toArray, List.set_cons_zero, List.set_cons_succ]
  rw [AnyOrder.lexAt_cons (.int .i64 (headL p)) (val_hole (by simp only [List.getD_cons_zero, List.getD_cons_succ]))]
  try simp only [Act.put, List.setIfInBounds_toArray, List.set_cons_zero, List.set_cons_succ]
  rw [AnyOrder.lexAt_cons ?v1_2 (val_hole (by simp only [List.getD_cons_zero, List.getD_cons_succ]))]
  try simp only [Act.put, List.setIfInBounds_toArray, List.set_cons_zero, List.set_cons_succ]
  rw [AnyOrder.lexAt_cons ?v1_3 (val_hole (by simp only [List.getD_cons_zero, List.getD_cons_succ]))]
  try simp only [Act.put, List.setIfInBounds_toArray, List.set_cons_zero, List.set_cons_succ]
  rw [AnyOrder.lexAt_cons ?v1_4 (val_hole (by simp only [List.getD_cons_zero, List.getD_cons_succ]))]
  try simp only [Act.put, List.setIfInBounds_toArray, List.set_cons_zero, List.set_cons_succ]
  rw [AnyOrder.lexAt_cons ?v1_5 (val_hole (by simp only [List.getD_cons_zero, List.getD_cons_succ]))]
  try simp only [Act.put, List.setIfInBounds_toArray, List.set_cons_zero, List.set_cons_succ]
  rw [AnyOrder.lexAt_cons ?v1_6 (val_hole (by simp only [List.getD_cons_zero, List.getD_cons_succ]))]
  try simp only [Act.put, List.setIfInBounds_toArray, List.set_cons_zero, List.set_cons_succ]
  rw [AnyOrder.lexAt_cons ?v1_7 (val_hole (by simp only [List.getD_cons_zero, List.getD_cons_succ]))]
  try simp only [Act.put, List.setIfInBounds_toArray, List.set_cons_zero, List.set_cons_succ]
  rw [AnyOrder.lexAt_cons ?v1_8 (val_hole (by simp only [List.getD_cons_zero, List.getD_cons_succ]))]
  try simp only [Act.put, List.setIfInBounds_toArray, List.set_cons_zero, List.set_cons_succ]
  rw [AnyOrder.lexAt_nil]
  clear same
  have hsum : wrap64 (headL p + (p.data.size : Int)) = headL p + (p.data.size : Int) := by have := HHL.out; unfold wrap64; omega
  rw [hsum]
  have HX4 := Aside0.mk (blk_below HX3.out hD)
  have HB4 := Aside0.mk (below_step HB3.out hD)
  clear hc0 hc1 hc2 hc3 hc4 hc5 hc6 hc7 hc8 hc9 hD HX3 HB3
  by_cases hall : headL p + (p.data.size : Int) ≤ size
  case pos =>
   have d3 : decide (headL p + (p.data.size : Int) ≤ size) = true := decide_eq_true hall
   rw [d3]
   clear d3
   have e : p.pieces 0 size = ([p], 0) := by unfold Pk.pieces; rw [if_neg (fun h => h rfl), if_neg (by have := HSM.out; omega), if_pos hall]
   clear hall hsum
   have hx := HX4.out
   obtain ⟨hc0, hc1, hc2, hc3, hc4, hc5, hc6, hc7, hc8, hc9⟩ : W.cell? ⟨bp, 0, none⟩ = some (.int .i64 p.src) ∧ W.cell? ⟨bp, 1, none⟩ = some (.int .i64 p.dst) ∧ W.cell? ⟨bp, 2, none⟩ = some (.int .i64 p.ttl) ∧ W.cell? ⟨bp, 3, none⟩ = some (.int .i64 p.proto) ∧ W.cell? ⟨bp, 4, none⟩ = some (.int .i64 p.ident) ∧ W.cell? ⟨bp, 5, none⟩ = some (.int .i64 p.frag) ∧ W.cell? ⟨bp, 6, none⟩ = some (.bool p.more) ∧ W.cell? ⟨bp, 7, none⟩ = some (.bool p.dont) ∧ W.cell? ⟨bp, 8, none⟩ = some (.string p.opts) ∧ W.cell? ⟨bp, 9, none⟩ = some (.string p.data) := ⟨blk_cell hx 0, blk_cell hx 1, blk_cell hx 2, blk_cell hx 3, blk_cell hx 4, blk_cell hx 5, blk_cell hx 6, blk_cell hx 7, blk_cell hx 8, blk_cell hx 9⟩
   clear hx
   go_wp2
   go_ret2
   rw [e]
   have HL := ownsAt_lit W #[.int .i64 p.src, .int .i64 p.dst, .int .i64 p.ttl, .int .i64 p.proto, .int .i64 p.ident, .int .i64 p.frag, .bool p.more, .bool p.dont, .string p.opts, .string p.data] 23 10 1 rfl (by decide)
   exact ⟨_, rfl, ownsAt_base HL HB4.out.size, below_step HB4.out (below_alloc (Below.refl _ _) _)⟩
  have d3 : decide (headL p + (p.data.size : Int) ≤ size) = false := decide_eq_false hall
  rw [d3]
  clear d3
  by_cases hdont : p.dont = true
  case pos =>
   have e : p.pieces 0 size = ([], 2) := by unfold Pk.pieces; rw [if_neg (fun h => h rfl), if_neg (by have := HSM.out; omega), if_neg hall, if_pos hdont]
   clear hall hsum
   have hx := HX4.out
   have hc7 := blk_cell hx 7
   change _ = some (Value.bool p.dont) at hc7
   rw [hdont] at hc7
   clear hx hdont
   go_wp2
   go_ret2
   rw [e]
   exact ⟨_, rfl, ownsAt_nil _ _ _ _, HB4.out⟩
  have e : p.pieces 0 size = (cutAll p ((size - headL p) / 8 * 8).toNat ((p.data.size - 1) / ((size - headL p) / 8 * 8).toNat) 0, 0) := by unfold Pk.pieces; rw [if_neg (fun h => h rfl), if_neg (by have := HSM.out; omega), if_neg hall, if_neg hdont]
  have hdont' : p.dont = false := by simpa using hdont
  have hst : ∃ st : Nat, 8 ≤ st ∧ (st : Int) ≤ 65535 ∧ ((size - headL p) / 8 * 8).toNat = st ∧ wrap64 (wrap64 ((wrap64 (size - headL p)).tdiv 8) * 8) = (st : Int) ∧ st < p.data.size := by
   have h1 := HSM.out; have h2 := HHL.out
   refine ⟨((size - headL p) / 8 * 8).toNat, by omega, by omega, rfl, ?_, by omega⟩
   rw [w64p (x := size - headL p) (by omega) (by omega), Int.tdiv_eq_ediv_of_nonneg (by omega), w64p (x := (size - headL p) / 8) (by omega) (by omega), w64p (by omega) (by omega)]
   omega
  obtain ⟨st, h8, h65, hstn, hstw, hstd⟩ := hst
  rw [hstn] at e
  have HE := Aside0.mk e
  have HST := Aside0.mk (And.intro h8 (And.intro h65 hstd))
  have HSW := Aside0.mk hstw
  clear e h8 h65 hstn hstw hstd hall hsum
  have hmf : ∀ (fn : Fn) (first cap : Array Value) (w : World), (Instr.makeFunc fn first cap).run Try.prog w = .ok (.func fn first cap) w := fun _ _ _ _ => rfl
  have hx := HX4.out
  have hc7 := blk_cell hx 7
  change _ = some (Value.bool p.dont) at hc7
  rw [hdont'] at hc7
  clear hx hdont hdont'
  go_upto_region 10 with fail
  clear hc7
  go_upto_region 11 with fail
  have hbo := blk_new W (.cells #[.slice none 0 0] 32)
  have hb := below_alloc (Below.refl W.heap.size W) (.cells #[.slice none 0 0] 32)
  have HX5 := Aside0.mk (blk_below HX4.out hb)
  have HB5 := Aside0.mk (below_step HB4.out hb)
  have HBOL := Aside0.mk (show bp < W.heap.size ∧ w.heap.size ≤ W.heap.size from ⟨blk_lt HX4.out, HB4.out.size⟩)
  generalize hbo_ : W.heap.size = bo at hbo HBOL ⊢
  generalize W.alloc (.cells #[.slice none 0 0] 32) = W5 at hbo hb HX5 HB5 ⊢
  have HBO := Aside0.mk hbo
  have HTOP := Aside0.mk (show bo < W5.heap.size from blk_lt hbo)
  clear hb hbo hbo_ HX4 HB4
  have hx := HX5.out
  obtain ⟨hc0, hc1, hc2, hc3, hc4, hc5, hc6, hc7, hc8, hc9⟩ : W5.cell? ⟨bp, 0, none⟩ = some (.int .i64 p.src) ∧ W5.cell? ⟨bp, 1, none⟩ = some (.int .i64 p.dst) ∧ W5.cell? ⟨bp, 2, none⟩ = some (.int .i64 p.ttl) ∧ W5.cell? ⟨bp, 3, none⟩ = some (.int .i64 p.proto) ∧ W5.cell? ⟨bp, 4, none⟩ = some (.int .i64 p.ident) ∧ W5.cell? ⟨bp, 5, none⟩ = some (.int .i64 p.frag) ∧ W5.cell? ⟨bp, 6, none⟩ = some (.bool p.more) ∧ W5.cell? ⟨bp, 7, none⟩ = some (.bool p.dont) ∧ W5.cell? ⟨bp, 8, none⟩ = some (.string p.opts) ∧ W5.cell? ⟨bp, 9, none⟩ = some (.string p.data) := ⟨blk_cell hx 0, blk_cell hx 1, blk_cell hx 2, blk_cell hx 3, blk_cell hx 4, blk_cell hx 5, blk_cell hx 6, blk_cell hx 7, blk_cell hx 8, blk_cell hx 9⟩
  clear hx
  go_wp2_with fail
  refine (ip_head.calls p.src p.dst p.ttl p.proto p.ident p.frag p.more p.dont p.opts p.data (headL p) _ rfl).mono ?_
  rintro e W6 ⟨rfl, hb6⟩
  clear hc0 hc1 hc2 hc3 hc4 hc5 hc6 hc7 hc8 hc9
  have HX6 := Aside0.mk (blk_below HX5.out hb6)
  have HO6 := Aside0.mk (show OutAt W6 W5.heap.size bo [] from ⟨_, blk_below HBO.out hb6, ownsAt_nil _ _ _ _⟩)
  have HB6 := Aside0.mk (below_step HB5.out hb6)
  have HT6 := Aside0.mk (show W5.heap.size ≤ W6.heap.size from hb6.size)
  clear hb6 HX5 HB5 HBO
  generalize W5.heap.size = top at HTOP HO6 HT6
  go_wp2_with fail
  rw [HSW.out]
  obtain ⟨K, hKK⟩ : ∃ K, (p.data.size - 1) / st = K := ⟨_, rfl⟩
  rw [hKK] at HE
  have HKD := Aside0.mk (show (K * st ≤ p.data.size - 1 ∧ p.data.size - 1 < K * st + st) ∧ K ≤ 1000000 by
   rw [← hKK]
   have h1 := Nat.div_mul_le_self (p.data.size - 1) st
   have h2 := Nat.lt_mul_of_div_lt (Nat.lt_succ_self ((p.data.size - 1) / st)) (show 0 < st by have := HST.out; omega)
   rw [Nat.succ_mul] at h2
   exact ⟨⟨h1, h2⟩, Nat.le_trans (Nat.div_le_self _ _) (by have := HPD.out; omega)⟩)
  clear hKK
  go_loopg [10] K (fun kq v10 W => ∃ (i : Nat) (az : Int) (l : List Pk), v10 = .int .i64 az ∧ Aside0 (az = ((i * st : Nat) : Int) ∧ kq + i = K) ∧ Aside0 (OutAt W top bo l ∧ l.length = i ∧ l ++ cutAll p st (K - i) (i * st) = cutAll p st K 0) ∧ Aside0 (W.heap[bp]? = some (.cells (pkc p).toArray 23 (0, 0))) ∧ Aside0 (Below w.heap.size w W) ∧ Aside0 (top ≤ W.heap.size))
  case atStart => exact ⟨0, 0, [], rfl, ⟨by simp, rfl⟩, ⟨HO6.out, rfl, by simp⟩, HX6, HB6, HT6⟩
  case round =>
   clear HO6 HX6 HB6 HT6
   obtain ⟨i, az, l, rfl, HK, HO, HX, HB, HT⟩ := hrel
   have hK := HK.out
   have hS := HST.out
   have hP := HPD.out
   have hkd := HKD.out.1
   have hKm := HKD.out.2
   have hi : i * st ≤ K * st := Nat.mul_le_mul_right _ (by omega)
   obtain ⟨rz, hrz2⟩ : ∃ r : Int, (p.data.size : Int) - az = r := ⟨_, rfl⟩
   have hrz : wrap64 ((p.data.size : Int) - az) = rz := (w64p (by omega) (by omega)).trans hrz2
   have hx := HX.out
   have hc9 := blk_cell hx 9
   have hc6 := blk_cell hx 6
   change _ = some (Value.string p.data) at hc9
   change _ = some (Value.bool p.more) at hc6
   by_cases hlt : (st : Int) < rz
   ·have hiK : i < K := by
     refine Nat.lt_of_not_le fun h => ?_
     have : K * st ≤ i * st := Nat.mul_le_mul_right _ h
     omega
    have d1 : decide ((st : Int) < wrap64 ((p.data.size : Int) - az)) = true := decide_eq_true (by rw [hrz]; exact hlt)
    obtain ⟨k1, rfl⟩ : ∃ k1, gk = k1 + 1 := ⟨gk - 1, by omega⟩
    have h2 : (i + 1) * st = i * st + st := by rw [Nat.add_mul]; omega
    obtain ⟨az2, haz2⟩ : ∃ a : Int, a = (((i + 1) * st : Nat) : Int) := ⟨_, rfl⟩
    have hw2 : wrap64 (az + (st : Int)) = az2 := by rw [w64p (by omega) (by omega)]; omega
    have f0 : 0 ≤ az := by omega
    have f1 : az ≤ az2 := by omega
    have f2 : az2 ≤ (p.data.size : Int) := by omega
    have t1 : az.toNat = i * st := by omega
    have t2 : az2.toNat = i * st + st := by omega
    have HF := Aside0.mk (And.intro f0 (And.intro f1 f2))
    have HTT := Aside0.mk (And.intro t1 t2)
    have HA2 := Aside0.mk haz2
    have HW2 := Aside0.mk hw2
    have HIK := Aside0.mk (show i < K ∧ i ≤ 1000000 by omega)
    clear hw2 f0 f1 f2 t1 t2 haz2 hiK hlt hK hS hP hkd hKm hi hrz hrz2 hx h2 hc6
    go_wp2_with (first | ((with_reducible refine gate_slice rfl ?_); refine step_run (by first | rfl | (go_simp; done)) (run_sl_at (i := az) (j := wrap64 (az + (st : Int))) Try.underlying9 rfl rfl rfl rfl HF.out.1 (by rw [HW2.out]; exact HF.out.2.1) (by rw [HW2.out]; exact HF.out.2.2)) ?_; simp only [HW2.out, HTT.out.1, HTT.out.2, Act.put, List.setIfInBounds_toArray, List.set_cons_zero, List.set_cons_succ]))
    refine (ip_Pieces_1.calls bp bo top p l az (cutS p.data (i * st) (i * st + st)) true w _ HX.out HO.out.1 HB.out HBOL.out.2 HTOP.out (Nat.lt_trans HBOL.out.1 HTOP.out) HT.out (by have := HO.out.2.1; have := HIK.out; omega)).mono ?_
    rintro e W8 ⟨rfl, hO, hB, hK⟩
    have HX_ := Aside0.mk ((hK.2 bp (Nat.lt_trans HBOL.out.1 HTOP.out) (by have := HBOL.out; omega)).trans HX.out)
    have HT_ := Aside0.mk (Nat.le_trans HT.out hK.1)
    have HL := Aside0.mk HO.out.2
    have HO_ := Aside0.mk hO
    have HB_ := Aside0.mk hB
    clear HX HT HO HB hO hB hK hc9
    go_wp2
    go_roundg k1
    case measure => omega
    case rel => exact ⟨i + 1, _, _, rfl, ⟨by rw [HW2.out]; exact HA2.out, by have := HK.out; omega⟩, ⟨HO_.out, by rw [List.length_append, HL.out.1]; rfl, by
     have h := HL.out.2
     rw [show K - i = (K - (i + 1)) + 1 by have := HIK.out; omega, cutAll] at h
     rw [← h, List.append_assoc, List.singleton_append, HK.out.1, Nat.add_mul, Nat.one_mul]⟩, HX_, HB_, HT_⟩
   ·have hiK : i = K := by
     refine Nat.le_antisymm (by omega) (Nat.le_of_not_lt fun h => ?_)
     have h3 : (i + 1) * st ≤ K * st := Nat.mul_le_mul_right _ h
     rw [Nat.add_mul] at h3
     omega
    have d1 : decide ((st : Int) < wrap64 ((p.data.size : Int) - az)) = false := decide_eq_false (by rw [hrz]; exact hlt)
    subst hiK
    have f0 : 0 ≤ az := by omega
    have f1 : az ≤ (p.data.size : Int) := by omega
    have t1 : az.toNat = i * st := by omega
    have HF := Aside0.mk (And.intro f0 f1)
    have HTT := Aside0.mk t1
    have HIK := Aside0.mk hKm
    clear f0 f1 t1 hlt hK hS hP hkd hKm hi hrz hrz2 hx
    go_upto_region 16 with fail
    clear hc9 hc6 d1
    refine AnyEvents.region_then (P := Try.prog) 9 (E := [8]) (C := fun ph W' => W'.heap[bp]? = some (.cells (pkc p).toArray 23 (0, 0)) ∧ (ph = 0 → OutAt W' top bo l ∧ Below w.heap.size w W' ∧ top ≤ W'.heap.size) ∧ (ph = 1 → OutAt W' top bo (l ++ [p.cut az (cutS p.data (i * st) p.data.size) p.more]) ∧ Below w.heap.size w W')) (G := fun _ _ _ _ => True) (T := []) (R := fun _ _ _ _ => True) (vs := [?v2_0, ?v2_1, ?v2_2, ?v2_3, ?v2_4, (.string (cutS p.data (i * st) p.data.size)), ?v2_6, ?v2_7, (.tuple #[])]) (by kernel_rfl) (by kernel_rfl) rfl (by kernel_rfl) ?hc2r (fun _ _ _ => trivial) (fun _ _ _ _ _ _ _ _ _ => trivial) ?hc2re (fun x => ?obs2r) ?fin2r
    case hc2re => decide
    case hc2r => exact ⟨HX.out, fun _ => ⟨OutAt.drawn HO.out.1 rfl, pw_below_drewN HB.out 1, HT.out⟩, fun h => nomatch h⟩
    case obs2r =>
     refine AnyEvents.obs_cons ?v2_0 (val_hole (by simp only [List.getD_cons_zero, List.getD_cons_succ])) (AnyEvents.ob_plain (v := ?v2_0) rfl rfl rfl (fun _ _ _ => trivial) (by simp only [List.getD_cons_zero, List.getD_cons_succ]) (fun ph W' hwn hW => ?_)) ?_
     ·have z9 : W'.cell? ⟨bp, 9, none⟩ = some (.string p.data) := blk_cell hW.1 9; have z6 : W'.cell? ⟨bp, 6, none⟩ = some (.bool p.more) := blk_cell hW.1 6; first | (go_simp; done) | (go_simp; (try simp only [i64_w]); rfl) | (go_simp; simp; rfl)
     try simp only [Act.put, List.setIfInBounds_toArray, List.set_cons_zero, List.set_cons_succ]
     refine AnyEvents.obs_cons ?v2_1 (val_hole (by simp only [List.getD_cons_zero, List.getD_cons_succ])) (AnyEvents.ob_plain (v := ?v2_1) rfl rfl rfl (fun _ _ _ => trivial) (by simp only [List.getD_cons_zero, List.getD_cons_succ]) (fun ph W' hwn hW => ?_)) ?_
     ·have z9 : W'.cell? ⟨bp, 9, none⟩ = some (.string p.data) := blk_cell hW.1 9; have z6 : W'.cell? ⟨bp, 6, none⟩ = some (.bool p.more) := blk_cell hW.1 6; first | (go_simp; done) | (go_simp; (try simp only [i64_w]); rfl) | (go_simp; simp; rfl)
     try simp only [Act.put, List.setIfInBounds_toArray, List.set_cons_zero, List.set_cons_succ]
     refine AnyEvents.obs_cons ?v2_2 (val_hole (by simp only [List.getD_cons_zero, List.getD_cons_succ])) (AnyEvents.ob_plain (v := ?v2_2) rfl rfl rfl (fun _ _ _ => trivial) (by simp only [List.getD_cons_zero, List.getD_cons_succ]) (fun ph W' hwn hW => ?_)) ?_
     ·have z9 : W'.cell? ⟨bp, 9, none⟩ = some (.string p.data) := blk_cell hW.1 9; have z6 : W'.cell? ⟨bp, 6, none⟩ = some (.bool p.more) := blk_cell hW.1 6; first | (go_simp; done) | (go_simp; (try simp only [i64_w]); rfl) | (go_simp; simp; rfl)
     try simp only [Act.put, List.setIfInBounds_toArray, List.set_cons_zero, List.set_cons_succ]
     refine AnyEvents.obs_cons ?v2_3 (val_hole (by simp only [List.getD_cons_zero, List.getD_cons_succ])) (AnyEvents.ob_plain (v := ?v2_3) rfl rfl rfl (fun _ _ _ => trivial) (by simp only [List.getD_cons_zero, List.getD_cons_succ]) (fun ph W' hwn hW => ?_)) ?_
     ·have z9 : W'.cell? ⟨bp, 9, none⟩ = some (.string p.data) := blk_cell hW.1 9; have z6 : W'.cell? ⟨bp, 6, none⟩ = some (.bool p.more) := blk_cell hW.1 6; first | (go_simp; done) | (go_simp; (try simp only [i64_w]); rfl) | (go_simp; simp; rfl)
     try simp only [Act.put, List.setIfInBounds_toArray, List.set_cons_zero, List.set_cons_succ]
     refine AnyEvents.obs_cons ?v2_4 (val_hole (by simp only [List.getD_cons_zero, List.getD_cons_succ])) (AnyEvents.ob_plain (v := ?v2_4) rfl rfl rfl (fun _ _ _ => trivial) (by simp only [List.getD_cons_zero, List.getD_cons_succ]) (fun ph W' hwn hW => ?_)) ?_
     ·have z9 : W'.cell? ⟨bp, 9, none⟩ = some (.string p.data) := blk_cell hW.1 9; have z6 : W'.cell? ⟨bp, 6, none⟩ = some (.bool p.more) := blk_cell hW.1 6; first | (go_simp; done) | (go_simp; (try simp only [i64_w]); rfl) | (go_simp; simp; rfl)
     try simp only [Act.put, List.setIfInBounds_toArray, List.set_cons_zero, List.set_cons_succ]
     refine AnyEvents.obs_cons (.string (cutS p.data (i * st) p.data.size)) (val_hole (by simp only [List.getD_cons_zero, List.getD_cons_succ])) (AnyEvents.ob_plain (v := (.string (cutS p.data (i * st) p.data.size))) rfl rfl rfl (fun _ _ _ => trivial) (by simp only [List.getD_cons_zero, List.getD_cons_succ]) (fun ph W' hwn hW => ?_)) ?_
     ·refine (run_sl_from (i := az) (s := p.data) Try.underlying9 rfl rfl rfl HF.out.1 HF.out.2).trans ?_; rw [HTT.out]
     try simp only [Act.put, List.setIfInBounds_toArray, List.set_cons_zero, List.set_cons_succ]
     refine AnyEvents.obs_cons ?v2_6 (val_hole (by simp only [List.getD_cons_zero, List.getD_cons_succ])) (AnyEvents.ob_plain (v := ?v2_6) rfl rfl rfl (fun _ _ _ => trivial) (by simp only [List.getD_cons_zero, List.getD_cons_succ]) (fun ph W' hwn hW => ?_)) ?_
     ·have z9 : W'.cell? ⟨bp, 9, none⟩ = some (.string p.data) := blk_cell hW.1 9; have z6 : W'.cell? ⟨bp, 6, none⟩ = some (.bool p.more) := blk_cell hW.1 6; first | (go_simp; done) | (go_simp; (try simp only [i64_w]); rfl) | (go_simp; simp; rfl)
     try simp only [Act.put, List.setIfInBounds_toArray, List.set_cons_zero, List.set_cons_succ]
     refine AnyEvents.obs_cons ?v2_7 (val_hole (by simp only [List.getD_cons_zero, List.getD_cons_succ])) (AnyEvents.ob_plain (v := ?v2_7) rfl rfl rfl (fun _ _ _ => trivial) (by simp only [List.getD_cons_zero, List.getD_cons_succ]) (fun ph W' hwn hW => ?_)) ?_
     ·have z9 : W'.cell? ⟨bp, 9, none⟩ = some (.string p.data) := blk_cell hW.1 9; have z6 : W'.cell? ⟨bp, 6, none⟩ = some (.bool p.more) := blk_cell hW.1 6; first | (go_simp; done) | (go_simp; (try simp only [i64_w]); rfl) | (go_simp; simp; rfl)
     try simp only [Act.put, List.setIfInBounds_toArray, List.set_cons_zero, List.set_cons_succ]
     refine AnyEvents.obs_cons (.tuple #[]) (val_hole (by simp only [List.getD_cons_zero, List.getD_cons_succ])) (AnyEvents.ob_evcall (q := 0) (v := (.tuple #[])) rfl rfl rfl (by simp only [List.getD_cons_zero, List.getD_cons_succ]) 28 #[.int .i64 az, .string (cutS p.data (i * st) p.data.size), .bool p.more, .pointer (some ⟨bp, 0, none⟩), .pointer (some ⟨bo, 0, none⟩)] (fun W' hW => ?_) (fun W' hW => ?_)) ?_
     ·first | (go_simp; done) | (go_simp; rfl)
     ·exact (ip_Pieces_1.calls bp bo top p l az (cutS p.data (i * st) p.data.size) p.more w _ hW.1 (hW.2.1 rfl).1 (hW.2.1 rfl).2.1 HBOL.out.2 HTOP.out (Nat.lt_trans HBOL.out.1 HTOP.out) (hW.2.1 rfl).2.2 (by have := HO.out.2.1; have := HIK.out; omega)).mono (fun e W2 h => ⟨h.1, ⟨(h.2.2.2.2 bp (Nat.lt_trans HBOL.out.1 HTOP.out) (by have := HBOL.out; omega)).trans hW.1, fun h0 => absurd h0 (by decide), fun _ => ⟨h.2.1, h.2.2.1⟩⟩, trivial⟩)
     try simp only [Act.put, List.setIfInBounds_toArray, List.set_cons_zero, List.set_cons_succ]
     trivial
    intro x W' hD _
    simp only [List.take_succ_cons, List.take_zero, List.drop_succ_cons, List.drop_zero]
    rw [AnyOrder.lexAt_cons ?v2_0 (val_hole (by simp only [List.getD_cons_zero, List.getD_cons_succ]))]
    try simp only [Act.put, List.setIfInBounds_toArray, List.set_cons_zero, List.set_cons_succ]
    rw [AnyOrder.lexAt_cons ?v2_1 (val_hole (by simp only [List.getD_cons_zero, List.getD_cons_succ]))]
    try simp only [Act.put, List.setIfInBounds_toArray, List.set_cons_zero, List.set_cons_succ]
    rw [AnyOrder.lexAt_cons ?v2_2 (val_hole (by simp only [List.getD_cons_zero, List.getD_cons_succ]))]
    try simp only [Act.put, List.setIfInBounds_toArray, List.set_cons_zero, List.set_cons_succ]
    rw [AnyOrder.lexAt_cons ?v2_3 (val_hole (by simp only [List.getD_cons_zero, List.getD_cons_succ]))]
    try simp only [Act.put, List.setIfInBounds_toArray, List.set_cons_zero, List.set_cons_succ]
    rw [AnyOrder.lexAt_cons ?v2_4 (val_hole (by simp only [List.getD_cons_zero, List.getD_cons_succ]))]
    try simp only [Act.put, List.setIfInBounds_toArray, List.set_cons_zero, List.set_cons_succ]
    rw [AnyOrder.lexAt_cons (.string (cutS p.data (i * st) p.data.size)) (val_hole (by simp only [List.getD_cons_zero, List.getD_cons_succ]))]
    try simp only [Act.put, List.setIfInBounds_toArray, List.set_cons_zero, List.set_cons_succ]
    rw [AnyOrder.lexAt_cons ?v2_6 (val_hole (by simp only [List.getD_cons_zero, List.getD_cons_succ]))]
    try simp only [Act.put, List.setIfInBounds_toArray, List.set_cons_zero, List.set_cons_succ]
    rw [AnyOrder.lexAt_cons ?v2_7 (val_hole (by simp only [List.getD_cons_zero, List.getD_cons_succ]))]
    try simp only [Act.put, List.setIfInBounds_toArray, List.set_cons_zero, List.set_cons_succ]
    rw [AnyOrder.lexAt_cons (.tuple #[]) (val_hole (by simp only [List.getD_cons_zero, List.getD_cons_succ]))]
    try simp only [Act.put, List.setIfInBounds_toArray, List.set_cons_zero, List.set_cons_succ]
    rw [AnyOrder.lexAt_nil]
    have hDO := (hD.2.2 rfl)
    have HL := Aside0.mk HO.out.2
    clear HO HX HB HT
    obtain ⟨v, ho1, ho2⟩ := hDO.1
    have HB8 := Aside0.mk hDO.2
    have hv0 := blk_cell ho1 0
    change _ = some v at hv0
    have HO2 := Aside0.mk ho2
    clear hD hDO ho1 ho2
    go_wp2
    go_ret2
    rw [HE.out]
    refine ⟨_, rfl, ?_, HB8.out⟩
    have h := HL.out.2
    rw [Nat.sub_self, cutAll, ← HK.out.1] at h
    rw [← h]
    exact ownsAt_base HO2.out (by have := HBOL.out; have := HTOP.out; omega)


end Go.Proofs.Ytnggabbakhakaaa.PIpWhole

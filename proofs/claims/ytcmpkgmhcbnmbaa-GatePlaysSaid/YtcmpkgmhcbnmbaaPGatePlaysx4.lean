-- Laid by this claim's own program over the print's words.
import Derived.Test.YtcmpkgmhcbnmbaaPGatePlaysx0
import Derived.Test.YtcmpkgmhcbnmbaaPGatePlaysx1
import Derived.Test.YtcmpkgmhcbnmbaaPGatePlaysx3
namespace Go.Proofs.Ytcmpkgmhcbnmbaa.PGatePlays
open Go.RowKit Go.Proofs.YtcmpkgmhcbnmbaaW.PrintWords Go.Proofs.YtcmpkgmhcbnmbaaW.PrintLast Go.Proofs.YtcmpkgmhcbnmbaaW.PrintMore
attribute [local go_sem] max2_int min2_int max_two min_two max_three min_three max_four min_four max_five min_five extract_cut tmod_nat_lit   -- for this text's walks alone
set_option linter.unusedVariables false
set_option linter.unusedSimpArgs false


/-! ### sternpostref25_Gate_Put: function 15 (by hand) -/
def SrcAt (w : World) (size : Nat) (y : Value) (m : Nat) (news : List Value) : Prop := news.length = m * size ∧ ((m = 0 ∧ ∃ A c, y = .slice A 0 c) ∨ ∃ a c, y = .slice (some a) m c ∧ ∀ j u, news[j]? = some u → w.cell? (a.add j) = some u)
theorem SrcAt.own {w : World} {base : Nat} {e : TypeId} {size m : Nat} {y : Value} {news : List Value} (h : ownsAt w base e size y m news) : SrcAt w size y m news := by
 refine ⟨h.1, ?_⟩
 obtain ⟨A, c, rfl, _⟩ := ownsAt_len h
 by_cases h0 : 0 < m
 ·obtain ⟨g, o, rfl, hc⟩ := ownsAt_cells h h0
  refine .inr ⟨_, c, rfl, fun j u hu => ?_⟩
  have hadd : (⟨g, o, none⟩ : Addr).add j = ⟨g, o + j, none⟩ := by unfold Addr.add; split <;> simp_all
  rw [hadd]; exact hc j u hu
 ·obtain rfl : m = 0 := by omega
  exact .inl ⟨rfl, A, c, rfl⟩
theorem rdOf_get {l : List ByteArray} {i : Nat} {f : ByteArray} {iz : Int} (h : l[i]? = some f) (hi : iz = (i : Int)) : rdOf ByteArray.empty l iz = f := by
 subst hi; unfold rdOf; rw [List.getD_eq_getElem?_getD, Int.toNat_natCast, h]; rfl
theorem SrcAt.texts {w : World} {A : Option Addr} {c : Nat} {l : List ByteArray} (h : Kd.C Kd.string w A l.length l) : SrcAt w 1 (.slice A l.length c) l.length (txt l) := by
 refine ⟨by simp [txt], ?_⟩
 by_cases h0 : l.length = 0
 ·rw [h0]; exact .inl ⟨rfl, A, c, rfl⟩
 ·obtain ⟨ad, rfl, _⟩ := Kd.at_string h 0 (Int.le_refl _) (by omega)
  refine .inr ⟨ad, c, rfl, fun j u hu => ?_⟩
  unfold txt at hu
  rw [List.getElem?_map, Option.map_eq_some_iff] at hu
  obtain ⟨b, hb, rfl⟩ := hu
  have hj := (List.getElem?_eq_some_iff.1 hb).1
  obtain ⟨ad', he, hc⟩ := Kd.at_string h (j : Int) (by omega) (by omega)
  injection he with he
  rw [he, ← rdOf_get hb rfl]; simpa using hc
theorem run_append0 {P : Program} {w : World} {base b : Nat} {cur : Array Value} {t ty e : TypeId} {z : Value} {size bytes m : Nat} {y : Value} {news : List Value} (ht : P.underlying t = some (.slice e)) (hi : (P.info? e).map (fun i => (i.size, i.bytes, i.zero)) = some (size, bytes, some z)) (hzs : z.cells.size = size)
  (hb : base ≤ b) (hcur : w.heap[b]? = some (.cells cur e (0, 0))) (hy : SrcAt w size y m news) (h63 : m ≤ maxLen) (hbytes : m * bytes ≤ 140737488355328) (hbase : base ≤ w.heap.size) :
  ∃ v' w', (Builtin.append_ #[t, t] ty #[.slice (some ⟨b, 0, none⟩) 0 0, y]).run P w = .ok v' w' ∧ ownsAt w' base e size v' m news ∧ Below w.heap.size w w' := by
 rw [Option.map_eq_some_iff] at hi
 obtain ⟨i, hi, he⟩ := hi
 simp only [Prod.mk.injEq] at he
 obtain ⟨rfl, rfl, e3⟩ := he
 obtain ⟨hl, ⟨rfl, A, c, rfl⟩ | ⟨a, c, rfl, hnews⟩⟩ := hy
 ·have hn : news = [] := List.eq_nil_of_length_eq_zero (by simpa using hl)
  subst hn
  refine ⟨.slice (some ⟨b, 0, none⟩) 0 0, w, ?_, ⟨by simp, .inr ⟨b, 0, 0, cur, rfl, hb, hcur, Nat.le_refl _, Nat.zero_le _, by omega, by simp⟩⟩, Below.refl _ _⟩
  cases A <;> simp [Builtin.append_, run_underlying ht, sizeOf, typeInfo, hi, Builtin.lenOf, Builtin.firstCells, loadCells, loadCellsFrom, storeCells]
 ·by_cases h0 : 0 < m
  ·have hr := run_append_grow (P := P) (w := w) t ty e i z ht hi e3 ⟨b, 0, none⟩ 0 0 [] (by simp) (fun j v h => by simp at h) a m c news hl hnews (by omega) (by simp only [maxLen] at h63; omega) (growslice_fits (by omega) (by simpa using hbytes))
   have hge := grownCap_ge w (0 + m) 0 e
   have hcm' : grownCap w (0 + m) 0 e ≤ maxLen := grownCap_le_maxLen w (0 + m) 0 e (by simpa using h63)
   refine ⟨_, _, hr, ⟨hl, .inr ⟨w.heap.size, 0, _, _, by rw [Nat.zero_add], hbase, heap_alloc_new w.drew _, by simpa using hge, by simpa using hcm', ?_, ?_⟩⟩, ⟨rfl, rfl, rfl, by simp, fun k hk => by first | exact heap_alloc_old w.drew _ hk | exact heap_alloc_old w.drew _ k hk⟩⟩
   ·simp only [Array.size_append, List.size_toArray, size_zeroCells, hzs, hl, List.length_nil, Nat.zero_add]
    rw [← Nat.add_mul]
    apply Nat.mul_le_mul_right
    have hge' : m ≤ grownCap w m 0 e := by simpa using hge
    omega
   ·simp only [Array.toList_append, List.append_assoc, List.drop_zero, List.nil_append]
    rw [← hl]
    exact List.take_left
  ·obtain rfl : m = 0 := by omega
   have hn : news = [] := List.eq_nil_of_length_eq_zero (by simpa using hl)
   subst hn
   refine ⟨.slice (some ⟨b, 0, none⟩) 0 0, w, ?_, ⟨by simp, .inr ⟨b, 0, 0, cur, rfl, hb, hcur, Nat.le_refl _, Nat.zero_le _, by omega, by simp⟩⟩, Below.refl _ _⟩
   simp [Builtin.append_, run_underlying ht, sizeOf, typeInfo, hi, Builtin.lenOf, Builtin.firstCells, loadCells, loadCellsFrom, storeCells]
theorem wl_append0 {P : Program} {ops : Array Oper} {rest : List Oper} {o : Oper} {a : Act} {Q : Exit → Act → World → Prop} {w : World} {base b : Nat} {cur : Array Value} (t e : TypeId) (z : Value) (size bytes : Nat) {s x : Operand}
  (hw : Region.wanted o (yielded ops a.tmps) = true) (ho : o.op = .call { callee := .builtin .append, args := #[s, x], argTypes := #[t, t] }) (ht : P.underlying t = some (.slice e)) (hi : (P.info? e).map (fun i => (i.size, i.bytes, i.zero)) = some (size, bytes, some z))
  (hzs : z.cells.size = size) {y : Value} {m : Nat} {news : List Value} (hs : a.eval s = .slice (some ⟨b, 0, none⟩) 0 0) (hx : a.eval x = y) (hb : base ≤ b) (hcur : w.heap[b]? = some (.cells cur e (0, 0))) (hy : SrcAt w size y m news) 
  (h63 : m ≤ maxLen) (hbytes : m * bytes ≤ 140737488355328) (hbase : base ≤ w.heap.size)
  (h : ∀ v' w', ownsAt w' base e size v' m news → Below w.heap.size w w' → wpList P ops Q rest (a.put o.dst v') w') : wpList P ops Q (o :: rest) a w := by
 obtain ⟨v', w', hr, h2, h3⟩ := run_append0 (P := P) (ty := o.type) ht hi hzs hb hcur hy h63 hbytes hbase
 unfold wpList
 rw [if_pos hw]
 refine .inl ?_
 unfold Oper.wp execOp
 simp only [ho, resolve, invoke, builtin, Sem.run_bind, Sem.run_pure, Result.andThen_ok, List.map_toArray, List.map_cons, List.map_nil, hs, hx, hr]
 exact h v' w' h2 h3
def rhold (n : Int) : List ByteArray → RSt → RSt × Int
 | [], r => (r, 0)
 | f :: fs, r => if r.room ≤ (r.l.length : Int) then ({ r with lost := wrap64 (r.lost + ((f :: fs).length : Int)) }, 150) else rhold n fs { r with l := r.l ++ [(n, f)] }
def RSt.went (r : RSt) (n : Int) (fr : List ByteArray) : RSt := if 0 < fr.length then { r with gone := if r.gone < n then n else r.gone } else r
def RSt.put (r : RSt) (n : Int) (fr : List ByteArray) : RSt × List ByteArray × Int :=
 if n < 1 ∨ n < r.last then (r, [], 1) else if r.opn = true ∨ n ≤ r.conf then (RSt.went { r with last := n } n fr, fr, 0) else
 ((rhold n fr { r with last := n }).1, [], (rhold n fr { r with last := n }).2)
def sternpostref25_Gate_Put.C (w0 wb : World) (g : Nat) (s : RSt) (A : Option Addr) (c : Nat) (n : Int) (f : ByteArray) : Nat → World → Prop
 | 0, W => W.heap[g]? = some (.cells (cellsR s (.slice A s.l.length c)) 44 (0, 0)) ∧ w0.heap.size ≤ g ∧ Below w0.heap.size w0 W ∧ KeepT [44] wb W
 | 1, W => W.heap[g]? = some (.cells (cellsR s (.slice A s.l.length c)) 44 (0, 0)) ∧ w0.heap.size ≤ g ∧ Below w0.heap.size w0 W ∧ KeepT [44] wb W
 | 2, W => RefAt W w0.heap.size g { s with l := s.l ++ [(n, f)] } ∧ w0.heap.size ≤ g ∧ Below w0.heap.size w0 W ∧ KeepT [44] wb W
 | _, _ => False
theorem sternpostref25_Gate_Put.C_low {w0 wb : World} {g : Nat} {s : RSt} {A : Option Addr} {c p : Nat} {n : Int} {f : ByteArray} {W : World} (h : sternpostref25_Gate_Put.C w0 wb g s A c n f p W) : Below w0.heap.size w0 W ∧ KeepT [44] wb W := by
 match p, h with
 | 0, ⟨_, _, h3, h4⟩ => exact ⟨h3, h4⟩
 | 1, ⟨_, _, h3, h4⟩ => exact ⟨h3, h4⟩
 | 2, ⟨_, _, h3, h4⟩ => exact ⟨h3, h4⟩
theorem sternpostref25_Gate_Put.C_blk {w0 wb : World} {g : Nat} {s : RSt} {A : Option Addr} {c p : Nat} {n : Int} {f : ByteArray} {W : World} (h : sternpostref25_Gate_Put.C w0 wb g s A c n f p W) (hp : p ≤ 1) : W.heap[g]? = some (.cells (cellsR s (.slice A s.l.length c)) 44 (0, 0)) := by
 match p, h, hp with
 | 0, h, _ => exact h.1
 | 1, h, _ => exact h.1
theorem sternpostref25_Gate_Put.C_below {w0 wb : World} {g : Nat} {s : RSt} {A : Option Addr} {c p : Nat} {n : Int} {f : ByteArray} {W W' : World} (h : sternpostref25_Gate_Put.C w0 wb g s A c n f p W) (hb : Below W.heap.size W W') : sternpostref25_Gate_Put.C w0 wb g s A c n f p W' := by
 have hk := KeepT.of_below (T := [44]) hb
 match p, h with
 | 0, ⟨h1, h2, h6, h7⟩ => exact ⟨blk_below h1 hb, h2, below_step h6 hb, h7.trans hk⟩
 | 1, ⟨h1, h2, h6, h7⟩ => exact ⟨blk_below h1 hb, h2, below_step h6 hb, h7.trans hk⟩
 | 2, ⟨h1, h2, h6, h7⟩ => exact ⟨h1.kept hb, h2, below_step h6 hb, h7.trans hk⟩
def sternpostref25_Gate_Put.R (wb : World) (s : RSt) (n : Int) (f : ByteArray) (p j : Nat) (W : World) (v : Value) : Prop :=
 if j = 1 then p = 0 → ∃ b cur, v = .slice (some ⟨b, 0, none⟩) 0 0 ∧ wb.heap.size ≤ b ∧ W.heap[b]? = some (.cells cur 58 (0, 0))
 else if j = 6 then p = 0 → ownsAt W wb.heap.size 58 2 v s.l.length (fcs s.l)
 else if j = 13 then p = 0 → ownsAt W wb.heap.size 58 2 v 1 [.int .i64 n, .string f]
 else j = 14 ∧ p = 1 → ownsAt W wb.heap.size 58 2 v (s.l.length + 1) (fcs s.l ++ [.int .i64 n, .string f])
theorem sternpostref25_Gate_Put.R_keep {wb : World} {s : RSt} {n : Int} {f : ByteArray} {p j : Nat} {W W' : World} {v : Value} {b : Bool} (hj : b = true → [14, 17][p]? ≠ some j) (hb : b = false → Below W.heap.size W W') (h : sternpostref25_Gate_Put.R wb s n f p j W v) : sternpostref25_Gate_Put.R wb s n f (AnyEvents.nx b p) j W' v := by
 unfold sternpostref25_Gate_Put.R at h ⊢
 cases b with
 | true =>
  have h0 : AnyEvents.nx true p = p + 1 := rfl
  rw [h0]
  split
  ·intro hp; omega
  split
  ·intro hp; omega
  split
  ·intro hp; omega
  ·rintro ⟨rfl, hp⟩
   obtain rfl : p = 0 := by omega
   exact absurd rfl (hj rfl)
 | false =>
  have h0 : AnyEvents.nx false p = p := rfl
  rw [h0]
  have hb := hb rfl
  by_cases h1 : j = 1
  ·rw [if_pos h1] at h ⊢
   intro hp
   obtain ⟨b, cur, e1, e2, e3⟩ := h hp
   exact ⟨b, cur, e1, e2, blk_below e3 hb⟩
  rw [if_neg h1] at h ⊢
  by_cases h6 : j = 6
  ·rw [if_pos h6] at h ⊢
   exact fun hp => ownsAt_below (h hp) hb
  rw [if_neg h6] at h ⊢
  by_cases h13 : j = 13
  ·rw [if_pos h13] at h ⊢
   exact fun hp => ownsAt_below (h hp) hb
  rw [if_neg h13] at h ⊢
  exact fun hp => ownsAt_below (h hp) hb
structure sternpostref25_Gate_Put.P (w0 w : World) (g : Nat) (r : RSt × List ByteArray × Int) (e : Ending) (w' : World) : Prop where
 h : ∃ v, e = .returned (.tuple #[v, .int .i64 r.2.2]) ∧ RefAt w' w0.heap.size g r.1 ∧ ownsAt w' 0 9 1 v r.2.1.length (txt r.2.1) ∧ Below w0.heap.size w0 w' ∧ KeepT [44] w w'
structure sternpostref25_Gate_Put.I (w0 w : World) (g : Nat) (s1 : RSt) (n : Int) (fr : List ByteArray) (k : Nat) (v8 : Value) (W : World) : Prop where
 h : ∃ (i : Nat) (iz : Int) (s : RSt), v8 = .int .i64 iz ∧ iz = (i : Int) ∧ k + i = fr.length ∧ RefAt W w0.heap.size g s ∧ rhold n fr s1 = rhold n (fr.drop i) s ∧ s.l.length ≤ s1.l.length + i ∧ Below w0.heap.size w0 W ∧ KeepT [44] w W
set_option maxHeartbeats 4000000 in
set_option maxRecDepth 100000 in
theorem sternpostref25_Gate_Put.calls (g : Nat) (r : RSt) (n : Int) (Af : Option Addr) (cf : Nat) (fr : List ByteArray) (w0 w : World) (hG : RefAt w w0.heap.size g r) (hB : Below w0.heap.size w0 w) (hF : Kd.C Kd.string w0 Af fr.length fr) (hl : fr.length ≤ 1073741824) (hq : r.l.length ≤ 1073741824) :
  Calls Try.prog 15 #[.pointer (some ⟨g, 0, none⟩), .int .i64 n, .slice Af fr.length cf] w (sternpostref25_Gate_Put.P w0 w g (r.put n fr)) := by
 have HI := Aside0.mk hG
 have HB := Aside0.mk hB
 have HF := Aside0.mk hF
 have HGE := Aside0.mk hG.ge
 clear hG hB hF
 obtain ⟨rr, hr⟩ : ∃ r_, r.put n fr = r_ := ⟨_, rfl⟩
 rw [hr]
 by_cases hbad : n < 1 ∨ n < r.last
 ·rw [show r.put n fr = (r, [], 1) by unfold RSt.put; rw [if_pos hbad]] at hr
  subst hr
  obtain ⟨Az, cz, ⟨hbg, hle⟩, hcm, ⟨hc0, hc1, hc2, hc3⟩, ⟨hc4, hc5, hc6⟩, ⟨hf0, hf1, hf2, hf3⟩, ⟨hf4, hf5, hf6⟩, HQ⟩ := HI.out.cell
  have HBD := Aside0.mk hbad
  by_cases h1 : n < 1
  ·have d1 : decide (n < 1) = true := decide_eq_true h1
   go_enter Try.func15, Try.ntmps15
   go_wp2
   go_ret2
   exact ⟨_, rfl, HI.out, ownsAt_nil _ _ _ _, HB.out, KeepT.refl _ _⟩
  ·have d1 : decide (n < 1) = false := decide_eq_false h1
   have d2 : decide (n < r.last) = true := decide_eq_true (hbad.resolve_left h1)
   clear hbad
   go_enter Try.func15, Try.ntmps15
   go_wp2
   go_ret2
   exact ⟨_, rfl, HI.out, ownsAt_nil _ _ _ _, HB.out, KeepT.refl _ _⟩
 have HBD := Aside0.mk hbad
 have d1 : decide (n < 1) = false := decide_eq_false (fun h => hbad (.inl h))
 have d2 : decide (n < r.last) = false := decide_eq_false (fun h => hbad (.inr h))
 clear hbad
 rw [show r.put n fr = if r.opn = true ∨ n ≤ r.conf then (RSt.went { r with last := n } n fr, fr, 0) else ((rhold n fr { r with last := n }).1, [], (rhold n fr { r with last := n }).2) by unfold RSt.put; rw [if_neg HBD.out]] at hr
 have ho1 : r.opn = (RSt.opn { r with last := n }) := rfl
 have hc1_ : r.conf = (RSt.conf { r with last := n }) := rfl
 have hq1 : r.l = (RSt.l { r with last := n }) := rfl
 have hg1 : ∀ v, (cellsR r v).setIfInBounds 1 (.int .i64 n) = cellsR { r with last := n } v := fun v => rfl
 rw [ho1, hc1_] at hr
 rw [hq1] at hq
 generalize ({ r with last := n } : RSt) = s1 at hq hq1 hg1 hr
 clear ho1 hc1_
 have HR := Aside0.mk hr
 have HG1 := Aside0.mk hg1
 have HQ1 := Aside0.mk hq1
 clear hg1 hq1 hr
 obtain ⟨Az, cz, ⟨hbg, hle⟩, hcm, ⟨hc0, hc1, hc2, hc3⟩, ⟨hc4, hc5, hc6⟩, ⟨hf0, hf1, hf2, hf3⟩, ⟨hf4, hf5, hf6⟩, HQ⟩ := HI.out.cell
 go_enter Try.func15, Try.ntmps15
 go_upto_region 4 with fail
 clear hbg hle hcm hc0 hc1 hc2 hc3 hc4 hc5 hc6 hf0 hf1 hf2 hf3 hf4 hf5 hf6 HQ
 clear d1 d2
 have i1 : RefAt (w.setCell ⟨g, 1, none⟩ (.int .i64 n)) w0.heap.size g s1 := HI.out.set 1 _ HQ1.out.symm HG1.out
 have k1 : KeepT [44] w (w.setCell ⟨g, 1, none⟩ (.int .i64 n)) := RefAt.keep_set (KeepT.refl _ _) HI.out 1 _
 have b1 : Below w0.heap.size w0 (w.setCell ⟨g, 1, none⟩ (.int .i64 n)) := below_set HB.out HI.out.ge
 clear HI HB HG1 HQ1
 generalize w.setCell ⟨g, 1, none⟩ (.int .i64 n) = W1 at i1 k1 b1 ⊢
 have HI := Aside0.mk i1
 have HK := Aside0.mk k1
 have HB := Aside0.mk b1
 clear i1 k1 b1
 obtain ⟨Az, cz, ⟨hbg, hle⟩, hcm, ⟨hc0, hc1, hc2, hc3⟩, ⟨hc4, hc5, hc6⟩, ⟨hf0, hf1, hf2, hf3⟩, ⟨hf4, hf5, hf6⟩, HQ⟩ := HI.out.cell
 by_cases hout : s1.opn = true ∨ n ≤ s1.conf
 ·have hr := HR.out
  rw [if_pos hout] at hr
  subst hr
  clear HR
  by_cases h1 : s1.opn = true
  ·rw [h1] at hc5
   go_upto_region 5 with fail
   by_cases hp : 0 < fr.length
   ·have d3 : decide ((0 : Int) < (fr.length : Int)) = true := decide_eq_true (by omega)
    have hwe : s1.went n fr = { s1 with gone := if s1.gone < n then n else s1.gone } := by unfold RSt.went; rw [if_pos hp]
    obtain ⟨mg, hmg⟩ : ∃ m_, (if s1.gone < n then n else s1.gone) = m_ := ⟨_, rfl⟩
    rw [hmg] at hwe
    have HWE := Aside0.mk hwe
    clear hwe
    go_upto_region 7 with fail
    try rw [hmg]
    have ha := And.intro (show RefAt (W1.setCell ⟨g, 3, none⟩ (.int .i64 mg)) w0.heap.size g { s1 with gone := mg } from HI.out.set 3 _ rfl (fun v => rfl)) (And.intro (show Below w0.heap.size w0 (W1.setCell ⟨g, 3, none⟩ (.int .i64 mg)) from below_set HB.out HGE.out) (RefAt.keep_set HK.out HI.out 3 (.int .i64 mg)))
    clear hbg hle hcm hc0 hc1 hc2 hc3 hc4 hc5 hc6 hf0 hf1 hf2 hf3 hf4 hf5 hf6 HQ
    clear HI HB HK hmg d3
    generalize W1.setCell ⟨g, 3, none⟩ (.int .i64 mg) = WX at ha ⊢
    have HA := Aside0.mk ha
    clear ha
    have hb1 := below_alloc (Below.refl WX.heap.size WX) (Obj.cells #[] 9)
    have HNW := Aside0.mk (blk_new WX (.cells #[] 9))
    have HBX := Aside0.mk (below_step HA.out.2.1 hb1)
    have HSR := Aside0.mk (SrcAt.texts (c := cf) (Kd.C_below HF.out HBX.out))
    have HSX := Aside0.mk (show WX.heap.size ≤ (WX.alloc (Obj.cells #[] 9)).heap.size from hb1.size)
    have HIX := Aside0.mk ((HA.out.1).kept hb1)
    have HKX := Aside0.mk ((HA.out.2.2).trans (KeepT.of_below hb1))
    clear hb1
    go_wp2_with (first | ((with_reducible refine gate_dst (N := 49) rfl ?_); refine wl_append0 28 9 (.string (⟨#[]⟩ : ByteArray)) 1 16 rfl rfl Try.underlying28 (by kernel_rfl) rfl (b := WX.heap.size) (base := WX.heap.size) rfl rfl (Nat.le_refl _) HNW.out HSR.out (by simp only [maxLen]; omega) (by omega) HSX.out (fun v9 W9 hv9 hb9 => ?_); have HV9 := Aside0.mk hv9; have HB9 := Aside0.mk hb9; clear hv9 hb9))
    go_ret2
    exact ⟨_, rfl, (show RefAt _ _ _ (s1.went n fr) by rw [HWE.out]; exact HIX.out.kept HB9.out), ownsAt_low HV9.out, below_step HBX.out HB9.out, HKX.out.trans (KeepT.of_below HB9.out)⟩
   ·have d3 : decide ((0 : Int) < (fr.length : Int)) = false := decide_eq_false (by omega)
    have HWE := Aside0.mk (show s1.went n fr = s1 by unfold RSt.went; rw [if_neg hp])
    go_upto_region 7 with fail
    clear hbg hle hcm hc0 hc1 hc2 hc3 hc4 hc5 hc6 hf0 hf1 hf2 hf3 hf4 hf5 hf6 HQ
    have HA := Aside0.mk (And.intro HI.out (And.intro HB.out HK.out))
    clear HI HB HK d3
    generalize W1 = WX at HA ⊢
    have hb1 := below_alloc (Below.refl WX.heap.size WX) (Obj.cells #[] 9)
    have HNW := Aside0.mk (blk_new WX (.cells #[] 9))
    have HBX := Aside0.mk (below_step HA.out.2.1 hb1)
    have HSR := Aside0.mk (SrcAt.texts (c := cf) (Kd.C_below HF.out HBX.out))
    have HSX := Aside0.mk (show WX.heap.size ≤ (WX.alloc (Obj.cells #[] 9)).heap.size from hb1.size)
    have HIX := Aside0.mk ((HA.out.1).kept hb1)
    have HKX := Aside0.mk ((HA.out.2.2).trans (KeepT.of_below hb1))
    clear hb1
    go_wp2_with (first | ((with_reducible refine gate_dst (N := 49) rfl ?_); refine wl_append0 28 9 (.string (⟨#[]⟩ : ByteArray)) 1 16 rfl rfl Try.underlying28 (by kernel_rfl) rfl (b := WX.heap.size) (base := WX.heap.size) rfl rfl (Nat.le_refl _) HNW.out HSR.out (by simp only [maxLen]; omega) (by omega) HSX.out (fun v9 W9 hv9 hb9 => ?_); have HV9 := Aside0.mk hv9; have HB9 := Aside0.mk hb9; clear hv9 hb9))
    go_ret2
    exact ⟨_, rfl, (show RefAt _ _ _ (s1.went n fr) by rw [HWE.out]; exact HIX.out.kept HB9.out), ownsAt_low HV9.out, below_step HBX.out HB9.out, HKX.out.trans (KeepT.of_below HB9.out)⟩
  ·have h2 : s1.opn = false := by simpa using h1
   rw [h2] at hc5
   have d1 : decide (n ≤ s1.conf) = true := decide_eq_true (hout.resolve_left h1)
   clear hout h1
   go_upto_region 5 with fail
   by_cases hp : 0 < fr.length
   ·have d3 : decide ((0 : Int) < (fr.length : Int)) = true := decide_eq_true (by omega)
    have hwe : s1.went n fr = { s1 with gone := if s1.gone < n then n else s1.gone } := by unfold RSt.went; rw [if_pos hp]
    obtain ⟨mg, hmg⟩ : ∃ m_, (if s1.gone < n then n else s1.gone) = m_ := ⟨_, rfl⟩
    rw [hmg] at hwe
    have HWE := Aside0.mk hwe
    clear hwe
    go_upto_region 7 with fail
    try rw [hmg]
    have ha := And.intro (show RefAt (W1.setCell ⟨g, 3, none⟩ (.int .i64 mg)) w0.heap.size g { s1 with gone := mg } from HI.out.set 3 _ rfl (fun v => rfl)) (And.intro (show Below w0.heap.size w0 (W1.setCell ⟨g, 3, none⟩ (.int .i64 mg)) from below_set HB.out HGE.out) (RefAt.keep_set HK.out HI.out 3 (.int .i64 mg)))
    clear hbg hle hcm hc0 hc1 hc2 hc3 hc4 hc5 hc6 hf0 hf1 hf2 hf3 hf4 hf5 hf6 HQ
    clear HI HB HK hmg d3
    generalize W1.setCell ⟨g, 3, none⟩ (.int .i64 mg) = WX at ha ⊢
    have HA := Aside0.mk ha
    clear ha
    have hb1 := below_alloc (Below.refl WX.heap.size WX) (Obj.cells #[] 9)
    have HNW := Aside0.mk (blk_new WX (.cells #[] 9))
    have HBX := Aside0.mk (below_step HA.out.2.1 hb1)
    have HSR := Aside0.mk (SrcAt.texts (c := cf) (Kd.C_below HF.out HBX.out))
    have HSX := Aside0.mk (show WX.heap.size ≤ (WX.alloc (Obj.cells #[] 9)).heap.size from hb1.size)
    have HIX := Aside0.mk ((HA.out.1).kept hb1)
    have HKX := Aside0.mk ((HA.out.2.2).trans (KeepT.of_below hb1))
    clear hb1
    go_wp2_with (first | ((with_reducible refine gate_dst (N := 49) rfl ?_); refine wl_append0 28 9 (.string (⟨#[]⟩ : ByteArray)) 1 16 rfl rfl Try.underlying28 (by kernel_rfl) rfl (b := WX.heap.size) (base := WX.heap.size) rfl rfl (Nat.le_refl _) HNW.out HSR.out (by simp only [maxLen]; omega) (by omega) HSX.out (fun v9 W9 hv9 hb9 => ?_); have HV9 := Aside0.mk hv9; have HB9 := Aside0.mk hb9; clear hv9 hb9))
    go_ret2
    exact ⟨_, rfl, (show RefAt _ _ _ (s1.went n fr) by rw [HWE.out]; exact HIX.out.kept HB9.out), ownsAt_low HV9.out, below_step HBX.out HB9.out, HKX.out.trans (KeepT.of_below HB9.out)⟩
   ·have d3 : decide ((0 : Int) < (fr.length : Int)) = false := decide_eq_false (by omega)
    have HWE := Aside0.mk (show s1.went n fr = s1 by unfold RSt.went; rw [if_neg hp])
    go_upto_region 7 with fail
    clear hbg hle hcm hc0 hc1 hc2 hc3 hc4 hc5 hc6 hf0 hf1 hf2 hf3 hf4 hf5 hf6 HQ
    have HA := Aside0.mk (And.intro HI.out (And.intro HB.out HK.out))
    clear HI HB HK d3
    generalize W1 = WX at HA ⊢
    have hb1 := below_alloc (Below.refl WX.heap.size WX) (Obj.cells #[] 9)
    have HNW := Aside0.mk (blk_new WX (.cells #[] 9))
    have HBX := Aside0.mk (below_step HA.out.2.1 hb1)
    have HSR := Aside0.mk (SrcAt.texts (c := cf) (Kd.C_below HF.out HBX.out))
    have HSX := Aside0.mk (show WX.heap.size ≤ (WX.alloc (Obj.cells #[] 9)).heap.size from hb1.size)
    have HIX := Aside0.mk ((HA.out.1).kept hb1)
    have HKX := Aside0.mk ((HA.out.2.2).trans (KeepT.of_below hb1))
    clear hb1
    go_wp2_with (first | ((with_reducible refine gate_dst (N := 49) rfl ?_); refine wl_append0 28 9 (.string (⟨#[]⟩ : ByteArray)) 1 16 rfl rfl Try.underlying28 (by kernel_rfl) rfl (b := WX.heap.size) (base := WX.heap.size) rfl rfl (Nat.le_refl _) HNW.out HSR.out (by simp only [maxLen]; omega) (by omega) HSX.out (fun v9 W9 hv9 hb9 => ?_); have HV9 := Aside0.mk hv9; have HB9 := Aside0.mk hb9; clear hv9 hb9))
    go_ret2
    exact ⟨_, rfl, (show RefAt _ _ _ (s1.went n fr) by rw [HWE.out]; exact HIX.out.kept HB9.out), ownsAt_low HV9.out, below_step HBX.out HB9.out, HKX.out.trans (KeepT.of_below HB9.out)⟩
 have hr := HR.out
 rw [if_neg hout] at hr
 clear HR
 have h2 : s1.opn = false := by
  cases h : s1.opn with | false => rfl | true => exact absurd (.inl h) hout
 have d1 : decide (n ≤ s1.conf) = false := decide_eq_false (fun h => hout (.inr h))
 rw [h2] at hc5
 clear hout
 have HR := Aside0.mk hr
 clear hr
 go_upto_region 8 with fail
 clear hbg hle hcm hc0 hc1 hc2 hc3 hc4 hc5 hc6 hf0 hf1 hf2 hf3 hf4 hf5 hf6 HQ
 clear d1 h2
 go_wp2_with fail
 go_loopg [8] fr.length (fun kq v8 W => sternpostref25_Gate_Put.I w0 w g s1 n fr kq v8 W)
 case atStart => exact ⟨0, 0, s1, rfl, rfl, rfl, HI.out, rfl, Nat.le_refl _, HB.out, HK.out⟩
 case round =>
  clear HI HB HK
  obtain ⟨⟨i, iz, s, rfl, hi, hk, i1, i2, i3, i4, i5⟩⟩ := hrel
  have HZ := Aside0.mk hi
  have HKQ := Aside0.mk hk
  have HI := Aside0.mk i1
  have HE := Aside0.mk i2
  have HL := Aside0.mk i3
  have HB := Aside0.mk i4
  have HK := Aside0.mk i5
  clear i1 i2 i3 i4 i5
  by_cases hlt : iz < (fr.length : Int)
  ·have d1 : decide (iz < (fr.length : Int)) = true := decide_eq_true hlt
   have p0 : 0 ≤ iz := by omega
   obtain ⟨k1, rfl⟩ : ∃ k1, gk = k1 + 1 := ⟨gk - 1, by omega⟩
   have hil : i < fr.length := by omega
   obtain ⟨f, hx⟩ : ∃ x, fr[i]? = some x := ⟨_, List.getElem?_eq_getElem hil⟩
   have hdrop : fr.drop i = f :: fr.drop (i + 1) := by
    rw [List.drop_eq_getElem_cons hil]; congr 1; exact Option.some.inj ((List.getElem?_eq_getElem hil).symm.trans hx)
   have HD := Aside0.mk hdrop
   obtain ⟨ad, ead, _⟩ := Kd.at_string HF.out iz p0 hlt
   subst ead
   have HAD := Aside0.mk (show ∀ W', Below w0.heap.size w0 W' → W'.cell? (ad.add iz.toNat) = some (.string f) from fun W' hb => by
    obtain ⟨ad', he, hc⟩ := Kd.at_string (Kd.C_below HF.out hb) iz p0 hlt
    injection he with he
    rw [he, ← rdOf_get hx hi]; exact hc)
   have hn : wrap64 (iz + 1) = ((i + 1 : Nat) : Int) := by rw [w64r (by omega) (by omega)]; omega
   have hsub : wrap64 ((fr.length : Int) - iz) = ((fr.drop i).length : Int) := by rw [List.length_drop, w64r (by omega) (by omega)]; omega
   have HN := Aside0.mk hn
   have HSB := Aside0.mk hsub
   have HPL := Aside0.mk (And.intro p0 hlt)
   clear hn hsub hdrop hx hil hi hk
   replace p0 := eq_true p0
   replace hlt := eq_true hlt
   obtain ⟨Az, cz, ⟨hbg, hle⟩, hcm, ⟨hc0, hc1, hc2, hc3⟩, ⟨hc4, hc5, hc6⟩, ⟨hf0, hf1, hf2, hf3⟩, ⟨hf4, hf5, hf6⟩, HQ⟩ := HI.out.cell
   have HQ_ := Aside0.mk HQ
   clear HQ
   go_upto_region 11 with fail
   have same : ∀ (p : Nat) W', Drawn0 wr W' → True := fun _ _ _ => trivial
   refine AnyEvents.region_then 10 (E := []) (C := fun (_ : Nat) W' => Drawn0 wr W') (G := fun _ _ _ _ => True) (T := []) (R := fun _ _ _ _ => True) (vs := [(.pointer (some ⟨g, 0, none⟩)), (.pointer (some ⟨g, 0, none⟩)), (.pointer (some ⟨g, 6, none⟩)), (.slice Az s.l.length cz), (.int .i64 (s.l.length : Int)), (.pointer (some ⟨g, 0, none⟩)), (.pointer (some ⟨g, 0, none⟩)), (.pointer (some ⟨g, 0, none⟩)), (.int .i64 s.room), (.bool (decide (s.room ≤ (s.l.length : Int))))]) (by kernel_rfl) (by kernel_rfl) rfl (by kernel_rfl) ?hc0 same (fun _ _ _ _ _ _ _ _ _ => trivial) (fun _ h => nomatch h) (fun x => ?obs) ?fin
   case hc0 => exact ⟨1, rfl⟩
   case obs =>
    refine AnyEvents.obs_cons (.pointer (some ⟨g, 0, none⟩)) rfl (AnyEvents.ob_plain rfl rfl rfl same rfl (fun p W' hwn hW => ?_)) ?_
    ·obtain ⟨nd, rfl⟩ := hW; first | rfl | (go_simp; done) | (go_simp; rfl) | (go_simp; simp only [i64_w]; done)
    try simp only [Act.put, List.setIfInBounds_toArray, List.set_cons_zero, List.set_cons_succ]
    refine AnyEvents.obs_cons (.pointer (some ⟨g, 0, none⟩)) rfl (AnyEvents.ob_plain rfl rfl rfl same rfl (fun p W' hwn hW => ?_)) ?_
    ·obtain ⟨nd, rfl⟩ := hW; first | rfl | (go_simp; done) | (go_simp; rfl) | (go_simp; simp only [i64_w]; done)
    try simp only [Act.put, List.setIfInBounds_toArray, List.set_cons_zero, List.set_cons_succ]
    refine AnyEvents.obs_cons (.pointer (some ⟨g, 6, none⟩)) rfl (AnyEvents.ob_plain rfl rfl rfl same rfl (fun p W' hwn hW => ?_)) ?_
    ·obtain ⟨nd, rfl⟩ := hW; first | rfl | (go_simp; done) | (go_simp; rfl) | (go_simp; simp only [i64_w]; done)
    try simp only [Act.put, List.setIfInBounds_toArray, List.set_cons_zero, List.set_cons_succ]
    refine AnyEvents.obs_cons (.slice Az s.l.length cz) rfl (AnyEvents.ob_plain rfl rfl rfl same rfl (fun p W' hwn hW => ?_)) ?_
    ·obtain ⟨nd, rfl⟩ := hW; have z0 : (wr.drewN nd).cell? ⟨g, 6, none⟩ = some (.slice Az s.l.length cz) := hc6; have z1 : (wr.drewN nd).frozen? ⟨g, 6, none⟩ = false := hf6; first | rfl | (go_simp; done) | (go_simp; rfl) | (go_simp; simp only [i64_w]; done)
    try simp only [Act.put, List.setIfInBounds_toArray, List.set_cons_zero, List.set_cons_succ]
    refine AnyEvents.obs_cons (.int .i64 (s.l.length : Int)) rfl (AnyEvents.ob_plain rfl rfl rfl same rfl (fun p W' hwn hW => ?_)) ?_
    ·obtain ⟨nd, rfl⟩ := hW; first | rfl | (go_simp; done) | (go_simp; rfl) | (go_simp; simp only [i64_w]; done)
    try simp only [Act.put, List.setIfInBounds_toArray, List.set_cons_zero, List.set_cons_succ]
    refine AnyEvents.obs_cons (.pointer (some ⟨g, 0, none⟩)) rfl (AnyEvents.ob_plain rfl rfl rfl same rfl (fun p W' hwn hW => ?_)) ?_
    ·obtain ⟨nd, rfl⟩ := hW; first | rfl | (go_simp; done) | (go_simp; rfl) | (go_simp; simp only [i64_w]; done)
    try simp only [Act.put, List.setIfInBounds_toArray, List.set_cons_zero, List.set_cons_succ]
    refine AnyEvents.obs_cons (.pointer (some ⟨g, 0, none⟩)) rfl (AnyEvents.ob_plain rfl rfl rfl same rfl (fun p W' hwn hW => ?_)) ?_
    ·obtain ⟨nd, rfl⟩ := hW; first | rfl | (go_simp; done) | (go_simp; rfl) | (go_simp; simp only [i64_w]; done)
    try simp only [Act.put, List.setIfInBounds_toArray, List.set_cons_zero, List.set_cons_succ]
    refine AnyEvents.obs_cons (.pointer (some ⟨g, 0, none⟩)) rfl (AnyEvents.ob_plain rfl rfl rfl same rfl (fun p W' hwn hW => ?_)) ?_
    ·obtain ⟨nd, rfl⟩ := hW; first | rfl | (go_simp; done) | (go_simp; rfl) | (go_simp; simp only [i64_w]; done)
    try simp only [Act.put, List.setIfInBounds_toArray, List.set_cons_zero, List.set_cons_succ]
    refine AnyEvents.obs_cons (.int .i64 s.room) rfl (AnyEvents.ob_plain rfl rfl rfl same rfl (fun p W' hwn hW => ?_)) ?_
    ·obtain ⟨nd, rfl⟩ := hW; have z0 : (wr.drewN nd).cell? ⟨g, 0, none⟩ = some (.int .i64 s.room) := hc0; have z1 : (wr.drewN nd).frozen? ⟨g, 0, none⟩ = false := hf0; first | rfl | (go_simp; done) | (go_simp; rfl) | (go_simp; simp only [i64_w]; done)
    try simp only [Act.put, List.setIfInBounds_toArray, List.set_cons_zero, List.set_cons_succ]
    refine AnyEvents.obs_cons (.bool (decide (s.room ≤ (s.l.length : Int)))) rfl (AnyEvents.ob_plain rfl rfl rfl same rfl (fun p W' hwn hW => ?_)) ?_
    ·obtain ⟨nd, rfl⟩ := hW; first | rfl | (go_simp; done) | (go_simp; rfl) | (go_simp; simp only [i64_w]; done)
    try simp only [Act.put, List.setIfInBounds_toArray, List.set_cons_zero, List.set_cons_succ]
    trivial
   case fin =>
    intro x W' hD _
    simp only [List.take_succ_cons, List.take_zero, List.drop_succ_cons, List.drop_zero]
    rw [AnyOrder.lexAt_cons (.pointer (some ⟨g, 0, none⟩)) rfl]
    try simp only [Act.put, List.setIfInBounds_toArray, List.set_cons_zero, List.set_cons_succ]
    rw [AnyOrder.lexAt_cons (.pointer (some ⟨g, 0, none⟩)) rfl]
    try simp only [Act.put, List.setIfInBounds_toArray, List.set_cons_zero, List.set_cons_succ]
    rw [AnyOrder.lexAt_cons (.pointer (some ⟨g, 6, none⟩)) rfl]
    try simp only [Act.put, List.setIfInBounds_toArray, List.set_cons_zero, List.set_cons_succ]
    rw [AnyOrder.lexAt_cons (.slice Az s.l.length cz) rfl]
    try simp only [Act.put, List.setIfInBounds_toArray, List.set_cons_zero, List.set_cons_succ]
    rw [AnyOrder.lexAt_cons (.int .i64 (s.l.length : Int)) rfl]
    try simp only [Act.put, List.setIfInBounds_toArray, List.set_cons_zero, List.set_cons_succ]
    rw [AnyOrder.lexAt_cons (.pointer (some ⟨g, 0, none⟩)) rfl]
    try simp only [Act.put, List.setIfInBounds_toArray, List.set_cons_zero, List.set_cons_succ]
    rw [AnyOrder.lexAt_cons (.pointer (some ⟨g, 0, none⟩)) rfl]
    try simp only [Act.put, List.setIfInBounds_toArray, List.set_cons_zero, List.set_cons_succ]
    rw [AnyOrder.lexAt_cons (.pointer (some ⟨g, 0, none⟩)) rfl]
    try simp only [Act.put, List.setIfInBounds_toArray, List.set_cons_zero, List.set_cons_succ]
    rw [AnyOrder.lexAt_cons (.int .i64 s.room) rfl]
    try simp only [Act.put, List.setIfInBounds_toArray, List.set_cons_zero, List.set_cons_succ]
    rw [AnyOrder.lexAt_cons (.bool (decide (s.room ≤ (s.l.length : Int)))) rfl]
    try simp only [Act.put, List.setIfInBounds_toArray, List.set_cons_zero, List.set_cons_succ]
    rw [AnyOrder.lexAt_nil]
    clear same
    obtain ⟨nd, rfl⟩ := hD
    have ha2 : RefAt (wr.drewN nd) w0.heap.size g s ∧ Below w0.heap.size w0 (wr.drewN nd) ∧ KeepT [44] w (wr.drewN nd) := ⟨HI.out.drawn rfl, pw_below_drewN HB.out nd, HK.out⟩
    clear hbg hle hcm hc0 hc1 hc2 hc3 hc4 hc5 hc6 hf0 hf1 hf2 hf3 hf4 hf5 hf6 HQ_ HI HB HK
    generalize wr.drewN nd = W2 at ha2 ⊢
    have HA := Aside0.mk ha2
    have HI := Aside0.mk ha2.1
    clear ha2
    obtain ⟨Az, cz, ⟨hbg, hle⟩, hcm, ⟨hc0, hc1, hc2, hc3⟩, ⟨hc4, hc5, hc6⟩, ⟨hf0, hf1, hf2, hf3⟩, ⟨hf4, hf5, hf6⟩, HQ⟩ := HI.out.cell
    by_cases hful : s.room ≤ (s.l.length : Int)
    ·have d2 : decide (s.room ≤ (s.l.length : Int)) = true := decide_eq_true hful
     have HFU := Aside0.mk hful
     clear hful
     rw [d2]
     clear d2
     go_wp2
     go_ret2
     have hr := HR.out
     rw [HE.out, HD.out] at hr
     unfold rhold at hr
     rw [if_pos HFU.out, ← HD.out, ← HSB.out] at hr
     subst hr
     exact ⟨_, rfl, HI.out.set 4 _ rfl (fun v => rfl), ownsAt_nil _ _ _ _, below_set HA.out.2.1 HGE.out, RefAt.keep_set HA.out.2.2 HI.out 4 _⟩
    ·have d2 : decide (s.room ≤ (s.l.length : Int)) = false := decide_eq_false hful
     have HFU := Aside0.mk hful
     clear hful
     have HC0 := Aside0.mk (show sternpostref25_Gate_Put.C w0 W2 g s Az cz n f 0 W2 from ⟨hbg, HGE.out, HA.out.2.1, KeepT.refl _ _⟩)
     have HQ_ := Aside0.mk HQ
     have HSZ := Aside0.mk (show s.l.length + 1 ≤ 2147483649 by have := HL.out; have := HPL.out; have := HZ.out; omega)
     clear hbg hle hcm hc0 hc1 hc2 hc3 hc4 hc5 hc6 hf0 hf1 hf2 hf3 hf4 hf5 hf6 HQ
     rw [d2]
     clear d2
     go_upto_region 14 with fail
     have same : ∀ (p : Nat) (W' : World), sternpostref25_Gate_Put.C w0 W2 g s Az cz n f p W' → (fun (b : Bool) (_ : Nat) W1_ W2_ => b = false → Below W1_.heap.size W1_ W2_) false p W' W' := fun p W' _ => fun _ => Below.refl _ _
     refine AnyEvents.region_then 18 (E := [14, 17]) (C := fun p W' => sternpostref25_Gate_Put.C w0 W2 g s Az cz n f p W') (G := fun (b : Bool) (_ : Nat) W1_ W2_ => b = false → Below W1_.heap.size W1_ W2_) (T := [1, 6, 13, 14]) (R := sternpostref25_Gate_Put.R W2 s n f) (vs := [(.pointer (some ⟨g, 0, none⟩)), undef, (.pointer (some ⟨g, 0, none⟩)), (.pointer (some ⟨g, 0, none⟩)), (.pointer (some ⟨g, 6, none⟩)), (.slice Az s.l.length cz), undef, (.int .i64 n), (.slice (some ad) fr.length cf), (.int .i64 iz), (.pointer (some (ad.add iz.toNat))), (.string f), (.agg #[.int .i64 n, .string f]), undef, undef, (.pointer (some ⟨g, 0, none⟩)), (.pointer (some ⟨g, 6, none⟩)), undef]) (by kernel_rfl) (by kernel_rfl) rfl (by kernel_rfl) ?hc0 same (fun b p j W1_ W2_ v hj hg h => sternpostref25_Gate_Put.R_keep hj hg h) (by decide) (fun x => ?obs) ?fin
     case hc0 => exact sternpostref25_Gate_Put.C_below (p := 0) HC0.out ⟨rfl, rfl, rfl, Nat.le_refl _, fun _ _ => rfl⟩
     case obs =>
      refine AnyEvents.obs_cons (.pointer (some ⟨g, 0, none⟩)) rfl (AnyEvents.ob_plain rfl rfl rfl same rfl (fun p W' hwn hC => by first | rfl | (go_simp; done) | (go_simp; rfl))) ?_
      try simp only [Act.put, List.setIfInBounds_toArray, List.set_cons_zero, List.set_cons_succ]
      refine AnyEvents.obs_cons (x 1) rfl (AnyEvents.ob_hand rfl (fun p W' hwn hC ht => ?_)) ?_
      ·have hb := below_alloc (Below.refl W'.heap.size W') (Obj.cells #[] 58)
       refine res_ok (v := .slice (some ⟨W'.heap.size, 0, none⟩) 0 0) (w' := W'.alloc (.cells #[] 58)) (by first | (go_simp; done) | (go_simp; rfl)) ⟨sternpostref25_Gate_Put.C_below hC hb, (fun _ => hb), ?_⟩
       rw [if_pos (by decide)]; unfold sternpostref25_Gate_Put.R; rw [if_pos rfl]
       exact fun _ => ⟨_, _, rfl, (sternpostref25_Gate_Put.C_low hC).2.1, blk_new _ _⟩
      try simp only [Act.put, List.setIfInBounds_toArray, List.set_cons_zero, List.set_cons_succ]
      refine AnyEvents.obs_cons (.pointer (some ⟨g, 0, none⟩)) rfl (AnyEvents.ob_plain rfl rfl rfl same rfl (fun p W' hwn hC => by first | rfl | (go_simp; done) | (go_simp; rfl))) ?_
      try simp only [Act.put, List.setIfInBounds_toArray, List.set_cons_zero, List.set_cons_succ]
      refine AnyEvents.obs_cons (.pointer (some ⟨g, 0, none⟩)) rfl (AnyEvents.ob_plain rfl rfl rfl same rfl (fun p W' hwn hC => by first | rfl | (go_simp; done) | (go_simp; rfl))) ?_
      try simp only [Act.put, List.setIfInBounds_toArray, List.set_cons_zero, List.set_cons_succ]
      refine AnyEvents.obs_cons (.pointer (some ⟨g, 6, none⟩)) rfl (AnyEvents.ob_plain rfl rfl rfl same rfl (fun p W' hwn hC => by first | rfl | (go_simp; done) | (go_simp; rfl))) ?_
      try simp only [Act.put, List.setIfInBounds_toArray, List.set_cons_zero, List.set_cons_succ]
      refine AnyEvents.obs_cons (.slice Az s.l.length cz) rfl (AnyEvents.ob_plain rfl rfl rfl same rfl (fun p W' hwn hC => ?_)) ?_
      ·have hp := hwn.hi 1 17 rfl (by kernel_rfl)
       have hg_ := sternpostref25_Gate_Put.C_blk hC hp
       have z0 : W'.cell? ⟨g, 6, none⟩ = some (.slice Az s.l.length cz) := blk_cell hg_ 6
       have z1 := blk_frozen hg_ 6
       clear hC hg_
       first | (go_simp; done) | (go_simp; rfl)
      try simp only [Act.put, List.setIfInBounds_toArray, List.set_cons_zero, List.set_cons_succ]
      refine AnyEvents.obs_cons (x 6) rfl (AnyEvents.ob_hand rfl (fun p W' hwn hC ht => ?_)) ?_
      ·have hp := hwn.hi 0 14 rfl (by kernel_rfl); obtain rfl : p = 0 := by omega
       have h1 := ht 1 _ _ rfl rfl (by decide) (by kernel_rfl)
       unfold sternpostref25_Gate_Put.R at h1; rw [if_pos rfl] at h1
       obtain ⟨b, cur, e1, e2, e3⟩ := h1 rfl
       obtain ⟨v', w', hr, ho, hb⟩ := run_append0 (P := Try.prog) (w := W') (base := W2.heap.size) (b := b) (cur := cur) (t := 42) (ty := 42) (e := 58) (z := .agg #[.int .i64 0, .string (⟨#[]⟩ : ByteArray)]) (size := 2) (bytes := 24) Try.underlying42 (by kernel_rfl) rfl e2 e3 (SrcAt.own (ownsAt_keepT HQ_.out (sternpostref25_Gate_Put.C_low hC).2 (by decide))) (by have := HSZ.out; simp only [maxLen]; omega) (by have := HSZ.out; omega) (sternpostref25_Gate_Put.C_low hC).2.1
       refine res_ok (exec_append' rfl e1 rfl hr) ⟨sternpostref25_Gate_Put.C_below hC hb, (fun _ => hb), ?_⟩
       rw [if_pos (by decide)]; unfold sternpostref25_Gate_Put.R; rw [if_neg (by decide), if_pos rfl]
       exact fun _ => ho
      try simp only [Act.put, List.setIfInBounds_toArray, List.set_cons_zero, List.set_cons_succ]
      refine AnyEvents.obs_cons (.int .i64 n) rfl (AnyEvents.ob_plain rfl rfl rfl same rfl (fun p W' hwn hC => by first | rfl | (go_simp; done) | (go_simp; rfl))) ?_
      try simp only [Act.put, List.setIfInBounds_toArray, List.set_cons_zero, List.set_cons_succ]
      refine AnyEvents.obs_cons (.slice (some ad) fr.length cf) rfl (AnyEvents.ob_plain rfl rfl rfl same rfl (fun p W' hwn hC => by first | rfl | (go_simp; done) | (go_simp; rfl))) ?_
      try simp only [Act.put, List.setIfInBounds_toArray, List.set_cons_zero, List.set_cons_succ]
      refine AnyEvents.obs_cons (.int .i64 iz) rfl (AnyEvents.ob_plain rfl rfl rfl same rfl (fun p W' hwn hC => by first | rfl | (go_simp; done) | (go_simp; rfl))) ?_
      try simp only [Act.put, List.setIfInBounds_toArray, List.set_cons_zero, List.set_cons_succ]
      refine AnyEvents.obs_cons (.pointer (some (ad.add iz.toNat))) rfl (AnyEvents.ob_plain rfl rfl rfl same rfl (fun p W' hwn hC => by first | rfl | (go_simp; done) | (go_simp; rfl))) ?_
      try simp only [Act.put, List.setIfInBounds_toArray, List.set_cons_zero, List.set_cons_succ]
      refine AnyEvents.obs_cons (.string f) rfl (AnyEvents.ob_plain rfl rfl rfl same rfl (fun p W' hwn hC => ?_)) ?_
      ·have z0 := HAD.out W' (sternpostref25_Gate_Put.C_low hC).1
       clear hC
       first | (go_simp; done) | (go_simp; rfl)
      try simp only [Act.put, List.setIfInBounds_toArray, List.set_cons_zero, List.set_cons_succ]
      refine AnyEvents.obs_cons (.agg #[.int .i64 n, .string f]) rfl (AnyEvents.ob_plain rfl rfl rfl same rfl (fun p W' hwn hC => by first | rfl | (go_simp; done) | (go_simp; rfl))) ?_
      try simp only [Act.put, List.setIfInBounds_toArray, List.set_cons_zero, List.set_cons_succ]
      refine AnyEvents.obs_cons (x 13) rfl (AnyEvents.ob_hand rfl (fun p W' hwn hC ht => ?_)) ?_
      ·have hb := below_alloc (Below.refl W'.heap.size W') (Obj.cells #[.int .i64 n, .string f] 58)
       refine res_ok (v := .slice (some ⟨W'.heap.size, 0, none⟩) 1 1) (w' := W'.alloc (.cells #[.int .i64 n, .string f] 58)) (by first | (go_simp; done) | (go_simp; rfl)) ⟨sternpostref25_Gate_Put.C_below hC hb, (fun _ => hb), ?_⟩
       rw [if_pos (by decide)]; unfold sternpostref25_Gate_Put.R; rw [if_neg (by decide), if_neg (by decide), if_pos rfl]
       exact fun _ => ownsAt_base (ownsAt_lit W' #[.int .i64 n, .string f] 58 2 1 rfl (by decide)) (sternpostref25_Gate_Put.C_low hC).2.1
      try simp only [Act.put, List.setIfInBounds_toArray, List.set_cons_zero, List.set_cons_succ]
      refine AnyEvents.obs_cons (x 14) rfl (AnyEvents.ob_hand rfl (fun p W' hwn hC ht => ?_)) ?_
      ·obtain rfl : p = 0 := hwn.at_ 0 rfl
       have h6 := ht 6 _ _ rfl rfl (by decide) (by kernel_rfl)
       unfold sternpostref25_Gate_Put.R at h6; rw [if_neg (by decide), if_pos rfl] at h6
       have h13 := ht 13 _ _ rfl rfl (by decide) (by kernel_rfl)
       unfold sternpostref25_Gate_Put.R at h13; rw [if_neg (by decide), if_neg (by decide), if_pos rfl] at h13
       have h6 := h6 rfl
       have h13 := h13 rfl
       obtain ⟨c1, c2, c3, c4⟩ := hC
       obtain ⟨v', w', hr, ho, hg, _⟩ := run_append_ats (P := Try.prog) (t := 42) (ty := 42) (e := 58) (z := .agg #[.int .i64 0, .string (⟨#[]⟩ : ByteArray)]) (size := 2) (bytes := 24) Try.underlying42 (by kernel_rfl) rfl (by decide) h6 h13 rfl (by have := HSZ.out; simp only [maxLen]; omega) (by have := HSZ.out; omega) c4.1
       have hrow : ∀ b, (x 6).ownBlock = some b → W2.heap.size ≤ b ∧ ∃ cur, W'.heap[b]? = some (Obj.cells cur 58 (0, 0)) := fun b hb => ownsAt_block h6 hb
       have hgk : w'.heap[g]? = W'.heap[g]? := hg.block g (blk_lt c1) (fun he => by obtain ⟨_, cur', hc'⟩ := hrow g he.symm; rw [c1] at hc'; simp at hc')
       refine res_ok (exec_append' rfl rfl rfl hr) ⟨show sternpostref25_Gate_Put.C w0 W2 g s Az cz n f 1 w' from ⟨hgk.trans c1, c2, below_of_grown c3 hg c3.size (fun b hb => Nat.le_trans HA.out.2.1.size (hrow b hb).1), c4.grown_new hg (fun b hb => (hrow b hb).1)⟩, (fun h => by cases h), ?_⟩
       rw [if_pos (by decide)]; unfold sternpostref25_Gate_Put.R; rw [if_neg (by decide), if_neg (by decide), if_neg (by decide)]
       exact fun _ => ho
      try simp only [Act.put, List.setIfInBounds_toArray, List.set_cons_zero, List.set_cons_succ]
      refine AnyEvents.obs_cons (.pointer (some ⟨g, 0, none⟩)) rfl (AnyEvents.ob_plain rfl rfl rfl same rfl (fun p W' hwn hC => by first | rfl | (go_simp; done) | (go_simp; rfl))) ?_
      try simp only [Act.put, List.setIfInBounds_toArray, List.set_cons_zero, List.set_cons_succ]
      refine AnyEvents.obs_cons (.pointer (some ⟨g, 6, none⟩)) rfl (AnyEvents.ob_plain rfl rfl rfl same rfl (fun p W' hwn hC => by first | rfl | (go_simp; done) | (go_simp; rfl))) ?_
      try simp only [Act.put, List.setIfInBounds_toArray, List.set_cons_zero, List.set_cons_succ]
      refine AnyEvents.obs_cons undef rfl (AnyEvents.ob_hand rfl (fun p W' hwn hC ht => ?_)) ?_
      ·obtain rfl : p = 1 := hwn.at_ 1 rfl
       have h14 := ht 14 _ _ rfl rfl (by decide) (by kernel_rfl)
       unfold sternpostref25_Gate_Put.R at h14; rw [if_neg (by decide), if_neg (by decide), if_neg (by decide)] at h14
       have ho := h14 ⟨rfl, rfl⟩
       obtain ⟨A14, c14, e14, _⟩ := ownsAt_len ho
       rw [e14] at ho
       obtain ⟨c1, c2, c3, c4⟩ := hC
       have hk := KeepT.set (T := [44]) c1 (by decide) 6 (.slice A14 (s.l.length + 1) c14)
       refine res_skip (w' := W'.setCell ⟨g, 6, none⟩ (.slice A14 (s.l.length + 1) c14)) (run_store1 (y := .tmp 91) rfl rfl e14 c1 (by simp [cellsR]) rfl rfl (by kernel_rfl)) ⟨show sternpostref25_Gate_Put.C w0 W2 g s Az cz n f 2 _ from ⟨⟨_, blk_put c1 6 _ rfl, c2, ?_⟩, c2, below_set c3 c2, c4.trans hk⟩, (fun h => by cases h), rfl⟩
       show ownsAt _ _ 58 2 _ (s.l ++ [(n, f)]).length (fcs (s.l ++ [(n, f)])); rw [List.length_append, fcs_app]; exact ownsAt_base (ownsAt_keepT ho hk (by decide)) HA.out.2.1.size
      try simp only [Act.put, List.setIfInBounds_toArray, List.set_cons_zero, List.set_cons_succ]
      trivial
     case fin =>
      intro x W' hC _
      simp only [List.take_succ_cons, List.take_zero, List.drop_succ_cons, List.drop_zero]
      rw [AnyOrder.lexAt_cons (.pointer (some ⟨g, 0, none⟩)) rfl]
      try simp only [Act.put, List.setIfInBounds_toArray, List.set_cons_zero, List.set_cons_succ]
      rw [AnyOrder.lexAt_cons (x 1) rfl]
      try simp only [Act.put, List.setIfInBounds_toArray, List.set_cons_zero, List.set_cons_succ]
      rw [AnyOrder.lexAt_cons (.pointer (some ⟨g, 0, none⟩)) rfl]
      try simp only [Act.put, List.setIfInBounds_toArray, List.set_cons_zero, List.set_cons_succ]
      rw [AnyOrder.lexAt_cons (.pointer (some ⟨g, 0, none⟩)) rfl]
      try simp only [Act.put, List.setIfInBounds_toArray, List.set_cons_zero, List.set_cons_succ]
      rw [AnyOrder.lexAt_cons (.pointer (some ⟨g, 6, none⟩)) rfl]
      try simp only [Act.put, List.setIfInBounds_toArray, List.set_cons_zero, List.set_cons_succ]
      rw [AnyOrder.lexAt_cons (.slice Az s.l.length cz) rfl]
      try simp only [Act.put, List.setIfInBounds_toArray, List.set_cons_zero, List.set_cons_succ]
      rw [AnyOrder.lexAt_cons (x 6) rfl]
      try simp only [Act.put, List.setIfInBounds_toArray, List.set_cons_zero, List.set_cons_succ]
      rw [AnyOrder.lexAt_cons (.int .i64 n) rfl]
      try simp only [Act.put, List.setIfInBounds_toArray, List.set_cons_zero, List.set_cons_succ]
      rw [AnyOrder.lexAt_cons (.slice (some ad) fr.length cf) rfl]
      try simp only [Act.put, List.setIfInBounds_toArray, List.set_cons_zero, List.set_cons_succ]
      rw [AnyOrder.lexAt_cons (.int .i64 iz) rfl]
      try simp only [Act.put, List.setIfInBounds_toArray, List.set_cons_zero, List.set_cons_succ]
      rw [AnyOrder.lexAt_cons (.pointer (some (ad.add iz.toNat))) rfl]
      try simp only [Act.put, List.setIfInBounds_toArray, List.set_cons_zero, List.set_cons_succ]
      rw [AnyOrder.lexAt_cons (.string f) rfl]
      try simp only [Act.put, List.setIfInBounds_toArray, List.set_cons_zero, List.set_cons_succ]
      rw [AnyOrder.lexAt_cons (.agg #[.int .i64 n, .string f]) rfl]
      try simp only [Act.put, List.setIfInBounds_toArray, List.set_cons_zero, List.set_cons_succ]
      rw [AnyOrder.lexAt_cons (x 13) rfl]
      try simp only [Act.put, List.setIfInBounds_toArray, List.set_cons_zero, List.set_cons_succ]
      rw [AnyOrder.lexAt_cons (x 14) rfl]
      try simp only [Act.put, List.setIfInBounds_toArray, List.set_cons_zero, List.set_cons_succ]
      rw [AnyOrder.lexAt_cons (.pointer (some ⟨g, 0, none⟩)) rfl]
      try simp only [Act.put, List.setIfInBounds_toArray, List.set_cons_zero, List.set_cons_succ]
      rw [AnyOrder.lexAt_cons (.pointer (some ⟨g, 6, none⟩)) rfl]
      try simp only [Act.put, List.setIfInBounds_toArray, List.set_cons_zero, List.set_cons_succ]
      rw [AnyOrder.lexAt_cons undef rfl]
      try simp only [Act.put, List.setIfInBounds_toArray, List.set_cons_zero, List.set_cons_succ]
      rw [AnyOrder.lexAt_nil]
      clear same
      go_wp2
      go_roundg k1
      case measure => omega
      case rel =>
       refine ⟨⟨i + 1, _, _, rfl, HN.out, by have := HKQ.out; omega, hC.1, ?_, ?_, hC.2.2.1, HA.out.2.2.trans hC.2.2.2⟩⟩
       ·rw [HE.out, HD.out]; conv => lhs; unfold rhold
        rw [if_neg (show ¬ s.room ≤ (s.l.length : Int) by have := HFU.out; omega)]
       ·show (s.l ++ [(n, f)]).length ≤ _; rw [List.length_append]; have := HL.out; simp; omega
  ·have d1 : decide (iz < (fr.length : Int)) = false := decide_eq_false hlt
   have hd : fr.drop i = [] := List.drop_eq_nil_of_le (by omega)
   have HD := Aside0.mk hd
   clear hd hi hk hlt
   go_wp2
   go_ret2
   have hr := HR.out
   rw [HE.out, HD.out] at hr
   unfold rhold at hr
   subst hr
   exact ⟨_, rfl, HI.out, ownsAt_nil _ _ _ _, HB.out, HK.out⟩



/-! ### sternpostref25_Gate_Confirm: function 17 (by hand) -/
def RSt.max (r : RSt) (n : Int) : RSt := { r with conf := if r.conf < n then n else r.conf }
def RSt.confirm (r : RSt) (n : Int) : RSt × List ByteArray := if r.opn = true then (r, []) else (r.max n).out (if r.conf < n then n else r.conf)
set_option maxHeartbeats 4000000 in
set_option maxRecDepth 100000 in
theorem sternpostref25_Gate_Confirm.calls (g : Nat) (r : RSt) (n : Int) (w0 w : World) (hG : RefAt w w0.heap.size g r) (hB : Below w0.heap.size w0 w) (hl : r.l.length ≤ 1073741824) :
  Calls Try.prog 17 #[.pointer (some ⟨g, 0, none⟩), .int .i64 n] w fun e w' => ∃ v, e = .returned v ∧ RefAt w' w0.heap.size g (r.confirm n).1 ∧ ownsAt w' w.heap.size 9 1 v (r.confirm n).2.length (txt (r.confirm n).2) ∧ Below w0.heap.size w0 w' ∧ KeepT [44] w w' := by
 have HI := Aside0.mk hG
 have HB := Aside0.mk hB
 clear hG hB
 obtain ⟨Az, cz, ⟨hbg, hle⟩, hcm, ⟨hc0, hc1, hc2, hc3⟩, ⟨hc4, hc5, hc6⟩, ⟨hf0, hf1, hf2, hf3⟩, ⟨hf4, hf5, hf6⟩, HQ⟩ := HI.out.cell
 by_cases ho : r.opn = true
 ·have hc : r.confirm n = (r, []) := by unfold RSt.confirm; rw [if_pos ho]
  rw [ho] at hc5
  go_enter Try.func17, Try.ntmps17
  go_wp2
  go_ret
  rw [hc]
  exact ⟨_, rfl, HI.out, ownsAt_nil _ _ _ _, HB.out, KeepT.refl _ _⟩
 have ho' : r.opn = false := by simpa using ho
 have hc : r.confirm n = (r.max n).out (if r.conf < n then n else r.conf) := by unfold RSt.confirm; rw [if_neg ho]
 rw [ho'] at hc5
 rw [hc]
 have hk : (r.max n).conf = if r.conf < n then n else r.conf := rfl
 obtain ⟨mc, hmc⟩ : ∃ m_, (if r.conf < n then n else r.conf) = m_ := ⟨_, rfl⟩
 rw [hmc] at hk ⊢
 clear hc
 have hq1 : (r.max n).l = r.l := rfl
 rw [← hq1] at hl
 have hg1 : ∀ v, (cellsR r v).setIfInBounds 2 (.int .i64 (r.max n).conf) = cellsR (r.max n) v := fun v => rfl
 rw [hk] at hg1
 generalize r.max n = s1 at hl hk hq1 hg1 ⊢
 have HQ1 := Aside0.mk hq1
 have HG1 := Aside0.mk hg1
 clear hq1 hg1
 go_enter Try.func17, Try.ntmps17
 go_upto_region 4 with fail
 clear hbg hle hcm hc0 hc1 hc2 hc3 hc4 hc5 hc6 hf0 hf1 hf2 hf3 hf4 hf5 hf6 HQ
 have i1 : RefAt (w.setCell ⟨g, 2, none⟩ (.int .i64 mc)) w0.heap.size g s1 := HI.out.set 2 _ HQ1.out HG1.out
 have ha := And.intro i1 (And.intro (show Below w0.heap.size w0 (w.setCell ⟨g, 2, none⟩ (.int .i64 mc)) from below_set HB.out HI.out.ge) (RefAt.keep_set (KeepT.refl _ _) HI.out 2 (.int .i64 mc)))
 clear i1 HI HB hmc
 generalize w.setCell ⟨g, 2, none⟩ (.int .i64 mc) = W1 at ha ⊢
 have HA := Aside0.mk ha
 clear ha
 have HI := Aside0.mk HA.out.1
 obtain ⟨Az, cz, ⟨hbg, hle⟩, hcm, ⟨hc0, hc1, hc2, hc3⟩, ⟨hc4, hc5, hc6⟩, ⟨hf0, hf1, hf2, hf3⟩, ⟨hf4, hf5, hf6⟩, HQ⟩ := HI.out.cell
 rw [hk] at hc2
 go_wp2_with fail
 refine (sternpostref25_Gate_out.calls g s1 mc w0 _ HA.out.1 HA.out.2.1 hl).mono ?_
 rintro e W2 ⟨v, rfl, i2, o2, b2, k2⟩
 have i2 := Aside0.mk i2; have o2 := Aside0.mk o2; have b2 := Aside0.mk b2; have k2 := Aside0.mk (HA.out.2.2.trans k2)
 have hz := HA.out.2.2.1
 clear HA
 go_wp2
 go_ret
 exact ⟨v, rfl, i2.out, ownsAt_base o2.out hz, b2.out, k2.out⟩



/-! ### sternpostref25_Gate_Open: function 18 (by hand) -/
def RSt.open_ (r : RSt) : RSt × List ByteArray := RSt.out { r with opn := true, conf := 0 } r.last
set_option maxHeartbeats 4000000 in
set_option maxRecDepth 100000 in
theorem sternpostref25_Gate_Open.calls (g : Nat) (r : RSt) (w0 w : World) (hG : RefAt w w0.heap.size g r) (hB : Below w0.heap.size w0 w) (hl : r.l.length ≤ 1073741824) :
  Calls Try.prog 18 #[.pointer (some ⟨g, 0, none⟩)] w fun e w' => ∃ v, e = .returned v ∧ RefAt w' w0.heap.size g r.open_.1 ∧ ownsAt w' w.heap.size 9 1 v r.open_.2.length (txt r.open_.2) ∧ Below w0.heap.size w0 w' ∧ KeepT [44] w w' := by
 have HI := Aside0.mk hG
 have HB := Aside0.mk hB
 clear hG hB
 obtain ⟨Az, cz, ⟨hbg, hle⟩, hcm, ⟨hc0, hc1, hc2, hc3⟩, ⟨hc4, hc5, hc6⟩, ⟨hf0, hf1, hf2, hf3⟩, ⟨hf4, hf5, hf6⟩, HQ⟩ := HI.out.cell
 unfold RSt.open_
 have hq1 : (RSt.l { r with opn := true, conf := 0 }) = r.l := rfl
 rw [← hq1] at hl
 have hg1 : ∀ v, ((cellsR r v).setIfInBounds 5 (.bool true)).setIfInBounds 2 (.int .i64 0) = cellsR { r with opn := true, conf := 0 } v := fun v => rfl
 have hk : r.last = (RSt.last { r with opn := true, conf := 0 }) := rfl
 rw [hk]
 generalize ({ r with opn := true, conf := 0 } : RSt) = s1 at hl hk hq1 hg1 ⊢
 have HQ1 := Aside0.mk hq1
 have HG1 := Aside0.mk hg1
 clear hq1 hg1 hk
 go_enter Try.func18, Try.ntmps18
 go_upto_region 3 with fail
 clear hbg hle hcm hc0 hc1 hc2 hc3 hc4 hc5 hc6 hf0 hf1 hf2 hf3 hf4 hf5 hf6 HQ
 have i1 : RefAt (w.setCell ⟨g, 5, none⟩ (.bool true)) w0.heap.size g { r with opn := true } := HI.out.set 5 _ rfl (fun v => rfl)
 have k1 : KeepT [44] w (w.setCell ⟨g, 5, none⟩ (.bool true)) := RefAt.keep_set (KeepT.refl _ _) HI.out 5 _
 have i2 : RefAt ((w.setCell ⟨g, 5, none⟩ (.bool true)).setCell ⟨g, 2, none⟩ (.int .i64 0)) w0.heap.size g s1 := i1.set 2 _ HQ1.out HG1.out
 have k2 : KeepT [44] w ((w.setCell ⟨g, 5, none⟩ (.bool true)).setCell ⟨g, 2, none⟩ (.int .i64 0)) := RefAt.keep_set k1 i1 2 _
 have b2 : Below w0.heap.size w0 ((w.setCell ⟨g, 5, none⟩ (.bool true)).setCell ⟨g, 2, none⟩ (.int .i64 0)) := below_set (below_set HB.out HI.out.ge) HI.out.ge
 have ha := And.intro i2 (And.intro b2 k2)
 clear i1 i2 b2 k1 k2 HI HB
 generalize (w.setCell ⟨g, 5, none⟩ (.bool true)).setCell ⟨g, 2, none⟩ (.int .i64 0) = W1 at ha ⊢
 have HA := Aside0.mk ha
 clear ha
 have HI := Aside0.mk HA.out.1
 obtain ⟨Az, cz, ⟨hbg, hle⟩, hcm, ⟨hc0, hc1, hc2, hc3⟩, ⟨hc4, hc5, hc6⟩, ⟨hf0, hf1, hf2, hf3⟩, ⟨hf4, hf5, hf6⟩, HQ⟩ := HI.out.cell
 go_wp2_with fail
 refine (sternpostref25_Gate_out.calls g s1 s1.last w0 _ HA.out.1 HA.out.2.1 hl).mono ?_
 rintro e W2 ⟨v, rfl, i2, o2, b2, k2⟩
 have i2 := Aside0.mk i2; have o2 := Aside0.mk o2; have b2 := Aside0.mk b2; have k2 := Aside0.mk (HA.out.2.2.trans k2)
 have hz := HA.out.2.2.1
 clear HA
 go_wp2
 go_ret
 exact ⟨v, rfl, i2.out, ownsAt_base o2.out hz, b2.out, k2.out⟩



/-! ### sternpostref25_Gate_Shut: function 19 (by hand) -/
def RSt.max0 (r : RSt) (n : Int) : Int := if (if r.conf < n then n else r.conf) < 0 then 0 else (if r.conf < n then n else r.conf)
def RSt.shut (r : RSt) (n : Int) : RSt × List ByteArray := RSt.out { r with opn := false, conf := r.max0 n } (r.max0 n)
set_option maxHeartbeats 4000000 in
set_option maxRecDepth 100000 in
theorem sternpostref25_Gate_Shut.calls (g : Nat) (r : RSt) (n : Int) (w0 w : World) (hG : RefAt w w0.heap.size g r) (hB : Below w0.heap.size w0 w) (hl : r.l.length ≤ 1073741824) :
  Calls Try.prog 19 #[.pointer (some ⟨g, 0, none⟩), .int .i64 n] w fun e w' => ∃ v, e = .returned v ∧ RefAt w' w0.heap.size g (r.shut n).1 ∧ ownsAt w' w.heap.size 9 1 v (r.shut n).2.length (txt (r.shut n).2) ∧ Below w0.heap.size w0 w' ∧ KeepT [44] w w' := by
 have HI := Aside0.mk hG
 have HB := Aside0.mk hB
 clear hG hB
 obtain ⟨Az, cz, ⟨hbg, hle⟩, hcm, ⟨hc0, hc1, hc2, hc3⟩, ⟨hc4, hc5, hc6⟩, ⟨hf0, hf1, hf2, hf3⟩, ⟨hf4, hf5, hf6⟩, HQ⟩ := HI.out.cell
 unfold RSt.shut
 obtain ⟨mc, hmc⟩ : ∃ m_, r.max0 n = m_ := ⟨_, rfl⟩
 rw [hmc]
 unfold RSt.max0 at hmc
 have hq1 : (RSt.l { r with opn := false, conf := mc }) = r.l := rfl
 rw [← hq1] at hl
 have hg1 : ∀ v, ((cellsR r v).setIfInBounds 5 (.bool false)).setIfInBounds 2 (.int .i64 mc) = cellsR { r with opn := false, conf := mc } v := fun v => rfl
 have hk : (RSt.conf { r with opn := false, conf := mc }) = mc := rfl
 generalize ({ r with opn := false, conf := mc } : RSt) = s1 at hl hk hq1 hg1 ⊢
 have HQ1 := Aside0.mk hq1
 have HG1 := Aside0.mk hg1
 clear hq1 hg1
 go_enter Try.func19, Try.ntmps19
 go_upto_region 3 with fail
 clear hbg hle hcm hc0 hc1 hc2 hc3 hc4 hc5 hc6 hf0 hf1 hf2 hf3 hf4 hf5 hf6 HQ
 have i1 : RefAt (w.setCell ⟨g, 5, none⟩ (.bool false)) w0.heap.size g { r with opn := false } := HI.out.set 5 _ rfl (fun v => rfl)
 have k1 : KeepT [44] w (w.setCell ⟨g, 5, none⟩ (.bool false)) := RefAt.keep_set (KeepT.refl _ _) HI.out 5 _
 have i2 : RefAt ((w.setCell ⟨g, 5, none⟩ (.bool false)).setCell ⟨g, 2, none⟩ (.int .i64 mc)) w0.heap.size g s1 := i1.set 2 _ HQ1.out HG1.out
 have k2 : KeepT [44] w ((w.setCell ⟨g, 5, none⟩ (.bool false)).setCell ⟨g, 2, none⟩ (.int .i64 mc)) := RefAt.keep_set k1 i1 2 _
 have b2 : Below w0.heap.size w0 ((w.setCell ⟨g, 5, none⟩ (.bool false)).setCell ⟨g, 2, none⟩ (.int .i64 mc)) := below_set (below_set HB.out HI.out.ge) HI.out.ge
 have ha := And.intro i2 (And.intro b2 k2)
 clear i1 i2 b2 k1 k2 HI HB hmc
 generalize (w.setCell ⟨g, 5, none⟩ (.bool false)).setCell ⟨g, 2, none⟩ (.int .i64 mc) = W1 at ha ⊢
 have HA := Aside0.mk ha
 clear ha
 have HI := Aside0.mk HA.out.1
 obtain ⟨Az, cz, ⟨hbg, hle⟩, hcm, ⟨hc0, hc1, hc2, hc3⟩, ⟨hc4, hc5, hc6⟩, ⟨hf0, hf1, hf2, hf3⟩, ⟨hf4, hf5, hf6⟩, HQ⟩ := HI.out.cell
 rw [hk] at hc2
 go_wp2_with fail
 refine (sternpostref25_Gate_out.calls g s1 mc w0 _ HA.out.1 HA.out.2.1 hl).mono ?_
 rintro e W2 ⟨v, rfl, i2, o2, b2, k2⟩
 have i2 := Aside0.mk i2; have o2 := Aside0.mk o2; have b2 := Aside0.mk b2; have k2 := Aside0.mk (HA.out.2.2.trans k2)
 have hz := HA.out.2.2.1
 clear HA
 go_wp2
 go_ret
 exact ⟨v, rfl, i2.out, ownsAt_base o2.out hz, b2.out, k2.out⟩



/-! ### sternpostref25_Gate_Clear: function 20 (by hand) -/
set_option maxHeartbeats 4000000 in
set_option maxRecDepth 100000 in
theorem sternpostref25_Gate_Clear.calls (g : Nat) (r : RSt) (w0 w : World) (hG : RefAt w w0.heap.size g r) (hB : Below w0.heap.size w0 w) :
  Calls Try.prog 20 #[.pointer (some ⟨g, 0, none⟩)] w fun e w' => e = .returned (.int .i64 (r.l.length : Int)) ∧ RefAt w' w0.heap.size g { r with l := [] } ∧ Below w0.heap.size w0 w' ∧ KeepT [44] w w' := by
 have HI := Aside0.mk hG
 have HB := Aside0.mk hB
 clear hG hB
 obtain ⟨Az, cz, ⟨hbg, hle⟩, hcm, ⟨hc0, hc1, hc2, hc3⟩, ⟨hc4, hc5, hc6⟩, ⟨hf0, hf1, hf2, hf3⟩, ⟨hf4, hf5, hf6⟩, HQ⟩ := HI.out.cell
 go_enter Try.func20, Try.ntmps20
 go_wp2
 go_ret
 obtain ⟨v, h1, h2, h3⟩ := HI.out
 have k1 := blk_put h1 6 (.slice none 0 0) rfl
 exact ⟨rfl, ⟨.slice none 0 0, k1, h2, ownsAt_nil _ _ _ _⟩, below_set HB.out h2, KeepT.set h1 (by decide) _ _⟩



/-! ### sternpostbook_SpoilTexts: function 21 (by hand) -/
theorem ownsAt_put {w : World} {base : Nat} {e : TypeId} {g o n c : Nat} {xs : List Value} (h : ownsAt w base e 1 (.slice (some ⟨g, o, none⟩) n c) n xs) (j : Nat) (hj : j < n) (b : ByteArray) : ownsAt (w.setCell ⟨g, o + j, none⟩ (.string b)) base e 1 (.slice (some ⟨g, o, none⟩) n c) n (xs.set j (.string b)) := by
 refine ⟨by rw [List.length_set]; exact h.1, ?_⟩
 rcases h.2 with ⟨hv, h0⟩ | ⟨g', o', cap, cur, hv, hb, hg, hc, hm, hs, ht⟩
 ·omega
 ·injection hv with h1 _ h3
  injection h1 with h1
  injection h1 with h4 h5 _
  subst h3 h4 h5
  refine .inr ⟨g, o, c, _, rfl, hb, blk_put hg (o + j) (.string b) rfl, hc, hm, by rw [Array.size_setIfInBounds]; exact hs, ?_⟩
  rw [← ht, Array.toList_setIfInBounds, List.drop_set, if_neg (by omega), Nat.add_sub_cancel_left, List.take_set]
set_option maxHeartbeats 4000000 in
set_option maxRecDepth 100000 in
theorem sternpostbook_SpoilTexts.calls (base : Nat) (A : Option Addr) (c : Nat) (l : List ByteArray) (w : World) (hO : ownsAt w base 9 1 (.slice A l.length c) l.length (txt l)) :
  Calls Try.prog 21 #[.slice A l.length c] w fun e w' => e = .returned (.tuple #[]) ∧ w.grownBy w' (Value.ownBlock (.slice A l.length c)) := by
 have HO0 := Aside0.mk hO
 have HLC := Aside0.mk (show l.length ≤ maxLen by obtain ⟨_, _, he, h1, h2, _⟩ := ownsAt_len hO; omega)
 clear hO
 go_enter Try.func21, Try.ntmps21
 go_wp2
 go_loopg [2] l.length (fun kq v2 W => ∃ (i : Nat) (iz : Int) (l' : List ByteArray), v2 = .int .i64 iz ∧ Aside0 (iz = (i : Int) ∧ kq + i = l.length ∧ l'.length = l.length) ∧ Aside0 (ownsAt W base 9 1 (.slice A l.length c) l.length (txt l')) ∧ Aside0 (w.grownBy W (Value.ownBlock (.slice A l.length c))))
 case atStart => exact ⟨0, 0, l, rfl, ⟨rfl, rfl, rfl⟩, HO0, ⟨⟨rfl, rfl, rfl, Nat.le_refl _, fun _ _ _ => rfl⟩⟩⟩
 case round =>
  clear HO0
  obtain ⟨i, iz, l', rfl, HK, HO, HG⟩ := hrel
  have hk_ := HK.out
  by_cases hlt : iz < (l.length : Int)
  ·have d1 : decide (iz < (l.length : Int)) = true := decide_eq_true hlt
   have p0 : 0 ≤ iz := by omega
   obtain ⟨k1, rfl⟩ : ∃ k1, gk = k1 + 1 := ⟨gk - 1, by omega⟩
   obtain ⟨h, o, rfl, hcells⟩ := ownsAt_cells HO.out (by omega)
   obtain ⟨x, hx'⟩ : ∃ x, l'[i]? = some x := ⟨_, List.getElem?_eq_getElem (by omega)⟩
   have hx := hcells i (.string x) (by unfold txt; rw [List.getElem?_map, hx']; rfl)
   clear hx'
   have hz := ownsAt_frozen HO.out (o + i)
   have hn : wrap64 (iz + 1) = ((i + 1 : Nat) : Int) := by have := HLC.out; simp only [maxLen] at this; rw [w64r (by omega) (by omega)]; omega
   have HN := Aside0.mk hn
   have tn : iz.toNat = i := by omega
   have HIL := Aside0.mk (show i < l.length by omega)
   clear hn hcells hk_
   replace p0 := eq_true p0
   replace hlt := eq_true hlt
   go_wp2
   go_roundg k1
   case measure => omega
   case rel =>
    have hs := ownsAt_put HO.out i HIL.out (⟨#[115, 112, 111, 105, 108, 116]⟩ : ByteArray)
    refine ⟨i + 1, _, l'.set i ⟨#[115, 112, 111, 105, 108, 116]⟩, rfl, ⟨HN.out, by have := HK.out; omega, by rw [List.length_set]; exact HK.out.2.2⟩, ⟨by simpa [txt, List.map_set] using hs⟩, ⟨⟨HG.out.os, HG.out.tape, HG.out.output, by simpa [World.setCell] using HG.out.size, fun k hk hkr => ?_⟩⟩⟩
    rw [heap_setCell_other _ _ _ _ (fun he => hkr (by rw [he]; rfl))]
    exact HG.out.block k hk hkr
  ·have d1 : decide (iz < (l.length : Int)) = false := decide_eq_false hlt
   clear hlt hk_
   go_wp2
   first | go_end0 | ((try simp only [Exit.inBlock, Exit.then]); refine bodyPost_ret (results_none rfl _ _ _) rfl ?_)
   exact ⟨rfl, HG.out⟩



/-! ### gate_Gate_State: function 22 (by hand) -/
set_option maxHeartbeats 4000000 in
set_option maxRecDepth 100000 in
theorem gate_Gate_State.calls (g base top : Nat) (s : GSt) (w : World) (hG : GateAt w base top g s) :
  Calls Try.prog 22 #[.pointer (some ⟨g, 0, none⟩)] w fun e w' => e = .returned (.tuple #[.bool s.opn, .int .i64 s.conf, .int .i64 s.gone, .int .i64 s.lost]) ∧ Drawn0 w w' := by
 have HI := Aside0.mk hG
 obtain ⟨Az, cz, ⟨hbg, hle⟩, hcm, ⟨hc0, hc1, hc2, hc3⟩, ⟨hc4, hc5, hc6, hc7⟩, ⟨hf0, hf1, hf2, hf3⟩, ⟨hf4, hf5, hf6, hf7⟩, csz, HQ, HE⟩ := HI.out.cell
 go_enter Try.func22, Try.ntmps22
 go_wp2
 repeat (go_quiet (fail); try go_wp2)
 refine bodyPost_ret (results_list (rs := [.tmp 2, .tmp 3, .tmp 4, .tmp 5]) rfl (by simp) (.tmp (.tmp (.tmp (.tmp .nil))))) rfl ?_
 exact ⟨rfl, by repeat (first | exact Drawn0.refl _ | apply Drawn0.step)⟩


end Go.Proofs.Ytcmpkgmhcbnmbaa.PGatePlays

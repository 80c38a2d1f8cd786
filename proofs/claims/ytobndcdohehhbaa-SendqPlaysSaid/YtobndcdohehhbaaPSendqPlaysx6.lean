-- Laid by this claim's own program over the print's words.
import Derived.Test.YtobndcdohehhbaaPSendqPlaysx0
import Derived.Test.YtobndcdohehhbaaPSendqPlaysx1
import Derived.Test.YtobndcdohehhbaaPSendqPlaysx3
import Derived.Test.YtobndcdohehhbaaPSendqPlaysx5
namespace Go.Proofs.Ytobndcdohehhbaa.PSendqPlays
open Go.RowKit Go.Proofs.YtobndcdohehhbaaW.PrintWords Go.Proofs.YtobndcdohehhbaaW.PrintLast Go.Proofs.YtobndcdohehhbaaW.PrintMore
attribute [local go_sem] max2_int min2_int max_two min_two max_three min_three max_four min_four max_five min_five extract_cut tmod_nat_lit   -- for this text's walks alone
set_option linter.unusedVariables false
set_option linter.unusedSimpArgs false


/-! ### sternpostref15_Queue_Write: function 34 (by hand) -/
-- over sternpostref15_Queue_Fork.calls sternpostref15_Queue_Fork.callsR sendq_Queue_Write.calls sendq_Queue_Write.callsR
theorem run_append0r {P : Program} {w : World} {base b : Nat} {t ty e : TypeId} {z : Value} {size bytes m : Nat} {y : Value} {news : List Value} (ht : P.underlying t = some (.slice e)) (hi : (P.info? e).map (fun i => (i.size, i.bytes, i.zero)) = some (size, bytes, some z)) (hzs : z.cells.size = size)
  (hb : base ≤ b) (hcur : w.heap[b]? = some (.cells #[] e (0, 0))) (hy : SrcAt w size y m news) (h63 : m ≤ maxLen) (hbytes : m * bytes ≤ 140737488355328) (hbase : base ≤ w.heap.size) :
  ∃ v' w', (Builtin.append_ #[t, t] ty #[.slice (some ⟨b, 0, none⟩) 0 0, y]).run P w = .ok v' w' ∧ w'.ownsRow base e size v' m news ∧ Below w.heap.size w w' := by
 rw [Option.map_eq_some_iff] at hi
 obtain ⟨i, hi, he⟩ := hi
 simp only [Prod.mk.injEq] at he
 obtain ⟨rfl, rfl, e3⟩ := he
 obtain ⟨hl, ⟨rfl, A, c, rfl⟩ | ⟨a, c, rfl, hnews⟩⟩ := hy
 ·have hn : news = [] := List.eq_nil_of_length_eq_zero (by simpa using hl)
  subst hn
  refine ⟨.slice (some ⟨b, 0, none⟩) 0 0, w, ?_, ⟨by simp, .inr ⟨b, 0, #[], rfl, hb, hcur, Nat.le_refl _, Nat.zero_le _, by simp, by simp⟩⟩, Below.refl _ _⟩
  cases A <;> simp [Builtin.append_, run_underlying ht, sizeOf, typeInfo, hi, Builtin.lenOf, Builtin.firstCells, loadCells, loadCellsFrom, storeCells]
 ·by_cases h0 : 0 < m
  ·have hr := run_append_grow (P := P) (w := w) t ty e i z ht hi e3 ⟨b, 0, none⟩ 0 0 [] (by simp) (fun j v h => by simp at h) a m c news hl hnews (by omega) (by simp only [maxLen] at h63; omega) (growslice_fits (by omega) (by simpa using hbytes))
   have hge := grownCap_ge w (0 + m) 0 e
   have hcm' : grownCap w (0 + m) 0 e ≤ maxLen := grownCap_le_maxLen w (0 + m) 0 e (by simpa using h63)
   refine ⟨_, _, hr, ⟨hl, .inr ⟨w.heap.size, _, _, by rw [Nat.zero_add], hbase, heap_alloc_new w.drew _, by simpa using hge, by simpa using hcm', ?_, ?_⟩⟩, ⟨rfl, rfl, rfl, by simp, fun k hk => by first | exact heap_alloc_old w.drew _ hk | exact heap_alloc_old w.drew _ k hk⟩⟩
   ·simp only [Array.size_append, List.size_toArray, size_zeroCells, hzs, hl, List.length_nil, Nat.zero_add]
    rw [← Nat.add_mul]
    congr 1
    have hge' : m ≤ grownCap w m 0 e := by simpa using hge
    omega
   ·simp only [Array.toList_append, List.append_assoc, List.nil_append]
    rw [← hl]
    exact List.take_left
  ·obtain rfl : m = 0 := by omega
   have hn : news = [] := List.eq_nil_of_length_eq_zero (by simpa using hl)
   subst hn
   refine ⟨.slice (some ⟨b, 0, none⟩) 0 0, w, ?_, ⟨by simp, .inr ⟨b, 0, #[], rfl, hb, hcur, Nat.le_refl _, Nat.zero_le _, by simp, by simp⟩⟩, Below.refl _ _⟩
   simp [Builtin.append_, run_underlying ht, sizeOf, typeInfo, hi, Builtin.lenOf, Builtin.firstCells, loadCells, loadCellsFrom, storeCells]
theorem wl_append0r {P : Program} {ops : Array Oper} {rest : List Oper} {o : Oper} {a : Act} {Q : Exit → Act → World → Prop} {w : World} {base b : Nat} (t e : TypeId) (z : Value) (size bytes : Nat) {s x : Operand}
  (hw : Region.wanted o (yielded ops a.tmps) = true) (ho : o.op = .call { callee := .builtin .append, args := #[s, x], argTypes := #[t, t] }) (ht : P.underlying t = some (.slice e)) (hi : (P.info? e).map (fun i => (i.size, i.bytes, i.zero)) = some (size, bytes, some z))
  (hzs : z.cells.size = size) {y : Value} {m : Nat} {news : List Value} (hs : a.eval s = .slice (some ⟨b, 0, none⟩) 0 0) (hx : a.eval x = y) (hb : base ≤ b) (hcur : w.heap[b]? = some (.cells #[] e (0, 0))) (hy : SrcAt w size y m news) 
  (h63 : m ≤ maxLen) (hbytes : m * bytes ≤ 140737488355328) (hbase : base ≤ w.heap.size)
  (h : ∀ v' w', w'.ownsRow base e size v' m news → Below w.heap.size w w' → wpList P ops Q rest (a.put o.dst v') w') : wpList P ops Q (o :: rest) a w := by
 obtain ⟨v', w', hr, h2, h3⟩ := run_append0r (P := P) (ty := o.type) ht hi hzs hb hcur hy h63 hbytes hbase
 unfold wpList
 rw [if_pos hw]
 refine .inl ?_
 unfold Oper.wp execOp
 simp only [ho, resolve, invoke, builtin, Sem.run_bind, Sem.run_pure, Result.andThen_ok, List.map_toArray, List.map_cons, List.map_nil, hs, hx, hr]
 exact h v' w' h2 h3
def Stop_ (p : Prop) : Prop := p
theorem stop_ {P : Program} {ops : Array Oper} {l : List Oper} {a : Act} {Q : Exit → Act → World → Prop} {w : World} (h : Stop_ (wpList P ops Q l a w)) : wpList P ops Q l a w := h
theorem wl_append_z {P : Program} {ops : Array Oper} {rest : List Oper} {o : Oper} {a : Act} {Q : Exit → Act → World → Prop} {w : World} {base : Nat} (t ti e : TypeId) (z : Value) (size bytes : Nat) {s x : Operand} {k kx : IntKind}
  (hw : Region.wanted o (yielded ops a.tmps) = true) (ho : o.op = .call { callee := .builtin .append, args := #[s, x], argTypes := #[t, ti] }) (ht : P.underlying t = some (.slice e)) (hti : P.underlying ti = some (.int k)) (hi : (P.info? e).map (fun i => (i.size, i.bytes, i.zero)) = some (size, bytes, some z))
  (hzs : z.cells.size = size) (hs0 : 0 < size) (hb0 : 0 < bytes) {v : Value} {n m : Nat} {xs : List Value} (hs : a.eval s = v) (hx : a.eval x = .int kx (m : Int)) (hown : w.ownsRow base e size v n xs) (h1 : ∀ u ∈ (Builtin.zeroCells z.cells m).toList, u.oneCell' = true)
  (hbytes : (n + m) * bytes ≤ 140737488355328) (hbase : base ≤ w.heap.size)
  (h : ∀ v' w', w'.ownsRow base e size v' (n + m) (xs ++ (Builtin.zeroCells z.cells m).toList) → w.grownBy w' v.ownBlock → wpList P ops Q rest (a.put o.dst v') w') : wpList P ops Q (o :: rest) a w := by
 rw [Option.map_eq_some_iff] at hi
 obtain ⟨i, hi, he⟩ := hi
 simp only [Prod.mk.injEq] at he
 obtain ⟨e1, e2, e3⟩ := he
 obtain ⟨v', w', hr, h2, h3, _⟩ := run_append_zeros (P := P) w base t ti o.type e i z size bytes ht hti hi e3 e1 e2 hzs hs0 hb0 v n xs hown kx m h1 hbytes hbase
 unfold wpList
 rw [if_pos hw]
 refine .inl ?_
 unfold Oper.wp execOp
 simp only [ho, resolve, invoke, builtin, Sem.run_bind, Sem.run_pure, Result.andThen_ok, List.map_toArray, List.map_cons, List.map_nil, hs, hx, hr]
 exact h v' w' h2 h3
theorem bos_zeros (m : Nat) : (Builtin.zeroCells (Value.bool false).cells m).toList = bos (List.replicate m false) := by
 unfold Builtin.zeroCells bos
 rw [List.map_replicate]
 apply List.ext_getElem
 ·simp [Value.cells]
 ·intro i h1 h2; simp [Value.cells, Nat.mod_one]
theorem own_grownBy {a : World} {v : Value} {n base : Nat} {xs : List Value} {e : TypeId} {size : Nat} (h : a.ownsRow base e size v n xs) : ∀ g, v.ownBlock = some g → base ≤ g := by
 intro g hg
 rcases h.2 with ⟨rfl, _⟩ | ⟨g', _, _, rfl, h2, _⟩
 ·cases hg
 ·simp [Value.ownBlock] at hg; omega
def RQ.room_ (q : RQ) (s : ByteArray) : Nat := min s.size (q.room - (q.s.size : Int)).toNat
def RQ.write (q : RQ) (s : ByteArray) : RQ × Int × Int := if q.room_ s = 0 ∧ s.toList ≠ [] then (q, 0, 150) else ({ q with s := q.s ++ cutS s 0 (q.room_ s), got := q.got ++ List.replicate (q.room_ s) false }, (q.room_ s : Int), 0)
set_option maxHeartbeats 4000000 in
set_option maxRecDepth 100000 in
theorem sternpostref15_Queue_Write.callsR (g top : Nat) (q : RQ) (s : ByteArray) (w0 w : World) (hI : RefAt w w0.heap.size top g q) (hB : Below w0.heap.size w0 w) (hr : (q.s.size : Int) ≤ q.room ∧ q.room ≤ 65536) (hs : s.size ≤ 9223372036854775807) (hT : top ≤ w.heap.size) (hgl : q.got.length ≤ 1000000) :
  Calls Try.prog 34 #[.pointer (some ⟨g, 0, none⟩), .string s] w fun e w' => e = .returned (.tuple #[.int .i64 (q.write s).2.1, .int .i64 (q.write s).2.2]) ∧ RefAt w' w0.heap.size top g ((q.write s).1) ∧ Below w0.heap.size w0 w' ∧ KeepG g w w' := by
 have HI := Aside0.mk hI
 have HB := Aside0.mk hB
 clear hI hB
 obtain ⟨Az, cz, ⟨hbg, hge⟩, ⟨hle, hcm⟩, ⟨hc0, hc1, hc2, hc3, hc4⟩, ⟨hf0, hf1, hf2, hf3, hf4⟩, HQ⟩ := HI.out.cell
 have hn0 : (if wrap64 (q.room - (q.s.size : Int)) < (s.size : Int) then wrap64 (q.room - (q.s.size : Int)) else (s.size : Int)) = (q.room_ s : Int) := by
  unfold RQ.room_
  rw [w64p (by omega) (by omega)]
  split <;> omega
 have hle2 : q.room_ s ≤ s.size ∧ q.room_ s ≤ 65536 := by unfold RQ.room_; omega
 obtain ⟨n, hn⟩ : ∃ n_, q.room_ s = n_ := ⟨_, rfl⟩
 rw [hn] at hn0 hle2
 have HN := Aside0.mk hn0
 have HL := Aside0.mk (And.intro hle2.1 (And.intro hle2.2 hr))
 have HT := Aside0.mk hT
 have HGL := Aside0.mk hgl
 clear hn0 hle2 hr hT hgl
 by_cases c1 : n = 0 ∧ s.toList ≠ []
 ·have e : q.write s = (q, 0, 150) := by unfold RQ.write; rw [hn, if_pos c1]
  rw [e]
  obtain ⟨c2, c3⟩ := c1
  have b2 : ((n : Int) == 0) = true := beq_iff_eq.mpr (by omega)
  have b3 : s.toList.isEmpty = false := by cases h : s.toList with | nil => exact absurd h c3 | cons _ _ => rfl
  clear c3 c2 e hn
  go_enter Try.func34, Try.ntmps34
  go_upto_region 1 with fail
  have same : ∀ (ph : Nat) W', Drawn0 w W' → True := fun _ _ _ => trivial
  refine AnyEvents.region_then 14 (E := []) (C := fun (_ : Nat) W' => Drawn0 w W') (G := fun _ _ _ _ => True) (T := []) (R := fun _ _ _ _ => True) (vs := [?v27_0, ?v27_1, ?v27_2, ?v27_3, ?v27_4, ?v27_5, ?v27_6, ?v27_7, ?v27_8, ?v27_9, ?v27_10, ?v27_11, ?v27_12, ?v27_13]) (by kernel_rfl) (by kernel_rfl) rfl (by kernel_rfl) ?hc27r same (fun _ _ _ _ _ _ _ _ _ => trivial) (fun _ h => nomatch h) (fun x => ?obs27r) ?fin27r
  case hc27r => exact ⟨1, rfl⟩
  case obs27r =>
   refine AnyEvents.obs_cons ?v27_0 (val_hole (by simp only [List.getD_cons_zero, List.getD_cons_succ])) (AnyEvents.ob_plain (v := ?v27_0) rfl rfl rfl same (by simp only [List.getD_cons_zero, List.getD_cons_succ]) (fun ph W' hwn hW => ?_)) ?_
   ·obtain ⟨nd, rfl⟩ := hW; have z0 := drew_cell nd hc2; have z1 := drew_cell nd hc3; first | (go_simp; done) | (go_simp; (try simp only [i64_w]); rfl) | (go_simp; simp; rfl)
   try simp only [Act.put, List.setIfInBounds_toArray, List.set_cons_zero, List.set_cons_succ]
   refine AnyEvents.obs_cons ?v27_1 (val_hole (by simp only [List.getD_cons_zero, List.getD_cons_succ])) (AnyEvents.ob_plain (v := ?v27_1) rfl rfl rfl same (by simp only [List.getD_cons_zero, List.getD_cons_succ]) (fun ph W' hwn hW => ?_)) ?_
   ·obtain ⟨nd, rfl⟩ := hW; have z0 := drew_cell nd hc2; have z1 := drew_cell nd hc3; first | (go_simp; done) | (go_simp; (try simp only [i64_w]); rfl) | (go_simp; simp; rfl)
   try simp only [Act.put, List.setIfInBounds_toArray, List.set_cons_zero, List.set_cons_succ]
   refine AnyEvents.obs_cons ?v27_2 (val_hole (by simp only [List.getD_cons_zero, List.getD_cons_succ])) (AnyEvents.ob_plain (v := ?v27_2) rfl rfl rfl same (by simp only [List.getD_cons_zero, List.getD_cons_succ]) (fun ph W' hwn hW => ?_)) ?_
   ·obtain ⟨nd, rfl⟩ := hW; have z0 := drew_cell nd hc2; have z1 := drew_cell nd hc3; first | (go_simp; done) | (go_simp; (try simp only [i64_w]); rfl) | (go_simp; simp; rfl)
   try simp only [Act.put, List.setIfInBounds_toArray, List.set_cons_zero, List.set_cons_succ]
   refine AnyEvents.obs_cons ?v27_3 (val_hole (by simp only [List.getD_cons_zero, List.getD_cons_succ])) (AnyEvents.ob_plain (v := ?v27_3) rfl rfl rfl same (by simp only [List.getD_cons_zero, List.getD_cons_succ]) (fun ph W' hwn hW => ?_)) ?_
   ·obtain ⟨nd, rfl⟩ := hW; have z0 := drew_cell nd hc2; have z1 := drew_cell nd hc3; first | (go_simp; done) | (go_simp; (try simp only [i64_w]); rfl) | (go_simp; simp; rfl)
   try simp only [Act.put, List.setIfInBounds_toArray, List.set_cons_zero, List.set_cons_succ]
   refine AnyEvents.obs_cons ?v27_4 (val_hole (by simp only [List.getD_cons_zero, List.getD_cons_succ])) (AnyEvents.ob_plain (v := ?v27_4) rfl rfl rfl same (by simp only [List.getD_cons_zero, List.getD_cons_succ]) (fun ph W' hwn hW => ?_)) ?_
   ·obtain ⟨nd, rfl⟩ := hW; have z0 := drew_cell nd hc2; have z1 := drew_cell nd hc3; first | (go_simp; done) | (go_simp; (try simp only [i64_w]); rfl) | (go_simp; simp; rfl)
   try simp only [Act.put, List.setIfInBounds_toArray, List.set_cons_zero, List.set_cons_succ]
   refine AnyEvents.obs_cons ?v27_5 (val_hole (by simp only [List.getD_cons_zero, List.getD_cons_succ])) (AnyEvents.ob_plain (v := ?v27_5) rfl rfl rfl same (by simp only [List.getD_cons_zero, List.getD_cons_succ]) (fun ph W' hwn hW => ?_)) ?_
   ·obtain ⟨nd, rfl⟩ := hW; have z0 := drew_cell nd hc2; have z1 := drew_cell nd hc3; first | (go_simp; done) | (go_simp; (try simp only [i64_w]); rfl) | (go_simp; simp; rfl)
   try simp only [Act.put, List.setIfInBounds_toArray, List.set_cons_zero, List.set_cons_succ]
   refine AnyEvents.obs_cons ?v27_6 (val_hole (by simp only [List.getD_cons_zero, List.getD_cons_succ])) (AnyEvents.ob_plain (v := ?v27_6) rfl rfl rfl same (by simp only [List.getD_cons_zero, List.getD_cons_succ]) (fun ph W' hwn hW => ?_)) ?_
   ·obtain ⟨nd, rfl⟩ := hW; have z0 := drew_cell nd hc2; have z1 := drew_cell nd hc3; first | (go_simp; done) | (go_simp; (try simp only [i64_w]); rfl) | (go_simp; simp; rfl)
   try simp only [Act.put, List.setIfInBounds_toArray, List.set_cons_zero, List.set_cons_succ]
   refine AnyEvents.obs_cons ?v27_7 (val_hole (by simp only [List.getD_cons_zero, List.getD_cons_succ])) (AnyEvents.ob_plain (v := ?v27_7) rfl rfl rfl same (by simp only [List.getD_cons_zero, List.getD_cons_succ]) (fun ph W' hwn hW => ?_)) ?_
   ·obtain ⟨nd, rfl⟩ := hW; have z0 := drew_cell nd hc2; have z1 := drew_cell nd hc3; first | (go_simp; done) | (go_simp; (try simp only [i64_w]); rfl) | (go_simp; simp; rfl)
   try simp only [Act.put, List.setIfInBounds_toArray, List.set_cons_zero, List.set_cons_succ]
   refine AnyEvents.obs_cons ?v27_8 (val_hole (by simp only [List.getD_cons_zero, List.getD_cons_succ])) (AnyEvents.ob_plain (v := ?v27_8) rfl rfl rfl same (by simp only [List.getD_cons_zero, List.getD_cons_succ]) (fun ph W' hwn hW => ?_)) ?_
   ·obtain ⟨nd, rfl⟩ := hW; have z0 := drew_cell nd hc2; have z1 := drew_cell nd hc3; first | (go_simp; done) | (go_simp; (try simp only [i64_w]); rfl) | (go_simp; simp; rfl)
   try simp only [Act.put, List.setIfInBounds_toArray, List.set_cons_zero, List.set_cons_succ]
   refine AnyEvents.obs_cons ?v27_9 (val_hole (by simp only [List.getD_cons_zero, List.getD_cons_succ])) (AnyEvents.ob_plain (v := ?v27_9) rfl rfl rfl same (by simp only [List.getD_cons_zero, List.getD_cons_succ]) (fun ph W' hwn hW => ?_)) ?_
   ·obtain ⟨nd, rfl⟩ := hW; have z0 := drew_cell nd hc2; have z1 := drew_cell nd hc3; first | (go_simp; done) | (go_simp; (try simp only [i64_w]); rfl) | (go_simp; simp; rfl)
   try simp only [Act.put, List.setIfInBounds_toArray, List.set_cons_zero, List.set_cons_succ]
   refine AnyEvents.obs_cons ?v27_10 (val_hole (by simp only [List.getD_cons_zero, List.getD_cons_succ])) (AnyEvents.ob_plain (v := ?v27_10) rfl rfl rfl same (by simp only [List.getD_cons_zero, List.getD_cons_succ]) (fun ph W' hwn hW => ?_)) ?_
   ·obtain ⟨nd, rfl⟩ := hW; have z0 := drew_cell nd hc2; have z1 := drew_cell nd hc3; first | (go_simp; done) | (go_simp; (try simp only [i64_w]); rfl) | (go_simp; simp; rfl)
   try simp only [Act.put, List.setIfInBounds_toArray, List.set_cons_zero, List.set_cons_succ]
   refine AnyEvents.obs_cons ?v27_11 (val_hole (by simp only [List.getD_cons_zero, List.getD_cons_succ])) (AnyEvents.ob_plain (v := ?v27_11) rfl rfl rfl same (by simp only [List.getD_cons_zero, List.getD_cons_succ]) (fun ph W' hwn hW => ?_)) ?_
   ·obtain ⟨nd, rfl⟩ := hW; have z0 := drew_cell nd hc2; have z1 := drew_cell nd hc3; first | (go_simp; done) | (go_simp; (try simp only [i64_w]); rfl) | (go_simp; simp; rfl)
   try simp only [Act.put, List.setIfInBounds_toArray, List.set_cons_zero, List.set_cons_succ]
   refine AnyEvents.obs_cons ?v27_12 (val_hole (by simp only [List.getD_cons_zero, List.getD_cons_succ])) (AnyEvents.ob_plain (v := ?v27_12) rfl rfl rfl same (by simp only [List.getD_cons_zero, List.getD_cons_succ]) (fun ph W' hwn hW => ?_)) ?_
   ·obtain ⟨nd, rfl⟩ := hW; have z0 := drew_cell nd hc2; have z1 := drew_cell nd hc3; first | (go_simp; done) | (go_simp; (try simp only [i64_w]); rfl) | (go_simp; simp; rfl)
   try simp only [Act.put, List.setIfInBounds_toArray, List.set_cons_zero, List.set_cons_succ]
   refine AnyEvents.obs_cons ?v27_13 (val_hole (by simp only [List.getD_cons_zero, List.getD_cons_succ])) (AnyEvents.ob_plain (v := ?v27_13) rfl rfl rfl same (by simp only [List.getD_cons_zero, List.getD_cons_succ]) (fun ph W' hwn hW => ?_)) ?_
   ·obtain ⟨nd, rfl⟩ := hW; have z0 := drew_cell nd hc2; have z1 := drew_cell nd hc3; first | (go_simp; done) | (go_simp; (try simp only [i64_w]); rfl) | (go_simp; simp; rfl)
   try simp only [Act.put, List.setIfInBounds_toArray, List.set_cons_zero, List.set_cons_succ]
   trivial
  case fin27r =>
   intro x W' hD _
   simp only [List.take_succ_cons, List.take_zero, List.drop_succ_cons, List.drop_zero]
   rw [AnyOrder.lexAt_cons ?v27_0 (val_hole (by simp only [List.getD_cons_zero, List.getD_cons_succ]))]
   try simp only [Act.put, List.setIfInBounds_toArray, List.set_cons_zero, List.set_cons_succ]
   rw [AnyOrder.lexAt_cons ?v27_1 (val_hole (by simp only [List.getD_cons_zero, List.getD_cons_succ]))]
   try simp only [Act.put, List.setIfInBounds_toArray, List.set_cons_zero, List.set_cons_succ]
   rw [AnyOrder.lexAt_cons ?v27_2 (val_hole (by simp only [List.getD_cons_zero, List.getD_cons_succ]))]
   try simp only [Act.put, List.setIfInBounds_toArray, List.set_cons_zero, List.set_cons_succ]
   rw [AnyOrder.lexAt_cons ?v27_3 (val_hole (by simp only [List.getD_cons_zero, List.getD_cons_succ]))]
   try simp only [Act.put, List.setIfInBounds_toArray, List.set_cons_zero, List.set_cons_succ]
   rw [AnyOrder.lexAt_cons ?v27_4 (val_hole (by simp only [List.getD_cons_zero, List.getD_cons_succ]))]
   try simp only [Act.put, List.setIfInBounds_toArray, List.set_cons_zero, List.set_cons_succ]
   rw [AnyOrder.lexAt_cons ?v27_5 (val_hole (by simp only [List.getD_cons_zero, List.getD_cons_succ]))]
   try simp only [Act.put, List.setIfInBounds_toArray, List.set_cons_zero, List.set_cons_succ]
   rw [AnyOrder.lexAt_cons ?v27_6 (val_hole (by simp only [List.getD_cons_zero, List.getD_cons_succ]))]
   try simp only [Act.put, List.setIfInBounds_toArray, List.set_cons_zero, List.set_cons_succ]
   rw [AnyOrder.lexAt_cons ?v27_7 (val_hole (by simp only [List.getD_cons_zero, List.getD_cons_succ]))]
   try simp only [Act.put, List.setIfInBounds_toArray, List.set_cons_zero, List.set_cons_succ]
   rw [AnyOrder.lexAt_cons ?v27_8 (val_hole (by simp only [List.getD_cons_zero, List.getD_cons_succ]))]
   try simp only [Act.put, List.setIfInBounds_toArray, List.set_cons_zero, List.set_cons_succ]
   rw [AnyOrder.lexAt_cons ?v27_9 (val_hole (by simp only [List.getD_cons_zero, List.getD_cons_succ]))]
   try simp only [Act.put, List.setIfInBounds_toArray, List.set_cons_zero, List.set_cons_succ]
   rw [AnyOrder.lexAt_cons ?v27_10 (val_hole (by simp only [List.getD_cons_zero, List.getD_cons_succ]))]
   try simp only [Act.put, List.setIfInBounds_toArray, List.set_cons_zero, List.set_cons_succ]
   rw [AnyOrder.lexAt_cons ?v27_11 (val_hole (by simp only [List.getD_cons_zero, List.getD_cons_succ]))]
   try simp only [Act.put, List.setIfInBounds_toArray, List.set_cons_zero, List.set_cons_succ]
   rw [AnyOrder.lexAt_cons ?v27_12 (val_hole (by simp only [List.getD_cons_zero, List.getD_cons_succ]))]
   try simp only [Act.put, List.setIfInBounds_toArray, List.set_cons_zero, List.set_cons_succ]
   rw [AnyOrder.lexAt_cons ?v27_13 (val_hole (by simp only [List.getD_cons_zero, List.getD_cons_succ]))]
   try simp only [Act.put, List.setIfInBounds_toArray, List.set_cons_zero, List.set_cons_succ]
   rw [AnyOrder.lexAt_nil]
   clear same
   obtain ⟨nd, rfl⟩ := hD
   rw [HN.out]
   go_wp2
   go_ret2
   exact ⟨rfl, HI.out.drawn rfl, pw_below_drewN HB.out nd, KeepG.of_below (pw_below_drewN (Below.refl _ _) nd)⟩
 have e : q.write s = ({ q with s := q.s ++ cutS s 0 n, got := q.got ++ List.replicate n false }, (n : Int), 0) := by unfold RQ.write; rw [hn, if_neg c1]
 rw [e]
 have b2 : ((n : Int) == 0) = false ∨ (((n : Int) == 0) = true ∧ s.toList.isEmpty = true) := by
  by_cases h : n = 0
  ·refine .inr ⟨beq_iff_eq.mpr (by omega), ?_⟩
   cases h3 : s.toList with | nil => rfl | cons _ _ => exact absurd ⟨h, by rw [h3]; simp⟩ c1
  ·exact .inl (beq_eq_false_iff_ne.mpr (by omega))
 clear c1 e hn
 rcases b2 with b2 | ⟨b2, b3⟩
 ·go_enter Try.func34, Try.ntmps34
  go_upto_region 1 with fail
  have same : ∀ (ph : Nat) W', Drawn0 w W' → True := fun _ _ _ => trivial
  refine AnyEvents.region_then 14 (E := []) (C := fun (_ : Nat) W' => Drawn0 w W') (G := fun _ _ _ _ => True) (T := []) (R := fun _ _ _ _ => True) (vs := [?v28_0, ?v28_1, ?v28_2, ?v28_3, ?v28_4, ?v28_5, ?v28_6, ?v28_7, ?v28_8, ?v28_9, ?v28_10, ?v28_11, ?v28_12, ?v28_13]) (by kernel_rfl) (by kernel_rfl) rfl (by kernel_rfl) ?hc28r same (fun _ _ _ _ _ _ _ _ _ => trivial) (fun _ h => nomatch h) (fun x => ?obs28r) ?fin28r
  case hc28r => exact ⟨1, rfl⟩
  case obs28r =>
   refine AnyEvents.obs_cons ?v28_0 (val_hole (by simp only [List.getD_cons_zero, List.getD_cons_succ])) (AnyEvents.ob_plain (v := ?v28_0) rfl rfl rfl same (by simp only [List.getD_cons_zero, List.getD_cons_succ]) (fun ph W' hwn hW => ?_)) ?_
   ·obtain ⟨nd, rfl⟩ := hW; have z0 := drew_cell nd hc2; have z1 := drew_cell nd hc3; first | (go_simp; done) | (go_simp; (try simp only [i64_w]); rfl) | (go_simp; simp; rfl)
   try simp only [Act.put, List.setIfInBounds_toArray, List.set_cons_zero, List.set_cons_succ]
   refine AnyEvents.obs_cons ?v28_1 (val_hole (by simp only [List.getD_cons_zero, List.getD_cons_succ])) (AnyEvents.ob_plain (v := ?v28_1) rfl rfl rfl same (by simp only [List.getD_cons_zero, List.getD_cons_succ]) (fun ph W' hwn hW => ?_)) ?_
   ·obtain ⟨nd, rfl⟩ := hW; have z0 := drew_cell nd hc2; have z1 := drew_cell nd hc3; first | (go_simp; done) | (go_simp; (try simp only [i64_w]); rfl) | (go_simp; simp; rfl)
   try simp only [Act.put, List.setIfInBounds_toArray, List.set_cons_zero, List.set_cons_succ]
   refine AnyEvents.obs_cons ?v28_2 (val_hole (by simp only [List.getD_cons_zero, List.getD_cons_succ])) (AnyEvents.ob_plain (v := ?v28_2) rfl rfl rfl same (by simp only [List.getD_cons_zero, List.getD_cons_succ]) (fun ph W' hwn hW => ?_)) ?_
   ·obtain ⟨nd, rfl⟩ := hW; have z0 := drew_cell nd hc2; have z1 := drew_cell nd hc3; first | (go_simp; done) | (go_simp; (try simp only [i64_w]); rfl) | (go_simp; simp; rfl)
   try simp only [Act.put, List.setIfInBounds_toArray, List.set_cons_zero, List.set_cons_succ]
   refine AnyEvents.obs_cons ?v28_3 (val_hole (by simp only [List.getD_cons_zero, List.getD_cons_succ])) (AnyEvents.ob_plain (v := ?v28_3) rfl rfl rfl same (by simp only [List.getD_cons_zero, List.getD_cons_succ]) (fun ph W' hwn hW => ?_)) ?_
   ·obtain ⟨nd, rfl⟩ := hW; have z0 := drew_cell nd hc2; have z1 := drew_cell nd hc3; first | (go_simp; done) | (go_simp; (try simp only [i64_w]); rfl) | (go_simp; simp; rfl)
   try simp only [Act.put, List.setIfInBounds_toArray, List.set_cons_zero, List.set_cons_succ]
   refine AnyEvents.obs_cons ?v28_4 (val_hole (by simp only [List.getD_cons_zero, List.getD_cons_succ])) (AnyEvents.ob_plain (v := ?v28_4) rfl rfl rfl same (by simp only [List.getD_cons_zero, List.getD_cons_succ]) (fun ph W' hwn hW => ?_)) ?_
   ·obtain ⟨nd, rfl⟩ := hW; have z0 := drew_cell nd hc2; have z1 := drew_cell nd hc3; first | (go_simp; done) | (go_simp; (try simp only [i64_w]); rfl) | (go_simp; simp; rfl)
   try simp only [Act.put, List.setIfInBounds_toArray, List.set_cons_zero, List.set_cons_succ]
   refine AnyEvents.obs_cons ?v28_5 (val_hole (by simp only [List.getD_cons_zero, List.getD_cons_succ])) (AnyEvents.ob_plain (v := ?v28_5) rfl rfl rfl same (by simp only [List.getD_cons_zero, List.getD_cons_succ]) (fun ph W' hwn hW => ?_)) ?_
   ·obtain ⟨nd, rfl⟩ := hW; have z0 := drew_cell nd hc2; have z1 := drew_cell nd hc3; first | (go_simp; done) | (go_simp; (try simp only [i64_w]); rfl) | (go_simp; simp; rfl)
   try simp only [Act.put, List.setIfInBounds_toArray, List.set_cons_zero, List.set_cons_succ]
   refine AnyEvents.obs_cons ?v28_6 (val_hole (by simp only [List.getD_cons_zero, List.getD_cons_succ])) (AnyEvents.ob_plain (v := ?v28_6) rfl rfl rfl same (by simp only [List.getD_cons_zero, List.getD_cons_succ]) (fun ph W' hwn hW => ?_)) ?_
   ·obtain ⟨nd, rfl⟩ := hW; have z0 := drew_cell nd hc2; have z1 := drew_cell nd hc3; first | (go_simp; done) | (go_simp; (try simp only [i64_w]); rfl) | (go_simp; simp; rfl)
   try simp only [Act.put, List.setIfInBounds_toArray, List.set_cons_zero, List.set_cons_succ]
   refine AnyEvents.obs_cons ?v28_7 (val_hole (by simp only [List.getD_cons_zero, List.getD_cons_succ])) (AnyEvents.ob_plain (v := ?v28_7) rfl rfl rfl same (by simp only [List.getD_cons_zero, List.getD_cons_succ]) (fun ph W' hwn hW => ?_)) ?_
   ·obtain ⟨nd, rfl⟩ := hW; have z0 := drew_cell nd hc2; have z1 := drew_cell nd hc3; first | (go_simp; done) | (go_simp; (try simp only [i64_w]); rfl) | (go_simp; simp; rfl)
   try simp only [Act.put, List.setIfInBounds_toArray, List.set_cons_zero, List.set_cons_succ]
   refine AnyEvents.obs_cons ?v28_8 (val_hole (by simp only [List.getD_cons_zero, List.getD_cons_succ])) (AnyEvents.ob_plain (v := ?v28_8) rfl rfl rfl same (by simp only [List.getD_cons_zero, List.getD_cons_succ]) (fun ph W' hwn hW => ?_)) ?_
   ·obtain ⟨nd, rfl⟩ := hW; have z0 := drew_cell nd hc2; have z1 := drew_cell nd hc3; first | (go_simp; done) | (go_simp; (try simp only [i64_w]); rfl) | (go_simp; simp; rfl)
   try simp only [Act.put, List.setIfInBounds_toArray, List.set_cons_zero, List.set_cons_succ]
   refine AnyEvents.obs_cons ?v28_9 (val_hole (by simp only [List.getD_cons_zero, List.getD_cons_succ])) (AnyEvents.ob_plain (v := ?v28_9) rfl rfl rfl same (by simp only [List.getD_cons_zero, List.getD_cons_succ]) (fun ph W' hwn hW => ?_)) ?_
   ·obtain ⟨nd, rfl⟩ := hW; have z0 := drew_cell nd hc2; have z1 := drew_cell nd hc3; first | (go_simp; done) | (go_simp; (try simp only [i64_w]); rfl) | (go_simp; simp; rfl)
   try simp only [Act.put, List.setIfInBounds_toArray, List.set_cons_zero, List.set_cons_succ]
   refine AnyEvents.obs_cons ?v28_10 (val_hole (by simp only [List.getD_cons_zero, List.getD_cons_succ])) (AnyEvents.ob_plain (v := ?v28_10) rfl rfl rfl same (by simp only [List.getD_cons_zero, List.getD_cons_succ]) (fun ph W' hwn hW => ?_)) ?_
   ·obtain ⟨nd, rfl⟩ := hW; have z0 := drew_cell nd hc2; have z1 := drew_cell nd hc3; first | (go_simp; done) | (go_simp; (try simp only [i64_w]); rfl) | (go_simp; simp; rfl)
   try simp only [Act.put, List.setIfInBounds_toArray, List.set_cons_zero, List.set_cons_succ]
   refine AnyEvents.obs_cons ?v28_11 (val_hole (by simp only [List.getD_cons_zero, List.getD_cons_succ])) (AnyEvents.ob_plain (v := ?v28_11) rfl rfl rfl same (by simp only [List.getD_cons_zero, List.getD_cons_succ]) (fun ph W' hwn hW => ?_)) ?_
   ·obtain ⟨nd, rfl⟩ := hW; have z0 := drew_cell nd hc2; have z1 := drew_cell nd hc3; first | (go_simp; done) | (go_simp; (try simp only [i64_w]); rfl) | (go_simp; simp; rfl)
   try simp only [Act.put, List.setIfInBounds_toArray, List.set_cons_zero, List.set_cons_succ]
   refine AnyEvents.obs_cons ?v28_12 (val_hole (by simp only [List.getD_cons_zero, List.getD_cons_succ])) (AnyEvents.ob_plain (v := ?v28_12) rfl rfl rfl same (by simp only [List.getD_cons_zero, List.getD_cons_succ]) (fun ph W' hwn hW => ?_)) ?_
   ·obtain ⟨nd, rfl⟩ := hW; have z0 := drew_cell nd hc2; have z1 := drew_cell nd hc3; first | (go_simp; done) | (go_simp; (try simp only [i64_w]); rfl) | (go_simp; simp; rfl)
   try simp only [Act.put, List.setIfInBounds_toArray, List.set_cons_zero, List.set_cons_succ]
   refine AnyEvents.obs_cons ?v28_13 (val_hole (by simp only [List.getD_cons_zero, List.getD_cons_succ])) (AnyEvents.ob_plain (v := ?v28_13) rfl rfl rfl same (by simp only [List.getD_cons_zero, List.getD_cons_succ]) (fun ph W' hwn hW => ?_)) ?_
   ·obtain ⟨nd, rfl⟩ := hW; have z0 := drew_cell nd hc2; have z1 := drew_cell nd hc3; first | (go_simp; done) | (go_simp; (try simp only [i64_w]); rfl) | (go_simp; simp; rfl)
   try simp only [Act.put, List.setIfInBounds_toArray, List.set_cons_zero, List.set_cons_succ]
   trivial
  case fin28r =>
   intro x W' hD _
   simp only [List.take_succ_cons, List.take_zero, List.drop_succ_cons, List.drop_zero]
   rw [AnyOrder.lexAt_cons ?v28_0 (val_hole (by simp only [List.getD_cons_zero, List.getD_cons_succ]))]
   try simp only [Act.put, List.setIfInBounds_toArray, List.set_cons_zero, List.set_cons_succ]
   rw [AnyOrder.lexAt_cons ?v28_1 (val_hole (by simp only [List.getD_cons_zero, List.getD_cons_succ]))]
   try simp only [Act.put, List.setIfInBounds_toArray, List.set_cons_zero, List.set_cons_succ]
   rw [AnyOrder.lexAt_cons ?v28_2 (val_hole (by simp only [List.getD_cons_zero, List.getD_cons_succ]))]
   try simp only [Act.put, List.setIfInBounds_toArray, List.set_cons_zero, List.set_cons_succ]
   rw [AnyOrder.lexAt_cons ?v28_3 (val_hole (by simp only [List.getD_cons_zero, List.getD_cons_succ]))]
   try simp only [Act.put, List.setIfInBounds_toArray, List.set_cons_zero, List.set_cons_succ]
   rw [AnyOrder.lexAt_cons ?v28_4 (val_hole (by simp only [List.getD_cons_zero, List.getD_cons_succ]))]
   try simp only [Act.put, List.setIfInBounds_toArray, List.set_cons_zero, List.set_cons_succ]
   rw [AnyOrder.lexAt_cons ?v28_5 (val_hole (by simp only [List.getD_cons_zero, List.getD_cons_succ]))]
   try simp only [Act.put, List.setIfInBounds_toArray, List.set_cons_zero, List.set_cons_succ]
   rw [AnyOrder.lexAt_cons ?v28_6 (val_hole (by simp only [List.getD_cons_zero, List.getD_cons_succ]))]
   try simp only [Act.put, List.setIfInBounds_toArray, List.set_cons_zero, List.set_cons_succ]
   rw [AnyOrder.lexAt_cons ?v28_7 (val_hole (by simp only [List.getD_cons_zero, List.getD_cons_succ]))]
   try simp only [Act.put, List.setIfInBounds_toArray, List.set_cons_zero, List.set_cons_succ]
   rw [AnyOrder.lexAt_cons ?v28_8 (val_hole (by simp only [List.getD_cons_zero, List.getD_cons_succ]))]
   try simp only [Act.put, List.setIfInBounds_toArray, List.set_cons_zero, List.set_cons_succ]
   rw [AnyOrder.lexAt_cons ?v28_9 (val_hole (by simp only [List.getD_cons_zero, List.getD_cons_succ]))]
   try simp only [Act.put, List.setIfInBounds_toArray, List.set_cons_zero, List.set_cons_succ]
   rw [AnyOrder.lexAt_cons ?v28_10 (val_hole (by simp only [List.getD_cons_zero, List.getD_cons_succ]))]
   try simp only [Act.put, List.setIfInBounds_toArray, List.set_cons_zero, List.set_cons_succ]
   rw [AnyOrder.lexAt_cons ?v28_11 (val_hole (by simp only [List.getD_cons_zero, List.getD_cons_succ]))]
   try simp only [Act.put, List.setIfInBounds_toArray, List.set_cons_zero, List.set_cons_succ]
   rw [AnyOrder.lexAt_cons ?v28_12 (val_hole (by simp only [List.getD_cons_zero, List.getD_cons_succ]))]
   try simp only [Act.put, List.setIfInBounds_toArray, List.set_cons_zero, List.set_cons_succ]
   rw [AnyOrder.lexAt_cons ?v28_13 (val_hole (by simp only [List.getD_cons_zero, List.getD_cons_succ]))]
   try simp only [Act.put, List.setIfInBounds_toArray, List.set_cons_zero, List.set_cons_succ]
   rw [AnyOrder.lexAt_nil]
   clear same
   obtain ⟨nd, rfl⟩ := hD
   rw [HN.out]
   have HT2 := Aside0.mk (show top ≤ (w.drewN nd).heap.size from HT.out)
   go_upto_region 4 with fail
   have HIs := Aside0.mk (show RefAt (w.drewN nd) w0.heap.size top g q from HI.out.drawn rfl)
   have HBs := Aside0.mk (pw_below_drewN HB.out nd)
   have HKs := Aside0.mk (show KeepG g w (w.drewN nd) from KeepG.of_below (pw_below_drewN (Below.refl _ _) nd))
   clear hbg hge hle hcm hc0 hc1 hc2 hc3 hc4 hf0 hf1 hf2 hf3 hf4 HQ
   clear HI HB HT
   have HI := HIs; have HB := HBs; have HT := HT2
   clear HIs HBs HT2 b2
   generalize w.drewN nd = W1 at HI HB HKs HT ⊢
   obtain ⟨Az, cz, ⟨hbg, hge⟩, ⟨hle, hcm⟩, ⟨hc0, hc1, hc2, hc3, hc4⟩, ⟨hf0, hf1, hf2, hf3, hf4⟩, HQ⟩ := HI.out.cell
   have same : ∀ (ph : Nat) W', Drawn0 W1 W' → True := fun _ _ _ => trivial
   refine AnyEvents.region_then 8 (E := []) (C := fun (_ : Nat) W' => Drawn0 W1 W') (G := fun _ _ _ _ => True) (T := []) (R := fun _ _ _ _ => True) (vs := [?v29_0, ?v29_1, ?v29_2, ?v29_3, ?v29_4, ?v29_5, (.string (cutS s 0 n)), ?v29_7]) (by kernel_rfl) (by kernel_rfl) rfl (by kernel_rfl) ?hc29r same (fun _ _ _ _ _ _ _ _ _ => trivial) (fun _ h => nomatch h) (fun x => ?obs29r) ?fin29r
   case hc29r => exact ⟨1, rfl⟩
   case obs29r =>
    refine AnyEvents.obs_cons ?v29_0 (val_hole (by simp only [List.getD_cons_zero, List.getD_cons_succ])) (AnyEvents.ob_plain (v := ?v29_0) rfl rfl rfl same (by simp only [List.getD_cons_zero, List.getD_cons_succ]) (fun ph W' hwn hW => ?_)) ?_
    ·obtain ⟨nd, rfl⟩ := hW; have z0 := drew_cell nd hc3; first | (go_simp; done) | (go_simp; (try simp only [i64_w]); rfl) | (go_simp; simp; rfl)
    try simp only [Act.put, List.setIfInBounds_toArray, List.set_cons_zero, List.set_cons_succ]
    refine AnyEvents.obs_cons ?v29_1 (val_hole (by simp only [List.getD_cons_zero, List.getD_cons_succ])) (AnyEvents.ob_plain (v := ?v29_1) rfl rfl rfl same (by simp only [List.getD_cons_zero, List.getD_cons_succ]) (fun ph W' hwn hW => ?_)) ?_
    ·obtain ⟨nd, rfl⟩ := hW; have z0 := drew_cell nd hc3; first | (go_simp; done) | (go_simp; (try simp only [i64_w]); rfl) | (go_simp; simp; rfl)
    try simp only [Act.put, List.setIfInBounds_toArray, List.set_cons_zero, List.set_cons_succ]
    refine AnyEvents.obs_cons ?v29_2 (val_hole (by simp only [List.getD_cons_zero, List.getD_cons_succ])) (AnyEvents.ob_plain (v := ?v29_2) rfl rfl rfl same (by simp only [List.getD_cons_zero, List.getD_cons_succ]) (fun ph W' hwn hW => ?_)) ?_
    ·obtain ⟨nd, rfl⟩ := hW; have z0 := drew_cell nd hc3; first | (go_simp; done) | (go_simp; (try simp only [i64_w]); rfl) | (go_simp; simp; rfl)
    try simp only [Act.put, List.setIfInBounds_toArray, List.set_cons_zero, List.set_cons_succ]
    refine AnyEvents.obs_cons ?v29_3 (val_hole (by simp only [List.getD_cons_zero, List.getD_cons_succ])) (AnyEvents.ob_plain (v := ?v29_3) rfl rfl rfl same (by simp only [List.getD_cons_zero, List.getD_cons_succ]) (fun ph W' hwn hW => ?_)) ?_
    ·obtain ⟨nd, rfl⟩ := hW; have z0 := drew_cell nd hc3; first | (go_simp; done) | (go_simp; (try simp only [i64_w]); rfl) | (go_simp; simp; rfl)
    try simp only [Act.put, List.setIfInBounds_toArray, List.set_cons_zero, List.set_cons_succ]
    refine AnyEvents.obs_cons ?v29_4 (val_hole (by simp only [List.getD_cons_zero, List.getD_cons_succ])) (AnyEvents.ob_plain (v := ?v29_4) rfl rfl rfl same (by simp only [List.getD_cons_zero, List.getD_cons_succ]) (fun ph W' hwn hW => ?_)) ?_
    ·obtain ⟨nd, rfl⟩ := hW; have z0 := drew_cell nd hc3; first | (go_simp; done) | (go_simp; (try simp only [i64_w]); rfl) | (go_simp; simp; rfl)
    try simp only [Act.put, List.setIfInBounds_toArray, List.set_cons_zero, List.set_cons_succ]
    refine AnyEvents.obs_cons ?v29_5 (val_hole (by simp only [List.getD_cons_zero, List.getD_cons_succ])) (AnyEvents.ob_plain (v := ?v29_5) rfl rfl rfl same (by simp only [List.getD_cons_zero, List.getD_cons_succ]) (fun ph W' hwn hW => ?_)) ?_
    ·obtain ⟨nd, rfl⟩ := hW; have z0 := drew_cell nd hc3; first | (go_simp; done) | (go_simp; (try simp only [i64_w]); rfl) | (go_simp; simp; rfl)
    try simp only [Act.put, List.setIfInBounds_toArray, List.set_cons_zero, List.set_cons_succ]
    refine AnyEvents.obs_cons (.string (cutS s 0 n)) (val_hole (by simp only [List.getD_cons_zero, List.getD_cons_succ])) (AnyEvents.ob_plain (v := (.string (cutS s 0 n))) rfl rfl rfl same (by simp only [List.getD_cons_zero, List.getD_cons_succ]) (fun ph W' hwn hW => ?_)) ?_
    ·obtain ⟨nd, rfl⟩ := hW; refine (run_sl_to (j := (n : Int)) (s := s) Try.underlying9 rfl rfl rfl (by omega) (by have := HL.out; omega)).trans ?_; rw [Int.toNat_natCast]
    try simp only [Act.put, List.setIfInBounds_toArray, List.set_cons_zero, List.set_cons_succ]
    refine AnyEvents.obs_cons ?v29_7 (val_hole (by simp only [List.getD_cons_zero, List.getD_cons_succ])) (AnyEvents.ob_plain (v := ?v29_7) rfl rfl rfl same (by simp only [List.getD_cons_zero, List.getD_cons_succ]) (fun ph W' hwn hW => ?_)) ?_
    ·obtain ⟨nd, rfl⟩ := hW; have z0 := drew_cell nd hc3; refine (run_concat (s := q.s) (s' := cutS s 0 n) Try.underlying9 rfl rfl rfl (by have := HL.out; have := cutS_szle s 0 n; omega)).trans ?_; rfl
    try simp only [Act.put, List.setIfInBounds_toArray, List.set_cons_zero, List.set_cons_succ]
    trivial
   case fin29r =>
    intro x W' hD _
    simp only [List.take_succ_cons, List.take_zero, List.drop_succ_cons, List.drop_zero]
    rw [AnyOrder.lexAt_cons ?v29_0 (val_hole (by simp only [List.getD_cons_zero, List.getD_cons_succ]))]
    try simp only [Act.put, List.setIfInBounds_toArray, List.set_cons_zero, List.set_cons_succ]
    rw [AnyOrder.lexAt_cons ?v29_1 (val_hole (by simp only [List.getD_cons_zero, List.getD_cons_succ]))]
    try simp only [Act.put, List.setIfInBounds_toArray, List.set_cons_zero, List.set_cons_succ]
    rw [AnyOrder.lexAt_cons ?v29_2 (val_hole (by simp only [List.getD_cons_zero, List.getD_cons_succ]))]
    try simp only [Act.put, List.setIfInBounds_toArray, List.set_cons_zero, List.set_cons_succ]
    rw [AnyOrder.lexAt_cons ?v29_3 (val_hole (by simp only [List.getD_cons_zero, List.getD_cons_succ]))]
    try simp only [Act.put, List.setIfInBounds_toArray, List.set_cons_zero, List.set_cons_succ]
    rw [AnyOrder.lexAt_cons ?v29_4 (val_hole (by simp only [List.getD_cons_zero, List.getD_cons_succ]))]
    try simp only [Act.put, List.setIfInBounds_toArray, List.set_cons_zero, List.set_cons_succ]
    rw [AnyOrder.lexAt_cons ?v29_5 (val_hole (by simp only [List.getD_cons_zero, List.getD_cons_succ]))]
    try simp only [Act.put, List.setIfInBounds_toArray, List.set_cons_zero, List.set_cons_succ]
    rw [AnyOrder.lexAt_cons (.string (cutS s 0 n)) (val_hole (by simp only [List.getD_cons_zero, List.getD_cons_succ]))]
    try simp only [Act.put, List.setIfInBounds_toArray, List.set_cons_zero, List.set_cons_succ]
    rw [AnyOrder.lexAt_cons ?v29_7 (val_hole (by simp only [List.getD_cons_zero, List.getD_cons_succ]))]
    try simp only [Act.put, List.setIfInBounds_toArray, List.set_cons_zero, List.set_cons_succ]
    rw [AnyOrder.lexAt_nil]
    clear same
    obtain ⟨nd2, rfl⟩ := hD
    go_upto_region 5 with fail
    have HI2 := Aside0.mk ((HI.out.drawn (w' := W1.drewN nd2) rfl).set 3 (.string (q.s ++ cutS s 0 n)) (q' := { q with s := q.s ++ cutS s 0 n }) rfl (fun _ => rfl))
    have HB2 := Aside0.mk (show Below w0.heap.size w0 ((W1.drewN nd2).setCell ⟨g, 3, none⟩ (.string (q.s ++ cutS s 0 n))) from below_set (pw_below_drewN HB.out nd2) HI.out.ge)
    have HK2 := Aside0.mk (HKs.out.trans ((KeepG.of_below (pw_below_drewN (Below.refl _ _) nd2)).trans (KeepG.set g 3 _ (.string (q.s ++ cutS s 0 n)))))
    have HT2 := Aside0.mk (show top ≤ ((W1.drewN nd2).setCell ⟨g, 3, none⟩ (.string (q.s ++ cutS s 0 n))).heap.size by simp [World.setCell]; exact HT.out)
    clear hbg hge hle hcm hc0 hc1 hc2 hc3 hc4 hf0 hf1 hf2 hf3 hf4 HQ
    clear HI HB HKs HT
    generalize (W1.drewN nd2).setCell ⟨g, 3, none⟩ (.string (q.s ++ cutS s 0 n)) = W2 at HI2 HB2 HK2 HT2 ⊢
    have HI := HI2; clear HI2
    obtain ⟨Az, cz, ⟨hbg, hge⟩, ⟨hle, hcm⟩, ⟨hc0, hc1, hc2, hc3, hc4⟩, ⟨hf0, hf1, hf2, hf3, hf4⟩, HQ⟩ := HI.out.cell
    have hb := below_alloc (Below.refl W2.heap.size W2) (Obj.cells #[] 4)
    have HNW := Aside0.mk (blk_new W2 (.cells #[] 4))
    have HSR := Aside0.mk (SrcAt.own (ownsAt_below HQ hb))
    have HSX := Aside0.mk (show W2.heap.size ≤ (W2.alloc (Obj.cells #[] 4)).heap.size from hb.size)
    have HBX := Aside0.mk hb
    have HBG := Aside0.mk (blk_below hbg hb)
    have hx4 := blk_cell HBG.out 4
    change _ = some (Value.slice Az q.got.length cz) at hx4
    clear hb hbg hge hle hcm hc0 hc1 hc2 hc3 hc4 hf0 hf1 hf2 hf3 hf4 HQ
    go_wp2_with (first | ((with_reducible refine gate_dst (N := 42) rfl ?_); refine stop_ ?_))
    unfold Stop_
    refine wl_append0r 59 4 (.bool false) 1 1 rfl rfl Try.underlying59 (by kernel_rfl) rfl (b := W2.heap.size) (base := W2.heap.size) rfl rfl (Nat.le_refl _) HNW.out HSR.out (by have := HGL.out; simp only [maxLen]; omega) (by have := HGL.out; omega) HSX.out (fun v9 W9 hv9 hb9 => ?_); have HV9 := Aside0.mk hv9; have HB9 := Aside0.mk hb9; clear hv9 hb9 hx4
    go_wp2_with (first | ((with_reducible refine gate_dst (N := 44) rfl ?_); refine stop_ ?_))
    unfold Stop_
    refine wl_append_z (k := .i64) 59 3 4 (.bool false) 1 1 rfl rfl Try.underlying59 Try.underlying3 (by kernel_rfl) rfl (by decide) (by decide) rfl rfl HV9.out (by rw [bos_zeros]; intro u hu; exact (List.all_eq_true.1 (bos_one _)) u hu) (by have := HGL.out; have := HL.out; omega) (Nat.le_trans HSX.out HB9.out.size) (fun v10 W10 hv10 hg10 => ?_); have hb10 := below_of_grown (below_step HBX.out HB9.out) hg10 (Nat.le_trans HSX.out HB9.out.size) (own_grownBy HV9.out); have HI10 := Aside0.mk (HI.out.kept hb10); have HB10 := Aside0.mk (below_step HB2.out hb10); have HK10 := Aside0.mk (HK2.out.trans (KeepG.of_below hb10)); have HV10 := Aside0.mk (ownsAt_row hv10); clear hb10 hv10 hg10; obtain ⟨A10, c10, e10, _⟩ := ownsAt_len HV10.out; subst e10; obtain ⟨Ay, cy, ⟨hbg, hge⟩, ⟨hle, hcm⟩, ⟨hc0, hc1, hc2, hc3, hc4⟩, ⟨hf0, hf1, hf2, hf3, hf4⟩, HQ⟩ := HI10.out.cell
    go_wp2
    go_ret2
    have hv := HV10.out
    rw [bos_zeros, show bos q.got ++ bos (List.replicate n false) = bos (q.got ++ List.replicate n false) by unfold bos; rw [List.map_append]] at hv
    exact ⟨rfl, HI10.out.row (q' := { q with s := q.s ++ cutS s 0 n, got := q.got ++ List.replicate n false }) _ (by show ownsAt _ _ _ _ _ (q.got ++ List.replicate n false).length _; rw [List.length_append, List.length_replicate]; exact ownsAt_base hv HT2.out) (fun _ => rfl), below_set HB10.out HI10.out.ge, HK10.out.trans (KeepG.set g 4 _ _)⟩
 ·go_enter Try.func34, Try.ntmps34
  go_upto_region 1 with fail
  have same : ∀ (ph : Nat) W', Drawn0 w W' → True := fun _ _ _ => trivial
  refine AnyEvents.region_then 14 (E := []) (C := fun (_ : Nat) W' => Drawn0 w W') (G := fun _ _ _ _ => True) (T := []) (R := fun _ _ _ _ => True) (vs := [?v30_0, ?v30_1, ?v30_2, ?v30_3, ?v30_4, ?v30_5, ?v30_6, ?v30_7, ?v30_8, ?v30_9, ?v30_10, ?v30_11, ?v30_12, ?v30_13]) (by kernel_rfl) (by kernel_rfl) rfl (by kernel_rfl) ?hc30r same (fun _ _ _ _ _ _ _ _ _ => trivial) (fun _ h => nomatch h) (fun x => ?obs30r) ?fin30r
  case hc30r => exact ⟨1, rfl⟩
  case obs30r =>
   refine AnyEvents.obs_cons ?v30_0 (val_hole (by simp only [List.getD_cons_zero, List.getD_cons_succ])) (AnyEvents.ob_plain (v := ?v30_0) rfl rfl rfl same (by simp only [List.getD_cons_zero, List.getD_cons_succ]) (fun ph W' hwn hW => ?_)) ?_
   ·obtain ⟨nd, rfl⟩ := hW; have z0 := drew_cell nd hc2; have z1 := drew_cell nd hc3; first | (go_simp; done) | (go_simp; (try simp only [i64_w]); rfl) | (go_simp; simp; rfl)
   try simp only [Act.put, List.setIfInBounds_toArray, List.set_cons_zero, List.set_cons_succ]
   refine AnyEvents.obs_cons ?v30_1 (val_hole (by simp only [List.getD_cons_zero, List.getD_cons_succ])) (AnyEvents.ob_plain (v := ?v30_1) rfl rfl rfl same (by simp only [List.getD_cons_zero, List.getD_cons_succ]) (fun ph W' hwn hW => ?_)) ?_
   ·obtain ⟨nd, rfl⟩ := hW; have z0 := drew_cell nd hc2; have z1 := drew_cell nd hc3; first | (go_simp; done) | (go_simp; (try simp only [i64_w]); rfl) | (go_simp; simp; rfl)
   try simp only [Act.put, List.setIfInBounds_toArray, List.set_cons_zero, List.set_cons_succ]
   refine AnyEvents.obs_cons ?v30_2 (val_hole (by simp only [List.getD_cons_zero, List.getD_cons_succ])) (AnyEvents.ob_plain (v := ?v30_2) rfl rfl rfl same (by simp only [List.getD_cons_zero, List.getD_cons_succ]) (fun ph W' hwn hW => ?_)) ?_
   ·obtain ⟨nd, rfl⟩ := hW; have z0 := drew_cell nd hc2; have z1 := drew_cell nd hc3; first | (go_simp; done) | (go_simp; (try simp only [i64_w]); rfl) | (go_simp; simp; rfl)
   try simp only [Act.put, List.setIfInBounds_toArray, List.set_cons_zero, List.set_cons_succ]
   refine AnyEvents.obs_cons ?v30_3 (val_hole (by simp only [List.getD_cons_zero, List.getD_cons_succ])) (AnyEvents.ob_plain (v := ?v30_3) rfl rfl rfl same (by simp only [List.getD_cons_zero, List.getD_cons_succ]) (fun ph W' hwn hW => ?_)) ?_
   ·obtain ⟨nd, rfl⟩ := hW; have z0 := drew_cell nd hc2; have z1 := drew_cell nd hc3; first | (go_simp; done) | (go_simp; (try simp only [i64_w]); rfl) | (go_simp; simp; rfl)
   try simp only [Act.put, List.setIfInBounds_toArray, List.set_cons_zero, List.set_cons_succ]
   refine AnyEvents.obs_cons ?v30_4 (val_hole (by simp only [List.getD_cons_zero, List.getD_cons_succ])) (AnyEvents.ob_plain (v := ?v30_4) rfl rfl rfl same (by simp only [List.getD_cons_zero, List.getD_cons_succ]) (fun ph W' hwn hW => ?_)) ?_
   ·obtain ⟨nd, rfl⟩ := hW; have z0 := drew_cell nd hc2; have z1 := drew_cell nd hc3; first | (go_simp; done) | (go_simp; (try simp only [i64_w]); rfl) | (go_simp; simp; rfl)
   try simp only [Act.put, List.setIfInBounds_toArray, List.set_cons_zero, List.set_cons_succ]
   refine AnyEvents.obs_cons ?v30_5 (val_hole (by simp only [List.getD_cons_zero, List.getD_cons_succ])) (AnyEvents.ob_plain (v := ?v30_5) rfl rfl rfl same (by simp only [List.getD_cons_zero, List.getD_cons_succ]) (fun ph W' hwn hW => ?_)) ?_
   ·obtain ⟨nd, rfl⟩ := hW; have z0 := drew_cell nd hc2; have z1 := drew_cell nd hc3; first | (go_simp; done) | (go_simp; (try simp only [i64_w]); rfl) | (go_simp; simp; rfl)
   try simp only [Act.put, List.setIfInBounds_toArray, List.set_cons_zero, List.set_cons_succ]
   refine AnyEvents.obs_cons ?v30_6 (val_hole (by simp only [List.getD_cons_zero, List.getD_cons_succ])) (AnyEvents.ob_plain (v := ?v30_6) rfl rfl rfl same (by simp only [List.getD_cons_zero, List.getD_cons_succ]) (fun ph W' hwn hW => ?_)) ?_
   ·obtain ⟨nd, rfl⟩ := hW; have z0 := drew_cell nd hc2; have z1 := drew_cell nd hc3; first | (go_simp; done) | (go_simp; (try simp only [i64_w]); rfl) | (go_simp; simp; rfl)
   try simp only [Act.put, List.setIfInBounds_toArray, List.set_cons_zero, List.set_cons_succ]
   refine AnyEvents.obs_cons ?v30_7 (val_hole (by simp only [List.getD_cons_zero, List.getD_cons_succ])) (AnyEvents.ob_plain (v := ?v30_7) rfl rfl rfl same (by simp only [List.getD_cons_zero, List.getD_cons_succ]) (fun ph W' hwn hW => ?_)) ?_
   ·obtain ⟨nd, rfl⟩ := hW; have z0 := drew_cell nd hc2; have z1 := drew_cell nd hc3; first | (go_simp; done) | (go_simp; (try simp only [i64_w]); rfl) | (go_simp; simp; rfl)
   try simp only [Act.put, List.setIfInBounds_toArray, List.set_cons_zero, List.set_cons_succ]
   refine AnyEvents.obs_cons ?v30_8 (val_hole (by simp only [List.getD_cons_zero, List.getD_cons_succ])) (AnyEvents.ob_plain (v := ?v30_8) rfl rfl rfl same (by simp only [List.getD_cons_zero, List.getD_cons_succ]) (fun ph W' hwn hW => ?_)) ?_
   ·obtain ⟨nd, rfl⟩ := hW; have z0 := drew_cell nd hc2; have z1 := drew_cell nd hc3; first | (go_simp; done) | (go_simp; (try simp only [i64_w]); rfl) | (go_simp; simp; rfl)
   try simp only [Act.put, List.setIfInBounds_toArray, List.set_cons_zero, List.set_cons_succ]
   refine AnyEvents.obs_cons ?v30_9 (val_hole (by simp only [List.getD_cons_zero, List.getD_cons_succ])) (AnyEvents.ob_plain (v := ?v30_9) rfl rfl rfl same (by simp only [List.getD_cons_zero, List.getD_cons_succ]) (fun ph W' hwn hW => ?_)) ?_
   ·obtain ⟨nd, rfl⟩ := hW; have z0 := drew_cell nd hc2; have z1 := drew_cell nd hc3; first | (go_simp; done) | (go_simp; (try simp only [i64_w]); rfl) | (go_simp; simp; rfl)
   try simp only [Act.put, List.setIfInBounds_toArray, List.set_cons_zero, List.set_cons_succ]
   refine AnyEvents.obs_cons ?v30_10 (val_hole (by simp only [List.getD_cons_zero, List.getD_cons_succ])) (AnyEvents.ob_plain (v := ?v30_10) rfl rfl rfl same (by simp only [List.getD_cons_zero, List.getD_cons_succ]) (fun ph W' hwn hW => ?_)) ?_
   ·obtain ⟨nd, rfl⟩ := hW; have z0 := drew_cell nd hc2; have z1 := drew_cell nd hc3; first | (go_simp; done) | (go_simp; (try simp only [i64_w]); rfl) | (go_simp; simp; rfl)
   try simp only [Act.put, List.setIfInBounds_toArray, List.set_cons_zero, List.set_cons_succ]
   refine AnyEvents.obs_cons ?v30_11 (val_hole (by simp only [List.getD_cons_zero, List.getD_cons_succ])) (AnyEvents.ob_plain (v := ?v30_11) rfl rfl rfl same (by simp only [List.getD_cons_zero, List.getD_cons_succ]) (fun ph W' hwn hW => ?_)) ?_
   ·obtain ⟨nd, rfl⟩ := hW; have z0 := drew_cell nd hc2; have z1 := drew_cell nd hc3; first | (go_simp; done) | (go_simp; (try simp only [i64_w]); rfl) | (go_simp; simp; rfl)
   try simp only [Act.put, List.setIfInBounds_toArray, List.set_cons_zero, List.set_cons_succ]
   refine AnyEvents.obs_cons ?v30_12 (val_hole (by simp only [List.getD_cons_zero, List.getD_cons_succ])) (AnyEvents.ob_plain (v := ?v30_12) rfl rfl rfl same (by simp only [List.getD_cons_zero, List.getD_cons_succ]) (fun ph W' hwn hW => ?_)) ?_
   ·obtain ⟨nd, rfl⟩ := hW; have z0 := drew_cell nd hc2; have z1 := drew_cell nd hc3; first | (go_simp; done) | (go_simp; (try simp only [i64_w]); rfl) | (go_simp; simp; rfl)
   try simp only [Act.put, List.setIfInBounds_toArray, List.set_cons_zero, List.set_cons_succ]
   refine AnyEvents.obs_cons ?v30_13 (val_hole (by simp only [List.getD_cons_zero, List.getD_cons_succ])) (AnyEvents.ob_plain (v := ?v30_13) rfl rfl rfl same (by simp only [List.getD_cons_zero, List.getD_cons_succ]) (fun ph W' hwn hW => ?_)) ?_
   ·obtain ⟨nd, rfl⟩ := hW; have z0 := drew_cell nd hc2; have z1 := drew_cell nd hc3; first | (go_simp; done) | (go_simp; (try simp only [i64_w]); rfl) | (go_simp; simp; rfl)
   try simp only [Act.put, List.setIfInBounds_toArray, List.set_cons_zero, List.set_cons_succ]
   trivial
  case fin30r =>
   intro x W' hD _
   simp only [List.take_succ_cons, List.take_zero, List.drop_succ_cons, List.drop_zero]
   rw [AnyOrder.lexAt_cons ?v30_0 (val_hole (by simp only [List.getD_cons_zero, List.getD_cons_succ]))]
   try simp only [Act.put, List.setIfInBounds_toArray, List.set_cons_zero, List.set_cons_succ]
   rw [AnyOrder.lexAt_cons ?v30_1 (val_hole (by simp only [List.getD_cons_zero, List.getD_cons_succ]))]
   try simp only [Act.put, List.setIfInBounds_toArray, List.set_cons_zero, List.set_cons_succ]
   rw [AnyOrder.lexAt_cons ?v30_2 (val_hole (by simp only [List.getD_cons_zero, List.getD_cons_succ]))]
   try simp only [Act.put, List.setIfInBounds_toArray, List.set_cons_zero, List.set_cons_succ]
   rw [AnyOrder.lexAt_cons ?v30_3 (val_hole (by simp only [List.getD_cons_zero, List.getD_cons_succ]))]
   try simp only [Act.put, List.setIfInBounds_toArray, List.set_cons_zero, List.set_cons_succ]
   rw [AnyOrder.lexAt_cons ?v30_4 (val_hole (by simp only [List.getD_cons_zero, List.getD_cons_succ]))]
   try simp only [Act.put, List.setIfInBounds_toArray, List.set_cons_zero, List.set_cons_succ]
   rw [AnyOrder.lexAt_cons ?v30_5 (val_hole (by simp only [List.getD_cons_zero, List.getD_cons_succ]))]
   try simp only [Act.put, List.setIfInBounds_toArray, List.set_cons_zero, List.set_cons_succ]
   rw [AnyOrder.lexAt_cons ?v30_6 (val_hole (by simp only [List.getD_cons_zero, List.getD_cons_succ]))]
   try simp only [Act.put, List.setIfInBounds_toArray, List.set_cons_zero, List.set_cons_succ]
   rw [AnyOrder.lexAt_cons ?v30_7 (val_hole (by simp only [List.getD_cons_zero, List.getD_cons_succ]))]
   try simp only [Act.put, List.setIfInBounds_toArray, List.set_cons_zero, List.set_cons_succ]
   rw [AnyOrder.lexAt_cons ?v30_8 (val_hole (by simp only [List.getD_cons_zero, List.getD_cons_succ]))]
   try simp only [Act.put, List.setIfInBounds_toArray, List.set_cons_zero, List.set_cons_succ]
   rw [AnyOrder.lexAt_cons ?v30_9 (val_hole (by simp only [List.getD_cons_zero, List.getD_cons_succ]))]
   try simp only [Act.put, List.setIfInBounds_toArray, List.set_cons_zero, List.set_cons_succ]
   rw [AnyOrder.lexAt_cons ?v30_10 (val_hole (by simp only [List.getD_cons_zero, List.getD_cons_succ]))]
   try simp only [Act.put, List.setIfInBounds_toArray, List.set_cons_zero, List.set_cons_succ]
   rw [AnyOrder.lexAt_cons ?v30_11 (val_hole (by simp only [List.getD_cons_zero, List.getD_cons_succ]))]
   try simp only [Act.put, List.setIfInBounds_toArray, List.set_cons_zero, List.set_cons_succ]
   rw [AnyOrder.lexAt_cons ?v30_12 (val_hole (by simp only [List.getD_cons_zero, List.getD_cons_succ]))]
   try simp only [Act.put, List.setIfInBounds_toArray, List.set_cons_zero, List.set_cons_succ]
   rw [AnyOrder.lexAt_cons ?v30_13 (val_hole (by simp only [List.getD_cons_zero, List.getD_cons_succ]))]
   try simp only [Act.put, List.setIfInBounds_toArray, List.set_cons_zero, List.set_cons_succ]
   rw [AnyOrder.lexAt_nil]
   clear same
   obtain ⟨nd, rfl⟩ := hD
   rw [HN.out]
   have HT2 := Aside0.mk (show top ≤ (w.drewN nd).heap.size from HT.out)
   go_upto_region 4 with fail
   have HIs := Aside0.mk (show RefAt (w.drewN nd) w0.heap.size top g q from HI.out.drawn rfl)
   have HBs := Aside0.mk (pw_below_drewN HB.out nd)
   have HKs := Aside0.mk (show KeepG g w (w.drewN nd) from KeepG.of_below (pw_below_drewN (Below.refl _ _) nd))
   clear hbg hge hle hcm hc0 hc1 hc2 hc3 hc4 hf0 hf1 hf2 hf3 hf4 HQ
   clear HI HB HT
   have HI := HIs; have HB := HBs; have HT := HT2
   clear HIs HBs HT2 b2
   generalize w.drewN nd = W1 at HI HB HKs HT ⊢
   obtain ⟨Az, cz, ⟨hbg, hge⟩, ⟨hle, hcm⟩, ⟨hc0, hc1, hc2, hc3, hc4⟩, ⟨hf0, hf1, hf2, hf3, hf4⟩, HQ⟩ := HI.out.cell
   have same : ∀ (ph : Nat) W', Drawn0 W1 W' → True := fun _ _ _ => trivial
   refine AnyEvents.region_then 8 (E := []) (C := fun (_ : Nat) W' => Drawn0 W1 W') (G := fun _ _ _ _ => True) (T := []) (R := fun _ _ _ _ => True) (vs := [?v31_0, ?v31_1, ?v31_2, ?v31_3, ?v31_4, ?v31_5, (.string (cutS s 0 n)), ?v31_7]) (by kernel_rfl) (by kernel_rfl) rfl (by kernel_rfl) ?hc31r same (fun _ _ _ _ _ _ _ _ _ => trivial) (fun _ h => nomatch h) (fun x => ?obs31r) ?fin31r
   case hc31r => exact ⟨1, rfl⟩
   case obs31r =>
    refine AnyEvents.obs_cons ?v31_0 (val_hole (by simp only [List.getD_cons_zero, List.getD_cons_succ])) (AnyEvents.ob_plain (v := ?v31_0) rfl rfl rfl same (by simp only [List.getD_cons_zero, List.getD_cons_succ]) (fun ph W' hwn hW => ?_)) ?_
    ·obtain ⟨nd, rfl⟩ := hW; have z0 := drew_cell nd hc3; first | (go_simp; done) | (go_simp; (try simp only [i64_w]); rfl) | (go_simp; simp; rfl)
    try simp only [Act.put, List.setIfInBounds_toArray, List.set_cons_zero, List.set_cons_succ]
    refine AnyEvents.obs_cons ?v31_1 (val_hole (by simp only [List.getD_cons_zero, List.getD_cons_succ])) (AnyEvents.ob_plain (v := ?v31_1) rfl rfl rfl same (by simp only [List.getD_cons_zero, List.getD_cons_succ]) (fun ph W' hwn hW => ?_)) ?_
    ·obtain ⟨nd, rfl⟩ := hW; have z0 := drew_cell nd hc3; first | (go_simp; done) | (go_simp; (try simp only [i64_w]); rfl) | (go_simp; simp; rfl)
    try simp only [Act.put, List.setIfInBounds_toArray, List.set_cons_zero, List.set_cons_succ]
    refine AnyEvents.obs_cons ?v31_2 (val_hole (by simp only [List.getD_cons_zero, List.getD_cons_succ])) (AnyEvents.ob_plain (v := ?v31_2) rfl rfl rfl same (by simp only [List.getD_cons_zero, List.getD_cons_succ]) (fun ph W' hwn hW => ?_)) ?_
    ·obtain ⟨nd, rfl⟩ := hW; have z0 := drew_cell nd hc3; first | (go_simp; done) | (go_simp; (try simp only [i64_w]); rfl) | (go_simp; simp; rfl)
    try simp only [Act.put, List.setIfInBounds_toArray, List.set_cons_zero, List.set_cons_succ]
    refine AnyEvents.obs_cons ?v31_3 (val_hole (by simp only [List.getD_cons_zero, List.getD_cons_succ])) (AnyEvents.ob_plain (v := ?v31_3) rfl rfl rfl same (by simp only [List.getD_cons_zero, List.getD_cons_succ]) (fun ph W' hwn hW => ?_)) ?_
    ·obtain ⟨nd, rfl⟩ := hW; have z0 := drew_cell nd hc3; first | (go_simp; done) | (go_simp; (try simp only [i64_w]); rfl) | (go_simp; simp; rfl)
    try simp only [Act.put, List.setIfInBounds_toArray, List.set_cons_zero, List.set_cons_succ]
    refine AnyEvents.obs_cons ?v31_4 (val_hole (by simp only [List.getD_cons_zero, List.getD_cons_succ])) (AnyEvents.ob_plain (v := ?v31_4) rfl rfl rfl same (by simp only [List.getD_cons_zero, List.getD_cons_succ]) (fun ph W' hwn hW => ?_)) ?_
    ·obtain ⟨nd, rfl⟩ := hW; have z0 := drew_cell nd hc3; first | (go_simp; done) | (go_simp; (try simp only [i64_w]); rfl) | (go_simp; simp; rfl)
    try simp only [Act.put, List.setIfInBounds_toArray, List.set_cons_zero, List.set_cons_succ]
    refine AnyEvents.obs_cons ?v31_5 (val_hole (by simp only [List.getD_cons_zero, List.getD_cons_succ])) (AnyEvents.ob_plain (v := ?v31_5) rfl rfl rfl same (by simp only [List.getD_cons_zero, List.getD_cons_succ]) (fun ph W' hwn hW => ?_)) ?_
    ·obtain ⟨nd, rfl⟩ := hW; have z0 := drew_cell nd hc3; first | (go_simp; done) | (go_simp; (try simp only [i64_w]); rfl) | (go_simp; simp; rfl)
    try simp only [Act.put, List.setIfInBounds_toArray, List.set_cons_zero, List.set_cons_succ]
    refine AnyEvents.obs_cons (.string (cutS s 0 n)) (val_hole (by simp only [List.getD_cons_zero, List.getD_cons_succ])) (AnyEvents.ob_plain (v := (.string (cutS s 0 n))) rfl rfl rfl same (by simp only [List.getD_cons_zero, List.getD_cons_succ]) (fun ph W' hwn hW => ?_)) ?_
    ·obtain ⟨nd, rfl⟩ := hW; refine (run_sl_to (j := (n : Int)) (s := s) Try.underlying9 rfl rfl rfl (by omega) (by have := HL.out; omega)).trans ?_; rw [Int.toNat_natCast]
    try simp only [Act.put, List.setIfInBounds_toArray, List.set_cons_zero, List.set_cons_succ]
    refine AnyEvents.obs_cons ?v31_7 (val_hole (by simp only [List.getD_cons_zero, List.getD_cons_succ])) (AnyEvents.ob_plain (v := ?v31_7) rfl rfl rfl same (by simp only [List.getD_cons_zero, List.getD_cons_succ]) (fun ph W' hwn hW => ?_)) ?_
    ·obtain ⟨nd, rfl⟩ := hW; have z0 := drew_cell nd hc3; refine (run_concat (s := q.s) (s' := cutS s 0 n) Try.underlying9 rfl rfl rfl (by have := HL.out; have := cutS_szle s 0 n; omega)).trans ?_; rfl
    try simp only [Act.put, List.setIfInBounds_toArray, List.set_cons_zero, List.set_cons_succ]
    trivial
   case fin31r =>
    intro x W' hD _
    simp only [List.take_succ_cons, List.take_zero, List.drop_succ_cons, List.drop_zero]
    rw [AnyOrder.lexAt_cons ?v31_0 (val_hole (by simp only [List.getD_cons_zero, List.getD_cons_succ]))]
    try simp only [Act.put, List.setIfInBounds_toArray, List.set_cons_zero, List.set_cons_succ]
    rw [AnyOrder.lexAt_cons ?v31_1 (val_hole (by simp only [List.getD_cons_zero, List.getD_cons_succ]))]
    try simp only [Act.put, List.setIfInBounds_toArray, List.set_cons_zero, List.set_cons_succ]
    rw [AnyOrder.lexAt_cons ?v31_2 (val_hole (by simp only [List.getD_cons_zero, List.getD_cons_succ]))]
    try simp only [Act.put, List.setIfInBounds_toArray, List.set_cons_zero, List.set_cons_succ]
    rw [AnyOrder.lexAt_cons ?v31_3 (val_hole (by simp only [List.getD_cons_zero, List.getD_cons_succ]))]
    try simp only [Act.put, List.setIfInBounds_toArray, List.set_cons_zero, List.set_cons_succ]
    rw [AnyOrder.lexAt_cons ?v31_4 (val_hole (by simp only [List.getD_cons_zero, List.getD_cons_succ]))]
    try simp only [Act.put, List.setIfInBounds_toArray, List.set_cons_zero, List.set_cons_succ]
    rw [AnyOrder.lexAt_cons ?v31_5 (val_hole (by simp only [List.getD_cons_zero, List.getD_cons_succ]))]
    try simp only [Act.put, List.setIfInBounds_toArray, List.set_cons_zero, List.set_cons_succ]
    rw [AnyOrder.lexAt_cons (.string (cutS s 0 n)) (val_hole (by simp only [List.getD_cons_zero, List.getD_cons_succ]))]
    try simp only [Act.put, List.setIfInBounds_toArray, List.set_cons_zero, List.set_cons_succ]
    rw [AnyOrder.lexAt_cons ?v31_7 (val_hole (by simp only [List.getD_cons_zero, List.getD_cons_succ]))]
    try simp only [Act.put, List.setIfInBounds_toArray, List.set_cons_zero, List.set_cons_succ]
    rw [AnyOrder.lexAt_nil]
    clear same
    obtain ⟨nd2, rfl⟩ := hD
    go_upto_region 5 with fail
    have HI2 := Aside0.mk ((HI.out.drawn (w' := W1.drewN nd2) rfl).set 3 (.string (q.s ++ cutS s 0 n)) (q' := { q with s := q.s ++ cutS s 0 n }) rfl (fun _ => rfl))
    have HB2 := Aside0.mk (show Below w0.heap.size w0 ((W1.drewN nd2).setCell ⟨g, 3, none⟩ (.string (q.s ++ cutS s 0 n))) from below_set (pw_below_drewN HB.out nd2) HI.out.ge)
    have HK2 := Aside0.mk (HKs.out.trans ((KeepG.of_below (pw_below_drewN (Below.refl _ _) nd2)).trans (KeepG.set g 3 _ (.string (q.s ++ cutS s 0 n)))))
    have HT2 := Aside0.mk (show top ≤ ((W1.drewN nd2).setCell ⟨g, 3, none⟩ (.string (q.s ++ cutS s 0 n))).heap.size by simp [World.setCell]; exact HT.out)
    clear hbg hge hle hcm hc0 hc1 hc2 hc3 hc4 hf0 hf1 hf2 hf3 hf4 HQ
    clear HI HB HKs HT
    generalize (W1.drewN nd2).setCell ⟨g, 3, none⟩ (.string (q.s ++ cutS s 0 n)) = W2 at HI2 HB2 HK2 HT2 ⊢
    have HI := HI2; clear HI2
    obtain ⟨Az, cz, ⟨hbg, hge⟩, ⟨hle, hcm⟩, ⟨hc0, hc1, hc2, hc3, hc4⟩, ⟨hf0, hf1, hf2, hf3, hf4⟩, HQ⟩ := HI.out.cell
    have hb := below_alloc (Below.refl W2.heap.size W2) (Obj.cells #[] 4)
    have HNW := Aside0.mk (blk_new W2 (.cells #[] 4))
    have HSR := Aside0.mk (SrcAt.own (ownsAt_below HQ hb))
    have HSX := Aside0.mk (show W2.heap.size ≤ (W2.alloc (Obj.cells #[] 4)).heap.size from hb.size)
    have HBX := Aside0.mk hb
    have HBG := Aside0.mk (blk_below hbg hb)
    have hx4 := blk_cell HBG.out 4
    change _ = some (Value.slice Az q.got.length cz) at hx4
    clear hb hbg hge hle hcm hc0 hc1 hc2 hc3 hc4 hf0 hf1 hf2 hf3 hf4 HQ
    go_wp2_with (first | ((with_reducible refine gate_dst (N := 42) rfl ?_); refine stop_ ?_))
    unfold Stop_
    refine wl_append0r 59 4 (.bool false) 1 1 rfl rfl Try.underlying59 (by kernel_rfl) rfl (b := W2.heap.size) (base := W2.heap.size) rfl rfl (Nat.le_refl _) HNW.out HSR.out (by have := HGL.out; simp only [maxLen]; omega) (by have := HGL.out; omega) HSX.out (fun v9 W9 hv9 hb9 => ?_); have HV9 := Aside0.mk hv9; have HB9 := Aside0.mk hb9; clear hv9 hb9 hx4
    go_wp2_with (first | ((with_reducible refine gate_dst (N := 44) rfl ?_); refine stop_ ?_))
    unfold Stop_
    refine wl_append_z (k := .i64) 59 3 4 (.bool false) 1 1 rfl rfl Try.underlying59 Try.underlying3 (by kernel_rfl) rfl (by decide) (by decide) rfl rfl HV9.out (by rw [bos_zeros]; intro u hu; exact (List.all_eq_true.1 (bos_one _)) u hu) (by have := HGL.out; have := HL.out; omega) (Nat.le_trans HSX.out HB9.out.size) (fun v10 W10 hv10 hg10 => ?_); have hb10 := below_of_grown (below_step HBX.out HB9.out) hg10 (Nat.le_trans HSX.out HB9.out.size) (own_grownBy HV9.out); have HI10 := Aside0.mk (HI.out.kept hb10); have HB10 := Aside0.mk (below_step HB2.out hb10); have HK10 := Aside0.mk (HK2.out.trans (KeepG.of_below hb10)); have HV10 := Aside0.mk (ownsAt_row hv10); clear hb10 hv10 hg10; obtain ⟨A10, c10, e10, _⟩ := ownsAt_len HV10.out; subst e10; obtain ⟨Ay, cy, ⟨hbg, hge⟩, ⟨hle, hcm⟩, ⟨hc0, hc1, hc2, hc3, hc4⟩, ⟨hf0, hf1, hf2, hf3, hf4⟩, HQ⟩ := HI10.out.cell
    go_wp2
    go_ret2
    have hv := HV10.out
    rw [bos_zeros, show bos q.got ++ bos (List.replicate n false) = bos (q.got ++ List.replicate n false) by unfold bos; rw [List.map_append]] at hv
    exact ⟨rfl, HI10.out.row (q' := { q with s := q.s ++ cutS s 0 n, got := q.got ++ List.replicate n false }) _ (by show ownsAt _ _ _ _ _ (q.got ++ List.replicate n false).length _; rw [List.length_append, List.length_replicate]; exact ownsAt_base hv HT2.out) (fun _ => rfl), below_set HB10.out HI10.out.ge, HK10.out.trans (KeepG.set g 4 _ _)⟩


/-! ### sternpostref01_Mod: function 40 -/
def sternpostref01_Mod.f (a0 : Int) : Option (Int) := some (Int.tmod (wrap64 ((Int.tmod a0 4294967296) + 4294967296)) 4294967296)
set_option maxHeartbeats 8000000 in
set_option maxRecDepth 100000 in
theorem sternpostref01_Mod.calls (a0 : Int) (r : Int) (w : World) (h : sternpostref01_Mod.f a0 = some r) :
  Calls Try.prog 40 #[.int .i64 a0] w fun e w' => e = .returned (.int .i64 r) ∧ Drawn0 w w' := by
 have H : (some (Int.tmod (wrap64 ((Int.tmod a0 4294967296) + 4294967296)) 4294967296)) = some r := h
 clear h
 obtain rfl := Option.some.inj H
 go_enter Try.func40, Try.ntmps40
 go_wp2
 go_ret
 exact ⟨by first | rfl | (simp; done) | (simp [*]; done), by repeat (first | exact Drawn0.refl _ | apply Drawn0.step)⟩

/-! ### sternpostref01_Distance: function 47 -/
def sternpostref01_Distance.f (a0 : Int) (a1 : Int) : Option (Int × Int) := (sternpostref01_Check.f a0).bind fun t112 => (if t112 = 0 then ((sternpostref01_Check.f a1).bind fun t113 => (if t113 = 0 then ((sternpostref01_Mod.f (wrap64 (a1 - a0))).bind fun t114 => (some (t114, 0))) else (some (0, 1)))) else (some (0, 1)))
set_option maxHeartbeats 8000000 in
set_option maxRecDepth 100000 in
theorem sternpostref01_Distance.calls (a0 : Int) (a1 : Int) (r1 : Int) (r2 : Int) (w : World) (h : sternpostref01_Distance.f a0 a1 = some (r1, r2)) :
  Calls Try.prog 47 #[.int .i64 a0, .int .i64 a1] w fun e w' => e = .returned (.tuple #[.int .i64 r1, .int .i64 r2]) ∧ Drawn0 w w' := by
 have H : ((sternpostref01_Check.f a0).bind fun t112 => (if t112 = 0 then ((sternpostref01_Check.f a1).bind fun t113 => (if t113 = 0 then ((sternpostref01_Mod.f (wrap64 (a1 - a0))).bind fun t114 => (some (t114, 0))) else (some (0, 1)))) else (some (0, 1)))) = some (r1, r2) := h
 clear h
 replace H := Option.bind_eq_some_iff.mp H
 obtain ⟨t112, A30, H⟩ := H
 replace H : (if t112 = 0 then ((sternpostref01_Check.f a1).bind fun t113 => (if t113 = 0 then ((sternpostref01_Mod.f (wrap64 (a1 - a0))).bind fun t114 => (some (t114, 0))) else (some (0, 1)))) else (some (0, 1))) = some (r1, r2) := H
 have A3 := Aside0.mk A30
 clear A30
 by_cases c4 : t112 = 0
 ·rw [if_pos c4] at H
  have c4b0 : (t112 == 0) = true := beq_iff_eq.mpr c4
  have c4b1 : (t112 != 0) = false := bne_eq_false_iff_eq.mpr c4
  clear c4
  replace H := Option.bind_eq_some_iff.mp H
  obtain ⟨t113, A50, H⟩ := H
  replace H : (if t113 = 0 then ((sternpostref01_Mod.f (wrap64 (a1 - a0))).bind fun t114 => (some (t114, 0))) else (some (0, 1))) = some (r1, r2) := H
  have A5 := Aside0.mk A50
  clear A50
  by_cases c6 : t113 = 0
  ·rw [if_pos c6] at H
   have c6b0 : (t113 == 0) = true := beq_iff_eq.mpr c6
   have c6b1 : (t113 != 0) = false := bne_eq_false_iff_eq.mpr c6
   clear c6
   replace H := Option.bind_eq_some_iff.mp H
   obtain ⟨t114, A70, H⟩ := H
   replace H : (some (t114, 0)) = some (r1, r2) := H
   have A7 := Aside0.mk A70
   clear A70
   simp only [Option.some.injEq, Prod.mk.injEq] at H
   obtain ⟨rfl, rfl⟩ := H
   go_enter Try.func47, Try.ntmps47
   go_wp2_with (first | ((with_reducible refine gate_callee (f := 31) rfl ?_); refine goesL_ (some 7) rfl rfl Try.func31 (by kernel_rfl) rfl #[.int .i64 a0] rfl (by (try simp only [List.map_toArray, List.map_cons, List.map_nil]); first | done | rfl | (simp only [List.length_drop, List.length_take]; rfl)) ?_; (with_reducible refine (sternpostref01_Check.calls a0 t112 _ A3.out).mono ?_); rintro e w' ⟨rfl, ⟨nd, rfl⟩⟩; refine ⟨_, rfl, ?_⟩) | (go_at_call 31; (with_reducible refine (sternpostref01_Check.calls a1 t113 _ A5.out).mono ?_); rintro e w' ⟨rfl, ⟨nd, rfl⟩⟩) | ((with_reducible refine gate_callee (f := 40) rfl ?_); refine goesL_ (some 17) rfl rfl Try.func40 (by kernel_rfl) rfl #[.int .i64 (wrap64 (a1 - a0))] rfl (by (try simp only [List.map_toArray, List.map_cons, List.map_nil]); first | done | rfl | (simp only [List.length_drop, List.length_take]; rfl)) ?_; (with_reducible refine (sternpostref01_Mod.calls (wrap64 (a1 - a0)) t114 _ A7.out).mono ?_); rintro e w' ⟨rfl, ⟨nd, rfl⟩⟩; refine ⟨_, rfl, ?_⟩))
   go_ret2
   exact ⟨by first | rfl | (simp; done) | (simp [*]; done), by repeat (first | exact Drawn0.refl _ | apply Drawn0.step)⟩
  ·rw [if_neg c6] at H
   have c6b0 : (t113 == 0) = false := beq_eq_false_iff_ne.mpr c6
   have c6b1 : (t113 != 0) = true := bne_iff_ne.mpr c6
   simp only [Option.some.injEq, Prod.mk.injEq] at H
   obtain ⟨rfl, rfl⟩ := H
   go_enter Try.func47, Try.ntmps47
   go_wp2_with (first | ((with_reducible refine gate_callee (f := 31) rfl ?_); refine goesL_ (some 7) rfl rfl Try.func31 (by kernel_rfl) rfl #[.int .i64 a0] rfl (by (try simp only [List.map_toArray, List.map_cons, List.map_nil]); first | done | rfl | (simp only [List.length_drop, List.length_take]; rfl)) ?_; (with_reducible refine (sternpostref01_Check.calls a0 t112 _ A3.out).mono ?_); rintro e w' ⟨rfl, ⟨nd, rfl⟩⟩; refine ⟨_, rfl, ?_⟩) | (go_at_call 31; (with_reducible refine (sternpostref01_Check.calls a1 t113 _ A5.out).mono ?_); rintro e w' ⟨rfl, ⟨nd, rfl⟩⟩))
   go_ret2
   exact ⟨by first | rfl | (simp; done) | (simp [*]; done), by repeat (first | exact Drawn0.refl _ | apply Drawn0.step)⟩
 ·rw [if_neg c4] at H
  have c4b0 : (t112 == 0) = false := beq_eq_false_iff_ne.mpr c4
  have c4b1 : (t112 != 0) = true := bne_iff_ne.mpr c4
  simp only [Option.some.injEq, Prod.mk.injEq] at H
  obtain ⟨rfl, rfl⟩ := H
  go_enter Try.func47, Try.ntmps47
  go_wp2_with (first | ((with_reducible refine gate_callee (f := 31) rfl ?_); refine goesL_ (some 7) rfl rfl Try.func31 (by kernel_rfl) rfl #[.int .i64 a0] rfl (by (try simp only [List.map_toArray, List.map_cons, List.map_nil]); first | done | rfl | (simp only [List.length_drop, List.length_take]; rfl)) ?_; (with_reducible refine (sternpostref01_Check.calls a0 t112 _ A3.out).mono ?_); rintro e w' ⟨rfl, ⟨nd, rfl⟩⟩; refine ⟨_, rfl, ?_⟩))
  go_ret2
  exact ⟨by first | rfl | (simp; done) | (simp [*]; done), by repeat (first | exact Drawn0.refl _ | apply Drawn0.step)⟩

/-! ### sternpostref01_Ahead: function 44 -/
def sternpostref01_Ahead.f (a0 : Int) (a1 : Int) : Option (Bool × Int) := (sternpostref01_Distance.f a0 a1).bind fun bt115 => (if bt115.2 = 0 then (if bt115.1 ≥ 1 then (some (decide (bt115.1 < 2147483648), 0)) else (some (false, 0))) else (some (false, bt115.2)))
set_option maxHeartbeats 8000000 in
set_option maxRecDepth 100000 in
theorem sternpostref01_Ahead.calls (a0 : Int) (a1 : Int) (r1 : Bool) (r2 : Int) (w : World) (h : sternpostref01_Ahead.f a0 a1 = some (r1, r2)) :
  Calls Try.prog 44 #[.int .i64 a0, .int .i64 a1] w fun e w' => e = .returned (.tuple #[.bool r1, .int .i64 r2]) ∧ Drawn0 w w' := by
 have H : ((sternpostref01_Distance.f a0 a1).bind fun bt115 => (if bt115.2 = 0 then (if bt115.1 ≥ 1 then (some (decide (bt115.1 < 2147483648), 0)) else (some (false, 0))) else (some (false, bt115.2)))) = some (r1, r2) := h
 clear h
 replace H := Option.bind_eq_some_iff.mp H
 obtain ⟨⟨t115, t116⟩, A30, H⟩ := H
 replace H : (if t116 = 0 then (if t115 ≥ 1 then (some (decide (t115 < 2147483648), 0)) else (some (false, 0))) else (some (false, t116))) = some (r1, r2) := H
 have A3 := Aside0.mk A30
 clear A30
 by_cases c4 : t116 = 0
 ·rw [if_pos c4] at H
  have c4b0 : (t116 == 0) = true := beq_iff_eq.mpr c4
  have c4b1 : (t116 != 0) = false := bne_eq_false_iff_eq.mpr c4
  clear c4
  by_cases c5 : t115 ≥ 1
  ·rw [if_pos c5] at H
   have c5b0 : decide (1 ≤ t115) = true := decide_eq_true c5
   clear c5
   simp only [Option.some.injEq, Prod.mk.injEq] at H
   obtain ⟨rfl, rfl⟩ := H
   go_enter Try.func44, Try.ntmps44
   go_wp2_with (first | ((with_reducible refine gate_callee (f := 47) rfl ?_); refine goesL_ (some 11) rfl rfl Try.func47 (by kernel_rfl) rfl #[.int .i64 a0, .int .i64 a1] rfl (by (try simp only [List.map_toArray, List.map_cons, List.map_nil]); first | done | rfl | (simp only [List.length_drop, List.length_take]; rfl)) ?_; (with_reducible refine (sternpostref01_Distance.calls a0 a1 t115 t116 _ A3.out).mono ?_); rintro e w' ⟨rfl, ⟨nd, rfl⟩⟩; refine ⟨_, rfl, ?_⟩))
   go_ret2
   exact ⟨by first | rfl | (simp; done) | (simp [*]; done), by repeat (first | exact Drawn0.refl _ | apply Drawn0.step)⟩
  ·rw [if_neg c5] at H
   have c5b0 : decide (1 ≤ t115) = false := decide_eq_false c5
   clear c5
   simp only [Option.some.injEq, Prod.mk.injEq] at H
   obtain ⟨rfl, rfl⟩ := H
   go_enter Try.func44, Try.ntmps44
   go_wp2_with (first | ((with_reducible refine gate_callee (f := 47) rfl ?_); refine goesL_ (some 11) rfl rfl Try.func47 (by kernel_rfl) rfl #[.int .i64 a0, .int .i64 a1] rfl (by (try simp only [List.map_toArray, List.map_cons, List.map_nil]); first | done | rfl | (simp only [List.length_drop, List.length_take]; rfl)) ?_; (with_reducible refine (sternpostref01_Distance.calls a0 a1 t115 t116 _ A3.out).mono ?_); rintro e w' ⟨rfl, ⟨nd, rfl⟩⟩; refine ⟨_, rfl, ?_⟩))
   go_ret2
   exact ⟨by first | rfl | (simp; done) | (simp [*]; done), by repeat (first | exact Drawn0.refl _ | apply Drawn0.step)⟩
 ·rw [if_neg c4] at H
  have c4b0 : (t116 == 0) = false := beq_eq_false_iff_ne.mpr c4
  have c4b1 : (t116 != 0) = true := bne_iff_ne.mpr c4
  simp only [Option.some.injEq, Prod.mk.injEq] at H
  obtain ⟨rfl, rfl⟩ := H
  go_enter Try.func44, Try.ntmps44
  go_wp2_with (first | ((with_reducible refine gate_callee (f := 47) rfl ?_); refine goesL_ (some 11) rfl rfl Try.func47 (by kernel_rfl) rfl #[.int .i64 a0, .int .i64 a1] rfl (by (try simp only [List.map_toArray, List.map_cons, List.map_nil]); first | done | rfl | (simp only [List.length_drop, List.length_take]; rfl)) ?_; (with_reducible refine (sternpostref01_Distance.calls a0 a1 t115 t116 _ A3.out).mono ?_); rintro e w' ⟨rfl, ⟨nd, rfl⟩⟩; refine ⟨_, rfl, ?_⟩))
  go_ret2
  exact ⟨by first | rfl | (simp; done) | (simp [*]; done), by repeat (first | exact Drawn0.refl _ | apply Drawn0.step)⟩


/-! ### sternpostref15_Queue_off: function 43 (by hand) -/
-- over sternpostref15_New.calls sternpostref15_New.callsR sternpostref01_Ahead.calls sternpostref01_Ahead.callsR
theorem refmod_ (x : Int) : sternpostref01_Mod.f x = some (x % 4294967296) := by
 unfold sternpostref01_Mod.f
 have e : Int.tmod x 4294967296 = x % 4294967296 ∨ Int.tmod x 4294967296 = x % 4294967296 - 4294967296 := by
  rw [Int.tmod_eq_emod]
  split
  ·left; omega
  ·right; rfl
 have hr : ∀ y : Int, 0 ≤ y → Int.tmod y 4294967296 = y % 4294967296 := fun y hy => Int.tmod_eq_emod_of_nonneg hy
 rw [w64p (by omega) (by omega), hr _ (by omega)]
 congr 1
 omega
theorem refdist_ (a b : Int) : sternpostref01_Distance.f a b = some (if sqOk a ∧ sqOk b then ((b - a) % 4294967296, 0) else (0, 1)) := by
 unfold sternpostref01_Distance.f
 rw [refcheck_ a, refcheck_ b]
 by_cases ha : sqOk a
 ·rw [if_pos ha]
  simp only [Option.bind_some]
  rw [if_pos trivial]
  by_cases hb : sqOk b
  ·rw [if_pos hb, if_pos rfl, if_pos ⟨ha, hb⟩]
   have ha' := ha
   have hb' := hb
   unfold sqOk at ha' hb'
   rw [w64p (by omega) (by omega), refmod_]
   rfl
  ·rw [if_neg hb, if_neg (by decide), if_neg (fun h => hb h.2)]
 ·rw [if_neg ha]
  simp only [Option.bind_some]
  rw [if_neg (by decide), if_neg (fun h => ha h.1)]
theorem refahead_ (a b : Int) (ha : sqOk a) (hb : sqOk b) : sternpostref01_Ahead.f a b = some (decide (1 ≤ (b - a) % 4294967296 ∧ (b - a) % 4294967296 ≤ 2147483647), 0) := by
 unfold sternpostref01_Ahead.f
 rw [refdist_, if_pos ⟨ha, hb⟩]
 simp only [Option.bind_some]
 rw [if_pos trivial]
 by_cases h : (b - a) % 4294967296 ≥ 1
 ·rw [if_pos h]
  congr 2
  rw [decide_eq_decide]
  omega
 ·rw [if_neg h, decide_eq_false (by omega)]
theorem refahead_any (a b : Int) : ∃ ah er, sternpostref01_Ahead.f a b = some (ah, er) ∧ (sqOk a → sqOk b → er = 0 ∧ ah = decide (1 ≤ (b - a) % 4294967296 ∧ (b - a) % 4294967296 ≤ 2147483647)) := by
 by_cases h : sqOk a ∧ sqOk b
 ·exact ⟨_, _, refahead_ a b h.1 h.2, fun _ _ => ⟨rfl, rfl⟩⟩
 ·refine ⟨false, 1, ?_, fun h1 h2 => absurd ⟨h1, h2⟩ h⟩
  unfold sternpostref01_Ahead.f
  rw [refdist_, if_neg h]
  rfl
def RQ.off (q : RQ) (n : Int) : Int := if sqOk n ∧ (n - q.left) % 4294967296 ≤ q.sent then (n - q.left) % 4294967296 else -1
set_option maxHeartbeats 4000000 in
set_option maxRecDepth 100000 in
theorem sternpostref15_Queue_off.callsR (g top base : Nat) (q : RQ) (n : Int) (w : World) (hI : RefAt w base top g q) (hl : sqOk q.left) :
  Calls Try.prog 43 #[.pointer (some ⟨g, 0, none⟩), .int .i64 n] w fun e w' => e = .returned (.int .i64 (q.off n)) ∧ Drawn0 w w' := by
 have HI := Aside0.mk hI
 clear hI
 have hd := refdist_ q.left n
 obtain ⟨Az, cz, ⟨hbg, hge⟩, ⟨hle, hcm⟩, ⟨hc0, hc1, hc2, hc3, hc4⟩, ⟨hf0, hf1, hf2, hf3, hf4⟩, HQ⟩ := HI.out.cell
 by_cases hn : sqOk n
 ·rw [if_pos ⟨hl, hn⟩] at hd
  by_cases hs : (n - q.left) % 4294967296 ≤ q.sent
  ·have e : q.off n = (n - q.left) % 4294967296 := by unfold RQ.off; rw [if_pos ⟨hn, hs⟩]
   rw [e]
   obtain ⟨d, hdd⟩ : ∃ d_, (n - q.left) % 4294967296 = d_ := ⟨_, rfl⟩
   rw [hdd] at hd hs ⊢
   have HA := Aside0.mk hd
   clear hd hn e hdd hl
   have d1 : decide (q.sent < d) = false := decide_eq_false (by omega)
   clear hs
   go_enter Try.func43, Try.ntmps43
   go_wp2_with fail
   refine (sternpostref01_Distance.calls q.left n d 0 _ HA.out).mono ?_
   rintro e W1 ⟨rfl, nd, rfl⟩
   go_wp2
   go_ret
   exact ⟨rfl, nd, rfl⟩
  ·have e : q.off n = -1 := by unfold RQ.off; rw [if_neg (fun h => hs h.2)]
   rw [e]
   obtain ⟨d, hdd⟩ : ∃ d_, (n - q.left) % 4294967296 = d_ := ⟨_, rfl⟩
   rw [hdd] at hd hs
   have HA := Aside0.mk hd
   clear hd hn e hdd hl
   have d1 : decide (q.sent < d) = true := decide_eq_true (by omega)
   clear hs
   go_enter Try.func43, Try.ntmps43
   go_wp2_with fail
   refine (sternpostref01_Distance.calls q.left n d 0 _ HA.out).mono ?_
   rintro e W1 ⟨rfl, nd, rfl⟩
   go_wp2
   go_ret
   exact ⟨rfl, nd, rfl⟩
 ·rw [if_neg (fun h => hn h.2)] at hd
  have e : q.off n = -1 := by unfold RQ.off; rw [if_neg (fun h => hn h.1)]
  rw [e]
  have HA := Aside0.mk hd
  clear hd hn e hl
  go_enter Try.func43, Try.ntmps43
  go_wp2_with fail
  refine (sternpostref01_Distance.calls q.left n 0 1 _ HA.out).mono ?_
  rintro e W1 ⟨rfl, nd, rfl⟩
  go_wp2
  go_ret
  exact ⟨rfl, nd, rfl⟩


end Go.Proofs.Ytobndcdohehhbaa.PSendqPlays

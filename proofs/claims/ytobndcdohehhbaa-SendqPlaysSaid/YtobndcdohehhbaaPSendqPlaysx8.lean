-- Laid by this claim's own program over the print's words.
import Derived.Test.YtobndcdohehhbaaPSendqPlaysx0
import Derived.Test.YtobndcdohehhbaaPSendqPlaysx1
import Derived.Test.YtobndcdohehhbaaPSendqPlaysx3
import Derived.Test.YtobndcdohehhbaaPSendqPlaysx6
import Derived.Test.YtobndcdohehhbaaPSendqPlaysx7
namespace Go.Proofs.Ytobndcdohehhbaa.PSendqPlays
open Go.RowKit Go.Proofs.YtobndcdohehhbaaW.PrintWords Go.Proofs.YtobndcdohehhbaaW.PrintLast Go.Proofs.YtobndcdohehhbaaW.PrintMore
attribute [local go_sem] max2_int min2_int max_two min_two max_three min_three max_four min_four max_five min_five extract_cut tmod_nat_lit   -- for this text's walks alone
set_option linter.unusedVariables false
set_option linter.unusedSimpArgs false


/-! ### sternpostref15_Queue_Apart: function 37 (by hand) -/
-- over sternpostref15_Queue_off.calls sternpostref15_Queue_off.callsR
def setN (l : List Bool) (a : Nat) : Nat → List Bool
 | 0 => l
 | n + 1 => (setN l a n).set (a + n) true
theorem setN_length (l : List Bool) (a : Nat) : ∀ n, (setN l a n).length = l.length
 | 0 => rfl
 | n + 1 => by rw [setN, List.length_set, setN_length l a n]
def RQ.note (q : RQ) (x : Int × Int) : RQ := if 0 ≤ q.off x.1 ∧ 0 ≤ q.off x.2 ∧ q.off x.1 < q.off x.2 then { q with got := setN q.got (q.off x.1).toNat (q.off x.2 - q.off x.1).toNat } else q
theorem rnote_same (q : RQ) (x : Int × Int) : (q.note x).left = q.left ∧ (q.note x).sent = q.sent ∧ (q.note x).room = q.room ∧ (q.note x).s = q.s ∧ (q.note x).got.length = q.got.length := by unfold RQ.note; split <;> first | exact ⟨rfl, rfl, rfl, rfl, setN_length _ _ _⟩ | exact ⟨rfl, rfl, rfl, rfl, rfl⟩
theorem rnotes_same (l : List (Int × Int)) : ∀ q : RQ, (l.foldl RQ.note q).left = q.left ∧ (l.foldl RQ.note q).sent = q.sent ∧ (l.foldl RQ.note q).room = q.room ∧ (l.foldl RQ.note q).s = q.s ∧ (l.foldl RQ.note q).got.length = q.got.length := by
 induction l with
 | nil => exact fun q => ⟨rfl, rfl, rfl, rfl, rfl⟩
 | cons x l ih => exact fun q => by obtain ⟨h1, h2, h3, h4, h5⟩ := ih (q.note x); obtain ⟨g1, g2, g3, g4, g5⟩ := rnote_same q x; exact ⟨h1.trans g1, h2.trans g2, h3.trans g3, h4.trans g4, h5.trans g5⟩
def cntT (l : List Bool) (n : Nat) : Int := ((l.take n).count true : Nat)
/-- all blocks stay but some, and rows of bools from a place on -/
def KeepX (top : Nat) (G : List Nat) (w w' : World) : Prop := w.heap.size ≤ w'.heap.size ∧ ∀ (k : Nat) (o : Obj), w.heap[k]? = some o → k ∉ G → (k < top ∨ ∀ cur, o ≠ Obj.cells cur 4 (0, 0)) → w'.heap[k]? = w.heap[k]?
theorem KeepX.refl (top : Nat) (G : List Nat) (w : World) : KeepX top G w w := ⟨Nat.le_refl _, fun _ _ _ _ _ => rfl⟩
theorem KeepX.trans {top : Nat} {G : List Nat} {a b c : World} (h : KeepX top G a b) (k : KeepX top G b c) : KeepX top G a c := ⟨Nat.le_trans h.1 k.1, fun i o ho hg ht => by
 have h1 := h.2 i o ho hg ht
 rw [← h1, k.2 i o (h1.trans ho) hg ht]⟩
theorem KeepX.of_below {top : Nat} {G : List Nat} {a b : World} (h : Below a.heap.size a b) : KeepX top G a b := ⟨h.size, fun k o hk _ _ => h.block k (Array.getElem?_eq_some_iff.1 hk).1⟩
theorem KeepX.drawn {top : Nat} {G : List Nat} (w : World) (nd : Nat) : KeepX top G w (w.drewN nd) := ⟨Nat.le_refl _, fun _ _ _ _ _ => rfl⟩
theorem KeepX.of_keepG {top g : Nat} {G : List Nat} {a b : World} (h : KeepG g a b) (hg : g ∈ G) : KeepX top G a b := ⟨h.1, fun k o hk hn _ => h.2 k (Array.getElem?_eq_some_iff.1 hk).1 (fun e => hn (e ▸ hg))⟩
theorem KeepX.mono {top top' : Nat} {G G' : List Nat} {a b : World} (h : KeepX top G a b) (ht : top' ≤ top) (hG : ∀ g, g ∈ G → g ∈ G') : KeepX top' G' a b := ⟨h.1, fun k o hk hn hc => h.2 k o hk (fun e => hn (hG k e)) (hc.imp (fun h => Nat.lt_of_lt_of_le h ht) id)⟩
theorem ownsAt_keepX {top base : Nat} {G : List Nat} {w w' : World} {e : TypeId} {size : Nat} {v : Value} {n : Nat} {xs : List Value} (h : ownsAt w base e size v n xs) (hk : KeepX top G w w') (he : e ≠ 4) (hG : ∀ g cur, w.heap[g]? = some (Obj.cells cur e (0, 0)) → g ∉ G) : ownsAt w' base e size v n xs :=
 ownsAt_kept h fun g cur _ hg => hk.2 g _ hg (hG g cur hg) (.inr fun cur' hh => by injection hh with _ h2 _; exact he h2)
theorem ownsAt_put {w : World} {base : Nat} {e : TypeId} {g o n c k : Nat} {xs : List Value} {u : Value} (h : ownsAt w base e 1 (.slice (some ⟨g, o, none⟩) n c) n xs) : ownsAt (w.setCell ⟨g, o + k, none⟩ u) base e 1 (.slice (some ⟨g, o, none⟩) n c) n (xs.set k u) := by
 rcases h with ⟨hl, ⟨hv, h0⟩ | ⟨g', o', cap, cur, hv, hb, hg, hc, hm, hs, ht⟩⟩
 ·simp at hv
 ·injection hv with h1 h2 h3
  injection h1 with h1
  injection h1 with h1 h4 _
  subst h1 h3 h4
  refine ⟨by rw [List.length_set, hl], .inr ⟨g, o, c, cur.setIfInBounds (o + k) u, rfl, hb, blk_put hg (o + k) u rfl, hc, hm, by simpa using hs, ?_⟩⟩
  rw [Array.toList_setIfInBounds, List.drop_set, if_neg (by omega), List.take_set, ht, Nat.add_sub_cancel_left]
theorem bos_set (l : List Bool) (k : Nat) (b : Bool) : (bos l).set k (.bool b) = bos (l.set k b) := by unfold bos; rw [List.map_set]
theorem KeepX.row {top base g o n c k : Nat} {G : List Nat} {w : World} {u : Value} {xs : List Value} (h : ownsAt w base 4 1 (.slice (some ⟨g, o, none⟩) n c) n xs) (hb : top ≤ base) : KeepX top G w (w.setCell ⟨g, o + k, none⟩ u) := by
 rcases h with ⟨hl, ⟨hv, h0⟩ | ⟨g', o', cap, cur, hv, hb', hg, hc, hm, hs, ht⟩⟩
 ·simp at hv
 ·injection hv with h1 h2 h3
  injection h1 with h1
  injection h1 with h1 h4 _
  subst h1 h3 h4
  refine ⟨by simp [World.setCell], fun i ob hi _ hc => heap_setCell_other _ _ _ _ (fun e => ?_)⟩
  subst e
  rw [hg] at hi
  rcases hc with hc | hc
  ·omega
  ·exact hc cur (Option.some.inj hi).symm
theorem ownsAt_blk {w : World} {base : Nat} {e : TypeId} {size g o n c m : Nat} {xs : List Value} (h : ownsAt w base e size (.slice (some ⟨g, o, none⟩) n c) m xs) : ∃ cur, w.heap[g]? = some (.cells cur e (0, 0)) ∧ base ≤ g := by
 rcases h with ⟨hl, ⟨hv, h0⟩ | ⟨g', o', cap, cur, hv, hb', hg, hc, hm, hs, ht⟩⟩
 ·simp at hv
 ·injection hv with h1 h2 h3
  injection h1 with h1
  injection h1 with h1 h4 _
  subst h1
  exact ⟨cur, hg, hb'⟩
theorem RefAt.put {w : World} {base top g go o c k : Nat} {q : RQ} (h : RefAt w base top g q) (hv : w.heap[g]? = some (.cells (cellsR q (.slice (some ⟨go, o, none⟩) q.got.length c)) 61 (0, 0))) : RefAt (w.setCell ⟨go, o + k, none⟩ (.bool true)) base top g { q with got := q.got.set k true } := by
 obtain ⟨v, h1, h2, h3⟩ := h
 rw [hv] at h1
 obtain rfl : Value.slice (some ⟨go, o, none⟩) q.got.length c = v := by
  have h4 := congrArg (fun x => match x with | some (Obj.cells cs _ _) => cs[4]? | _ => none) h1
  simpa [cellsR] using h4
 obtain ⟨cur, hb, hge⟩ := ownsAt_blk h3
 have hne : g ≠ go := fun e => by subst e; rw [hv] at hb; simp at hb
 refine ⟨.slice (some ⟨go, o, none⟩) q.got.length c, (heap_setCell_other _ _ _ _ hne).trans hv, h2, ?_⟩
 have := ownsAt_put (k := k) (u := .bool true) h3
 rw [bos_set] at this
 show ownsAt _ _ _ _ _ (q.got.set k true).length (bos (q.got.set k true))
 rw [List.length_set]; exact this
theorem RefAt.keepX {w w' : World} {base top g top' : Nat} {G : List Nat} {q : RQ} (h : RefAt w base top g q) (hk : KeepX top' G w w') (hg : g ∉ G) (hr : ∀ v, w.heap[g]? = some (.cells (cellsR q v) 61 (0, 0)) → ∀ b, v.ownBlock = some b → b < top' ∧ b ∉ G) : RefAt w' base top g q := by
 obtain ⟨v, h1, h2, h3⟩ := h
 exact ⟨v, (hk.2 g _ h1 hg (.inr fun cur hh => by injection hh with _ h2 _; exact absurd h2 (by decide))).trans h1, h2, ownsAt_kept h3 (fun b cur hb hc => hk.2 b _ hc (hr v h1 b hb).2 (.inl (hr v h1 b hb).1))⟩
theorem QAt.keepX {w w' : World} {base g top' : Nat} {G : List Nat} {q : QS} (h : QAt w base g q) (hk : KeepX top' G w w') (hg : g ∉ G) (hG : ∀ b cur, w.heap[b]? = some (Obj.cells cur 73 (0, 0)) → b ∉ G) : QAt w' base g q := by
 obtain ⟨v, h1, h2, h3⟩ := h
 exact ⟨v, (hk.2 g _ h1 hg (.inr fun cur hh => by injection hh with _ h2 _; exact absurd h2 (by decide))).trans h1, h2, ownsAt_keepX h3 hk (by decide) hG⟩
set_option maxHeartbeats 4000000 in
set_option maxRecDepth 100000 in
theorem sternpostref15_Queue_Apart.callsR (g top : Nat) (q : RQ) (Aa : Option Addr) (ca : Nat) (l : List (Int × Int)) (w0 w : World) (hI : RefAt w w0.heap.size top g q) (hB : Below w0.heap.size w0 w) (hA : ownsAt w 0 47 2 (.slice Aa l.length ca) l.length (spc l)) (hl : sqOk q.left) (hs : 0 ≤ q.sent ∧ q.sent ≤ (q.s.size : Int) ∧ (q.s.size : Int) ≤ 65536) (hg : q.got.length = q.s.size) (hT : w0.heap.size ≤ top) :
  Calls Try.prog 37 #[.pointer (some ⟨g, 0, none⟩), .slice Aa l.length ca] w fun e w' => e = .returned (.int .i64 (cntT (l.foldl RQ.note q).got q.sent.toNat)) ∧ RefAt w' w0.heap.size top g (l.foldl RQ.note q) ∧ Below w0.heap.size w0 w' ∧ KeepX top [] w w' := by
 have HI := Aside0.mk hI
 have HB := Aside0.mk hB
 have HA := Aside0.mk hA
 have HL := Aside0.mk hl
 have HS := Aside0.mk hs
 have HGL := Aside0.mk hg
 have HT := Aside0.mk hT
 have HX := Aside0.mk (KeepX.refl top [] w)
 have HLM := Aside0.mk (show l.length ≤ 9223372036854775807 by obtain ⟨_, _, he, h1, h2, _⟩ := ownsAt_len hA; injection he with _ _ h3; simp only [maxLen] at h2; omega)
 clear hI hB hA hl hs hg hT
 go_enter Try.func37, Try.ntmps37
 go_wp2_with fail
 go_loopg [5] l.length (fun kq v5 W => ∃ (i : Nat) (iz : Int), v5 = .int .i64 iz ∧ Aside0 (iz = (i : Int) ∧ kq + i = l.length) ∧ Aside0 (RefAt W w0.heap.size top g ((l.take i).foldl RQ.note q)) ∧ Aside0 (ownsAt W 0 47 2 (.slice Aa l.length ca) l.length (spc l)) ∧ Aside0 (Below w0.heap.size w0 W) ∧ Aside0 (KeepX top [] w W))
 case atStart => exact ⟨0, 0, rfl, ⟨rfl, by simp⟩, HI, HA, HB, HX⟩
 case round =>
  clear HI HA HB HX
  obtain ⟨i, iz, rfl, HK, HI, HA, HB, HX⟩ := hrel
  have hk := HK.out
  obtain ⟨qi, hqi⟩ : ∃ q_, (l.take i).foldl RQ.note q = q_ := ⟨_, rfl⟩
  rw [hqi] at HI
  have hsame := rnotes_same (l.take i) q
  rw [hqi] at hsame
  have HQI := Aside0.mk hqi
  have HLI := Aside0.mk (show sqOk qi.left by rw [hsame.1]; exact HL.out)
  have HSI := Aside0.mk (show 0 ≤ qi.sent ∧ qi.sent ≤ (qi.s.size : Int) ∧ (qi.s.size : Int) ≤ 65536 by rw [hsame.2.1, hsame.2.2.2.1]; exact HS.out)
  have HGI := Aside0.mk (show qi.got.length = qi.s.size by rw [hsame.2.2.2.2, hsame.2.2.2.1]; exact HGL.out)
  have HSN := Aside0.mk hsame.2.1
  clear hqi hsame
  by_cases hlt : iz < (l.length : Int)
  ·have d1 : decide (iz < (l.length : Int)) = true := decide_eq_true hlt
   obtain ⟨k1, rfl⟩ : ∃ k1, gk = k1 + 1 := ⟨gk - 1, by omega⟩
   have hil : i < l.length := by omega
   obtain ⟨⟨fa, fb⟩, hx⟩ : ∃ x, l[i]? = some x := ⟨_, List.getElem?_eq_getElem hil⟩
   have HTK := Aside0.mk (show (l.take (i + 1)).foldl RQ.note q = qi.note (fa, fb) by rw [List.take_add_one, hx, List.foldl_append, HQI.out]; rfl)
   obtain ⟨gq, oq, rfl, hcells⟩ := ownsAt_cells HA.out (by omega)
   obtain ⟨hq0, hq1⟩ : wr.cell? ⟨gq, oq + i * 2, none⟩ = some (.int .i64 fa) ∧ wr.cell? ⟨gq, oq + i * 2 + 1, none⟩ = some (.int .i64 fb) := ⟨hcells _ _ (spc_get l i _ hx).1, hcells _ _ (spc_get l i _ hx).2⟩
   have hn : wrap64 (iz + 1) = ((i + 1 : Nat) : Int) := by have := HLM.out; rw [w64p (by omega) (by omega)]; omega
   have HN := Aside0.mk hn
   have p0 : 0 ≤ iz := by omega
   have tn : iz.toNat = i := by omega
   replace p0 := eq_true p0
   replace hlt := eq_true hlt
   obtain ⟨a, ha⟩ : ∃ a_, qi.off fa = a_ := ⟨_, rfl⟩
   obtain ⟨b, hb⟩ : ∃ b_, qi.off fb = b_ := ⟨_, rfl⟩
   obtain ⟨ah, er, hah, hahf⟩ := refahead_any fa fb
   have HAH := Aside0.mk hah
   have hno : 0 ≤ a → 0 ≤ b → er = 0 ∧ (ah = true ↔ a < b) := fun h1 h2 => by
    have s1 := HSI.out; have s2 := HLI.out
    unfold RQ.off at ha hb
    by_cases ka : sqOk fa ∧ (fa - qi.left) % 4294967296 ≤ qi.sent
    ·by_cases kb : sqOk fb ∧ (fb - qi.left) % 4294967296 ≤ qi.sent
     ·rw [if_pos ka] at ha
      rw [if_pos kb] at hb
      obtain ⟨f1, f2⟩ := hahf ka.1 kb.1
      refine ⟨f1, ?_⟩
      rw [f2, decide_eq_true_eq]
      obtain ⟨ka, ka2⟩ := ka
      obtain ⟨kb, kb2⟩ := kb
      unfold sqOk at ka kb s2
      omega
     ·rw [if_neg kb] at hb; omega
    ·rw [if_neg ka] at ha; omega
   have hab : a ≤ qi.sent ∧ b ≤ qi.sent ∧ -1 ≤ a ∧ -1 ≤ b := by
    have s1 := HSI.out
    constructor
    ·rw [← ha]; unfold RQ.off; split <;> omega
    constructor
    ·rw [← hb]; unfold RQ.off; split <;> omega
    constructor
    ·rw [← ha]; unfold RQ.off; split <;> omega
    ·rw [← hb]; unfold RQ.off; split <;> omega
   have HNO := Aside0.mk hno
   have HOA := Aside0.mk ha
   have HOB := Aside0.mk hb
   have HAB := Aside0.mk hab
   clear hcells hx hn hk hil hah hahf hno ha hb hab
   go_upto_region 4 with fail
   have same : ∀ (ph : Nat) W', Drawn0 wr W' → True := fun _ _ _ => trivial
   refine AnyEvents.region_then 16 (E := []) (C := fun (_ : Nat) W' => Drawn0 wr W') (G := fun _ _ _ _ => True) (T := []) (R := fun _ _ _ _ => True) (vs := [?v33_0, ?v33_1, ?v33_2, ?v33_3, ?v33_4, ?v33_5, (.int .i64 a), ?v33_7, ?v33_8, ?v33_9, ?v33_10, ?v33_11, ?v33_12, (.int .i64 b), ?v33_14, ?v33_15]) (by kernel_rfl) (by kernel_rfl) rfl (by kernel_rfl) ?hc33r same (fun _ _ _ _ _ _ _ _ _ => trivial) (fun _ h => nomatch h) (fun x => ?obs33r) ?fin33r
   case hc33r => exact ⟨1, rfl⟩
   case obs33r =>
    refine AnyEvents.obs_cons ?v33_0 (val_hole (by simp only [List.getD_cons_zero, List.getD_cons_succ])) (AnyEvents.ob_plain (v := ?v33_0) rfl rfl rfl same (by simp only [List.getD_cons_zero, List.getD_cons_succ]) (fun ph W' hwn hW => ?_)) ?_
    ·obtain ⟨nd, rfl⟩ := hW; have z0 := drew_cell nd hq0; have z1 := drew_cell nd hq1; first | (go_simp; done) | (go_simp; (try simp only [i64_w]); rfl) | (go_simp; simp; rfl)
    try simp only [Act.put, List.setIfInBounds_toArray, List.set_cons_zero, List.set_cons_succ]
    refine AnyEvents.obs_cons ?v33_1 (val_hole (by simp only [List.getD_cons_zero, List.getD_cons_succ])) (AnyEvents.ob_plain (v := ?v33_1) rfl rfl rfl same (by simp only [List.getD_cons_zero, List.getD_cons_succ]) (fun ph W' hwn hW => ?_)) ?_
    ·obtain ⟨nd, rfl⟩ := hW; have z0 := drew_cell nd hq0; have z1 := drew_cell nd hq1; first | (go_simp; done) | (go_simp; (try simp only [i64_w]); rfl) | (go_simp; simp; rfl)
    try simp only [Act.put, List.setIfInBounds_toArray, List.set_cons_zero, List.set_cons_succ]
    refine AnyEvents.obs_cons ?v33_2 (val_hole (by simp only [List.getD_cons_zero, List.getD_cons_succ])) (AnyEvents.ob_plain (v := ?v33_2) rfl rfl rfl same (by simp only [List.getD_cons_zero, List.getD_cons_succ]) (fun ph W' hwn hW => ?_)) ?_
    ·obtain ⟨nd, rfl⟩ := hW; have z0 := drew_cell nd hq0; have z1 := drew_cell nd hq1; first | (go_simp; done) | (go_simp; (try simp only [i64_w]); rfl) | (go_simp; simp; rfl)
    try simp only [Act.put, List.setIfInBounds_toArray, List.set_cons_zero, List.set_cons_succ]
    refine AnyEvents.obs_cons ?v33_3 (val_hole (by simp only [List.getD_cons_zero, List.getD_cons_succ])) (AnyEvents.ob_plain (v := ?v33_3) rfl rfl rfl same (by simp only [List.getD_cons_zero, List.getD_cons_succ]) (fun ph W' hwn hW => ?_)) ?_
    ·obtain ⟨nd, rfl⟩ := hW; have z0 := drew_cell nd hq0; have z1 := drew_cell nd hq1; first | (go_simp; done) | (go_simp; (try simp only [i64_w]); rfl) | (go_simp; simp; rfl)
    try simp only [Act.put, List.setIfInBounds_toArray, List.set_cons_zero, List.set_cons_succ]
    refine AnyEvents.obs_cons ?v33_4 (val_hole (by simp only [List.getD_cons_zero, List.getD_cons_succ])) (AnyEvents.ob_plain (v := ?v33_4) rfl rfl rfl same (by simp only [List.getD_cons_zero, List.getD_cons_succ]) (fun ph W' hwn hW => ?_)) ?_
    ·obtain ⟨nd, rfl⟩ := hW; have z0 := drew_cell nd hq0; have z1 := drew_cell nd hq1; first | (go_simp; done) | (go_simp; (try simp only [i64_w]); rfl) | (go_simp; simp; rfl)
    try simp only [Act.put, List.setIfInBounds_toArray, List.set_cons_zero, List.set_cons_succ]
    refine AnyEvents.obs_cons ?v33_5 (val_hole (by simp only [List.getD_cons_zero, List.getD_cons_succ])) (AnyEvents.ob_plain (v := ?v33_5) rfl rfl rfl same (by simp only [List.getD_cons_zero, List.getD_cons_succ]) (fun ph W' hwn hW => ?_)) ?_
    ·obtain ⟨nd, rfl⟩ := hW; have z0 := drew_cell nd hq0; have z1 := drew_cell nd hq1; first | (go_simp; done) | (go_simp; (try simp only [i64_w]); rfl) | (go_simp; simp; rfl)
    try simp only [Act.put, List.setIfInBounds_toArray, List.set_cons_zero, List.set_cons_succ]
    refine AnyEvents.obs_cons (.int .i64 a) (val_hole (by simp only [List.getD_cons_zero, List.getD_cons_succ])) (AnyEvents.ob_call (v := (.int .i64 a)) rfl rfl rfl (by simp only [List.getD_cons_zero, List.getD_cons_succ]) 43 #[.pointer (some ⟨g, 0, none⟩), .int .i64 fa] (fun ph W' hwn hW => ?_) (fun ph W' hwn hW => ?_)) ?_
    ·first | (go_simp; done) | (go_simp; rfl)
    ·obtain ⟨nd, rfl⟩ := hW; refine (sternpostref15_Queue_off.callsR g top w0.heap.size qi fa (wr.drewN nd) (HI.out.drawn rfl) HLI.out).mono ?_; rintro e W2_ ⟨rfl, nd2, rfl⟩; exact ⟨by rw [HOA.out], ⟨nd + nd2, drewN_drewN _ _ _⟩, trivial⟩
    try simp only [Act.put, List.setIfInBounds_toArray, List.set_cons_zero, List.set_cons_succ]
    refine AnyEvents.obs_cons ?v33_7 (val_hole (by simp only [List.getD_cons_zero, List.getD_cons_succ])) (AnyEvents.ob_plain (v := ?v33_7) rfl rfl rfl same (by simp only [List.getD_cons_zero, List.getD_cons_succ]) (fun ph W' hwn hW => ?_)) ?_
    ·obtain ⟨nd, rfl⟩ := hW; have z0 := drew_cell nd hq0; have z1 := drew_cell nd hq1; first | (go_simp; done) | (go_simp; (try simp only [i64_w]); rfl) | (go_simp; simp; rfl)
    try simp only [Act.put, List.setIfInBounds_toArray, List.set_cons_zero, List.set_cons_succ]
    refine AnyEvents.obs_cons ?v33_8 (val_hole (by simp only [List.getD_cons_zero, List.getD_cons_succ])) (AnyEvents.ob_plain (v := ?v33_8) rfl rfl rfl same (by simp only [List.getD_cons_zero, List.getD_cons_succ]) (fun ph W' hwn hW => ?_)) ?_
    ·obtain ⟨nd, rfl⟩ := hW; have z0 := drew_cell nd hq0; have z1 := drew_cell nd hq1; first | (go_simp; done) | (go_simp; (try simp only [i64_w]); rfl) | (go_simp; simp; rfl)
    try simp only [Act.put, List.setIfInBounds_toArray, List.set_cons_zero, List.set_cons_succ]
    refine AnyEvents.obs_cons ?v33_9 (val_hole (by simp only [List.getD_cons_zero, List.getD_cons_succ])) (AnyEvents.ob_plain (v := ?v33_9) rfl rfl rfl same (by simp only [List.getD_cons_zero, List.getD_cons_succ]) (fun ph W' hwn hW => ?_)) ?_
    ·obtain ⟨nd, rfl⟩ := hW; have z0 := drew_cell nd hq0; have z1 := drew_cell nd hq1; first | (go_simp; done) | (go_simp; (try simp only [i64_w]); rfl) | (go_simp; simp; rfl)
    try simp only [Act.put, List.setIfInBounds_toArray, List.set_cons_zero, List.set_cons_succ]
    refine AnyEvents.obs_cons ?v33_10 (val_hole (by simp only [List.getD_cons_zero, List.getD_cons_succ])) (AnyEvents.ob_plain (v := ?v33_10) rfl rfl rfl same (by simp only [List.getD_cons_zero, List.getD_cons_succ]) (fun ph W' hwn hW => ?_)) ?_
    ·obtain ⟨nd, rfl⟩ := hW; have z0 := drew_cell nd hq0; have z1 := drew_cell nd hq1; first | (go_simp; done) | (go_simp; (try simp only [i64_w]); rfl) | (go_simp; simp; rfl)
    try simp only [Act.put, List.setIfInBounds_toArray, List.set_cons_zero, List.set_cons_succ]
    refine AnyEvents.obs_cons ?v33_11 (val_hole (by simp only [List.getD_cons_zero, List.getD_cons_succ])) (AnyEvents.ob_plain (v := ?v33_11) rfl rfl rfl same (by simp only [List.getD_cons_zero, List.getD_cons_succ]) (fun ph W' hwn hW => ?_)) ?_
    ·obtain ⟨nd, rfl⟩ := hW; have z0 := drew_cell nd hq0; have z1 := drew_cell nd hq1; first | (go_simp; done) | (go_simp; (try simp only [i64_w]); rfl) | (go_simp; simp; rfl)
    try simp only [Act.put, List.setIfInBounds_toArray, List.set_cons_zero, List.set_cons_succ]
    refine AnyEvents.obs_cons ?v33_12 (val_hole (by simp only [List.getD_cons_zero, List.getD_cons_succ])) (AnyEvents.ob_plain (v := ?v33_12) rfl rfl rfl same (by simp only [List.getD_cons_zero, List.getD_cons_succ]) (fun ph W' hwn hW => ?_)) ?_
    ·obtain ⟨nd, rfl⟩ := hW; have z0 := drew_cell nd hq0; have z1 := drew_cell nd hq1; first | (go_simp; done) | (go_simp; (try simp only [i64_w]); rfl) | (go_simp; simp; rfl)
    try simp only [Act.put, List.setIfInBounds_toArray, List.set_cons_zero, List.set_cons_succ]
    refine AnyEvents.obs_cons (.int .i64 b) (val_hole (by simp only [List.getD_cons_zero, List.getD_cons_succ])) (AnyEvents.ob_call (v := (.int .i64 b)) rfl rfl rfl (by simp only [List.getD_cons_zero, List.getD_cons_succ]) 43 #[.pointer (some ⟨g, 0, none⟩), .int .i64 fb] (fun ph W' hwn hW => ?_) (fun ph W' hwn hW => ?_)) ?_
    ·first | (go_simp; done) | (go_simp; rfl)
    ·obtain ⟨nd, rfl⟩ := hW; refine (sternpostref15_Queue_off.callsR g top w0.heap.size qi fb (wr.drewN nd) (HI.out.drawn rfl) HLI.out).mono ?_; rintro e W2_ ⟨rfl, nd2, rfl⟩; exact ⟨by rw [HOB.out], ⟨nd + nd2, drewN_drewN _ _ _⟩, trivial⟩
    try simp only [Act.put, List.setIfInBounds_toArray, List.set_cons_zero, List.set_cons_succ]
    refine AnyEvents.obs_cons ?v33_14 (val_hole (by simp only [List.getD_cons_zero, List.getD_cons_succ])) (AnyEvents.ob_plain (v := ?v33_14) rfl rfl rfl same (by simp only [List.getD_cons_zero, List.getD_cons_succ]) (fun ph W' hwn hW => ?_)) ?_
    ·obtain ⟨nd, rfl⟩ := hW; have z0 := drew_cell nd hq0; have z1 := drew_cell nd hq1; first | (go_simp; done) | (go_simp; (try simp only [i64_w]); rfl) | (go_simp; simp; rfl)
    try simp only [Act.put, List.setIfInBounds_toArray, List.set_cons_zero, List.set_cons_succ]
    refine AnyEvents.obs_cons ?v33_15 (val_hole (by simp only [List.getD_cons_zero, List.getD_cons_succ])) (AnyEvents.ob_plain (v := ?v33_15) rfl rfl rfl same (by simp only [List.getD_cons_zero, List.getD_cons_succ]) (fun ph W' hwn hW => ?_)) ?_
    ·obtain ⟨nd, rfl⟩ := hW; have z0 := drew_cell nd hq0; have z1 := drew_cell nd hq1; first | (go_simp; done) | (go_simp; (try simp only [i64_w]); rfl) | (go_simp; simp; rfl)
    try simp only [Act.put, List.setIfInBounds_toArray, List.set_cons_zero, List.set_cons_succ]
    trivial
   case fin33r =>
    intro x W' hD _
    simp only [List.take_succ_cons, List.take_zero, List.drop_succ_cons, List.drop_zero]
    rw [AnyOrder.lexAt_cons ?v33_0 (val_hole (by simp only [List.getD_cons_zero, List.getD_cons_succ]))]
    try simp only [Act.put, List.setIfInBounds_toArray, List.set_cons_zero, List.set_cons_succ]
    rw [AnyOrder.lexAt_cons ?v33_1 (val_hole (by simp only [List.getD_cons_zero, List.getD_cons_succ]))]
    try simp only [Act.put, List.setIfInBounds_toArray, List.set_cons_zero, List.set_cons_succ]
    rw [AnyOrder.lexAt_cons ?v33_2 (val_hole (by simp only [List.getD_cons_zero, List.getD_cons_succ]))]
    try simp only [Act.put, List.setIfInBounds_toArray, List.set_cons_zero, List.set_cons_succ]
    rw [AnyOrder.lexAt_cons ?v33_3 (val_hole (by simp only [List.getD_cons_zero, List.getD_cons_succ]))]
    try simp only [Act.put, List.setIfInBounds_toArray, List.set_cons_zero, List.set_cons_succ]
    rw [AnyOrder.lexAt_cons ?v33_4 (val_hole (by simp only [List.getD_cons_zero, List.getD_cons_succ]))]
    try simp only [Act.put, List.setIfInBounds_toArray, List.set_cons_zero, List.set_cons_succ]
    rw [AnyOrder.lexAt_cons ?v33_5 (val_hole (by simp only [List.getD_cons_zero, List.getD_cons_succ]))]
    try simp only [Act.put, List.setIfInBounds_toArray, List.set_cons_zero, List.set_cons_succ]
    rw [AnyOrder.lexAt_cons (.int .i64 a) (val_hole (by simp only [List.getD_cons_zero, List.getD_cons_succ]))]
    try simp only [Act.put, List.setIfInBounds_toArray, List.set_cons_zero, List.set_cons_succ]
    rw [AnyOrder.lexAt_cons ?v33_7 (val_hole (by simp only [List.getD_cons_zero, List.getD_cons_succ]))]
    try simp only [Act.put, List.setIfInBounds_toArray, List.set_cons_zero, List.set_cons_succ]
    rw [AnyOrder.lexAt_cons ?v33_8 (val_hole (by simp only [List.getD_cons_zero, List.getD_cons_succ]))]
    try simp only [Act.put, List.setIfInBounds_toArray, List.set_cons_zero, List.set_cons_succ]
    rw [AnyOrder.lexAt_cons ?v33_9 (val_hole (by simp only [List.getD_cons_zero, List.getD_cons_succ]))]
    try simp only [Act.put, List.setIfInBounds_toArray, List.set_cons_zero, List.set_cons_succ]
    rw [AnyOrder.lexAt_cons ?v33_10 (val_hole (by simp only [List.getD_cons_zero, List.getD_cons_succ]))]
    try simp only [Act.put, List.setIfInBounds_toArray, List.set_cons_zero, List.set_cons_succ]
    rw [AnyOrder.lexAt_cons ?v33_11 (val_hole (by simp only [List.getD_cons_zero, List.getD_cons_succ]))]
    try simp only [Act.put, List.setIfInBounds_toArray, List.set_cons_zero, List.set_cons_succ]
    rw [AnyOrder.lexAt_cons ?v33_12 (val_hole (by simp only [List.getD_cons_zero, List.getD_cons_succ]))]
    try simp only [Act.put, List.setIfInBounds_toArray, List.set_cons_zero, List.set_cons_succ]
    rw [AnyOrder.lexAt_cons (.int .i64 b) (val_hole (by simp only [List.getD_cons_zero, List.getD_cons_succ]))]
    try simp only [Act.put, List.setIfInBounds_toArray, List.set_cons_zero, List.set_cons_succ]
    rw [AnyOrder.lexAt_cons ?v33_14 (val_hole (by simp only [List.getD_cons_zero, List.getD_cons_succ]))]
    try simp only [Act.put, List.setIfInBounds_toArray, List.set_cons_zero, List.set_cons_succ]
    rw [AnyOrder.lexAt_cons ?v33_15 (val_hole (by simp only [List.getD_cons_zero, List.getD_cons_succ]))]
    try simp only [Act.put, List.setIfInBounds_toArray, List.set_cons_zero, List.set_cons_succ]
    rw [AnyOrder.lexAt_nil]
    clear same
    obtain ⟨nd, rfl⟩ := hD
    replace hq0 := drew_cell nd hq0
    replace hq1 := drew_cell nd hq1
    have n0_ := Aside0.mk (RefAt.drawn (w' := wr.drewN nd) HI.out rfl); have n1_ := Aside0.mk (ownsAt_kept (w' := wr.drewN nd) HA.out (fun _ _ _ _ => rfl)); have n2_ := Aside0.mk (pw_below_drewN HB.out nd); have n3_ := Aside0.mk (KeepX.trans HX.out (KeepX.drawn wr nd))
    clear HI HA HB HX
    have HI := n0_; have HA := n1_; have HB := n2_; have HX := n3_
    clear n0_ n1_ n2_ n3_
    generalize wr.drewN nd = W1 at HI HA HB HX hq0 hq1 ⊢
    go_upto_region 5 with fail
    have same : ∀ (ph : Nat) W', Drawn0 W1 W' → True := fun _ _ _ => trivial
    refine AnyEvents.region_then 16 (E := []) (C := fun (_ : Nat) W' => Drawn0 W1 W') (G := fun _ _ _ _ => True) (T := []) (R := fun _ _ _ _ => True) (vs := [?v34_0, ?v34_1, ?v34_2, ?v34_3, ?v34_4, ?v34_5, ?v34_6, ?v34_7, ?v34_8, ?v34_9, (.tuple #[.bool ah, .int .i64 er]), ?v34_11, ?v34_12, ?v34_13, ?v34_14, ?v34_15]) (by kernel_rfl) (by kernel_rfl) rfl (by kernel_rfl) ?hc34r same (fun _ _ _ _ _ _ _ _ _ => trivial) (fun _ h => nomatch h) (fun x => ?obs34r) ?fin34r
    case hc34r => exact ⟨1, rfl⟩
    case obs34r =>
     refine AnyEvents.obs_cons ?v34_0 (val_hole (by simp only [List.getD_cons_zero, List.getD_cons_succ])) (AnyEvents.ob_plain (v := ?v34_0) rfl rfl rfl same (by simp only [List.getD_cons_zero, List.getD_cons_succ]) (fun ph W' hwn hW => ?_)) ?_
     ·obtain ⟨nd, rfl⟩ := hW; have z0 := drew_cell nd hq0; have z1 := drew_cell nd hq1; first | (go_simp; done) | (go_simp; (try simp only [i64_w]); rfl) | (go_simp; simp; rfl)
     try simp only [Act.put, List.setIfInBounds_toArray, List.set_cons_zero, List.set_cons_succ]
     refine AnyEvents.obs_cons ?v34_1 (val_hole (by simp only [List.getD_cons_zero, List.getD_cons_succ])) (AnyEvents.ob_plain (v := ?v34_1) rfl rfl rfl same (by simp only [List.getD_cons_zero, List.getD_cons_succ]) (fun ph W' hwn hW => ?_)) ?_
     ·obtain ⟨nd, rfl⟩ := hW; have z0 := drew_cell nd hq0; have z1 := drew_cell nd hq1; first | (go_simp; done) | (go_simp; (try simp only [i64_w]); rfl) | (go_simp; simp; rfl)
     try simp only [Act.put, List.setIfInBounds_toArray, List.set_cons_zero, List.set_cons_succ]
     refine AnyEvents.obs_cons ?v34_2 (val_hole (by simp only [List.getD_cons_zero, List.getD_cons_succ])) (AnyEvents.ob_plain (v := ?v34_2) rfl rfl rfl same (by simp only [List.getD_cons_zero, List.getD_cons_succ]) (fun ph W' hwn hW => ?_)) ?_
     ·obtain ⟨nd, rfl⟩ := hW; have z0 := drew_cell nd hq0; have z1 := drew_cell nd hq1; first | (go_simp; done) | (go_simp; (try simp only [i64_w]); rfl) | (go_simp; simp; rfl)
     try simp only [Act.put, List.setIfInBounds_toArray, List.set_cons_zero, List.set_cons_succ]
     refine AnyEvents.obs_cons ?v34_3 (val_hole (by simp only [List.getD_cons_zero, List.getD_cons_succ])) (AnyEvents.ob_plain (v := ?v34_3) rfl rfl rfl same (by simp only [List.getD_cons_zero, List.getD_cons_succ]) (fun ph W' hwn hW => ?_)) ?_
     ·obtain ⟨nd, rfl⟩ := hW; have z0 := drew_cell nd hq0; have z1 := drew_cell nd hq1; first | (go_simp; done) | (go_simp; (try simp only [i64_w]); rfl) | (go_simp; simp; rfl)
     try simp only [Act.put, List.setIfInBounds_toArray, List.set_cons_zero, List.set_cons_succ]
     refine AnyEvents.obs_cons ?v34_4 (val_hole (by simp only [List.getD_cons_zero, List.getD_cons_succ])) (AnyEvents.ob_plain (v := ?v34_4) rfl rfl rfl same (by simp only [List.getD_cons_zero, List.getD_cons_succ]) (fun ph W' hwn hW => ?_)) ?_
     ·obtain ⟨nd, rfl⟩ := hW; have z0 := drew_cell nd hq0; have z1 := drew_cell nd hq1; first | (go_simp; done) | (go_simp; (try simp only [i64_w]); rfl) | (go_simp; simp; rfl)
     try simp only [Act.put, List.setIfInBounds_toArray, List.set_cons_zero, List.set_cons_succ]
     refine AnyEvents.obs_cons ?v34_5 (val_hole (by simp only [List.getD_cons_zero, List.getD_cons_succ])) (AnyEvents.ob_plain (v := ?v34_5) rfl rfl rfl same (by simp only [List.getD_cons_zero, List.getD_cons_succ]) (fun ph W' hwn hW => ?_)) ?_
     ·obtain ⟨nd, rfl⟩ := hW; have z0 := drew_cell nd hq0; have z1 := drew_cell nd hq1; first | (go_simp; done) | (go_simp; (try simp only [i64_w]); rfl) | (go_simp; simp; rfl)
     try simp only [Act.put, List.setIfInBounds_toArray, List.set_cons_zero, List.set_cons_succ]
     refine AnyEvents.obs_cons ?v34_6 (val_hole (by simp only [List.getD_cons_zero, List.getD_cons_succ])) (AnyEvents.ob_plain (v := ?v34_6) rfl rfl rfl same (by simp only [List.getD_cons_zero, List.getD_cons_succ]) (fun ph W' hwn hW => ?_)) ?_
     ·obtain ⟨nd, rfl⟩ := hW; have z0 := drew_cell nd hq0; have z1 := drew_cell nd hq1; first | (go_simp; done) | (go_simp; (try simp only [i64_w]); rfl) | (go_simp; simp; rfl)
     try simp only [Act.put, List.setIfInBounds_toArray, List.set_cons_zero, List.set_cons_succ]
     refine AnyEvents.obs_cons ?v34_7 (val_hole (by simp only [List.getD_cons_zero, List.getD_cons_succ])) (AnyEvents.ob_plain (v := ?v34_7) rfl rfl rfl same (by simp only [List.getD_cons_zero, List.getD_cons_succ]) (fun ph W' hwn hW => ?_)) ?_
     ·obtain ⟨nd, rfl⟩ := hW; have z0 := drew_cell nd hq0; have z1 := drew_cell nd hq1; first | (go_simp; done) | (go_simp; (try simp only [i64_w]); rfl) | (go_simp; simp; rfl)
     try simp only [Act.put, List.setIfInBounds_toArray, List.set_cons_zero, List.set_cons_succ]
     refine AnyEvents.obs_cons ?v34_8 (val_hole (by simp only [List.getD_cons_zero, List.getD_cons_succ])) (AnyEvents.ob_plain (v := ?v34_8) rfl rfl rfl same (by simp only [List.getD_cons_zero, List.getD_cons_succ]) (fun ph W' hwn hW => ?_)) ?_
     ·obtain ⟨nd, rfl⟩ := hW; have z0 := drew_cell nd hq0; have z1 := drew_cell nd hq1; first | (go_simp; done) | (go_simp; (try simp only [i64_w]); rfl) | (go_simp; simp; rfl)
     try simp only [Act.put, List.setIfInBounds_toArray, List.set_cons_zero, List.set_cons_succ]
     refine AnyEvents.obs_cons ?v34_9 (val_hole (by simp only [List.getD_cons_zero, List.getD_cons_succ])) (AnyEvents.ob_plain (v := ?v34_9) rfl rfl rfl same (by simp only [List.getD_cons_zero, List.getD_cons_succ]) (fun ph W' hwn hW => ?_)) ?_
     ·obtain ⟨nd, rfl⟩ := hW; have z0 := drew_cell nd hq0; have z1 := drew_cell nd hq1; first | (go_simp; done) | (go_simp; (try simp only [i64_w]); rfl) | (go_simp; simp; rfl)
     try simp only [Act.put, List.setIfInBounds_toArray, List.set_cons_zero, List.set_cons_succ]
     refine AnyEvents.obs_cons (.tuple #[.bool ah, .int .i64 er]) (val_hole (by simp only [List.getD_cons_zero, List.getD_cons_succ])) (AnyEvents.ob_call (v := (.tuple #[.bool ah, .int .i64 er])) rfl rfl rfl (by simp only [List.getD_cons_zero, List.getD_cons_succ]) 44 #[.int .i64 fa, .int .i64 fb] (fun ph W' hwn hW => ?_) (fun ph W' hwn hW => ?_)) ?_
     ·first | (go_simp; done) | (go_simp; rfl)
     ·obtain ⟨nd, rfl⟩ := hW; refine (sternpostref01_Ahead.calls fa fb ah er _ HAH.out).mono ?_; rintro e W2_ ⟨rfl, nd2, rfl⟩; exact ⟨rfl, ⟨nd + nd2, drewN_drewN _ _ _⟩, trivial⟩
     try simp only [Act.put, List.setIfInBounds_toArray, List.set_cons_zero, List.set_cons_succ]
     refine AnyEvents.obs_cons ?v34_11 (val_hole (by simp only [List.getD_cons_zero, List.getD_cons_succ])) (AnyEvents.ob_plain (v := ?v34_11) rfl rfl rfl same (by simp only [List.getD_cons_zero, List.getD_cons_succ]) (fun ph W' hwn hW => ?_)) ?_
     ·obtain ⟨nd, rfl⟩ := hW; have z0 := drew_cell nd hq0; have z1 := drew_cell nd hq1; first | (go_simp; done) | (go_simp; (try simp only [i64_w]); rfl) | (go_simp; simp; rfl)
     try simp only [Act.put, List.setIfInBounds_toArray, List.set_cons_zero, List.set_cons_succ]
     refine AnyEvents.obs_cons ?v34_12 (val_hole (by simp only [List.getD_cons_zero, List.getD_cons_succ])) (AnyEvents.ob_plain (v := ?v34_12) rfl rfl rfl same (by simp only [List.getD_cons_zero, List.getD_cons_succ]) (fun ph W' hwn hW => ?_)) ?_
     ·obtain ⟨nd, rfl⟩ := hW; have z0 := drew_cell nd hq0; have z1 := drew_cell nd hq1; first | (go_simp; done) | (go_simp; (try simp only [i64_w]); rfl) | (go_simp; simp; rfl)
     try simp only [Act.put, List.setIfInBounds_toArray, List.set_cons_zero, List.set_cons_succ]
     refine AnyEvents.obs_cons ?v34_13 (val_hole (by simp only [List.getD_cons_zero, List.getD_cons_succ])) (AnyEvents.ob_plain (v := ?v34_13) rfl rfl rfl same (by simp only [List.getD_cons_zero, List.getD_cons_succ]) (fun ph W' hwn hW => ?_)) ?_
     ·obtain ⟨nd, rfl⟩ := hW; have z0 := drew_cell nd hq0; have z1 := drew_cell nd hq1; first | (go_simp; done) | (go_simp; (try simp only [i64_w]); rfl) | (go_simp; simp; rfl)
     try simp only [Act.put, List.setIfInBounds_toArray, List.set_cons_zero, List.set_cons_succ]
     refine AnyEvents.obs_cons ?v34_14 (val_hole (by simp only [List.getD_cons_zero, List.getD_cons_succ])) (AnyEvents.ob_plain (v := ?v34_14) rfl rfl rfl same (by simp only [List.getD_cons_zero, List.getD_cons_succ]) (fun ph W' hwn hW => ?_)) ?_
     ·obtain ⟨nd, rfl⟩ := hW; have z0 := drew_cell nd hq0; have z1 := drew_cell nd hq1; first | (go_simp; done) | (go_simp; (try simp only [i64_w]); rfl) | (go_simp; simp; rfl)
     try simp only [Act.put, List.setIfInBounds_toArray, List.set_cons_zero, List.set_cons_succ]
     refine AnyEvents.obs_cons ?v34_15 (val_hole (by simp only [List.getD_cons_zero, List.getD_cons_succ])) (AnyEvents.ob_plain (v := ?v34_15) rfl rfl rfl same (by simp only [List.getD_cons_zero, List.getD_cons_succ]) (fun ph W' hwn hW => ?_)) ?_
     ·obtain ⟨nd, rfl⟩ := hW; have z0 := drew_cell nd hq0; have z1 := drew_cell nd hq1; first | (go_simp; done) | (go_simp; (try simp only [i64_w]); rfl) | (go_simp; simp; rfl)
     try simp only [Act.put, List.setIfInBounds_toArray, List.set_cons_zero, List.set_cons_succ]
     trivial
    case fin34r =>
     intro x W' hD _
     simp only [List.take_succ_cons, List.take_zero, List.drop_succ_cons, List.drop_zero]
     rw [AnyOrder.lexAt_cons ?v34_0 (val_hole (by simp only [List.getD_cons_zero, List.getD_cons_succ]))]
     try simp only [Act.put, List.setIfInBounds_toArray, List.set_cons_zero, List.set_cons_succ]
     rw [AnyOrder.lexAt_cons ?v34_1 (val_hole (by simp only [List.getD_cons_zero, List.getD_cons_succ]))]
     try simp only [Act.put, List.setIfInBounds_toArray, List.set_cons_zero, List.set_cons_succ]
     rw [AnyOrder.lexAt_cons ?v34_2 (val_hole (by simp only [List.getD_cons_zero, List.getD_cons_succ]))]
     try simp only [Act.put, List.setIfInBounds_toArray, List.set_cons_zero, List.set_cons_succ]
     rw [AnyOrder.lexAt_cons ?v34_3 (val_hole (by simp only [List.getD_cons_zero, List.getD_cons_succ]))]
     try simp only [Act.put, List.setIfInBounds_toArray, List.set_cons_zero, List.set_cons_succ]
     rw [AnyOrder.lexAt_cons ?v34_4 (val_hole (by simp only [List.getD_cons_zero, List.getD_cons_succ]))]
     try simp only [Act.put, List.setIfInBounds_toArray, List.set_cons_zero, List.set_cons_succ]
     rw [AnyOrder.lexAt_cons ?v34_5 (val_hole (by simp only [List.getD_cons_zero, List.getD_cons_succ]))]
     try simp only [Act.put, List.setIfInBounds_toArray, List.set_cons_zero, List.set_cons_succ]
     rw [AnyOrder.lexAt_cons ?v34_6 (val_hole (by simp only [List.getD_cons_zero, List.getD_cons_succ]))]
     try simp only [Act.put, List.setIfInBounds_toArray, List.set_cons_zero, List.set_cons_succ]
     rw [AnyOrder.lexAt_cons ?v34_7 (val_hole (by simp only [List.getD_cons_zero, List.getD_cons_succ]))]
     try simp only [Act.put, List.setIfInBounds_toArray, List.set_cons_zero, List.set_cons_succ]
     rw [AnyOrder.lexAt_cons ?v34_8 (val_hole (by simp only [List.getD_cons_zero, List.getD_cons_succ]))]
     try simp only [Act.put, List.setIfInBounds_toArray, List.set_cons_zero, List.set_cons_succ]
     rw [AnyOrder.lexAt_cons ?v34_9 (val_hole (by simp only [List.getD_cons_zero, List.getD_cons_succ]))]
     try simp only [Act.put, List.setIfInBounds_toArray, List.set_cons_zero, List.set_cons_succ]
     rw [AnyOrder.lexAt_cons (.tuple #[.bool ah, .int .i64 er]) (val_hole (by simp only [List.getD_cons_zero, List.getD_cons_succ]))]
     try simp only [Act.put, List.setIfInBounds_toArray, List.set_cons_zero, List.set_cons_succ]
     rw [AnyOrder.lexAt_cons ?v34_11 (val_hole (by simp only [List.getD_cons_zero, List.getD_cons_succ]))]
     try simp only [Act.put, List.setIfInBounds_toArray, List.set_cons_zero, List.set_cons_succ]
     rw [AnyOrder.lexAt_cons ?v34_12 (val_hole (by simp only [List.getD_cons_zero, List.getD_cons_succ]))]
     try simp only [Act.put, List.setIfInBounds_toArray, List.set_cons_zero, List.set_cons_succ]
     rw [AnyOrder.lexAt_cons ?v34_13 (val_hole (by simp only [List.getD_cons_zero, List.getD_cons_succ]))]
     try simp only [Act.put, List.setIfInBounds_toArray, List.set_cons_zero, List.set_cons_succ]
     rw [AnyOrder.lexAt_cons ?v34_14 (val_hole (by simp only [List.getD_cons_zero, List.getD_cons_succ]))]
     try simp only [Act.put, List.setIfInBounds_toArray, List.set_cons_zero, List.set_cons_succ]
     rw [AnyOrder.lexAt_cons ?v34_15 (val_hole (by simp only [List.getD_cons_zero, List.getD_cons_succ]))]
     try simp only [Act.put, List.setIfInBounds_toArray, List.set_cons_zero, List.set_cons_succ]
     rw [AnyOrder.lexAt_nil]
     clear same
     obtain ⟨nd, rfl⟩ := hD
     clear hq0 hq1 p0 hlt tn d1
     have n0_ := Aside0.mk (RefAt.drawn (w' := W1.drewN nd) HI.out rfl); have n1_ := Aside0.mk (ownsAt_kept (w' := W1.drewN nd) HA.out (fun _ _ _ _ => rfl)); have n2_ := Aside0.mk (pw_below_drewN HB.out nd); have n3_ := Aside0.mk (KeepX.trans HX.out (KeepX.drawn W1 nd))
     clear HI HA HB HX
     have HI := n0_; have HA := n1_; have HB := n2_; have HX := n3_
     clear n0_ n1_ n2_ n3_
     generalize W1.drewN nd = W2 at HI HA HB HX ⊢
     by_cases c1 : a < 0
     ·have e : qi.note (fa, fb) = qi := by unfold RQ.note; rw [HOA.out, HOB.out, if_neg (by omega)]
      have HE := Aside0.mk e
      have d1 : decide (a < 0) = true := decide_eq_true c1
      clear e c1
      go_wp2
      go_roundg k1
      case measure => omega
      case rel => exact ⟨i + 1, _, rfl, ⟨HN.out, by have := HK.out; omega⟩, ⟨by rw [HTK.out, HE.out]; exact HI.out⟩, HA, HB, HX⟩
     by_cases c2 : b < 0
     ·have e : qi.note (fa, fb) = qi := by unfold RQ.note; rw [HOA.out, HOB.out, if_neg (by omega)]
      have HE := Aside0.mk e
      have d1 : decide (a < 0) = false := decide_eq_false c1
      have d2 : decide (b < 0) = true := decide_eq_true c2
      clear e c1 c2
      go_wp2
      go_roundg k1
      case measure => omega
      case rel => exact ⟨i + 1, _, rfl, ⟨HN.out, by have := HK.out; omega⟩, ⟨by rw [HTK.out, HE.out]; exact HI.out⟩, HA, HB, HX⟩
     obtain ⟨rfl, hh⟩ := HNO.out (by omega) (by omega)
     have d1 : decide (a < 0) = false := decide_eq_false c1
     have d2 : decide (b < 0) = false := decide_eq_false c2
     have HC := Aside0.mk (And.intro c1 c2)
     by_cases c3 : a < b
     rotate_left
     ·have e : qi.note (fa, fb) = qi := by unfold RQ.note; rw [HOA.out, HOB.out, if_neg (by omega)]
      have HE := Aside0.mk e
      obtain rfl : ah = false := by cases ah with | false => rfl | true => exact absurd (hh.1 rfl) c3
      clear e c1 c2 c3 hh
      go_wp2
      go_roundg k1
      case measure => omega
      case rel => exact ⟨i + 1, _, rfl, ⟨HN.out, by have := HK.out; omega⟩, ⟨by rw [HTK.out, HE.out]; exact HI.out⟩, HA, HB, HX⟩
     obtain rfl := hh.2 c3
     obtain ⟨m, hm⟩ : ∃ m_, (b - a).toNat = m_ := ⟨_, rfl⟩
     have HM := Aside0.mk hm
     have HE := Aside0.mk (show qi.note (fa, fb) = { qi with got := setN qi.got a.toNat m } by unfold RQ.note; rw [HOA.out, HOB.out, if_pos ⟨by omega, by omega, c3⟩, hm])
     have HC3 := Aside0.mk c3
     clear c1 c2 c3 hh hm
     go_wp2_with fail
     go_loopg [10] m (fun kq v10 W => ∃ (j : Nat) (jz : Int), v10 = .int .i64 jz ∧ Aside0 (jz = a + (j : Int) ∧ kq + j = m) ∧ Aside0 (RefAt W w0.heap.size top g { qi with got := setN qi.got a.toNat j }) ∧ Aside0 (ownsAt W 0 47 2 (.slice (some ⟨gq, oq, none⟩) l.length ca) l.length (spc l)) ∧ Aside0 (Below w0.heap.size w0 W) ∧ Aside0 (KeepX top [] w W))
     case atStart => exact ⟨0, a, rfl, ⟨by omega, by omega⟩, HI, HA, HB, HX⟩
     case round =>
      clear HI HA HB HX
      obtain ⟨j, jz, rfl, HJ, HI, HA, HB, HX⟩ := hrel
      have hj := HJ.out
      have hm := HM.out
      have hc := HC.out
      have hab := HAB.out
      have hsi := HSI.out
      by_cases hlt : jz < b
      ·have d3 : decide (jz < b) = true := decide_eq_true hlt
       obtain ⟨k2, hk2⟩ : ∃ k2, gk = k2 + 1 := ⟨gk - 1, by omega⟩
       subst hk2
       obtain ⟨Az, cz, ⟨hbg, hge⟩, ⟨hle, hcm⟩, ⟨hc0, hc1, hc2, hc3, hc4⟩, ⟨hf0, hf1, hf2, hf3, hf4⟩, HQ⟩ := HI.out.cell
       change wr.heap[g]? = some (.cells (cellsR { qi with got := setN qi.got a.toNat j } (.slice Az (setN qi.got a.toNat j).length cz)) 61 (0, 0)) at hbg
       change wr.cell? ⟨g, 4, none⟩ = some (.slice Az (setN qi.got a.toNat j).length cz) at hc4
       change ownsAt wr top 4 1 (.slice Az (setN qi.got a.toNat j).length cz) (setN qi.got a.toNat j).length (bos (setN qi.got a.toNat j)) at HQ
       rw [setN_length, HGI.out] at hc4
       have hjl : a.toNat + j < (setN qi.got a.toNat j).length := by rw [setN_length, HGI.out]; omega
       obtain ⟨gr, og, rfl, hcells⟩ := ownsAt_cells HQ (by omega)
       obtain ⟨bb, hbb⟩ : ∃ b_, (setN qi.got a.toNat j)[a.toNat + j]? = some b_ := ⟨_, List.getElem?_eq_getElem hjl⟩
       have hz0 := hcells _ _ (bos_get hbb)
       obtain ⟨curz, hblk, _⟩ := ownsAt_blk HQ
       have hf9 := blk_frozen hblk (og + (a.toNat + j))
       have HI2 := Aside0.mk (show RefAt (wr.setCell ⟨gr, og + (a.toNat + j), none⟩ (.bool true)) w0.heap.size top g { qi with got := setN qi.got a.toNat (j + 1) } from HI.out.put hbg)
       have HX2 := Aside0.mk (HX.out.trans (KeepX.row (k := a.toNat + j) (u := .bool true) HQ (Nat.le_refl _)))
       have HB2 := Aside0.mk (show Below w0.heap.size w0 (wr.setCell ⟨gr, og + (a.toNat + j), none⟩ (.bool true)) from below_set HB.out (by have := HT.out; obtain ⟨_, _, h⟩ := ownsAt_blk HQ; omega))
       have HA2 := Aside0.mk (show ownsAt (wr.setCell ⟨gr, og + (a.toNat + j), none⟩ (.bool true)) 0 47 2 (.slice (some ⟨gq, oq, none⟩) l.length ca) l.length (spc l) from ownsAt_keepX (top := top) (G := []) HA.out (KeepX.row (k := a.toNat + j) (u := .bool true) HQ (Nat.le_refl _)) (by decide) (fun _ _ _ h => nomatch h))
       have hn : wrap64 (jz + 1) = a + ((j + 1 : Nat) : Int) := by rw [w64p (by omega) (by omega)]; omega
       have HN2 := Aside0.mk hn
       have p0 : 0 ≤ jz := by omega
       have p1 : jz < (qi.s.size : Int) := by omega
       have tn : jz.toNat = a.toNat + j := by omega
       replace p0 := eq_true p0
       replace p1 := eq_true p1
       have HQ_ := Aside0.mk HQ
       clear hcells hbb hn hj hm hc hab hsi hjl hblk hbg hge hle hcm hc0 hc1 hc2 hc3 hf0 hf1 hf2 hf3 hf4 HQ hlt d1 d2
       go_wp2
       go_roundg k2
       case measure => omega
       case rel => exact ⟨j + 1, _, rfl, ⟨HN2.out, by have := HJ.out; omega⟩, HI2, HA2, HB2, HX2⟩
      ·have d3 : decide (jz < b) = false := decide_eq_false hlt
       obtain rfl : j = m := by omega
       clear hj hm hc hab hsi hlt d1 d2
       go_wp2
       go_roundg k1
       case measure => omega
       case rel => exact ⟨i + 1, _, rfl, ⟨HN.out, by have := HK.out; omega⟩, ⟨by rw [HTK.out, HE.out]; exact HI.out⟩, HA, HB, HX⟩
  ·have d1 : decide (iz < (l.length : Int)) = false := decide_eq_false hlt
   have hqi := HQI.out
   rw [show i = l.length by omega, List.take_length] at hqi
   have HQ2 := Aside0.mk hqi
   clear hk hqi HK HQI hlt HA
   go_wp2_with fail
   have hz0 : cntT qi.got 0 = 0 := rfl
   go_loopg [11, 12] qi.s.size (fun kq v11 v12 W => ∃ (j : Nat) (jz nz : Int), v11 = .int .i64 nz ∧ v12 = .int .i64 jz ∧ Aside0 (jz = (j : Int) ∧ kq + j = qi.s.size ∧ jz ≤ qi.sent) ∧ Aside0 (nz = cntT qi.got j ∧ 0 ≤ nz ∧ nz ≤ jz) ∧ Aside0 (RefAt W w0.heap.size top g qi) ∧ Aside0 (Below w0.heap.size w0 W) ∧ Aside0 (KeepX top [] w W))
   case atStart => exact ⟨0, 0, 0, rfl, rfl, ⟨rfl, by omega, HSI.out.1⟩, ⟨hz0.symm, Int.le_refl _, Int.le_refl _⟩, HI, HB, HX⟩
   case round =>
    clear HI HB HX hz0 d1
    obtain ⟨j, jz, nz, rfl, rfl, HJ, HN, HI, HB, HX⟩ := hrel
    have hj := HJ.out
    have hnz := HN.out
    have hsi := HSI.out
    obtain ⟨Az, cz, ⟨hbg, hge⟩, ⟨hle, hcm⟩, ⟨hc0, hc1, hc2, hc3, hc4⟩, ⟨hf0, hf1, hf2, hf3, hf4⟩, HQ⟩ := HI.out.cell
    by_cases hlt : jz < qi.sent
    ·have d1 : decide (jz < qi.sent) = true := decide_eq_true hlt
     obtain ⟨k2, hk2⟩ : ∃ k2, gk = k2 + 1 := ⟨gk - 1, by omega⟩
     subst hk2
     have hjl : j < qi.got.length := by rw [HGI.out]; omega
     obtain ⟨gr, og, rfl, hcells⟩ := ownsAt_cells HQ (by omega)
     obtain ⟨bb, hbb⟩ : ∃ b_, qi.got[j]? = some b_ := ⟨_, List.getElem?_eq_getElem hjl⟩
     have hz0 := hcells _ _ (bos_get hbb)
     have hct : cntT qi.got (j + 1) = cntT qi.got j + (if bb = true then 1 else 0) := by
      unfold cntT
      rw [List.take_add_one, hbb]
      cases bb <;> simp
     have HCT := Aside0.mk hct
     have hn : wrap64 (jz + 1) = ((j + 1 : Nat) : Int) := by rw [w64p (by omega) (by omega)]; omega
     have hn2 : wrap64 (nz + 1) = nz + 1 := by rw [w64p (by omega) (by omega)]
     have HN1 := Aside0.mk hn
     have HN2 := Aside0.mk hn2
     have HLT := Aside0.mk hlt
     have p0 : 0 ≤ jz := by omega
     have p1 : jz < (qi.got.length : Int) := by omega
     have tn : jz.toNat = j := by omega
     replace p0 := eq_true p0
     replace p1 := eq_true p1
     clear hcells hbb hn hn2 hj hnz hsi hjl hct hlt
     cases bb
     ·go_wp2
      go_roundg k2
      case measure => omega
      case rel => exact ⟨j + 1, _, _, rfl, rfl, ⟨HN1.out, by have := HJ.out; omega, by have := HLT.out; have := HN1.out; have := HJ.out; omega⟩, ⟨by have h := HCT.out; have := HN.out; simp at h; omega, by have := HN.out; omega, by have := HN.out; have := HN1.out; have := HJ.out; omega⟩, HI, HB, HX⟩
     ·go_wp2
      go_roundg k2
      case measure => omega
      case rel => exact ⟨j + 1, _, _, rfl, rfl, ⟨HN1.out, by have := HJ.out; omega, by have := HLT.out; have := HN1.out; have := HJ.out; omega⟩, ⟨by have h := HCT.out; have := HN.out; have := HN2.out; simp at h; omega, by have := HN.out; have := HN2.out; omega, by have := HN.out; have := HN1.out; have := HN2.out; have := HJ.out; omega⟩, HI, HB, HX⟩
    ·have d1 : decide (jz < qi.sent) = false := decide_eq_false hlt
     have he : nz = cntT qi.got q.sent.toNat := by rw [hnz.1]; have := HSN.out; congr 1; omega
     have HNN := Aside0.mk he
     clear he hj hlt hnz hsi
     go_wp2
     go_ret
     exact ⟨by rw [HQ2.out, ← HNN.out]; rfl, by rw [HQ2.out]; exact HI.out, HB.out, HX.out⟩



/-! ### sternpostref15_Queue_Hole: function 38 (by hand) -/
-- over sternpostref15_Queue_Next1.calls sternpostref15_Queue_Next1.callsR
def trues : List Bool → Nat
 | [] => 0
 | b :: l => if b = true then trues l + 1 else 0
def falses (most : Int) : List Bool → Nat → Nat
 | [], k => k
 | b :: l, k => if b = true then k else if (k : Int) < most then falses most l (k + 1) else k
theorem trues_le : ∀ l, trues l ≤ l.length
 | [] => Nat.le_refl _
 | b :: l => by have := trues_le l; unfold trues; split <;> simp <;> omega
theorem falses_le (most : Int) : ∀ l k, k ≤ falses most l k ∧ falses most l k ≤ k + l.length
 | [], k => ⟨Nat.le_refl _, Nat.le_refl _⟩
 | b :: l, k => by have := falses_le most l (k + 1); unfold falses; split <;> (try split) <;> simp <;> omega
def RQ.holeA (q : RQ) : Nat := trues (q.got.take q.sent.toNat)
def RQ.holeB (q : RQ) (most : Int) : Nat := q.holeA + falses most ((q.got.take q.sent.toNat).drop q.holeA) 0
def RQ.hole (q : RQ) (most : Int) : Int × ByteArray := if q.holeA = q.holeB most then (q.left, (⟨#[]⟩ : ByteArray)) else (q.at_ (q.holeA : Int), cutS q.s q.holeA (q.holeB most))
set_option maxHeartbeats 4000000 in
set_option maxRecDepth 100000 in
theorem sternpostref15_Queue_Hole.callsR (g top : Nat) (q : RQ) (most : Int) (w0 w : World) (hI : RefAt w w0.heap.size top g q) (hl : sqOk q.left) (hs : 0 ≤ q.sent ∧ q.sent ≤ (q.s.size : Int) ∧ (q.s.size : Int) ≤ 65536) (hg : q.got.length = q.s.size) :
  Calls Try.prog 38 #[.pointer (some ⟨g, 0, none⟩), .int .i64 most] w fun e w' => e = .returned (.tuple #[.int .i64 (q.hole most).1, .string (q.hole most).2]) ∧ Drawn0 w w' := by
 have HI := Aside0.mk hI
 have HS := Aside0.mk hs
 obtain ⟨L, hL⟩ : ∃ L_, q.got.take q.sent.toNat = L_ := ⟨_, rfl⟩
 have hLl : (L.length : Int) = q.sent := by rw [← hL, List.length_take]; omega
 have hLg : ∀ (i : Nat) (b : Bool), L[i]? = some b → q.got[i]? = some b := fun i b h => by rw [← hL, List.getElem?_take] at h; split at h <;> first | exact h | cases h
 obtain ⟨A, hA⟩ : ∃ A_, q.holeA = A_ := ⟨_, rfl⟩
 obtain ⟨B, hB⟩ : ∃ B_, q.holeB most = B_ := ⟨_, rfl⟩
 have e : q.hole most = if A = B then (q.left, (⟨#[]⟩ : ByteArray)) else (q.at_ (A : Int), cutS q.s A B) := by unfold RQ.hole; rw [hA, hB]
 rw [e]
 have hA2 : trues (L.drop 0) + 0 = A := by rw [← hA]; unfold RQ.holeA; rw [hL]; rfl
 have hB2 : falses most (L.drop A) 0 + A = B := by rw [← hB]; unfold RQ.holeB; rw [hL, hA]; omega
 have hAl : A ≤ L.length := by have := trues_le L; simp at hA2; omega
 have hBl : A ≤ B ∧ B ≤ L.length := by have := falses_le most (L.drop A) 0; rw [List.length_drop] at this; omega
 have HL := Aside0.mk hLl
 have HLG := Aside0.mk hLg
 have HA := Aside0.mk hA2
 have HBB := Aside0.mk hB2
 have HAL := Aside0.mk (And.intro hAl hBl)
 have hat : wrap64 (q.left + (A : Int)) = q.left + (A : Int) := by unfold sqOk at hl; exact w64p (by omega) (by omega)
 have hm : sternpostref01_Mod.f (wrap64 (q.left + (A : Int))) = some (q.at_ (A : Int)) := by rw [hat, refmod_]; rfl
 have HM := Aside0.mk hm
 have HGL := Aside0.mk hg
 clear hI hl hs hg hL hLl hLg hA hB e hA2 hB2 hAl hBl hat hm
 obtain ⟨az, haz⟩ : ∃ z_, (A : Int) = z_ := ⟨_, rfl⟩
 obtain ⟨bz, hbz⟩ : ∃ z_, (B : Int) = z_ := ⟨_, rfl⟩
 rw [haz] at HM ⊢
 obtain ⟨R, hR⟩ : ∃ R_, (if A = B then (q.left, (⟨#[]⟩ : ByteArray)) else (q.at_ az, cutS q.s A B)) = R_ := ⟨_, rfl⟩
 rw [hR]
 have HR := Aside0.mk hR
 clear hR
 have HAZ := Aside0.mk (And.intro haz hbz)
 clear haz hbz
 obtain ⟨Az, cz, ⟨hbg, hge⟩, ⟨hle, hcm⟩, ⟨hc0, hc1, hc2, hc3, hc4⟩, ⟨hf0, hf1, hf2, hf3, hf4⟩, HQ⟩ := HI.out.cell
 have HQ_ := Aside0.mk HQ
 clear HQ
 go_enter Try.func38, Try.ntmps38
 go_upto_block 0 with fail
 go_cut [6] (fun v6 W => v6 = .int .i64 az ∧ w = W)
 case first =>
  go_wp2_with fail
  go_loopg [6] L.length (fun kq v6 W => ∃ (i : Nat) (iz : Int), v6 = .int .i64 iz ∧ Aside0 (iz = (i : Int) ∧ kq + i = L.length) ∧ Aside0 (trues (L.drop i) + i = A) ∧ w = W)
  case atStart => exact ⟨0, 0, rfl, ⟨rfl, by simp⟩, HA, rfl⟩
  case round =>
   obtain ⟨i, iz, rfl, HK, HF, rfl⟩ := hrel
   have hk := HK.out
   by_cases hlt : iz < q.sent
   ·have d1 : decide (iz < q.sent) = true := decide_eq_true hlt
    obtain ⟨k1, rfl⟩ : ∃ k1, gk = k1 + 1 := ⟨gk - 1, by have := HL.out; omega⟩
    have hil : i < L.length := by have := HL.out; omega
    obtain ⟨b, hx⟩ : ∃ x, L[i]? = some x := ⟨_, List.getElem?_eq_getElem hil⟩
    have hf := HF.out
    rw [List.drop_eq_getElem_cons hil, show L[i] = b from Option.some.inj ((List.getElem?_eq_getElem hil).symm.trans hx), trues] at hf
    have hgi := HLG.out i b hx
    have hgl : i < q.got.length := (List.getElem?_eq_some_iff.1 hgi).1
    obtain ⟨gq, oq, rfl, hcells⟩ := ownsAt_cells HQ_.out (by omega)
    have hq0 := hcells _ _ (bos_get hgi)
    have hn : wrap64 (iz + 1) = ((i + 1 : Nat) : Int) := by have := HS.out; have := HL.out; rw [w64p (by omega) (by omega)]; omega
    have HN := Aside0.mk hn
    have HF2 := Aside0.mk hf
    have p0 : 0 ≤ iz := by omega
    have p1 : iz < (q.got.length : Int) := by omega
    have tn : iz.toNat = i := by omega
    replace p0 := eq_true p0
    replace p1 := eq_true p1
    clear hcells hx hn hk hil hf HF hgi hgl hlt
    cases b
    ·have hf := HF2.out
     rw [if_neg (by decide)] at hf
     have HF3 := Aside0.mk hf
     clear hf
     go_wp2
     go_meet
     case rel => exact ⟨by have h1 := HF3.out; have h2 := HK.out.1; have h3 := HAZ.out.1; rw [show iz = az by omega], rfl⟩
    ·have hf := HF2.out
     rw [if_pos rfl] at hf
     have HF3 := Aside0.mk hf
     clear hf
     go_wp2
     go_roundg k1
     case measure => omega
     case rel => exact ⟨i + 1, _, rfl, ⟨HN.out, by have := HK.out; omega⟩, ⟨by have := HF3.out; omega⟩, rfl⟩
   ·have d1 : decide (iz < q.sent) = false := decide_eq_false hlt
    have hf := HF.out
    rw [List.drop_of_length_le (by have := HL.out; omega), trues] at hf
    have HF3 := Aside0.mk hf
    clear hf hk hlt HF
    go_wp2
    go_meet
    case rel => exact ⟨by have h1 := HF3.out; have h2 := HK.out.1; have h3 := HAZ.out.1; rw [show iz = az by omega], rfl⟩
 case rest =>
  obtain ⟨rfl, rfl⟩ := hcut
  go_upto_block 2 with fail
  go_cut [7] (fun v7 W => v7 = .int .i64 bz ∧ w = W)
  case first =>
   go_wp2_with fail
   go_loopg [7] (L.length - A) (fun kq v7 W => ∃ (i : Nat) (iz : Int), v7 = .int .i64 iz ∧ Aside0 (iz = (i : Int) ∧ A ≤ i ∧ kq + i = L.length) ∧ Aside0 (falses most (L.drop i) (i - A) + A = B) ∧ w = W)
   case atStart => exact ⟨A, az, rfl, ⟨HAZ.out.1.symm, Nat.le_refl _, by have := HAL.out; omega⟩, ⟨by rw [Nat.sub_self]; exact HBB.out⟩, rfl⟩
   case round =>
    obtain ⟨i, iz, rfl, HK, HF, rfl⟩ := hrel
    have hk := HK.out
    by_cases hlt : iz < q.sent
    ·have d1 : decide (iz < q.sent) = true := decide_eq_true hlt
     obtain ⟨k1, rfl⟩ : ∃ k1, gk = k1 + 1 := ⟨gk - 1, by have := HL.out; omega⟩
     have hil : i < L.length := by have := HL.out; omega
     obtain ⟨b, hx⟩ : ∃ x, L[i]? = some x := ⟨_, List.getElem?_eq_getElem hil⟩
     have hf := HF.out
     rw [List.drop_eq_getElem_cons hil, show L[i] = b from Option.some.inj ((List.getElem?_eq_getElem hil).symm.trans hx), falses] at hf
     have hgi := HLG.out i b hx
     have hgl : i < q.got.length := (List.getElem?_eq_some_iff.1 hgi).1
     obtain ⟨gq, oq, rfl, hcells⟩ := ownsAt_cells HQ_.out (by omega)
     have hq0 := hcells _ _ (bos_get hgi)
     have hn : wrap64 (iz + 1) = ((i + 1 : Nat) : Int) := by have := HS.out; have := HL.out; rw [w64p (by omega) (by omega)]; omega
     have HN := Aside0.mk hn
     have hw : wrap64 (iz - az) = ((i - A : Nat) : Int) := by have := HS.out; have := HL.out; have := HAZ.out.1; rw [w64p (by omega) (by omega)]; omega
     have HF2 := Aside0.mk hf
     have p0 : 0 ≤ iz := by omega
     have p1 : iz < (q.got.length : Int) := by omega
     have tn : iz.toNat = i := by omega
     replace p0 := eq_true p0
     replace p1 := eq_true p1
     clear hcells hx hn hk hil hf HF hgi hgl hlt
     cases b
     ·have hf := HF2.out
      rw [if_neg (by decide)] at hf
      by_cases hc : ((i - A : Nat) : Int) < most
      ·have d3 : decide (wrap64 (iz - az) < most) = true := by rw [hw]; exact decide_eq_true hc
       rw [if_pos hc] at hf
       have HF3 := Aside0.mk hf
       clear hf hc hw
       go_wp2
       go_roundg k1
       case measure => omega
       case rel => exact ⟨i + 1, _, rfl, ⟨HN.out, by have := HK.out; omega, by have := HK.out; omega⟩, ⟨by have := HF3.out; have := HK.out; rw [show i + 1 - A = i - A + 1 by omega]; omega⟩, rfl⟩
      ·have d3 : decide (wrap64 (iz - az) < most) = false := by rw [hw]; exact decide_eq_false hc
       rw [if_neg hc] at hf
       have HF3 := Aside0.mk hf
       clear hf hc hw
       go_wp2
       go_meet
       case rel => exact ⟨by have h1 := HF3.out; have h2 := HK.out; have h3 := HAZ.out.2; rw [show iz = bz by omega], rfl⟩
     ·have hf := HF2.out
      rw [if_pos rfl] at hf
      have HF3 := Aside0.mk hf
      clear hf hw
      go_wp2
      go_meet
      case rel => exact ⟨by have h1 := HF3.out; have h2 := HK.out; have h3 := HAZ.out.2; rw [show iz = bz by omega], rfl⟩
    ·have d1 : decide (iz < q.sent) = false := decide_eq_false hlt
     have hf := HF.out
     rw [List.drop_of_length_le (by have := HL.out; omega), falses] at hf
     have HF3 := Aside0.mk hf
     clear hf hk hlt HF
     go_wp2
     go_meet
     case rel => exact ⟨by have h1 := HF3.out; have h2 := HK.out; have h3 := HAZ.out.2; rw [show iz = bz by omega], rfl⟩
  case rest =>
   obtain ⟨rfl, rfl⟩ := hcut
   by_cases hc : A = B
   ·have HC := Aside0.mk hc
    have d2 : (az == bz) = true := beq_iff_eq.mpr (by have := HAZ.out; omega)
    clear hc
    go_wp2
    go_ret2
    have hr := HR.out
    rw [if_pos HC.out] at hr
    rw [← hr]
    exact ⟨rfl, Drawn0.refl _⟩
   ·have HC := Aside0.mk hc
    have d2 : (az == bz) = false := beq_eq_false_iff_ne.mpr (by have := HAZ.out; omega)
    clear hc
    go_upto_region 9 with fail
    clear d2
    have same : ∀ (ph : Nat) W', Drawn0 w W' → True := fun _ _ _ => trivial
    refine AnyEvents.region_then 16 (E := []) (C := fun (_ : Nat) W' => Drawn0 w W') (G := fun _ _ _ _ => True) (T := []) (R := fun _ _ _ _ => True) (vs := [?v32_0, ?v32_1, ?v32_2, ?v32_3, ?v32_4, ?v32_5, (.int .i64 (q.at_ az)), ?v32_7, ?v32_8, ?v32_9, ?v32_10, ?v32_11, ?v32_12, (.string (cutS q.s A B)), ?v32_14, ?v32_15]) (by kernel_rfl) (by kernel_rfl) rfl (by kernel_rfl) ?hc32r same (fun _ _ _ _ _ _ _ _ _ => trivial) (fun _ h => nomatch h) (fun x => ?obs32r) ?fin32r
    case hc32r => exact ⟨1, rfl⟩
    case obs32r =>
     refine AnyEvents.obs_cons ?v32_0 (val_hole (by simp only [List.getD_cons_zero, List.getD_cons_succ])) (AnyEvents.ob_plain (v := ?v32_0) rfl rfl rfl same (by simp only [List.getD_cons_zero, List.getD_cons_succ]) (fun ph W' hwn hW => ?_)) ?_
     ·obtain ⟨nd, rfl⟩ := hW; have z0 := drew_cell nd hc0; have z1 := drew_cell nd hc3; first | (go_simp; done) | (go_simp; (try simp only [i64_w]); rfl) | (go_simp; simp; rfl)
     try simp only [Act.put, List.setIfInBounds_toArray, List.set_cons_zero, List.set_cons_succ]
     refine AnyEvents.obs_cons ?v32_1 (val_hole (by simp only [List.getD_cons_zero, List.getD_cons_succ])) (AnyEvents.ob_plain (v := ?v32_1) rfl rfl rfl same (by simp only [List.getD_cons_zero, List.getD_cons_succ]) (fun ph W' hwn hW => ?_)) ?_
     ·obtain ⟨nd, rfl⟩ := hW; have z0 := drew_cell nd hc0; have z1 := drew_cell nd hc3; first | (go_simp; done) | (go_simp; (try simp only [i64_w]); rfl) | (go_simp; simp; rfl)
     try simp only [Act.put, List.setIfInBounds_toArray, List.set_cons_zero, List.set_cons_succ]
     refine AnyEvents.obs_cons ?v32_2 (val_hole (by simp only [List.getD_cons_zero, List.getD_cons_succ])) (AnyEvents.ob_plain (v := ?v32_2) rfl rfl rfl same (by simp only [List.getD_cons_zero, List.getD_cons_succ]) (fun ph W' hwn hW => ?_)) ?_
     ·obtain ⟨nd, rfl⟩ := hW; have z0 := drew_cell nd hc0; have z1 := drew_cell nd hc3; first | (go_simp; done) | (go_simp; (try simp only [i64_w]); rfl) | (go_simp; simp; rfl)
     try simp only [Act.put, List.setIfInBounds_toArray, List.set_cons_zero, List.set_cons_succ]
     refine AnyEvents.obs_cons ?v32_3 (val_hole (by simp only [List.getD_cons_zero, List.getD_cons_succ])) (AnyEvents.ob_plain (v := ?v32_3) rfl rfl rfl same (by simp only [List.getD_cons_zero, List.getD_cons_succ]) (fun ph W' hwn hW => ?_)) ?_
     ·obtain ⟨nd, rfl⟩ := hW; have z0 := drew_cell nd hc0; have z1 := drew_cell nd hc3; first | (go_simp; done) | (go_simp; (try simp only [i64_w]); rfl) | (go_simp; simp; rfl)
     try simp only [Act.put, List.setIfInBounds_toArray, List.set_cons_zero, List.set_cons_succ]
     refine AnyEvents.obs_cons ?v32_4 (val_hole (by simp only [List.getD_cons_zero, List.getD_cons_succ])) (AnyEvents.ob_plain (v := ?v32_4) rfl rfl rfl same (by simp only [List.getD_cons_zero, List.getD_cons_succ]) (fun ph W' hwn hW => ?_)) ?_
     ·obtain ⟨nd, rfl⟩ := hW; have z0 := drew_cell nd hc0; have z1 := drew_cell nd hc3; first | (go_simp; done) | (go_simp; (try simp only [i64_w]); rfl) | (go_simp; simp; rfl)
     try simp only [Act.put, List.setIfInBounds_toArray, List.set_cons_zero, List.set_cons_succ]
     refine AnyEvents.obs_cons ?v32_5 (val_hole (by simp only [List.getD_cons_zero, List.getD_cons_succ])) (AnyEvents.ob_plain (v := ?v32_5) rfl rfl rfl same (by simp only [List.getD_cons_zero, List.getD_cons_succ]) (fun ph W' hwn hW => ?_)) ?_
     ·obtain ⟨nd, rfl⟩ := hW; have z0 := drew_cell nd hc0; have z1 := drew_cell nd hc3; first | (go_simp; done) | (go_simp; (try simp only [i64_w]); rfl) | (go_simp; simp; rfl)
     try simp only [Act.put, List.setIfInBounds_toArray, List.set_cons_zero, List.set_cons_succ]
     refine AnyEvents.obs_cons (.int .i64 (q.at_ az)) (val_hole (by simp only [List.getD_cons_zero, List.getD_cons_succ])) (AnyEvents.ob_call (v := (.int .i64 (q.at_ az))) rfl rfl rfl (by simp only [List.getD_cons_zero, List.getD_cons_succ]) 40 #[.int .i64 (wrap64 (q.left + az))] (fun ph W' hwn hW => ?_) (fun ph W' hwn hW => ?_)) ?_
     ·first | (go_simp; done) | (go_simp; rfl)
     ·obtain ⟨nd, rfl⟩ := hW; refine (sternpostref01_Mod.calls (wrap64 (q.left + az)) _ (w.drewN nd) HM.out).mono ?_; rintro e W2_ ⟨rfl, nd2, rfl⟩; exact ⟨rfl, ⟨nd + nd2, drewN_drewN _ _ _⟩, trivial⟩
     try simp only [Act.put, List.setIfInBounds_toArray, List.set_cons_zero, List.set_cons_succ]
     refine AnyEvents.obs_cons ?v32_7 (val_hole (by simp only [List.getD_cons_zero, List.getD_cons_succ])) (AnyEvents.ob_plain (v := ?v32_7) rfl rfl rfl same (by simp only [List.getD_cons_zero, List.getD_cons_succ]) (fun ph W' hwn hW => ?_)) ?_
     ·obtain ⟨nd, rfl⟩ := hW; have z0 := drew_cell nd hc0; have z1 := drew_cell nd hc3; first | (go_simp; done) | (go_simp; (try simp only [i64_w]); rfl) | (go_simp; simp; rfl)
     try simp only [Act.put, List.setIfInBounds_toArray, List.set_cons_zero, List.set_cons_succ]
     refine AnyEvents.obs_cons ?v32_8 (val_hole (by simp only [List.getD_cons_zero, List.getD_cons_succ])) (AnyEvents.ob_plain (v := ?v32_8) rfl rfl rfl same (by simp only [List.getD_cons_zero, List.getD_cons_succ]) (fun ph W' hwn hW => ?_)) ?_
     ·obtain ⟨nd, rfl⟩ := hW; have z0 := drew_cell nd hc0; have z1 := drew_cell nd hc3; first | (go_simp; done) | (go_simp; (try simp only [i64_w]); rfl) | (go_simp; simp; rfl)
     try simp only [Act.put, List.setIfInBounds_toArray, List.set_cons_zero, List.set_cons_succ]
     refine AnyEvents.obs_cons ?v32_9 (val_hole (by simp only [List.getD_cons_zero, List.getD_cons_succ])) (AnyEvents.ob_plain (v := ?v32_9) rfl rfl rfl same (by simp only [List.getD_cons_zero, List.getD_cons_succ]) (fun ph W' hwn hW => ?_)) ?_
     ·obtain ⟨nd, rfl⟩ := hW; have z0 := drew_cell nd hc0; have z1 := drew_cell nd hc3; first | (go_simp; done) | (go_simp; (try simp only [i64_w]); rfl) | (go_simp; simp; rfl)
     try simp only [Act.put, List.setIfInBounds_toArray, List.set_cons_zero, List.set_cons_succ]
     refine AnyEvents.obs_cons ?v32_10 (val_hole (by simp only [List.getD_cons_zero, List.getD_cons_succ])) (AnyEvents.ob_plain (v := ?v32_10) rfl rfl rfl same (by simp only [List.getD_cons_zero, List.getD_cons_succ]) (fun ph W' hwn hW => ?_)) ?_
     ·obtain ⟨nd, rfl⟩ := hW; have z0 := drew_cell nd hc0; have z1 := drew_cell nd hc3; first | (go_simp; done) | (go_simp; (try simp only [i64_w]); rfl) | (go_simp; simp; rfl)
     try simp only [Act.put, List.setIfInBounds_toArray, List.set_cons_zero, List.set_cons_succ]
     refine AnyEvents.obs_cons ?v32_11 (val_hole (by simp only [List.getD_cons_zero, List.getD_cons_succ])) (AnyEvents.ob_plain (v := ?v32_11) rfl rfl rfl same (by simp only [List.getD_cons_zero, List.getD_cons_succ]) (fun ph W' hwn hW => ?_)) ?_
     ·obtain ⟨nd, rfl⟩ := hW; have z0 := drew_cell nd hc0; have z1 := drew_cell nd hc3; first | (go_simp; done) | (go_simp; (try simp only [i64_w]); rfl) | (go_simp; simp; rfl)
     try simp only [Act.put, List.setIfInBounds_toArray, List.set_cons_zero, List.set_cons_succ]
     refine AnyEvents.obs_cons ?v32_12 (val_hole (by simp only [List.getD_cons_zero, List.getD_cons_succ])) (AnyEvents.ob_plain (v := ?v32_12) rfl rfl rfl same (by simp only [List.getD_cons_zero, List.getD_cons_succ]) (fun ph W' hwn hW => ?_)) ?_
     ·obtain ⟨nd, rfl⟩ := hW; have z0 := drew_cell nd hc0; have z1 := drew_cell nd hc3; first | (go_simp; done) | (go_simp; (try simp only [i64_w]); rfl) | (go_simp; simp; rfl)
     try simp only [Act.put, List.setIfInBounds_toArray, List.set_cons_zero, List.set_cons_succ]
     refine AnyEvents.obs_cons (.string (cutS q.s A B)) (val_hole (by simp only [List.getD_cons_zero, List.getD_cons_succ])) (AnyEvents.ob_plain (v := (.string (cutS q.s A B))) rfl rfl rfl same (by simp only [List.getD_cons_zero, List.getD_cons_succ]) (fun ph W' hwn hW => ?_)) ?_
     ·obtain ⟨nd, rfl⟩ := hW; refine (run_sl_at (i := az) (j := bz) (s := q.s) Try.underlying9 rfl rfl rfl rfl (by have := HAZ.out; omega) (by have := HAZ.out; have := HAL.out; omega) (by have := HAZ.out; have := HAL.out; have := HL.out; have := HS.out; omega)).trans ?_; rw [show az.toNat = A by have := HAZ.out; omega, show bz.toNat = B by have := HAZ.out; omega]
     try simp only [Act.put, List.setIfInBounds_toArray, List.set_cons_zero, List.set_cons_succ]
     refine AnyEvents.obs_cons ?v32_14 (val_hole (by simp only [List.getD_cons_zero, List.getD_cons_succ])) (AnyEvents.ob_plain (v := ?v32_14) rfl rfl rfl same (by simp only [List.getD_cons_zero, List.getD_cons_succ]) (fun ph W' hwn hW => ?_)) ?_
     ·obtain ⟨nd, rfl⟩ := hW; have z0 := drew_cell nd hc0; have z1 := drew_cell nd hc3; first | (go_simp; done) | (go_simp; (try simp only [i64_w]); rfl) | (go_simp; simp; rfl)
     try simp only [Act.put, List.setIfInBounds_toArray, List.set_cons_zero, List.set_cons_succ]
     refine AnyEvents.obs_cons ?v32_15 (val_hole (by simp only [List.getD_cons_zero, List.getD_cons_succ])) (AnyEvents.ob_plain (v := ?v32_15) rfl rfl rfl same (by simp only [List.getD_cons_zero, List.getD_cons_succ]) (fun ph W' hwn hW => ?_)) ?_
     ·obtain ⟨nd, rfl⟩ := hW; have z0 := drew_cell nd hc0; have z1 := drew_cell nd hc3; first | (go_simp; done) | (go_simp; (try simp only [i64_w]); rfl) | (go_simp; simp; rfl)
     try simp only [Act.put, List.setIfInBounds_toArray, List.set_cons_zero, List.set_cons_succ]
     trivial
    case fin32r =>
     intro x W' hD _
     simp only [List.take_succ_cons, List.take_zero, List.drop_succ_cons, List.drop_zero]
     rw [AnyOrder.lexAt_cons ?v32_0 (val_hole (by simp only [List.getD_cons_zero, List.getD_cons_succ]))]
     try simp only [Act.put, List.setIfInBounds_toArray, List.set_cons_zero, List.set_cons_succ]
     rw [AnyOrder.lexAt_cons ?v32_1 (val_hole (by simp only [List.getD_cons_zero, List.getD_cons_succ]))]
     try simp only [Act.put, List.setIfInBounds_toArray, List.set_cons_zero, List.set_cons_succ]
     rw [AnyOrder.lexAt_cons ?v32_2 (val_hole (by simp only [List.getD_cons_zero, List.getD_cons_succ]))]
     try simp only [Act.put, List.setIfInBounds_toArray, List.set_cons_zero, List.set_cons_succ]
     rw [AnyOrder.lexAt_cons ?v32_3 (val_hole (by simp only [List.getD_cons_zero, List.getD_cons_succ]))]
     try simp only [Act.put, List.setIfInBounds_toArray, List.set_cons_zero, List.set_cons_succ]
     rw [AnyOrder.lexAt_cons ?v32_4 (val_hole (by simp only [List.getD_cons_zero, List.getD_cons_succ]))]
     try simp only [Act.put, List.setIfInBounds_toArray, List.set_cons_zero, List.set_cons_succ]
     rw [AnyOrder.lexAt_cons ?v32_5 (val_hole (by simp only [List.getD_cons_zero, List.getD_cons_succ]))]
     try simp only [Act.put, List.setIfInBounds_toArray, List.set_cons_zero, List.set_cons_succ]
     rw [AnyOrder.lexAt_cons (.int .i64 (q.at_ az)) (val_hole (by simp only [List.getD_cons_zero, List.getD_cons_succ]))]
     try simp only [Act.put, List.setIfInBounds_toArray, List.set_cons_zero, List.set_cons_succ]
     rw [AnyOrder.lexAt_cons ?v32_7 (val_hole (by simp only [List.getD_cons_zero, List.getD_cons_succ]))]
     try simp only [Act.put, List.setIfInBounds_toArray, List.set_cons_zero, List.set_cons_succ]
     rw [AnyOrder.lexAt_cons ?v32_8 (val_hole (by simp only [List.getD_cons_zero, List.getD_cons_succ]))]
     try simp only [Act.put, List.setIfInBounds_toArray, List.set_cons_zero, List.set_cons_succ]
     rw [AnyOrder.lexAt_cons ?v32_9 (val_hole (by simp only [List.getD_cons_zero, List.getD_cons_succ]))]
     try simp only [Act.put, List.setIfInBounds_toArray, List.set_cons_zero, List.set_cons_succ]
     rw [AnyOrder.lexAt_cons ?v32_10 (val_hole (by simp only [List.getD_cons_zero, List.getD_cons_succ]))]
     try simp only [Act.put, List.setIfInBounds_toArray, List.set_cons_zero, List.set_cons_succ]
     rw [AnyOrder.lexAt_cons ?v32_11 (val_hole (by simp only [List.getD_cons_zero, List.getD_cons_succ]))]
     try simp only [Act.put, List.setIfInBounds_toArray, List.set_cons_zero, List.set_cons_succ]
     rw [AnyOrder.lexAt_cons ?v32_12 (val_hole (by simp only [List.getD_cons_zero, List.getD_cons_succ]))]
     try simp only [Act.put, List.setIfInBounds_toArray, List.set_cons_zero, List.set_cons_succ]
     rw [AnyOrder.lexAt_cons (.string (cutS q.s A B)) (val_hole (by simp only [List.getD_cons_zero, List.getD_cons_succ]))]
     try simp only [Act.put, List.setIfInBounds_toArray, List.set_cons_zero, List.set_cons_succ]
     rw [AnyOrder.lexAt_cons ?v32_14 (val_hole (by simp only [List.getD_cons_zero, List.getD_cons_succ]))]
     try simp only [Act.put, List.setIfInBounds_toArray, List.set_cons_zero, List.set_cons_succ]
     rw [AnyOrder.lexAt_cons ?v32_15 (val_hole (by simp only [List.getD_cons_zero, List.getD_cons_succ]))]
     try simp only [Act.put, List.setIfInBounds_toArray, List.set_cons_zero, List.set_cons_succ]
     rw [AnyOrder.lexAt_nil]
     clear same
     obtain ⟨nd, rfl⟩ := hD
     go_wp2
     go_ret2
     have hr := HR.out
     rw [if_neg HC.out] at hr
     rw [← hr]
     exact ⟨rfl, nd, rfl⟩


end Go.Proofs.Ytobndcdohehhbaa.PSendqPlays

-- Laid by this claim's own program over the print's words.
import Derived.Test.YtobndcdohehhbaaPSendqPlaysx0
import Derived.Test.YtobndcdohehhbaaPSendqPlaysx1
import Derived.Test.YtobndcdohehhbaaPSendqPlaysx2
import Derived.Test.YtobndcdohehhbaaPSendqPlaysx3
namespace Go.Proofs.Ytobndcdohehhbaa.PSendqPlays
open Go.RowKit Go.Proofs.YtobndcdohehhbaaW.PrintWords Go.Proofs.YtobndcdohehhbaaW.PrintLast Go.Proofs.YtobndcdohehhbaaW.PrintMore
attribute [local go_sem] max2_int min2_int max_two min_two max_three min_three max_four min_four max_five min_five extract_cut tmod_nat_lit   -- for this text's walks alone
set_option linter.unusedVariables false
set_option linter.unusedSimpArgs false


/-! ### sendq_Queue_Fork: function 20 (by hand) -/
set_option maxHeartbeats 4000000 in
set_option maxRecDepth 100000 in
theorem sendq_Queue_Fork.calls (g : Nat) (q : QS) (w0 w : World) (hI : QAt w w0.heap.size g q) (hB : Below w0.heap.size w0 w) (hl : q.ap.length ≤ 1000000) :
  Calls Try.prog 20 #[.pointer (some ⟨g, 0, none⟩)] w fun e w' => ∃ g', e = .returned (.pointer (some ⟨g', 0, none⟩)) ∧ g ≠ g' ∧ QAt w' w0.heap.size g' q ∧ QAt w' w0.heap.size g q ∧ Below w0.heap.size w0 w' ∧ Below w.heap.size w w' ∧ w.heap.size ≤ g' := by
 have HI := Aside0.mk hI
 have HB := Aside0.mk hB
 have HL := Aside0.mk hl
 clear hI hB hl
 obtain ⟨Az, cz, ⟨hbg, hge⟩, ⟨hle, hcm⟩, ⟨hc0, hc1, hc2, hc3, hc4⟩, ⟨hf0, hf1, hf2, hf3, hf4⟩, HQ⟩ := HI.out.cell
 change _ = some (Value.slice Az q.ap.length cz) at hc4
 change ownsAt w w0.heap.size 73 2 (.slice Az q.ap.length cz) q.ap.length (spc q.ap) at HQ
 have HQA := Aside0.mk HQ
 have HGC := Aside0.mk hbg
 have HGE := Aside0.mk hge
 go_enter Try.func20, Try.ntmps20
 go_upto_region 2 with fail
 have hx := blk_new w (.cells #[.int .i64 q.left, .int .i64 q.sent, .int .i64 q.room, .string q.s, .slice Az q.ap.length cz] 67)
 have hb := below_alloc (Below.refl w.heap.size w) (.cells #[.int .i64 q.left, .int .i64 q.sent, .int .i64 q.room, .string q.s, .slice Az q.ap.length cz] 67)
 have HNE := Aside0.mk (show g < w.heap.size from blk_lt HGC.out)
 clear hbg hge hle hcm hc0 hc1 hc2 hc3 hc4 hf0 hf1 hf2 hf3 hf4 HQ
 have HG1 := Aside0.mk (blk_below HGC.out hb)
 have HQ1 := Aside0.mk (ownsAt_below HQA.out hb)
 have HB1 := Aside0.mk (below_step HB.out hb)
 have HB2 := Aside0.mk hb
 have HSZ := Aside0.mk HB.out.size
 clear HI HGC HQA HB hb
 obtain ⟨g', hg'⟩ : ∃ g_, w.heap.size = g_ := ⟨_, rfl⟩
 have HG' := Aside0.mk hg'
 rw [hg'] at hx HNE HSZ ⊢
 clear hg'
 generalize w.alloc (.cells #[.int .i64 q.left, .int .i64 q.sent, .int .i64 q.room, .string q.s, .slice Az q.ap.length cz] 67) = Wb at hx HG1 HQ1 HB1 HB2 ⊢
 have HX := Aside0.mk hx
 have hgc := HG1.out
 have hc4 := blk_cell hgc 4
 change _ = some (Value.slice Az q.ap.length cz) at hc4
 clear hx hgc
 go_wp2_with fail
 refine (cloneSpan_calls Az cz q.ap w0.heap.size _ HQ1.out HL.out).mono ?_
 rintro e W2 ⟨v, rfl, ho, hb⟩
 obtain ⟨Av, cv, rfl, _⟩ := ownsAt_len ho
 clear hc4
 have hgc := blk_below HG1.out hb
 have hqq := ownsAt_below HQ1.out hb
 have hx := blk_below HX.out hb
 have hx4 := blk_cell hx 4
 have hz4 := blk_frozen hx 4
 change _ = some (Value.slice Az q.ap.length cz) at hx4
 have HV := Aside0.mk (ownsAt_base ho HB1.out.size)
 have HGG := Aside0.mk (show QAt W2 w0.heap.size g q from ⟨_, hgc, HGE.out, hqq⟩)
 have HGN := Aside0.mk (show QAt W2 w0.heap.size g' q from ⟨_, hx, HSZ.out, hqq⟩)
 have HB3 := Aside0.mk (below_step HB1.out hb)
 have HB4 := Aside0.mk (below_step HB2.out hb)
 clear hgc hqq ho hb HG1 HQ1 HB1 HB2 HX hx
 go_wp2
 go_ret
 have hq4 := HGN.out.row (q' := q) _ HV.out (fun _ => rfl)
 exact ⟨g', rfl, by have := HNE.out; omega, hq4, HGG.out.other (by have := HNE.out; omega) ⟨q, HGN.out⟩ (KeepG.set g' 4 W2 _), below_set HB3.out HSZ.out, below_set HB4.out (by have := HG'.out; omega), by have := HG'.out; omega⟩


/-! ### sternpostbook_Among: function 8 -/
def sternpostbook_Among.f (a0 : Int) (a1 : Int) : Option (Int) := if a1 = 0 then (none) else (some (Int.tmod (wrap64 ((Int.tmod a0 a1) + a1)) a1))
set_option maxHeartbeats 8000000 in
set_option maxRecDepth 100000 in
theorem sternpostbook_Among.calls (a0 : Int) (a1 : Int) (r : Int) (w : World) (h : sternpostbook_Among.f a0 a1 = some r) :
  Calls Try.prog 8 #[.int .i64 a0, .int .i64 a1] w fun e w' => e = .returned (.int .i64 r) ∧ Drawn0 w w' := by
 have H : (if a1 = 0 then (none) else (some (Int.tmod (wrap64 ((Int.tmod a0 a1) + a1)) a1))) = some r := h
 clear h
 by_cases c3 : a1 = 0
 ·rw [if_pos c3] at H
  exact absurd H (by simp)
 ·rw [if_neg c3] at H
  have c3b0 : (a1 == 0) = false := beq_eq_false_iff_ne.mpr c3
  have c3b1 : (a1 != 0) = true := bne_iff_ne.mpr c3
  obtain rfl := Option.some.inj H
  go_enter Try.func8, Try.ntmps8
  go_wp2
  go_ret
  exact ⟨by first | rfl | (simp; done) | (simp [*]; done), by repeat (first | exact Drawn0.refl _ | apply Drawn0.step)⟩

/-! ### sendq_Queue_mark_1: function 42 -/
def sendq_Queue_mark_1.f (a0_0 : Int) (a0_1 : Int) (a1_0 : Int) (a1_1 : Int) : Option (Int) := some (wrap64 (a0_0 - a1_0))
set_option maxHeartbeats 8000000 in
set_option maxRecDepth 100000 in
theorem sendq_Queue_mark_1.calls (a0_0 : Int) (a0_1 : Int) (a1_0 : Int) (a1_1 : Int) (r : Int) (w : World) (h : sendq_Queue_mark_1.f a0_0 a0_1 a1_0 a1_1 = some r) :
  Calls Try.prog 42 #[.agg #[.int .i64 a0_0, .int .i64 a0_1], .agg #[.int .i64 a1_0, .int .i64 a1_1]] w fun e w' => e = .returned (.int .i64 r) ∧ Below w.heap.size w w' := by
 have hu73 := Try.underlying73
 have HB := Aside0.mk (Below.refl w.heap.size w)
 have H : (some (wrap64 (a0_0 - a1_0))) = some r := h
 clear h
 obtain rfl := Option.some.inj H
 go_enter Try.func42, Try.ntmps42
 go_wp2_with (first | ((with_reducible refine gate_dst (N := 2) rfl ?_); refine box_event ?hg (N := 2) ?hd (cs := #[.int .i64 a0_0, .int .i64 a0_1]) (t := 73) ?hr ?_; (case hd => rfl); (case hg => rfl); (case hr => first | (go_simp; done) | (go_simp; rfl)); intro gb106 hg w3 hbox hb; have n0_ := Aside0.mk (below_step (by repeat (first | (with_reducible first | exact HB.out | apply below_alloc | apply pw_below_drewN | apply below_drew1) | exact HB.out)) hb); have n1_ := Aside0.mk (hbox); have n2_ := Aside0.mk ((by rw [hg]; exact (below_size (by repeat (first | (with_reducible first | exact HB.out | apply below_alloc | apply pw_below_drewN | apply below_drew1) | exact HB.out))) : w.heap.size ≤ gb106)); have n3_ := Aside0.mk ((by rw [hg]; exact (below_size (by repeat (first | (with_reducible first | exact HB.out | apply below_alloc | apply pw_below_drewN | apply below_drew1) | exact HB.out))) : w.heap.size ≤ gb106)); clear HB; have HB := n0_; have BK106 := n1_; have GW106 := n2_; have GE106 := n3_; clear n0_ n1_ n2_ n3_; clear hb hbox hg) | ((with_reducible refine gate_dst (N := 3) rfl ?_); refine box_event ?hg (N := 3) ?hd (cs := #[.int .i64 a1_0, .int .i64 a1_1]) (t := 73) ?hr ?_; (case hd => rfl); (case hg => rfl); (case hr => first | (go_simp; done) | (go_simp; rfl)); intro gb107 hg w4 hbox hb; have n0_ := Aside0.mk (blk_below (g := gb106) (o := .cells #[.int .i64 a0_0, .int .i64 a0_1] 73 (0, 0)) (by (with_reducible repeat (first | refine blk_drewN ?_ _ | refine blk_drew ?_ | refine blk_alloc ?_ _)); exact BK106.out) hb); have n1_ := Aside0.mk (below_step (by repeat (first | (with_reducible first | exact HB.out | apply below_alloc | apply pw_below_drewN | apply below_drew1 | refine below_set ?_ GE106.out) | exact HB.out)) hb); have n2_ := Aside0.mk (hbox); have n3_ := Aside0.mk ((by rw [hg]; exact (below_size (by repeat (first | (with_reducible first | exact HB.out | apply below_alloc | apply pw_below_drewN | apply below_drew1 | refine below_set ?_ GE106.out) | exact HB.out))) : w.heap.size ≤ gb107)); have n4_ := Aside0.mk ((by rw [hg]; exact (below_size (by repeat (first | (with_reducible first | exact HB.out | apply below_alloc | apply pw_below_drewN | apply below_drew1 | refine below_set ?_ GE106.out) | exact HB.out))) : w.heap.size ≤ gb107)); have n5_ := Aside0.mk ((by rw [hg]; exact Nat.ne_of_lt (blk_lt (g := gb106) (o := .cells #[.int .i64 a0_0, .int .i64 a0_1] 73 (0, 0)) (by (with_reducible repeat (first | refine blk_drewN ?_ _ | refine blk_drew ?_ | refine blk_alloc ?_ _)); exact BK106.out)) : gb106 ≠ gb107)); have n6_ := Aside0.mk ((by rw [hg]; exact Nat.ne_of_gt (blk_lt (g := gb106) (o := .cells #[.int .i64 a0_0, .int .i64 a0_1] 73 (0, 0)) (by (with_reducible repeat (first | refine blk_drewN ?_ _ | refine blk_drew ?_ | refine blk_alloc ?_ _)); exact BK106.out)) : gb107 ≠ gb106)); clear BK106; clear HB; have BK106 := n0_; have HB := n1_; have BK107 := n2_; have GW107 := n3_; have GE107 := n4_; have NB106_107 := n5_; have NB107_106 := n6_; clear n0_ n1_ n2_ n3_ n4_ n5_ n6_; clear hb hbox hg; have hnb5 := NB106_107.out; have hnc5 := NB107_106.out; obtain ⟨hcz6_0, hcz6_1⟩ := blk_cells2 BK106.out; obtain ⟨hfz6_0, hfz6_1⟩ := blk_frozens2 BK106.out; obtain ⟨hcz7_0, hcz7_1⟩ := blk_cells2 BK107.out; obtain ⟨hfz7_0, hfz7_1⟩ := blk_frozens2 BK107.out))
 go_ret
 exact ⟨by first | rfl | (simp [errW_none, errW_some] <;> rfl) | (simp [*, errW_none, errW_some] <;> rfl), by repeat (first | (with_reducible first | exact HB.out | apply below_alloc | apply pw_below_drewN | apply below_drew1 | refine below_set ?_ GE106.out | refine below_set ?_ GE107.out) | exact HB.out)⟩


/-! ### sendq_span_41: function 41 (by hand) -/
-- over sendq_Queue_mark_1.calls sendq_Queue_mark_1.callsR
section
open Go.Shelf Go.Sort Go.Lib
def laid_laysSlF06_f41_ren : Go.Shelf.Ren := ⟨fun | 6 => 41 | 15 => 46 | 14 => 45 | 28 => 56 | 29 => 57 | 20 => 48 | 21 => 49 | 22 => 50 | 23 => 51 | 24 => 52 | 25 => 53 | 26 => 54 | 27 => 55 | 46 => 58 | 47 => 59 | 48 => 60 | 49 => 61 | 50 => 62 | 57 => 63 | n => n, fun | 22 => 65 | 24 => 73 | 25 => 81 | 3 => 3 | 39 => 84 | 0 => 0 | 53 => 93 | 55 => 95 | 4 => 4 | 46 => 87 | 45 => 86 | 50 => 70 | 5 => 5 | 9 => 9 | 66 => 96 | 70 => 100 | 76 => 102 | 77 => 103 | n => n, fun | n => n⟩
theorem laid_laysSlF06_f41 : Go.Proofs.SlLaysF0.n6 Try.prog laid_laysSlF06_f41_ren := {
 mixed := by kernel_rfl
 f6 := ⟨Try.f41.name, by decide, Try.func41.trans (congrArg some (by kernel_rfl))⟩
 f14 := ⟨Try.f45.name, by decide, Try.func45.trans (congrArg some (by kernel_rfl))⟩
 f15 := Try.func46.trans (congrArg some (by kernel_rfl))
 f20 := ⟨Try.f48.name, by decide, Try.func48.trans (congrArg some (by kernel_rfl))⟩
 f21 := ⟨Try.f49.name, by decide, Try.func49.trans (congrArg some (by kernel_rfl))⟩
 f22 := ⟨Try.f50.name, by decide, Try.func50.trans (congrArg some (by kernel_rfl))⟩
 f23 := ⟨Try.f51.name, by decide, Try.func51.trans (congrArg some (by kernel_rfl))⟩
 f24 := ⟨Try.f52.name, by decide, Try.func52.trans (congrArg some (by kernel_rfl))⟩
 f25 := ⟨Try.f53.name, by decide, Try.func53.trans (congrArg some (by kernel_rfl))⟩
 f26 := ⟨Try.f54.name, by decide, Try.func54.trans (congrArg some (by kernel_rfl))⟩
 f27 := ⟨Try.f55.name, by decide, Try.func55.trans (congrArg some (by kernel_rfl))⟩
 f28 := Try.func56.trans (congrArg some (by kernel_rfl))
 f29 := Try.func57.trans (congrArg some (by kernel_rfl))
 f46 := ⟨Try.f58.name, by decide, Try.func58.trans (congrArg some (by kernel_rfl))⟩
 f47 := Try.func59.trans (congrArg some (by kernel_rfl))
 f48 := Try.func60.trans (congrArg some (by kernel_rfl))
 f49 := ⟨Try.f61.name, by decide, Try.func61.trans (congrArg some (by kernel_rfl))⟩
 f50 := ⟨Try.f62.name, by decide, Try.func62.trans (congrArg some (by kernel_rfl))⟩
 f57 := ⟨Try.f63.name, by decide, Try.func63.trans (congrArg some (by kernel_rfl))⟩
 t0 := Try.underlying0
 a0 := Try.isAgg0
 z0 := Try.sizeOf0
 v0 := Try.zeroValue0
 t3 := Try.underlying3
 a3 := Try.isAgg3
 z3 := Try.sizeOf3
 v3 := Try.zeroValue3
 t4 := Try.underlying4
 a4 := Try.isAgg4
 z4 := Try.sizeOf4
 v4 := Try.zeroValue4
 t5 := Try.underlying5
 a5 := Try.isAgg5
 z5 := Try.sizeOf5
 v5 := Try.zeroValue5
 t9 := Try.underlying9
 a9 := Try.isAgg9
 z9 := Try.sizeOf9
 v9 := Try.zeroValue9
 t22 := Try.underlying65
 a22 := Try.isAgg65
 z22 := Try.sizeOf65
 v22 := Try.zeroValue65
 t25 := Try.underlying81
 a25 := Try.isAgg81
 z25 := Try.sizeOf81
 v25 := Try.zeroValue81
 t39 := Try.underlying84
 a39 := Try.isAgg84
 z39 := Try.sizeOf84
 v39 := Try.zeroValue84
 t45 := Try.underlying86
 a45 := Try.isAgg86
 z45 := Try.sizeOf86
 v45 := Try.zeroValue86
 t46 := Try.underlying87
 a46 := Try.isAgg87
 z46 := Try.sizeOf87
 v46 := Try.zeroValue87
 t50 := Try.underlying70
 a50 := Try.isAgg70
 z50 := Try.sizeOf70
 v50 := Try.zeroValue70
 t53 := Try.underlying93
 a53 := Try.isAgg93
 z53 := Try.sizeOf93
 v53 := Try.zeroValue93
 t55 := Try.underlying95
 a55 := Try.isAgg95
 z55 := Try.sizeOf95
 v55 := Try.zeroValue95
 t66 := Try.underlying96
 a66 := Try.isAgg96
 z66 := Try.sizeOf96
 v66 := Try.zeroValue96
 t70 := Try.underlying100
 a70 := Try.isAgg100
 z70 := Try.sizeOf100
 v70 := Try.zeroValue100
 t76 := Try.underlying102
 a76 := Try.isAgg102
 z76 := Try.sizeOf102
 v76 := Try.zeroValue102
 t77 := Try.underlying103
 a77 := Try.isAgg103
 z77 := Try.sizeOf103
 v77 := Try.zeroValue103 }
theorem laid_slices_SortFunc {α : Type} [Inhabited α] (k : Nat) (aE : ∀ w, (isAgg 73).run Try.prog w = .ok true w) (zE : ∀ w, (Go.sizeOf 73).run Try.prog w = .ok k w) (enc : α → List Value) (hk : ∀ x, (enc x).length = k) (h1 : ∀ x, ∀ v ∈ enc x, v.oneCell' = true) (cf : α → α → Int) (hO : SWO (ltOf cf)) (g : Nat) (cb : Array Value) (blk off cap : Nat) (d : Array α) (w : World) (eg : ∀ args w, (callFunc g args).run Try.prog w = .ok (.enter g args) w) (hcmp : CmpLays Try.prog g cb enc k cf blk off d.size w) (hH : HoldsK enc k w blk off d) (hblk : blk < w.heap.size) (hsz : d.size < 4611686018427387904) :
  Calls Try.prog 41 #[.slice (some ⟨blk, off, none⟩) d.size cap, .func (.func g) #[] cb] w fun e w' =>
   e = .returned (.tuple #[]) ∧ ∃ d' n os, PermIn 0 d.size d d' ∧ SortedIn (ltOf cf) 0 d.size d' ∧ w' = sortWorldK enc k w blk off n d' os := AnyQ.slices_SortFunc laid_laysSlF06_f41 k aE zE enc hk h1 cf hO g cb blk off cap d w eg hcmp hH hblk hsz
abbrev SpB := {x : Int × Int // 0 ≤ x.1 ∧ x.1 ≤ 65536}
instance : Inhabited SpB := ⟨⟨(0, 0), by decide⟩⟩
def encS (x : SpB) : List Value := [.int .i64 x.1.1, .int .i64 x.1.2]
def cfS (x y : SpB) : Int := x.1.1 - y.1.1
theorem swoS : SWO (ltOf cfS) where
 irrefl x := by unfold ltOf cfS; simp
 trans x y z h1 h2 := by unfold ltOf cfS at *; simp at *; omega
 ntrans x y z h1 h2 := by unfold ltOf cfS at *; simp at *; omega
set_option maxHeartbeats 1000000 in
theorem cmpS (x y : SpB) (W : World) : Calls Try.prog 42 #[.agg #[.int .i64 x.1.1, .int .i64 x.1.2], .agg #[.int .i64 y.1.1, .int .i64 y.1.2]] W fun e w' => e = .returned (.int .i64 (cfS x y)) ∧ ∃ q os', w' = grow (W.drewN q) os' := by
 obtain ⟨⟨a, b⟩, h1, h2⟩ := x
 obtain ⟨⟨c, d⟩, h3, h4⟩ := y
 dsimp only at h1 h2 h3 h4 ⊢
 have hw : wrap64 (a - c) = a - c := w64p (by omega) (by omega)
 have e : cfS ⟨(a, b), h1, h2⟩ ⟨(c, d), h3, h4⟩ = a - c := rfl
 rw [e]
 clear e h1 h2 h3 h4
 go_enter Try.func42, Try.ntmps42
 go_wp2
 go_ret
 exact ⟨by show Ending.returned (Value.int .i64 (wrap64 (a - c))) = _; rw [hw], 0, _, by rw [alloc_eq_grow, alloc_eq_grow, grow_grow]; rfl⟩
theorem spc_len : ∀ l : List (Int × Int), (spc l).length = l.length * 2
 | [] => rfl
 | x :: l => by have := spc_len l; show (_ :: _ :: spc l).length = _; simp only [List.length_cons, this]; omega
theorem flat_spc (d : Array SpB) : (flatK encS 2 d).toList = spc (d.toList.map Subtype.val) := by
 apply List.ext_getElem?
 intro j
 by_cases hj : j < d.size * 2
 ·have hi : j / 2 < d.size := by omega
  obtain ⟨g1, g2⟩ := spc_get (d.toList.map Subtype.val) (j / 2) (d[j / 2]).1 (by rw [List.getElem?_map]; simp [hi])
  have e1 : (flatK encS 2 d).toList[j]? = some ((flatK encS 2 d)[j]!) := by
   rw [Array.getElem?_toList, Array.getElem?_eq_getElem (by rw [size_flatK]; exact hj), getElem!_pos (flatK encS 2 d) j (by rw [size_flatK]; exact hj)]
  rw [e1, get_flatK _ _ _ _ hj]
  have e2 : d[j / 2]! = d[j / 2] := getElem!_pos d (j / 2) hi
  obtain ⟨y, hy⟩ : ∃ y_, d[j / 2] = y_ := ⟨_, rfl⟩
  rw [hy] at g1 g2 e2
  rw [e2]
  rcases Nat.mod_two_eq_zero_or_one j with h0 | h0
  ·rw [h0, show (spc (d.toList.map Subtype.val))[j]? = (spc (d.toList.map Subtype.val))[j / 2 * 2]? by congr 1; omega, g1]; rfl
  ·rw [h0, show (spc (d.toList.map Subtype.val))[j]? = (spc (d.toList.map Subtype.val))[j / 2 * 2 + 1]? by congr 1; omega, g2]; rfl
 ·rw [List.getElem?_eq_none (by rw [Array.length_toList, size_flatK]; omega), List.getElem?_eq_none (by rw [spc_len]; simp; omega)]
set_option maxHeartbeats 1000000 in
theorem sortSpan_calls (g o cap : Nat) (l : List (Int × Int)) (base : Nat) (W : World) (hv : ownsAt W base 73 2 (.slice (some ⟨g, o, none⟩) l.length cap) l.length (spc l)) (hl : l.length ≤ 1000001) (hb : ∀ x ∈ l, 0 ≤ x.1 ∧ x.1 ≤ 65536) :
  Calls Try.prog 41 #[.slice (some ⟨g, o, none⟩) l.length cap, .func (.func 42) #[] #[]] W fun e w' => e = .returned (.tuple #[]) ∧ ∃ r, r.Perm l ∧ r.Pairwise (fun a b => a.1 ≤ b.1) ∧ ownsAt w' base 73 2 (.slice (some ⟨g, o, none⟩) l.length cap) l.length (spc r) ∧ W.grownBy w' (some g) := by
 obtain ⟨d, hd⟩ : ∃ d : Array SpB, d.toList.map Subtype.val = l := ⟨(l.pmap Subtype.mk hb).toArray, by simp [List.map_pmap]⟩
 have hds : d.size = l.length := by rw [← hd]; simp
 obtain ⟨g', o', c', cur, hvv, hg1, hg2, hg3, hg4, hg5, hg6⟩ : ∃ g' o' c' cur, (Value.slice (some ⟨g, o, none⟩) l.length cap) = .slice (some ⟨g', o', none⟩) l.length c' ∧ base ≤ g' ∧ W.heap[g']? = some (.cells cur 73 (0, 0)) ∧ l.length ≤ c' ∧ c' ≤ maxLen ∧ o' + c' * 2 ≤ cur.size ∧ (cur.toList.drop o').take (l.length * 2) = spc l := by
  rcases hv.2 with ⟨h, _⟩ | ⟨g', o', c', cur, h⟩
  ·simp at h
  ·exact ⟨g', o', c', cur, h⟩
 simp only [Value.slice.injEq, Option.some.injEq, Addr.mk.injEq] at hvv
 obtain ⟨⟨rfl, rfl, _⟩, _, rfl⟩ := hvv
 have hcell : ∀ j, j < l.length * 2 → cur[o + j]? = some ((flatK encS 2 d)[j]!) := fun j hj => by
  have e1 : (spc l)[j]? = some ((flatK encS 2 d)[j]!) := by
   rw [← hd, ← flat_spc, Array.getElem?_toList, Array.getElem?_eq_getElem (by rw [size_flatK]; omega), getElem!_pos (flatK encS 2 d) j (by rw [size_flatK]; omega)]
  rw [← hg6, List.getElem?_take_of_lt hj, List.getElem?_drop] at e1
  simpa using e1
 have hH : HoldsK encS 2 W g o d := fun j hj => by
  rw [size_flatK, hds] at hj
  refine ⟨?_, blk_frozen hg2 _⟩
  rw [blk_cell hg2 (o + j)]; exact hcell j hj
 have hlt : g < W.heap.size := blk_lt hg2
 have hcmp : CmpLays Try.prog 42 #[] encS 2 cfS g o d.size W := fun _ _ _ _ x y => cmpS x y _
 have eg : ∀ args w, (callFunc 42 args).run Try.prog w = .ok (.enter 42 args) w := enters_of Try.func42 (by kernel_rfl) rfl
 have h := laid_slices_SortFunc 2 Try.isAgg73 Try.sizeOf73 encS (fun _ => rfl) (fun x v hv => by simp [encS] at hv; rcases hv with rfl | rfl <;> rfl) cfS swoS 42 #[] g o cap d W eg hcmp hH hlt (by omega)
 rw [hds] at h
 refine h.mono ?_
 rintro e w' ⟨rfl, d', n, os, hp, hs, rfl⟩
 obtain ⟨hp1, _, hp2⟩ := hp
 have hd's : d'.size = l.length := hp1.trans hds
 refine ⟨rfl, d'.toList.map Subtype.val, ?_, ?_, ?_, ?_⟩
 ·have e1 : d'.extract 0 l.length = d' := by rw [← hd's]; simp
  have e2 : d.extract 0 l.length = d := by rw [← hds]; simp
  rw [e1, e2] at hp2
  rw [← hd]; exact hp2.map _
 ·rw [List.pairwise_iff_getElem]
  intro i j hi hj hij
  simp only [List.length_map, Array.length_toList] at hi hj
  have h1 := hs i j (Nat.zero_le _) hij (by omega)
  rw [getElem!_pos d' j hj, getElem!_pos d' i hi] at h1
  unfold ltOf cfS at h1
  simp at h1
  simp only [List.getElem_map, Array.getElem_toList]
  omega
 ·have hg' : (sortWorldK encS 2 W g o n d' os).heap[g]? = some (.cells (putCells id o (flatK encS 2 d') cur) 73 (0, 0)) := by
   unfold sortWorldK grow putRowK putRow mapBlock
   show (Array.modify (Sort.ahead W n).heap g (onCells _) ++ os)[g]? = _
   rw [Array.getElem?_append_left (by rw [Array.size_modify]; exact hlt), Array.getElem?_modify, if_pos rfl]
   show Option.map _ W.heap[g]? = _
   rw [hg2]; rfl
  refine ⟨by rw [spc_len]; simp [hd's], .inr ⟨g, o, cap, _, rfl, hg1, hg', hg3, hg4, by unfold putCells; simpa using hg5, ?_⟩⟩
  rw [← flat_spc]
  have hsz2 : (flatK encS 2 d').size = l.length * 2 := by rw [size_flatK, hd's]
  apply List.ext_getElem?
  intro j
  by_cases hj : j < l.length * 2
  ·have hoj : o + j < cur.size := by have := Nat.mul_le_mul_right 2 hg3; omega
   rw [List.getElem?_take_of_lt hj, List.getElem?_drop, Array.getElem?_toList, Array.getElem?_toList, Array.getElem?_eq_getElem (show j < (flatK encS 2 d').size by omega)]
   unfold putCells
   rw [Array.getElem?_mapIdx, Array.getElem?_eq_getElem hoj]
   simp only [Option.map_some, hsz2]
   rw [if_pos (by omega), show o + j - o = j by omega, getElem!_pos (flatK encS 2 d') j (by omega)]
   rfl
  ·rw [List.getElem?_eq_none (by rw [List.length_take]; omega), List.getElem?_eq_none (by rw [Array.length_toList]; omega)]
 ·refine ⟨rfl, rfl, rfl, ?_, fun k hk hkg => ?_⟩
  ·unfold sortWorldK grow putRowK putRow mapBlock
   show W.heap.size ≤ (Array.modify (Sort.ahead W n).heap g (onCells _) ++ os).size
   rw [Array.size_append, Array.size_modify]
   exact Nat.le_add_right _ _
  ·unfold sortWorldK grow putRowK putRow mapBlock
   show (Array.modify (Sort.ahead W n).heap g (onCells _) ++ os)[k]? = _
   rw [Array.getElem?_append_left (by rw [Array.size_modify]; exact hk), Array.getElem?_modify, if_neg (fun e => hkg (by rw [e]))]
   rfl
end



/-! ### sendq_Queue_mark: function 30 (by hand) -/
/-- one span that lies there, against one that is noted: it stays, or the noted one takes it in -/
def markS (st : List (Int × Int) × (Int × Int)) (y : Int × Int) : List (Int × Int) × (Int × Int) :=
 if y.2 < st.2.1 ∨ st.2.2 < y.1 then (st.1 ++ [y], st.2) else (st.1, (if y.1 < st.2.1 then y.1 else st.2.1, if st.2.2 < y.2 then y.2 else st.2.2))
def markL (x : Int × Int) (l : List (Int × Int)) : List (Int × Int) × (Int × Int) := l.foldl markS ([], x)
theorem markL_snoc (x y : Int × Int) (l : List (Int × Int)) : markL x (l ++ [y]) = markS (markL x l) y := by unfold markL; rw [List.foldl_append]; rfl
def InB (x : Int × Int) : Prop := 0 ≤ x.1 ∧ x.1 ≤ 65536 ∧ 0 ≤ x.2 ∧ x.2 ≤ 65536
theorem markF_in : ∀ (l : List (Int × Int)) (st : List (Int × Int) × (Int × Int)), InB st.2 → (∀ y ∈ l, InB y) → ((l.foldl markS st).1.length ≤ st.1.length + l.length ∧ InB (l.foldl markS st).2 ∧ ∀ y ∈ (l.foldl markS st).1, y ∈ st.1 ∨ y ∈ l)
 | [], st, hx, _ => ⟨Nat.le_refl _, hx, fun y hy => .inl hy⟩
 | y :: l, st, hx, hl => by
  have hy := hl y List.mem_cons_self
  have hx2 : InB (markS st y).2 := by unfold markS; unfold InB at *; split <;> (try exact hx); refine ⟨?_, ?_, ?_, ?_⟩ <;> dsimp only <;> split <;> omega
  obtain ⟨h1, h2, h3⟩ := markF_in l (markS st y) hx2 (fun z hz => hl z (List.mem_cons_of_mem _ hz))
  have h4 : (markS st y).1.length ≤ st.1.length + 1 := by unfold markS; split <;> simp
  refine ⟨by simp only [List.foldl_cons, List.length_cons]; omega, h2, fun z hz => ?_⟩
  rcases h3 z hz with h | h
  ·have : z ∈ st.1 ∨ z = y := by unfold markS at h; split at h <;> simp at h <;> simp [h]
   rcases this with h | rfl
   ·exact .inl h
   ·exact .inr List.mem_cons_self
  ·exact .inr (List.mem_cons_of_mem _ h)
theorem markL_in (x : Int × Int) (l : List (Int × Int)) (hx : InB x) (hl : ∀ y ∈ l, InB y) : (markL x l).1.length ≤ l.length ∧ InB (markL x l).2 ∧ ∀ y ∈ (markL x l).1, y ∈ l := by
 obtain ⟨h1, h2, h3⟩ := markF_in l ([], x) hx hl
 exact ⟨by simpa [markL] using h1, h2, fun y hy => by rcases h3 y hy with h | h; cases h; exact h⟩
theorem grown_old {a b : World} {row : Option Nat} {b5 k : Nat} (hg : a.grownBy b row) (hr : ∀ r, row = some r → b5 ≤ r) (hk : k < b5) (h5 : b5 ≤ a.heap.size) : b.heap[k]? = a.heap[k]? := hg.block k (by omega) (fun e => by have := hr k e.symm; omega)
set_option maxHeartbeats 4000000 in
set_option maxRecDepth 100000 in
theorem sendq_Queue_mark.calls (g : Nat) (q : QS) (xa xb : Int) (w0 w : World) (hI : QAt w w0.heap.size g q) (hB : Below w0.heap.size w0 w) (hx : InB (xa, xb)) (hap : (∀ y ∈ q.ap, InB y) ∧ q.ap.length ≤ 1000000) :
  Calls Try.prog 30 #[.pointer (some ⟨g, 0, none⟩), .agg #[.int .i64 xa, .int .i64 xb]] w fun e w' => e = .returned (.tuple #[]) ∧ ∃ r, r.Perm ((markL (xa, xb) q.ap).1 ++ [(markL (xa, xb) q.ap).2]) ∧ r.Pairwise (fun a b => a.1 ≤ b.1) ∧ QAt w' w0.heap.size g { q with ap := r } ∧ Below w0.heap.size w0 w' ∧ KeepG g w w' := by
 have HI := Aside0.mk hI
 have HB := Aside0.mk hB
 have HX := Aside0.mk hx
 have HAP := Aside0.mk hap
 have HGL := Aside0.mk hI.lt
 clear hI hB hx hap
 obtain ⟨Az, cz, ⟨hbg, hge⟩, ⟨hle, hcm⟩, ⟨hc0, hc1, hc2, hc3, hc4⟩, ⟨hf0, hf1, hf2, hf3, hf4⟩, HQ⟩ := HI.out.cell
 have HSB := Aside0.mk (show ∀ b_, Value.ownBlock (.slice Az q.ap.length cz) = some b_ → b_ < w.heap.size from fun b_ hb => blk_lt (ownsAt_block HQ hb).2.choose_spec)
 have HGE := Aside0.mk hge
 have HW0 := Aside0.mk HB.out.size
 have HQ0 := Aside0.mk HQ
 have HG0 := Aside0.mk hbg
 clear hbg hge hle hcm hc0 hc1 hc2 hc3 hc4 hf0 hf1 hf2 hf3 hf4 HQ
 clear HI
 go_enter Try.func30, Try.ntmps30
 go_upto_region 1 with fail
 have hbx := blk_new w (.cells #[.int .i64 xa, .int .i64 xb] 73)
 have hb := below_alloc (Below.refl w.heap.size w) (.cells #[.int .i64 xa, .int .i64 xb] 73)
 have HQA := Aside0.mk (ownsAt_below HQ0.out hb)
 have HGC := Aside0.mk (blk_below HG0.out hb)
 have HB1 := Aside0.mk (below_step HB.out hb)
 have HKs := Aside0.mk (show KeepG g w _ from KeepG.of_below hb)
 clear HB hb HQ0 HG0
 have HB := HB1
 clear HB1
 have HBX := Aside0.mk (show w.heap.size < (w.alloc (.cells #[.int .i64 xa, .int .i64 xb] 73)).heap.size ∧ w.heap.size ≤ w.heap.size ∧ g < w.heap.size from ⟨blk_lt hbx, Nat.le_refl _, HGL.out⟩)
 clear HGL
 have hbxe : w.heap.size = w.heap.size := rfl
 generalize hbxe : w.heap.size = bx at hbx HBX HSB ⊢
 have HBE := Aside0.mk hbxe
 generalize w.alloc (.cells #[.int .i64 xa, .int .i64 xb] 73) = W5 at hbx HQA HGC HB HKs HBX ⊢
 have HX5 := Aside0.mk hbx
 have hgc := HGC.out
 have hc4 := blk_cell hgc 4
 change _ = some (Value.slice Az q.ap.length cz) at hc4
 clear hbx hbxe hgc
 have H5 := Aside0.mk (show w0.heap.size ≤ W5.heap.size ∧ w.heap.size ≤ W5.heap.size from ⟨HB.out.size, HKs.out.1⟩)
 go_wp2_with fail
 go_loopg [4, 12] q.ap.length (fun kq v4 v12 W => ∃ (i : Nat) (iz : Int) (kp : List (Int × Int)) (ya yb : Int), v12 = .int .i64 iz ∧ Aside0 (iz = (i : Int) ∧ kq + i = q.ap.length) ∧ Aside0 (markL (xa, xb) (q.ap.take i) = (kp, (ya, yb))) ∧ Aside0 (ownsAt W W5.heap.size 73 2 v4 kp.length (spc kp)) ∧ Aside0 (W.heap[bx]? = some (.cells #[.int .i64 ya, .int .i64 yb] 73 (0, 0))) ∧ Aside0 (ownsAt W w0.heap.size 73 2 (.slice Az q.ap.length cz) q.ap.length (spc q.ap)) ∧ Aside0 (W.heap[g]? = some (.cells (cellsQ q (.slice Az q.ap.length cz)) 67 (0, 0))) ∧ Aside0 (Below w0.heap.size w0 W) ∧ Aside0 (KeepG g w W) ∧ Aside0 (W5.heap.size ≤ W.heap.size))
 case atStart => exact ⟨0, 0, [], xa, xb, rfl, ⟨rfl, by simp⟩, ⟨rfl⟩, ⟨ownsAt_nil _ _ _ _⟩, HX5, HQA, HGC, HB, HKs, ⟨Nat.le_refl _⟩⟩
 case round =>
  clear HB HKs HQA HGC HX5 hc4
  obtain ⟨i, iz, kp, ya, yb, rfl, HK, HM, HV, HXB, HQA, HGC, HB, HKs, HZ⟩ := hrel
  obtain ⟨A8, c8, rfl, _⟩ := ownsAt_len HV.out
  have hk := HK.out
  have hmi := markL_in (xa, xb) (q.ap.take i) HX.out (fun y hy => HAP.out.1 y (List.mem_of_mem_take hy))
  rw [HM.out] at hmi
  dsimp only at hmi
  have HMI := Aside0.mk hmi
  have HLN := Aside0.mk (show kp.length ≤ 1000000 by have h1 := hmi.1; rw [List.length_take] at h1; have := HAP.out.2; omega)
  clear hmi
  by_cases hlt : iz < (q.ap.length : Int)
  ·have d1 : decide (iz < (q.ap.length : Int)) = true := decide_eq_true hlt
   obtain ⟨k1, rfl⟩ : ∃ k1, gk = k1 + 1 := ⟨gk - 1, by omega⟩
   have hil : i < q.ap.length := by omega
   obtain ⟨⟨a, b⟩, hx⟩ : ∃ x, q.ap[i]? = some x := ⟨_, List.getElem?_eq_getElem hil⟩
   have HTK := Aside0.mk (show q.ap.take (i + 1) = q.ap.take i ++ [(a, b)] by rw [List.take_add_one, hx]; rfl)
   obtain ⟨gq, oq, rfl, hcells⟩ := ownsAt_cells HQA.out (by omega)
   obtain ⟨hq0, hq1⟩ : wr.cell? ⟨gq, oq + i * 2, none⟩ = some (.int .i64 a) ∧ wr.cell? ⟨gq, oq + i * 2 + 1, none⟩ = some (.int .i64 b) := ⟨hcells _ _ (spc_get q.ap i _ hx).1, hcells _ _ (spc_get q.ap i _ hx).2⟩
   have hn : wrap64 (iz + 1) = ((i + 1 : Nat) : Int) := by have := HAP.out.2; rw [w64p (by omega) (by omega)]; omega
   have HN := Aside0.mk hn
   have p0 : 0 ≤ iz := by omega
   have tn : iz.toNat = i := by omega
   replace p0 := eq_true p0
   replace hlt := eq_true hlt
   clear hcells hx hn hk hil
   go_upto_region 5 with fail
   have hby := blk_new wr (.cells #[.int .i64 a, .int .i64 b] 73)
   have hb := below_alloc (Below.refl wr.heap.size wr) (.cells #[.int .i64 a, .int .i64 b] 73)
   clear hq0 hq1 p0 hlt tn d1
   have n1_ := Aside0.mk (ownsAt_below HV.out hb); have n2_ := Aside0.mk (ownsAt_below HQA.out hb); have n3_ := Aside0.mk (blk_below HGC.out hb); have n4_ := Aside0.mk (below_step HB.out hb); have n5_ := Aside0.mk (HKs.out.trans (KeepG.of_below hb)); have n6_ := Aside0.mk (Nat.le_trans HZ.out hb.size); have n7_ := Aside0.mk (blk_below HXB.out hb)
   clear HV HQA HGC HB HKs HZ HXB hb
   have HV := n1_; have HQA := n2_; have HGC := n3_; have HB := n4_; have HKs := n5_; have HZ := n6_; have HXB := n7_
   clear n1_ n2_ n3_ n4_ n5_ n6_ n7_
   generalize wr.heap.size = by_ at hby ⊢
   generalize wr.alloc (.cells #[.int .i64 a, .int .i64 b] 73) = Wb at hby HV HXB HQA HGC HB HKs HZ ⊢
   have hy0 := blk_cell hby 0
   have hy1 := blk_cell hby 1
   change _ = some (Value.int .i64 a) at hy0
   change _ = some (Value.int .i64 b) at hy1
   have hxb := HXB.out
   have hx0 := blk_cell hxb 0
   have hx1 := blk_cell hxb 1
   have hz0 := blk_frozen hxb 0
   have hz1 := blk_frozen hxb 1
   change _ = some (Value.int .i64 ya) at hx0
   change _ = some (Value.int .i64 yb) at hx1
   clear hby hxb
   by_cases hc : b < ya ∨ yb < a
   ·have HC := Aside0.mk hc
    have hb := below_alloc (Below.refl Wb.heap.size Wb) (.cells #[.int .i64 a, .int .i64 b] 73)
    have HLT := Aside0.mk (ownsAt_lit Wb #[.int .i64 a, .int .i64 b] 73 2 1 rfl (by decide))
    have n1_ := Aside0.mk (ownsAt_below HV.out hb); have n2_ := Aside0.mk (ownsAt_below HQA.out hb); have n3_ := Aside0.mk (blk_below HGC.out hb); have n4_ := Aside0.mk (below_step HB.out hb); have n5_ := Aside0.mk (HKs.out.trans (KeepG.of_below hb)); have n6_ := Aside0.mk (Nat.le_trans HZ.out hb.size); have n7_ := Aside0.mk (blk_below HXB.out hb)
    clear HV HQA HGC HB HKs HZ HXB hb
    have HV := n1_; have HQA := n2_; have HGC := n3_; have HB := n4_; have HKs := n5_; have HZ := n6_; have HXB := n7_
    clear n1_ n2_ n3_ n4_ n5_ n6_ n7_
    have hd : decide (b < ya) = true ∨ (decide (b < ya) = false ∧ decide (yb < a) = true) := by
     by_cases h1 : b < ya
     ·exact .inl (decide_eq_true h1)
     ·exact .inr ⟨decide_eq_false h1, decide_eq_true (by omega)⟩
    clear hc
    have HCON := Aside0.mk hd
    clear hd
    rcases HCON.out with d2 | ⟨d2, d3⟩
    all_goals
     go_wp2_with (first | ((with_reducible refine gate_dst (N := 31) rfl ?_); refine wl_append 65 73 (.agg #[.int .i64 0, .int .i64 0]) 2 16 rfl rfl Try.underlying65 (by kernel_rfl) rfl (by decide) (v := .slice A8 kp.length c8) rfl rfl HV.out HLT.out rfl (by have := HLN.out; simp only [maxLen]; omega) (by have := HLN.out; omega) HZ.out (fun v9 W9 hv9 hg9 hr9 => ?_); have HV9 := Aside0.mk hv9; have HG9 := Aside0.mk hg9; clear hv9 hg9 hr9))
     have hrow : ∀ b_, Value.ownBlock (.slice A8 kp.length c8) = some b_ → W5.heap.size ≤ b_ := fun b_ hb => (ownsAt_block HV.out hb).1
     go_roundg k1
     case measure => omega
     case rel =>
      refine ⟨i + 1, _, kp ++ [(a, b)], ya, yb, rfl, ⟨HN.out, by have := HK.out; omega⟩, ⟨?_⟩, ⟨?_⟩, ⟨(grown_old HG9.out hrow HBX.out.1 HZ.out).trans HXB.out⟩, ⟨?_⟩, ⟨(grown_old HG9.out hrow (Nat.lt_trans HBX.out.2.2 HBX.out.1) HZ.out).trans HGC.out⟩, ⟨below_of_grown HB.out HG9.out HB.out.size (fun b_ hb => Nat.le_trans H5.out.1 (hrow b_ hb))⟩, ⟨keepG_grown HKs.out HG9.out (fun b_ hb => Nat.le_trans H5.out.2 (hrow b_ hb))⟩, ⟨Nat.le_trans HZ.out HG9.out.size⟩⟩
      ·rw [HTK.out, markL_snoc, HM.out]; unfold markS; rw [if_pos HC.out]
      ·have h := HV9.out
       rw [spc_app, List.length_append]
       exact h
      ·exact ownsAt_kept HQA.out (fun b_ cur hb _ => grown_old HG9.out hrow (Nat.lt_trans (HSB.out b_ hb) HBX.out.1) HZ.out)
   ·have HC := Aside0.mk hc
    have d2 : decide (b < ya) = false := decide_eq_false (by omega)
    have d3 : decide (yb < a) = false := decide_eq_false (by omega)
    obtain ⟨na, hna⟩ : ∃ m_, (if a < ya then a else ya) = m_ := ⟨_, rfl⟩
    obtain ⟨nb, hnb⟩ : ∃ m_, (if yb < b then b else yb) = m_ := ⟨_, rfl⟩
    have HNA := Aside0.mk (And.intro hna hnb)
    clear hc
    go_wp2
    go_roundg k1
    case measure => omega
    case rel =>
     have hkk : ∀ k_, k_ ≠ bx → ((Wb.setCell ⟨bx, 0, none⟩ (.int .i64 na)).setCell ⟨bx, 1, none⟩ (.int .i64 nb)).heap[k_]? = Wb.heap[k_]? := fun k_ hne => by rw [heap_setCell_other _ _ _ _ hne, heap_setCell_other _ _ _ _ hne]
     have hg0 : w0.heap.size ≤ bx := by have h1 := HBE.out; have h2 := HW0.out; omega
     refine ⟨i + 1, _, kp, na, nb, rfl, ⟨HN.out, by have := HK.out; omega⟩, ⟨?_⟩, ⟨?_⟩, ⟨blk_put (blk_put HXB.out 0 (.int .i64 na) rfl) 1 (.int .i64 nb) rfl⟩, ⟨?_⟩, ⟨?_⟩, ⟨below_set (below_set HB.out hg0) hg0⟩, ⟨Nat.le_trans HKs.out.1 (by simp [World.setCell]), fun k_ hk_ hn_ => ?_⟩, ⟨Nat.le_trans HZ.out (by simp [World.setCell])⟩⟩
     ·rw [HTK.out, markL_snoc, HM.out]; unfold markS; rw [if_neg (show ¬ (b < ya ∨ yb < a) from HC.out), HNA.out.1, HNA.out.2]
     ·exact ownsAt_kept HV.out (fun b_ cur hb _ => hkk b_ (by have h1 := (ownsAt_block HV.out hb).1; have h2 := HBX.out.1; omega))
     ·exact ownsAt_kept HQA.out (fun b_ cur hb _ => hkk b_ (by have h1 := HSB.out b_ hb; omega))
     ·exact (hkk g (by have := HBX.out.2.2; omega)).trans HGC.out
     ·exact (hkk k_ (by have := HBE.out; omega)).trans (HKs.out.2 k_ hk_ hn_)
  ·have d1 : decide (iz < (q.ap.length : Int)) = false := decide_eq_false hlt
   have hi : i = q.ap.length := by omega
   have hm := HM.out
   rw [hi, List.take_length] at hm
   have HMM := Aside0.mk hm
   have hxb := HXB.out
   have hx0 := blk_cell hxb 0
   have hx1 := blk_cell hxb 1
   change _ = some (Value.int .i64 ya) at hx0
   change _ = some (Value.int .i64 yb) at hx1
   have hb := below_alloc (Below.refl wr.heap.size wr) (.cells #[.int .i64 ya, .int .i64 yb] 73)
   have HLT := Aside0.mk (ownsAt_lit wr #[.int .i64 ya, .int .i64 yb] 73 2 1 rfl (by decide))
   have n1_ := Aside0.mk (ownsAt_below HV.out hb); have n2_ := Aside0.mk (ownsAt_below HQA.out hb); have n3_ := Aside0.mk (blk_below HGC.out hb); have n4_ := Aside0.mk (below_step HB.out hb); have n5_ := Aside0.mk (HKs.out.trans (KeepG.of_below hb)); have n6_ := Aside0.mk (Nat.le_trans HZ.out hb.size); have n7_ := Aside0.mk (blk_below HXB.out hb)
   clear HV HQA HGC HB HKs HZ HXB hb
   have HV := n1_; have HQA := n2_; have HGC := n3_; have HB := n4_; have HKs := n5_; have HZ := n6_; have HXB := n7_
   clear n1_ n2_ n3_ n4_ n5_ n6_ n7_
   clear hm hi hk hlt hxb HM HK
   go_upto_region 10 with (first | ((with_reducible refine gate_dst (N := 47) rfl ?_); refine wl_append 65 73 (.agg #[.int .i64 0, .int .i64 0]) 2 16 rfl rfl Try.underlying65 (by kernel_rfl) rfl (by decide) (v := .slice A8 kp.length c8) rfl rfl HV.out HLT.out rfl (by have := HLN.out; simp only [maxLen]; omega) (by have := HLN.out; omega) HZ.out (fun v9 W9 hv9 hg9 hr9 => ?_); have HV9 := Aside0.mk hv9; have HG9 := Aside0.mk hg9; clear hv9 hg9 hr9))
   clear hx0 hx1 d1
   have hrow : ∀ b_, Value.ownBlock (.slice A8 kp.length c8) = some b_ → W5.heap.size ≤ b_ := fun b_ hb => (ownsAt_block HV.out hb).1
   obtain ⟨A9, c9, rfl, _⟩ := ownsAt_len HV9.out
   obtain ⟨g9, o9, rfl, _⟩ := ownsAt_cells HV9.out (by omega)
   have n2_ := Aside0.mk (ownsAt_kept HQA.out (fun b_ cur hb _ => grown_old HG9.out hrow (Nat.lt_trans (HSB.out b_ hb) HBX.out.1) HZ.out))
   have n3_ := Aside0.mk ((grown_old HG9.out hrow (Nat.lt_trans HBX.out.2.2 HBX.out.1) HZ.out).trans HGC.out)
   have n4_ := Aside0.mk (below_of_grown HB.out HG9.out HB.out.size (fun b_ hb => Nat.le_trans H5.out.1 (hrow b_ hb)))
   have n5_ := Aside0.mk (keepG_grown HKs.out HG9.out (fun b_ hb => Nat.le_trans H5.out.2 (hrow b_ hb)))
   have n6_ := Aside0.mk (Nat.le_trans HZ.out HG9.out.size)
   clear HV HQA HGC HB HKs HZ HXB HG9 hrow
   have HQA := n2_; have HGC := n3_; have HB := n4_; have HKs := n5_; have HZ := n6_
   clear n2_ n3_ n4_ n5_ n6_
   have hv9 := HV9.out
   have hlen : (kp ++ [(ya, yb)]).length = kp.length + 1 := by simp
   have espc : spc kp ++ [Value.int .i64 ya, Value.int .i64 yb] = spc (kp ++ [(ya, yb)]) := by rw [spc_app]; rfl
   have hv9' : ownsAt W9 W5.heap.size 73 2 (.slice (some ⟨g9, o9, none⟩) (kp ++ [(ya, yb)]).length c9) (kp ++ [(ya, yb)]).length (spc (kp ++ [(ya, yb)])) := by rw [hlen, ← espc]; exact hv9
   have hsort := sortSpan_calls g9 o9 c9 (kp ++ [(ya, yb)]) W5.heap.size W9 hv9' (by rw [hlen]; have := HLN.out; omega) (fun z hz => by
    rcases List.mem_append.1 hz with h | h
    ·have := HAP.out.1 z (List.mem_of_mem_take (HMI.out.2.2 z h)); exact ⟨this.1, this.2.1⟩
    ·rw [List.mem_singleton.1 h]; exact ⟨HMI.out.2.1.1, HMI.out.2.1.2.1⟩)
   rw [hlen] at hsort
   have HG9 := Aside0.mk (show W5.heap.size ≤ g9 from (ownsAt_block hv9 rfl).1)
   clear hv9 hv9' espc HV9
   go_wp2_with fail
   refine hsort.mono ?_
   clear hsort
   rintro e W10 ⟨rfl, r, hp, hs, hv, hg⟩
   have hrow : ∀ b_, some g9 = some b_ → W5.heap.size ≤ b_ := fun b_ hb => by rw [← Option.some.inj hb]; exact HG9.out
   have n2_ := Aside0.mk (ownsAt_kept HQA.out (fun b_ cur hb _ => grown_old hg hrow (Nat.lt_trans (HSB.out b_ hb) HBX.out.1) HZ.out))
   have n3_ := Aside0.mk ((grown_old hg hrow (Nat.lt_trans HBX.out.2.2 HBX.out.1) HZ.out).trans HGC.out)
   have n4_ := Aside0.mk (below_of_grown HB.out hg HB.out.size (fun b_ hb => Nat.le_trans H5.out.1 (hrow b_ hb)))
   have n5_ := Aside0.mk (keepG_grown HKs.out hg (fun b_ hb => Nat.le_trans H5.out.2 (hrow b_ hb)))
   clear HQA HGC HB HKs HZ hrow hg
   have HQA := n2_; have HGC := n3_; have HB := n4_; have HKs := n5_
   clear n2_ n3_ n4_ n5_
   have HR := Aside0.mk (And.intro hp (And.intro hs hv))
   clear hp hs hv
   have hgc := HGC.out
   have hc4 := blk_cell hgc 4
   have hf4 := blk_frozen hgc 4
   change _ = some (Value.slice Az q.ap.length cz) at hc4
   have HQ := Aside0.mk (show QAt W10 w0.heap.size g q from ⟨_, hgc, HGE.out, HQA.out⟩)
   clear hgc hlen
   go_wp2
   first | go_end0 | ((try simp only [Exit.inBlock, Exit.then]); refine bodyPost_ret (results_none rfl _ _ _) rfl ?_)
   obtain ⟨hp, hs, hv⟩ := HR.out
   have hrl : r.length = kp.length + 1 := by rw [hp.length_eq]; simp
   refine ⟨rfl, r, by rw [HMM.out]; exact hp, hs, HQ.out.row (q' := { q with ap := r }) _ ?_ (fun _ => rfl), below_set HB.out HGE.out, HKs.out.trans (KeepG.set g 4 _ _)⟩
   show ownsAt W10 w0.heap.size 73 2 _ r.length (spc r)
   rw [hrl]
   exact ownsAt_base hv H5.out.1



/-! ### sendq_Queue_Hole: function 15 (by hand) -/
-- over sendq_Queue_at.calls sendq_Queue_at.callsR sendq_Queue_mark.calls sendq_Queue_mark.callsR
def holeL (sent : Int) : Int → List (Int × Int) → Int × Int
 | f, [] => (f, sent)
 | f, x :: l => if f < x.1 then (f, x.1) else holeL sent x.2 l
theorem holeL_in (sent : Int) (hs : 0 ≤ sent ∧ sent ≤ 65536) : ∀ (l : List (Int × Int)) (f : Int), (0 ≤ f ∧ f ≤ 65536) → (∀ x ∈ l, InB x ∧ x.1 ≤ sent) → 0 ≤ (holeL sent f l).1 ∧ (holeL sent f l).1 ≤ 65536 ∧ 0 ≤ (holeL sent f l).2 ∧ (holeL sent f l).2 ≤ sent
 | [], f, hf, _ => ⟨hf.1, hf.2, hs.1, Int.le_refl _⟩
 | x :: l, f, hf, h => by
  have hx := h x List.mem_cons_self
  unfold InB at hx
  unfold holeL
  split
  ·exact ⟨hf.1, hf.2, hx.1.1, hx.2⟩
  ·exact holeL_in sent hs l x.2 ⟨hx.1.2.2.1, hx.1.2.2.2⟩ (fun y hy => h y (List.mem_cons_of_mem _ hy))
def QS.holeTo (q : QS) (most : Int) : Int := min (holeL q.sent 0 q.ap).2 ((holeL q.sent 0 q.ap).1 + max 0 (min most q.sent))
def QS.hole (q : QS) (most : Int) : Int × ByteArray := if q.holeTo most ≤ (holeL q.sent 0 q.ap).1 then (q.left, (⟨#[]⟩ : ByteArray)) else (q.at_ (holeL q.sent 0 q.ap).1, cutS q.s (holeL q.sent 0 q.ap).1.toNat (q.holeTo most).toNat)
set_option maxHeartbeats 4000000 in
set_option maxRecDepth 100000 in
theorem sendq_Queue_Hole.calls (g : Nat) (q : QS) (most : Int) (w0 w : World) (hI : QAt w w0.heap.size g q) (hl : sqOk q.left) (hs : 0 ≤ q.sent ∧ q.sent ≤ (q.s.size : Int) ∧ (q.s.size : Int) ≤ 65536) (hap : (∀ x ∈ q.ap, InB x ∧ x.1 ≤ q.sent) ∧ q.ap.length ≤ 1000000) :
  Calls Try.prog 15 #[.pointer (some ⟨g, 0, none⟩), .int .i64 most] w fun e w' => e = .returned (.tuple #[.int .i64 (q.hole most).1, .string (q.hole most).2]) ∧ Below w.heap.size w w' := by
 have HI := Aside0.mk hI
 have HL := Aside0.mk hl
 have HS := Aside0.mk hs
 have HAP := Aside0.mk hap
 have HB := Aside0.mk (Below.refl w.heap.size w)
 obtain ⟨⟨f, t⟩, hft⟩ : ∃ p_, holeL q.sent 0 q.ap = p_ := ⟨_, rfl⟩
 have hin := holeL_in q.sent (by omega) q.ap 0 (by omega) hap.1
 rw [hft] at hin
 dsimp only at hin
 obtain ⟨m9, hm9⟩ : ∃ m_, (if q.sent < most then q.sent else most) = m_ := ⟨_, rfl⟩
 obtain ⟨m10, hm10⟩ : ∃ m_, (if 0 < m9 then m9 else 0) = m_ := ⟨_, rfl⟩
 have hm10b : 0 ≤ m10 ∧ m10 ≤ 65536 := by rw [← hm10, ← hm9]; split <;> (try split) <;> omega
 obtain ⟨t1, ht1⟩ : ∃ m_, f + m10 = m_ := ⟨_, rfl⟩
 have hw1 : wrap64 (f + m10) = t1 := (w64p (by omega) (by omega)).trans ht1
 obtain ⟨t2, ht2⟩ : ∃ m_, (if t1 < t then t1 else t) = m_ := ⟨_, rfl⟩
 have htt : q.holeTo most = t2 := by
  unfold QS.holeTo
  rw [hft, ← ht2, ← ht1, ← hm10, ← hm9]
  dsimp only
  (repeat' split) <;> omega
 have he : q.hole most = if t2 ≤ f then (q.left, (⟨#[]⟩ : ByteArray)) else (q.at_ f, cutS q.s f.toNat t2.toNat) := by unfold QS.hole; rw [htt, hft]
 have ht2b : t2 ≤ t := by rw [← ht2]; split <;> omega
 have HIN := Aside0.mk (And.intro hin ht2b)
 have HM := Aside0.mk (And.intro hm9 (And.intro hm10 (And.intro hw1 ht2)))
 obtain ⟨R, hR⟩ : ∃ R_, q.hole most = R_ := ⟨_, rfl⟩
 rw [hR] at he ⊢
 have HR := Aside0.mk he
 clear hI hl hs hap hin hR hm9 hm10 hm10b ht1 hw1 ht2 htt he ht2b
 obtain ⟨Az, cz, ⟨hbg, hge⟩, ⟨hle, hcm⟩, ⟨hc0, hc1, hc2, hc3, hc4⟩, ⟨hf0, hf1, hf2, hf3, hf4⟩, HQ⟩ := HI.out.cell
 change _ = some (Value.slice Az q.ap.length cz) at hc4
 have HQA := Aside0.mk HQ
 have HGC := Aside0.mk hbg
 have HGE := Aside0.mk hge
 have HFT := Aside0.mk hft
 clear hft HI
 go_enter Try.func15, Try.ntmps15
 go_upto_region 1 with fail
 have same : ∀ (ph : Nat) W', Drawn0 w W' → True := fun _ _ _ => trivial
 refine AnyEvents.region_then 5 (E := []) (C := fun (_ : Nat) W' => Drawn0 w W') (G := fun _ _ _ _ => True) (T := []) (R := fun _ _ _ _ => True) (vs := [?v14_0, ?v14_1, ?v14_2, ?v14_3, ?v14_4]) (by kernel_rfl) (by kernel_rfl) rfl (by kernel_rfl) ?hc14r same (fun _ _ _ _ _ _ _ _ _ => trivial) (fun _ h => nomatch h) (fun x => ?obs14r) ?fin14r
 case hc14r => exact ⟨1, rfl⟩
 case obs14r =>
  refine AnyEvents.obs_cons ?v14_0 (val_hole (by simp only [List.getD_cons_zero, List.getD_cons_succ])) (AnyEvents.ob_plain (v := ?v14_0) rfl rfl rfl same (by simp only [List.getD_cons_zero, List.getD_cons_succ]) (fun ph W' hwn hW => ?_)) ?_
  ·obtain ⟨nd, rfl⟩ := hW; have z0 := drew_cell nd hc1; first | (go_simp; done) | (go_simp; (try simp only [i64_w]); rfl) | (go_simp; simp; rfl)
  try simp only [Act.put, List.setIfInBounds_toArray, List.set_cons_zero, List.set_cons_succ]
  refine AnyEvents.obs_cons ?v14_1 (val_hole (by simp only [List.getD_cons_zero, List.getD_cons_succ])) (AnyEvents.ob_plain (v := ?v14_1) rfl rfl rfl same (by simp only [List.getD_cons_zero, List.getD_cons_succ]) (fun ph W' hwn hW => ?_)) ?_
  ·obtain ⟨nd, rfl⟩ := hW; have z0 := drew_cell nd hc1; first | (go_simp; done) | (go_simp; (try simp only [i64_w]); rfl) | (go_simp; simp; rfl)
  try simp only [Act.put, List.setIfInBounds_toArray, List.set_cons_zero, List.set_cons_succ]
  refine AnyEvents.obs_cons ?v14_2 (val_hole (by simp only [List.getD_cons_zero, List.getD_cons_succ])) (AnyEvents.ob_plain (v := ?v14_2) rfl rfl rfl same (by simp only [List.getD_cons_zero, List.getD_cons_succ]) (fun ph W' hwn hW => ?_)) ?_
  ·obtain ⟨nd, rfl⟩ := hW; have z0 := drew_cell nd hc1; first | (go_simp; done) | (go_simp; (try simp only [i64_w]); rfl) | (go_simp; simp; rfl)
  try simp only [Act.put, List.setIfInBounds_toArray, List.set_cons_zero, List.set_cons_succ]
  refine AnyEvents.obs_cons ?v14_3 (val_hole (by simp only [List.getD_cons_zero, List.getD_cons_succ])) (AnyEvents.ob_plain (v := ?v14_3) rfl rfl rfl same (by simp only [List.getD_cons_zero, List.getD_cons_succ]) (fun ph W' hwn hW => ?_)) ?_
  ·obtain ⟨nd, rfl⟩ := hW; have z0 := drew_cell nd hc1; first | (go_simp; done) | (go_simp; (try simp only [i64_w]); rfl) | (go_simp; simp; rfl)
  try simp only [Act.put, List.setIfInBounds_toArray, List.set_cons_zero, List.set_cons_succ]
  refine AnyEvents.obs_cons ?v14_4 (val_hole (by simp only [List.getD_cons_zero, List.getD_cons_succ])) (AnyEvents.ob_plain (v := ?v14_4) rfl rfl rfl same (by simp only [List.getD_cons_zero, List.getD_cons_succ]) (fun ph W' hwn hW => ?_)) ?_
  ·obtain ⟨nd, rfl⟩ := hW; have z0 := drew_cell nd hc1; first | (go_simp; done) | (go_simp; (try simp only [i64_w]); rfl) | (go_simp; simp; rfl)
  try simp only [Act.put, List.setIfInBounds_toArray, List.set_cons_zero, List.set_cons_succ]
  trivial
 case fin14r =>
  intro x W' hD _
  simp only [List.take_succ_cons, List.take_zero, List.drop_succ_cons, List.drop_zero]
  rw [AnyOrder.lexAt_cons ?v14_0 (val_hole (by simp only [List.getD_cons_zero, List.getD_cons_succ]))]
  try simp only [Act.put, List.setIfInBounds_toArray, List.set_cons_zero, List.set_cons_succ]
  rw [AnyOrder.lexAt_cons ?v14_1 (val_hole (by simp only [List.getD_cons_zero, List.getD_cons_succ]))]
  try simp only [Act.put, List.setIfInBounds_toArray, List.set_cons_zero, List.set_cons_succ]
  rw [AnyOrder.lexAt_cons ?v14_2 (val_hole (by simp only [List.getD_cons_zero, List.getD_cons_succ]))]
  try simp only [Act.put, List.setIfInBounds_toArray, List.set_cons_zero, List.set_cons_succ]
  rw [AnyOrder.lexAt_cons ?v14_3 (val_hole (by simp only [List.getD_cons_zero, List.getD_cons_succ]))]
  try simp only [Act.put, List.setIfInBounds_toArray, List.set_cons_zero, List.set_cons_succ]
  rw [AnyOrder.lexAt_cons ?v14_4 (val_hole (by simp only [List.getD_cons_zero, List.getD_cons_succ]))]
  try simp only [Act.put, List.setIfInBounds_toArray, List.set_cons_zero, List.set_cons_succ]
  rw [AnyOrder.lexAt_nil]
  clear same
  obtain ⟨nd, rfl⟩ := hD
  have hb := pw_below_drewN (Below.refl w.heap.size w) nd
  clear hbg hge hle hcm hc0 hc1 hc2 hc3 hc4 hf0 hf1 hf2 hf3 hf4 HQ
  have n1_ := Aside0.mk (blk_below HGC.out hb); have n2_ := Aside0.mk (ownsAt_below HQA.out hb); have n4_ := Aside0.mk (below_step HB.out hb)
  clear HGC HQA HB hb
  have HGC := n1_; have HQA := n2_; have HB := n4_
  clear n1_ n2_ n4_
  generalize w.drewN nd = W1 at HGC HB HQA ⊢
  have hgc := HGC.out
  have hc4 := blk_cell hgc 4
  change _ = some (Value.slice Az q.ap.length cz) at hc4
  clear hgc
  go_upto_block 0 with fail
  clear hc4
  go_cut [6, 7] (fun v6 v7 W => v6 = .int .i64 f ∧ v7 = .int .i64 t ∧ Aside0 (W.heap[g]? = some (.cells (cellsQ q (.slice Az q.ap.length cz)) 67 (0, 0))) ∧ Aside0 (ownsAt W w0.heap.size 73 2 (.slice Az q.ap.length cz) q.ap.length (spc q.ap)) ∧ Aside0 (Below w.heap.size w W))
  case first =>
   go_wp2_with fail
   go_loopg [6, 7, 19] q.ap.length (fun kq v6 v7 v19 W => ∃ (i : Nat) (iz fz : Int), v6 = .int .i64 fz ∧ v7 = .int .i64 q.sent ∧ v19 = .int .i64 iz ∧ Aside0 (iz = (i : Int) ∧ kq + i = q.ap.length) ∧ Aside0 (holeL q.sent fz (q.ap.drop i) = (f, t)) ∧ Aside0 (W.heap[g]? = some (.cells (cellsQ q (.slice Az q.ap.length cz)) 67 (0, 0))) ∧ Aside0 (ownsAt W w0.heap.size 73 2 (.slice Az q.ap.length cz) q.ap.length (spc q.ap)) ∧ Aside0 (Below w.heap.size w W))
   case atStart => exact ⟨0, 0, 0, rfl, rfl, rfl, ⟨rfl, by simp⟩, HFT, HGC, HQA, HB⟩
   case round =>
    clear HGC HQA HB
    obtain ⟨i, iz, fz, rfl, rfl, rfl, HK, HF, HGC, HQA, HB⟩ := hrel
    have hk := HK.out
    by_cases hlt : iz < (q.ap.length : Int)
    ·have d1 : decide (iz < (q.ap.length : Int)) = true := decide_eq_true hlt
     obtain ⟨k1, rfl⟩ : ∃ k1, gk = k1 + 1 := ⟨gk - 1, by omega⟩
     have hil : i < q.ap.length := by omega
     obtain ⟨⟨a, b⟩, hx⟩ : ∃ x, q.ap[i]? = some x := ⟨_, List.getElem?_eq_getElem hil⟩
     have hf := HF.out
     rw [List.drop_eq_getElem_cons hil, show q.ap[i] = (a, b) from Option.some.inj ((List.getElem?_eq_getElem hil).symm.trans hx), holeL] at hf
     dsimp only at hf
     obtain ⟨gq, oq, rfl, hcells⟩ := ownsAt_cells HQA.out (by omega)
     obtain ⟨hq0, hq1⟩ : wr.cell? ⟨gq, oq + i * 2, none⟩ = some (.int .i64 a) ∧ wr.cell? ⟨gq, oq + i * 2 + 1, none⟩ = some (.int .i64 b) := ⟨hcells _ _ (spc_get q.ap i _ hx).1, hcells _ _ (spc_get q.ap i _ hx).2⟩
     have hn : wrap64 (iz + 1) = ((i + 1 : Nat) : Int) := by have := HAP.out.2; rw [w64p (by omega) (by omega)]; omega
     have HN := Aside0.mk hn
     have HF2 := Aside0.mk hf
     have p0 : 0 ≤ iz := by omega
     have tn : iz.toNat = i := by omega
     replace p0 := eq_true p0
     replace hlt := eq_true hlt
     clear hcells hx hn hk hil hf HF
     go_upto_region 5 with fail
     have hby := blk_new wr (.cells #[.int .i64 a, .int .i64 b] 73)
     have hb := below_alloc (Below.refl wr.heap.size wr) (.cells #[.int .i64 a, .int .i64 b] 73)
     clear hq0 hq1 p0 hlt tn d1
     have n1_ := Aside0.mk (blk_below HGC.out hb); have n2_ := Aside0.mk (ownsAt_below HQA.out hb); have n4_ := Aside0.mk (below_step HB.out hb)
     clear HGC HQA HB hb
     have HGC := n1_; have HQA := n2_; have HB := n4_
     clear n1_ n2_ n4_
     generalize wr.heap.size = by_ at hby ⊢
     generalize wr.alloc (.cells #[.int .i64 a, .int .i64 b] 73) = Wb at hby HGC HB HQA ⊢
     have hy0 := blk_cell hby 0
     have hy1 := blk_cell hby 1
     change _ = some (Value.int .i64 a) at hy0
     change _ = some (Value.int .i64 b) at hy1
     clear hby
     by_cases hc : fz < a
     ·have d2 : decide (fz < a) = true := decide_eq_true hc
      have hf2 := HF2.out
      rw [if_pos hc] at hf2
      obtain ⟨e1, e2⟩ := Prod.mk.inj hf2
      subst e1 e2
      clear hf2 hc
      go_wp2
      go_meet
      case rel => exact ⟨rfl, rfl, HGC, HQA, HB⟩
     ·have d2 : decide (fz < a) = false := decide_eq_false hc
      have hf2 := HF2.out
      rw [if_neg hc] at hf2
      have HF3 := Aside0.mk hf2
      clear hf2 hc
      go_wp2
      go_roundg k1
      case measure => omega
      case rel => exact ⟨i + 1, _, b, rfl, rfl, rfl, ⟨HN.out, by have := HK.out; omega⟩, HF3, HGC, HQA, HB⟩
    ·have d1 : decide (iz < (q.ap.length : Int)) = false := decide_eq_false hlt
     have hf := HF.out
     rw [List.drop_of_length_le (by omega), holeL] at hf
     obtain ⟨e1, e2⟩ := Prod.mk.inj hf
     subst e1 e2
     clear hf hk hlt
     go_wp2
     go_meet
     case rel => exact ⟨rfl, rfl, HGC, HQA, HB⟩
  case rest =>
   clear HGC HQA HB
   obtain ⟨rfl, rfl, HGC, HQA, HB⟩ := hcut
   have hgc := HGC.out
   have hc1 := blk_cell hgc 1
   have hc0 := blk_cell hgc 0
   have hc3 := blk_cell hgc 3
   change _ = some (Value.int .i64 q.sent) at hc1
   change _ = some (Value.int .i64 q.left) at hc0
   change _ = some (Value.string q.s) at hc3
   obtain ⟨hm9, hm10, hw1, ht2⟩ := HM.out
   have HI := Aside0.mk (show QAt wc w0.heap.size g q from ⟨_, hgc, HGE.out, HQA.out⟩)
   clear hgc
   by_cases hc : t2 ≤ f
   ·have d2 : decide (t2 ≤ f) = true := decide_eq_true hc
    have HC := Aside0.mk hc
    clear hc
    go_wp2
    go_ret2
    have hr := HR.out
    rw [if_pos HC.out] at hr
    rw [hr]
    exact ⟨rfl, HB.out⟩
   ·have d2 : decide (t2 ≤ f) = false := decide_eq_false hc
    have HC := Aside0.mk hc
    clear hc
    go_upto_region 12 with fail
    clear d2 hm9 hm10 hw1 ht2
    have same : ∀ (ph : Nat) W', Drawn0 wc W' → True := fun _ _ _ => trivial
    refine AnyEvents.region_then 11 (E := []) (C := fun (_ : Nat) W' => Drawn0 wc W') (G := fun _ _ _ _ => True) (T := []) (R := fun _ _ _ _ => True) (vs := [?v13_0, ?v13_1, (.int .i64 (q.at_ f)), ?v13_3, ?v13_4, ?v13_5, ?v13_6, ?v13_7, ?v13_8, (.string (cutS q.s f.toNat t2.toNat)), ?v13_10]) (by kernel_rfl) (by kernel_rfl) rfl (by kernel_rfl) ?hc13r same (fun _ _ _ _ _ _ _ _ _ => trivial) (fun _ h => nomatch h) (fun x => ?obs13r) ?fin13r
    case hc13r => exact ⟨1, rfl⟩
    case obs13r =>
     refine AnyEvents.obs_cons ?v13_0 (val_hole (by simp only [List.getD_cons_zero, List.getD_cons_succ])) (AnyEvents.ob_plain (v := ?v13_0) rfl rfl rfl same (by simp only [List.getD_cons_zero, List.getD_cons_succ]) (fun ph W' hwn hW => ?_)) ?_
     ·obtain ⟨nd, rfl⟩ := hW; have z0 := drew_cell nd hc3; first | (go_simp; done) | (go_simp; (try simp only [i64_w]); rfl) | (go_simp; simp; rfl)
     try simp only [Act.put, List.setIfInBounds_toArray, List.set_cons_zero, List.set_cons_succ]
     refine AnyEvents.obs_cons ?v13_1 (val_hole (by simp only [List.getD_cons_zero, List.getD_cons_succ])) (AnyEvents.ob_plain (v := ?v13_1) rfl rfl rfl same (by simp only [List.getD_cons_zero, List.getD_cons_succ]) (fun ph W' hwn hW => ?_)) ?_
     ·obtain ⟨nd, rfl⟩ := hW; have z0 := drew_cell nd hc3; first | (go_simp; done) | (go_simp; (try simp only [i64_w]); rfl) | (go_simp; simp; rfl)
     try simp only [Act.put, List.setIfInBounds_toArray, List.set_cons_zero, List.set_cons_succ]
     refine AnyEvents.obs_cons (.int .i64 (q.at_ f)) (val_hole (by simp only [List.getD_cons_zero, List.getD_cons_succ])) (AnyEvents.ob_call (v := (.int .i64 (q.at_ f))) rfl rfl rfl (by simp only [List.getD_cons_zero, List.getD_cons_succ]) 26 #[.pointer (some ⟨g, 0, none⟩), .int .i64 f] (fun ph W' hwn hW => ?_) (fun ph W' hwn hW => ?_)) ?_
     ·first | (go_simp; done) | (go_simp; rfl)
     ·obtain ⟨nd, rfl⟩ := hW; refine (sendq_Queue_at.calls g q f w0 (wc.drewN nd) (HI.out.drawn rfl) HL.out (by have := HIN.out; omega)).mono ?_; rintro e W2_ ⟨rfl, nd2, rfl⟩; exact ⟨rfl, ⟨nd + nd2, drewN_drewN _ _ _⟩, trivial⟩
     try simp only [Act.put, List.setIfInBounds_toArray, List.set_cons_zero, List.set_cons_succ]
     refine AnyEvents.obs_cons ?v13_3 (val_hole (by simp only [List.getD_cons_zero, List.getD_cons_succ])) (AnyEvents.ob_plain (v := ?v13_3) rfl rfl rfl same (by simp only [List.getD_cons_zero, List.getD_cons_succ]) (fun ph W' hwn hW => ?_)) ?_
     ·obtain ⟨nd, rfl⟩ := hW; have z0 := drew_cell nd hc3; first | (go_simp; done) | (go_simp; (try simp only [i64_w]); rfl) | (go_simp; simp; rfl)
     try simp only [Act.put, List.setIfInBounds_toArray, List.set_cons_zero, List.set_cons_succ]
     refine AnyEvents.obs_cons ?v13_4 (val_hole (by simp only [List.getD_cons_zero, List.getD_cons_succ])) (AnyEvents.ob_plain (v := ?v13_4) rfl rfl rfl same (by simp only [List.getD_cons_zero, List.getD_cons_succ]) (fun ph W' hwn hW => ?_)) ?_
     ·obtain ⟨nd, rfl⟩ := hW; have z0 := drew_cell nd hc3; first | (go_simp; done) | (go_simp; (try simp only [i64_w]); rfl) | (go_simp; simp; rfl)
     try simp only [Act.put, List.setIfInBounds_toArray, List.set_cons_zero, List.set_cons_succ]
     refine AnyEvents.obs_cons ?v13_5 (val_hole (by simp only [List.getD_cons_zero, List.getD_cons_succ])) (AnyEvents.ob_plain (v := ?v13_5) rfl rfl rfl same (by simp only [List.getD_cons_zero, List.getD_cons_succ]) (fun ph W' hwn hW => ?_)) ?_
     ·obtain ⟨nd, rfl⟩ := hW; have z0 := drew_cell nd hc3; first | (go_simp; done) | (go_simp; (try simp only [i64_w]); rfl) | (go_simp; simp; rfl)
     try simp only [Act.put, List.setIfInBounds_toArray, List.set_cons_zero, List.set_cons_succ]
     refine AnyEvents.obs_cons ?v13_6 (val_hole (by simp only [List.getD_cons_zero, List.getD_cons_succ])) (AnyEvents.ob_plain (v := ?v13_6) rfl rfl rfl same (by simp only [List.getD_cons_zero, List.getD_cons_succ]) (fun ph W' hwn hW => ?_)) ?_
     ·obtain ⟨nd, rfl⟩ := hW; have z0 := drew_cell nd hc3; first | (go_simp; done) | (go_simp; (try simp only [i64_w]); rfl) | (go_simp; simp; rfl)
     try simp only [Act.put, List.setIfInBounds_toArray, List.set_cons_zero, List.set_cons_succ]
     refine AnyEvents.obs_cons ?v13_7 (val_hole (by simp only [List.getD_cons_zero, List.getD_cons_succ])) (AnyEvents.ob_plain (v := ?v13_7) rfl rfl rfl same (by simp only [List.getD_cons_zero, List.getD_cons_succ]) (fun ph W' hwn hW => ?_)) ?_
     ·obtain ⟨nd, rfl⟩ := hW; have z0 := drew_cell nd hc3; first | (go_simp; done) | (go_simp; (try simp only [i64_w]); rfl) | (go_simp; simp; rfl)
     try simp only [Act.put, List.setIfInBounds_toArray, List.set_cons_zero, List.set_cons_succ]
     refine AnyEvents.obs_cons ?v13_8 (val_hole (by simp only [List.getD_cons_zero, List.getD_cons_succ])) (AnyEvents.ob_plain (v := ?v13_8) rfl rfl rfl same (by simp only [List.getD_cons_zero, List.getD_cons_succ]) (fun ph W' hwn hW => ?_)) ?_
     ·obtain ⟨nd, rfl⟩ := hW; have z0 := drew_cell nd hc3; first | (go_simp; done) | (go_simp; (try simp only [i64_w]); rfl) | (go_simp; simp; rfl)
     try simp only [Act.put, List.setIfInBounds_toArray, List.set_cons_zero, List.set_cons_succ]
     refine AnyEvents.obs_cons (.string (cutS q.s f.toNat t2.toNat)) (val_hole (by simp only [List.getD_cons_zero, List.getD_cons_succ])) (AnyEvents.ob_plain (v := (.string (cutS q.s f.toNat t2.toNat))) rfl rfl rfl same (by simp only [List.getD_cons_zero, List.getD_cons_succ]) (fun ph W' hwn hW => ?_)) ?_
     ·obtain ⟨nd, rfl⟩ := hW; refine (run_sl_at (i := f) (j := t2) (s := q.s) Try.underlying9 rfl rfl rfl rfl (by have := HIN.out; omega) (by have := HC.out; omega) (by have h1 := HIN.out; have h2 := HS.out; omega)).trans ?_; rfl
     try simp only [Act.put, List.setIfInBounds_toArray, List.set_cons_zero, List.set_cons_succ]
     refine AnyEvents.obs_cons ?v13_10 (val_hole (by simp only [List.getD_cons_zero, List.getD_cons_succ])) (AnyEvents.ob_plain (v := ?v13_10) rfl rfl rfl same (by simp only [List.getD_cons_zero, List.getD_cons_succ]) (fun ph W' hwn hW => ?_)) ?_
     ·obtain ⟨nd, rfl⟩ := hW; have z0 := drew_cell nd hc3; first | (go_simp; done) | (go_simp; (try simp only [i64_w]); rfl) | (go_simp; simp; rfl)
     try simp only [Act.put, List.setIfInBounds_toArray, List.set_cons_zero, List.set_cons_succ]
     trivial
    case fin13r =>
     intro x W' hD _
     simp only [List.take_succ_cons, List.take_zero, List.drop_succ_cons, List.drop_zero]
     rw [AnyOrder.lexAt_cons ?v13_0 (val_hole (by simp only [List.getD_cons_zero, List.getD_cons_succ]))]
     try simp only [Act.put, List.setIfInBounds_toArray, List.set_cons_zero, List.set_cons_succ]
     rw [AnyOrder.lexAt_cons ?v13_1 (val_hole (by simp only [List.getD_cons_zero, List.getD_cons_succ]))]
     try simp only [Act.put, List.setIfInBounds_toArray, List.set_cons_zero, List.set_cons_succ]
     rw [AnyOrder.lexAt_cons (.int .i64 (q.at_ f)) (val_hole (by simp only [List.getD_cons_zero, List.getD_cons_succ]))]
     try simp only [Act.put, List.setIfInBounds_toArray, List.set_cons_zero, List.set_cons_succ]
     rw [AnyOrder.lexAt_cons ?v13_3 (val_hole (by simp only [List.getD_cons_zero, List.getD_cons_succ]))]
     try simp only [Act.put, List.setIfInBounds_toArray, List.set_cons_zero, List.set_cons_succ]
     rw [AnyOrder.lexAt_cons ?v13_4 (val_hole (by simp only [List.getD_cons_zero, List.getD_cons_succ]))]
     try simp only [Act.put, List.setIfInBounds_toArray, List.set_cons_zero, List.set_cons_succ]
     rw [AnyOrder.lexAt_cons ?v13_5 (val_hole (by simp only [List.getD_cons_zero, List.getD_cons_succ]))]
     try simp only [Act.put, List.setIfInBounds_toArray, List.set_cons_zero, List.set_cons_succ]
     rw [AnyOrder.lexAt_cons ?v13_6 (val_hole (by simp only [List.getD_cons_zero, List.getD_cons_succ]))]
     try simp only [Act.put, List.setIfInBounds_toArray, List.set_cons_zero, List.set_cons_succ]
     rw [AnyOrder.lexAt_cons ?v13_7 (val_hole (by simp only [List.getD_cons_zero, List.getD_cons_succ]))]
     try simp only [Act.put, List.setIfInBounds_toArray, List.set_cons_zero, List.set_cons_succ]
     rw [AnyOrder.lexAt_cons ?v13_8 (val_hole (by simp only [List.getD_cons_zero, List.getD_cons_succ]))]
     try simp only [Act.put, List.setIfInBounds_toArray, List.set_cons_zero, List.set_cons_succ]
     rw [AnyOrder.lexAt_cons (.string (cutS q.s f.toNat t2.toNat)) (val_hole (by simp only [List.getD_cons_zero, List.getD_cons_succ]))]
     try simp only [Act.put, List.setIfInBounds_toArray, List.set_cons_zero, List.set_cons_succ]
     rw [AnyOrder.lexAt_cons ?v13_10 (val_hole (by simp only [List.getD_cons_zero, List.getD_cons_succ]))]
     try simp only [Act.put, List.setIfInBounds_toArray, List.set_cons_zero, List.set_cons_succ]
     rw [AnyOrder.lexAt_nil]
     clear same
     obtain ⟨nd2, rfl⟩ := hD
     go_wp2
     go_ret2
     have hr := HR.out
     rw [if_neg (show ¬ t2 ≤ f by have := HC.out; omega)] at hr
     rw [hr]
     exact ⟨rfl, pw_below_drewN HB.out nd2⟩


/-! ### seq_Ahead: function 29 -/
def seq_Ahead.f (a0 : Int) (a1 : Int) : Option (Bool × Int) := (seq_Distance.f a0 a1).bind fun bt108 => ((seq_within.f bt108.1 1 2147483647).bind fun t110 => (some (t110, bt108.2)))
set_option maxHeartbeats 8000000 in
set_option maxRecDepth 100000 in
theorem seq_Ahead.calls (a0 : Int) (a1 : Int) (r1 : Bool) (r2 : Int) (w : World) (h : seq_Ahead.f a0 a1 = some (r1, r2)) :
  Calls Try.prog 29 #[.int .i64 a0, .int .i64 a1] w fun e w' => e = .returned (.tuple #[.bool r1, .int .i64 r2]) ∧ Below w.heap.size w w' := by
 have HB := Aside0.mk (Below.refl w.heap.size w)
 have H : ((seq_Distance.f a0 a1).bind fun bt108 => ((seq_within.f bt108.1 1 2147483647).bind fun t110 => (some (t110, bt108.2)))) = some (r1, r2) := h
 clear h
 replace H := Option.bind_eq_some_iff.mp H
 obtain ⟨⟨t108, t109⟩, A30, H⟩ := H
 replace H : ((seq_within.f t108 1 2147483647).bind fun t110 => (some (t110, t109))) = some (r1, r2) := H
 have A3 := Aside0.mk A30
 clear A30
 replace H := Option.bind_eq_some_iff.mp H
 obtain ⟨t110, A40, H⟩ := H
 replace H : (some (t110, t109)) = some (r1, r2) := H
 have A4 := Aside0.mk A40
 clear A40
 simp only [Option.some.injEq, Prod.mk.injEq] at H
 obtain ⟨rfl, rfl⟩ := H
 go_enter Try.func29, Try.ntmps29
 go_wp2_with (first | ((with_reducible refine gate_callee (f := 17) rfl ?_); refine goesL_ (some 11) rfl rfl Try.func17 (by kernel_rfl) rfl #[.int .i64 a0, .int .i64 a1] rfl (by (try simp only [List.map_toArray, List.map_cons, List.map_nil]); first | done | rfl | (simp only [List.length_drop, List.length_take]; rfl)) ?_; (with_reducible refine (seq_Distance.calls a0 a1 t108 t109 _ A3.out).mono ?_); rintro e w5 ⟨rfl, hb⟩; refine ⟨_, rfl, ?_⟩; have n0_ := Aside0.mk (below_step (by repeat (first | (with_reducible first | exact HB.out | apply below_alloc | apply pw_below_drewN | apply below_drew1) | exact HB.out)) hb); clear HB; have HB := n0_; clear n0_; (try clear hb); (try clear hb2); (try clear hk); (try clear hi)) | ((with_reducible refine gate_callee (f := 25) rfl ?_); refine goesL_ (some 15) rfl rfl Try.func25 (by kernel_rfl) rfl #[.int .i64 t108, .int .i64 1, .int .i64 2147483647] rfl (by (try simp only [List.map_toArray, List.map_cons, List.map_nil]); first | done | rfl | (simp only [List.length_drop, List.length_take]; rfl)) ?_; (with_reducible refine (seq_within.calls t108 1 2147483647 t110 _ A4.out).mono ?_); rintro e w' ⟨rfl, ⟨nd, rfl⟩⟩; refine ⟨_, rfl, ?_⟩))
 go_ret2
 exact ⟨by first | rfl | (simp [errW_none, errW_some] <;> rfl) | (simp [*, errW_none, errW_some] <;> rfl), by repeat (first | (with_reducible first | exact HB.out | apply below_alloc | apply pw_below_drewN | apply below_drew1) | exact HB.out)⟩

end Go.Proofs.Ytobndcdohehhbaa.PSendqPlays

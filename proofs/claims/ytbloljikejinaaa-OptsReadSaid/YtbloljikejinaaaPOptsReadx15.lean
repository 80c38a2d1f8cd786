-- Laid by this claim's own program over the print's words.
import Derived.Test.YtbloljikejinaaaPOptsReadx0
import Derived.Test.YtbloljikejinaaaPOptsReadx2
import Derived.Test.YtbloljikejinaaaPOptsReadx7
import Derived.Test.YtbloljikejinaaaPOptsReadx8
import Derived.Test.YtbloljikejinaaaPOptsReadx9
import Derived.Test.YtbloljikejinaaaPOptsReadx12
import Derived.Test.YtbloljikejinaaaPOptsReadx14
namespace Go.Proofs.Ytbloljikejinaaa.POptsRead
open Go.RowKit Go.Proofs.YtbloljikejinaaaW.PrintWords Go.Proofs.YtbloljikejinaaaW.PrintLast Go.Proofs.YtbloljikejinaaaW.PrintMore
attribute [local go_sem] max2_int min2_int max_two min_two max_three min_three max_four min_four max_five min_five extract_cut tmod_nat_lit   -- for this text's walks alone
set_option linter.unusedVariables false
set_option linter.unusedSimpArgs false


/-! ### sternpostref07_Decode: function 22 (by hand) -/
def sternpostref07_Decode.lp : Nat → ByteArray → Int → Bool → Bool → Bool → Bool → Bool → Int → Int → Int → Int → Bool → Bool → Bool → List S35 → Option (Option (Int × Int × Int × Int × Bool × Bool × Bool × List S35))
 | 0, _, _, _, _, _, _, _, _, _, _, _, _, _, _, _ => none
 | k + 1, s, i, s2, s3, s4, s5, s8, m, sc, st, ec, sd, sk, sp, l =>
  if i < (s.size : Int) then if bt s i = 0 then some (some (m, sc, st, ec, sd, sk, sp, l)) else
   if bt s i = 1 then sternpostref07_Decode.lp k s (i + 1) s2 s3 s4 s5 s8 m sc st ec sd sk sp l else
   if (s.size : Int) ≤ i + 1 then some none else if bt s (i + 1) < 2 then some none else if (s.size : Int) - i < bt s (i + 1) then some none else
    (sternpostref07_part.f k m sc st ec sd sk sp l (bt s i) (cutS s (i + 2).toNat (i + bt s (i + 1)).toNat) (sternpostref07_part.fl (bt s i) s2 s3 s4 s5 s8)).bind fun r => if r.2.2.2.2.2.2.2.2 = true then sternpostref07_Decode.lp k s (i + bt s (i + 1)) (s2 || decide (bt s i = 2)) (s3 || decide (bt s i = 3)) (s4 || decide (bt s i = 4)) (s5 || decide (bt s i = 5)) (s8 || decide (bt s i = 8)) r.1 r.2.1 r.2.2.1 r.2.2.2.1 r.2.2.2.2.1 r.2.2.2.2.2.1 r.2.2.2.2.2.2.1 r.2.2.2.2.2.2.2.1 else some none
  else some (some (m, sc, st, ec, sd, sk, sp, l))
def sternpostref07_Decode.fin (k : Nat) (o : Option (Int × Int × Int × Int × Bool × Bool × Bool × List S35)) : Option (Int × Int × Int × Int × Bool × Bool × Bool × List S35 × Int) :=
 match o with
 | none => some (0, 0, 0, 0, false, false, false, [], 70)
 | some o => (sternpostref07_Check.f k o.1 o.2.1 o.2.2.1 o.2.2.2.1 o.2.2.2.2.1 o.2.2.2.2.2.1 o.2.2.2.2.2.2.1 o.2.2.2.2.2.2.2).bind fun c => if c = 0 then some (o.1, o.2.1, o.2.2.1, o.2.2.2.1, o.2.2.2.2.1, o.2.2.2.2.2.1, o.2.2.2.2.2.2.1, o.2.2.2.2.2.2.2, 0) else some (0, 0, 0, 0, false, false, false, [], 70)
def sternpostref07_Decode.f (k : Nat) (a0 : ByteArray) : Option (Int × Int × Int × Int × Bool × Bool × Bool × List S35 × Int) :=
 if (a0.size : Int) > 40 then some (0, 0, 0, 0, false, false, false, [], 70) else (sternpostref07_Decode.lp k a0 0 false false false false false 0 0 0 0 false false false []).bind fun o => sternpostref07_Decode.fin k o
theorem slice_int {P : Program} {ρ : Operand → Value} {o : Oper} {W : World} {t : TypeId} {x a b : Operand} {s : ByteArray} {i j : Int} (hu : P.underlying t = some .string) (ho : o.op = .slice t x (some a) (some b) none) (hx : ρ x = .string s) (ha : ρ a = .int .i64 i) (hb : ρ b = .int .i64 j) (h0 : 0 ≤ i) (h1 : i ≤ j) (h2 : j ≤ (s.size : Int)) : (execOp ρ o).run P W = .ok (.value (.string (cutS s i.toNat j.toNat))) W := by
 obtain ⟨a', rfl⟩ := Int.eq_ofNat_of_zero_le h0
 obtain ⟨b', rfl⟩ := Int.eq_ofNat_of_zero_le (show 0 ≤ j by omega)
 rw [Int.toNat_natCast, Int.toNat_natCast]
 exact slice_str hu ho hx ha hb (by omega) (by omega)
theorem ob_evcall {P : Program} {ops : Array Oper} {e : Nat} {C : Bool → World → Prop} {G : Bool → World → World → Prop} {T : List Nat} {R : Bool → Nat → World → Value → Prop} {vs : List Value} {x : Nat → Value} {o : Oper} {a : Act} {v : Value} (hw : Region.wanted o (yielded ops a.tmps) = true) (hT : T.contains e = false) (hv : vs.getD e undef = v) (f : FuncId) (args : Array Value)
  (h : ∀ w, C false w → (execOp a.eval o).run P w = .ok (.enter f args) w) (hc : ∀ w, C false w → Calls P f args w (fun r w' => r = .returned v ∧ C true w' ∧ G true w w')) : AnyPhase.PhOb P ops e C G T R vs x e o a := fun b w hb hC _ => by
 have hb := hb rfl
 subst hb
 have hn : (e == e) = true := by simp
 rw [if_pos hw, h w hC, hT, hn, Bool.or_true]
 exact (hc w hC).mono fun r w' ⟨he, h1, h2⟩ => ⟨v, he, h1, h2, hv.symm⟩
theorem sternpostref07_Decode.mk (W : World) : (Instr.makeSlice 54 (.int .i64 9) (.int .i64 9)).run Try.prog W = .ok (.slice (some ⟨W.heap.size, 0, none⟩) 9 9) (W.alloc (.cells #[.bool false, .bool false, .bool false, .bool false, .bool false, .bool false, .bool false, .bool false, .bool false] 4)) := by
 have hi0 : (Try.prog.info? 4).map (fun i => (i.zero, i.size, i.bytes)) = some (some (.bool false), 1, 1) := by kernel_rfl
 obtain ⟨i, hi, hz⟩ := Option.map_eq_some_iff.1 hi0
 simp only [Prod.mk.injEq] at hz
 obtain ⟨hz0, hz1, hz2⟩ := hz
 have h := run_makeSlice (w := W) (P := Try.prog) 54 4 i (.bool false) Try.underlying54 hi hz0 .i64 .i64 9 9 (by omega) (by omega) (by rw [hz1]; decide) (by rw [hz2]; decide) (by decide)
 have e : madeCells (Value.bool false).cells (Int.toNat 9 * 1) = #[.bool false, .bool false, .bool false, .bool false, .bool false, .bool false, .bool false, .bool false, .bool false] := by kernel_rfl
 rw [h, hz1, e]; rfl
set_option maxHeartbeats 4000000 in
set_option maxRecDepth 100000 in
theorem sternpostref07_Decode.calls (k : Nat) (s : ByteArray) (r1 r2 r3 r4 : Int) (r5 r6 r7 : Bool) (r8 : List S35) (r9 : Int) (w : World) (h : sternpostref07_Decode.f k s = some (r1, r2, r3, r4, r5, r6, r7, r8, r9)) :
  Calls Try.prog 22 #[.string s] w fun e w' => ∃ v7_ : Value, e = .returned (.tuple #[.agg #[.int .i64 r1, .int .i64 r2, .int .i64 r3, .int .i64 r4, .bool r5, .bool r6, .bool r7, v7_], .int .i64 r9]) ∧ Kd.R k35 35 w' w.heap.size (fun _ => True) v7_ r8 ∧ Below w.heap.size w w' := by
 have hu24 := Try.underlying24
 have hmk := sternpostref07_Decode.mk
 unfold sternpostref07_Decode.f at h
 by_cases c1 : (s.size : Int) > 40
 ·rw [if_pos c1] at h
  simp only [Option.some.injEq, Prod.mk.injEq] at h
  obtain ⟨rfl, rfl, rfl, rfl, rfl, rfl, rfl, rfl, rfl⟩ := h
  have c1b := decide_eq_true c1
  clear c1
  go_enter Try.func22, Try.ntmps22
  go_wp2_with (first | ((with_reducible refine gate_dst (N := 2) rfl ?_); refine box_event ?hg (N := 2) ?hd (cs := #[.int .i64 0, .int .i64 0, .int .i64 0, .int .i64 0, .bool false, .bool false, .bool false, .slice none 0 0]) (t := 24) ?hr ?_; (case hd => rfl); (case hg => rfl); (case hr => first | (go_simp; done) | (go_simp; rfl)); intro gr hgr w1 hbox hb1; have H1 := Aside0.mk hb1; have GR := Aside0.mk (show w.heap.size ≤ gr by omega); have BR := Aside0.mk hbox; obtain ⟨hrc0, hrc1, hrc2, hrc3, hrc4, hrc5, hrc6, hrc7⟩ := blk_cells8 hbox; obtain ⟨hrf0, hrf1, hrf2, hrf3, hrf4, hrf5, hrf6, hrf7⟩ := blk_frozens8 hbox; clear hbox hb1 hgr))
  refine bodyPost_ret (results_ct rfl _ _ gr 24 #[.int .i64 0, .int .i64 0, .int .i64 0, .int .i64 0, .bool false, .bool false, .bool false, .slice none 0 0] (0, 0) _ rfl (by refine blk_put (cs := #[.int .i64 0, .int .i64 0, .int .i64 0, .int .i64 0, .bool false, .bool false, .bool false, .slice none 0 0]) ?_ 7 _ rfl; refine blk_put (cs := #[.int .i64 0, .int .i64 0, .int .i64 0, .int .i64 0, .bool false, .bool false, .bool false, .slice none 0 0]) ?_ 6 _ rfl; refine blk_put (cs := #[.int .i64 0, .int .i64 0, .int .i64 0, .int .i64 0, .bool false, .bool false, .bool false, .slice none 0 0]) ?_ 5 _ rfl; refine blk_put (cs := #[.int .i64 0, .int .i64 0, .int .i64 0, .int .i64 0, .bool false, .bool false, .bool false, .slice none 0 0]) ?_ 4 _ rfl; refine blk_put (cs := #[.int .i64 0, .int .i64 0, .int .i64 0, .int .i64 0, .bool false, .bool false, .bool false, .slice none 0 0]) ?_ 3 _ rfl; refine blk_put (cs := #[.int .i64 0, .int .i64 0, .int .i64 0, .int .i64 0, .bool false, .bool false, .bool false, .slice none 0 0]) ?_ 2 _ rfl; refine blk_put (cs := #[.int .i64 0, .int .i64 0, .int .i64 0, .int .i64 0, .bool false, .bool false, .bool false, .slice none 0 0]) ?_ 1 _ rfl; refine blk_put (cs := #[.int .i64 0, .int .i64 0, .int .i64 0, .int .i64 0, .bool false, .bool false, .bool false, .slice none 0 0]) ?_ 0 _ rfl; exact BR.out) Try.underlying24 rfl (by kernel_rfl)) rfl ?_
  exact ⟨_, rfl, Kd.R_nil _ _ _ _ _, by repeat (first | (with_reducible first | exact H1.out | refine below_set ?_ GR.out) | exact H1.out)⟩
 ·rw [if_neg c1] at h
  have c1b := decide_eq_false c1
  obtain ⟨oo, hlp, hfin⟩ := Option.bind_eq_some_iff.mp h
  have HLP := Aside0.mk hlp
  have HF := Aside0.mk hfin
  have HS := Aside0.mk (show (s.size : Int) ≤ 40 by omega)
  clear c1 h hlp hfin
  go_enter Try.func22, Try.ntmps22
  go_wp2_with (first | ((with_reducible refine gate_dst (N := 2) rfl ?_); refine box_event ?hg (N := 2) ?hd (cs := #[.int .i64 0, .int .i64 0, .int .i64 0, .int .i64 0, .bool false, .bool false, .bool false, .slice none 0 0]) (t := 24) ?hr ?_; (case hd => rfl); (case hg => rfl); (case hr => first | (go_simp; done) | (go_simp; rfl)); intro gr hgr w1 hbox hb1; have H1 := Aside0.mk hb1; have GR := Aside0.mk (show w.heap.size ≤ gr by omega); have BR := Aside0.mk hbox; obtain ⟨hrc0, hrc1, hrc2, hrc3, hrc4, hrc5, hrc6, hrc7⟩ := blk_cells8 hbox; obtain ⟨hrf0, hrf1, hrf2, hrf3, hrf4, hrf5, hrf6, hrf7⟩ := blk_frozens8 hbox; clear hbox hb1 hgr))
  have hsz : (w1.alloc (.cells #[.int .i64 0, .int .i64 0, .int .i64 0, .int .i64 0, .bool false, .bool false, .bool false, .slice none 0 0] 24)).heap.size = w1.heap.size + 1 := by show (w1.heap.push _).size = _; rw [Array.size_push]
  have GO := Aside0.mk (below_size H1.out)
  have NE1 := Aside0.mk (Nat.ne_of_gt (blk_lt BR.out))
  have LT1 := Aside0.mk (blk_lt BR.out)
  have OA0 : OptAt ((w1.alloc (.cells #[.int .i64 0, .int .i64 0, .int .i64 0, .int .i64 0, .bool false, .bool false, .bool false, .slice none 0 0] 24)).alloc (.cells #[.bool false, .bool false, .bool false, .bool false, .bool false, .bool false, .bool false, .bool false, .bool false] 4)) w1.heap.size 0 0 0 0 false false false (.slice none 0 0) := blk_alloc (blk_new w1 _) _
  have SA0 : sternpostref07_part.At ((w1.alloc (.cells #[.int .i64 0, .int .i64 0, .int .i64 0, .int .i64 0, .bool false, .bool false, .bool false, .slice none 0 0] 24)).alloc (.cells #[.bool false, .bool false, .bool false, .bool false, .bool false, .bool false, .bool false, .bool false, .bool false] 4)) (w1.alloc (.cells #[.int .i64 0, .int .i64 0, .int .i64 0, .int .i64 0, .bool false, .bool false, .bool false, .slice none 0 0] 24)).heap.size false false false false false := blk_new (w1.alloc (.cells #[.int .i64 0, .int .i64 0, .int .i64 0, .int .i64 0, .bool false, .bool false, .bool false, .slice none 0 0] 24)) _
  have RA0 : Kd.R k35 35 ((w1.alloc (.cells #[.int .i64 0, .int .i64 0, .int .i64 0, .int .i64 0, .bool false, .bool false, .bool false, .slice none 0 0] 24)).alloc (.cells #[.bool false, .bool false, .bool false, .bool false, .bool false, .bool false, .bool false, .bool false, .bool false] 4)) w.heap.size (fun _ => True) (.slice none 0 0) [] := Kd.R_nil _ _ _ _ _
  have HB0 : Below w.heap.size w ((w1.alloc (.cells #[.int .i64 0, .int .i64 0, .int .i64 0, .int .i64 0, .bool false, .bool false, .bool false, .slice none 0 0] 24)).alloc (.cells #[.bool false, .bool false, .bool false, .bool false, .bool false, .bool false, .bool false, .bool false, .bool false] 4)) := below_alloc (below_alloc H1.out _) _
  have BR0 := blk_alloc (blk_alloc BR.out (.cells #[.int .i64 0, .int .i64 0, .int .i64 0, .int .i64 0, .bool false, .bool false, .bool false, .slice none 0 0] 24)) (.cells #[.bool false, .bool false, .bool false, .bool false, .bool false, .bool false, .bool false, .bool false, .bool false] 4)
  rw [hsz] at SA0
  have OA := Aside0.mk OA0; have SA := Aside0.mk SA0; have RA := Aside0.mk RA0; have HB := Aside0.mk HB0; clear BR; have BR := Aside0.mk BR0
  clear OA0 SA0 RA0 HB0 BR0 hsz H1 hrc0 hrc1 hrc2 hrc3 hrc4 hrc5 hrc6 hrc7 hrf0 hrf1 hrf2 hrf3 hrf4 hrf5 hrf6 hrf7
  generalize (w1.alloc (.cells #[.int .i64 0, .int .i64 0, .int .i64 0, .int .i64 0, .bool false, .bool false, .bool false, .slice none 0 0] 24)).alloc (.cells #[.bool false, .bool false, .bool false, .bool false, .bool false, .bool false, .bool false, .bool false, .bool false] 4) = W1 at OA SA RA HB BR ⊢
  generalize w1.heap.size = go at OA SA GO NE1 LT1 ⊢
  go_loopg [6] k (fun kq v6 W => ∃ (i : Int) (s2 s3 s4 s5 s8 : Bool) (m sc st ec : Int) (sd sk sp : Bool) (l : List S35) (v : Value), v6 = .int .i64 i ∧ Aside0 (sternpostref07_Decode.lp kq s i s2 s3 s4 s5 s8 m sc st ec sd sk sp l = some oo) ∧ Aside0 (kq ≤ k) ∧ Aside0 (0 ≤ i ∧ i ≤ 100) ∧ Aside0 (sternpostref07_part.At W (go + 1) s2 s3 s4 s5 s8) ∧ Aside0 (OptAt W go m sc st ec sd sk sp v) ∧ Aside0 (Kd.R k35 35 W w.heap.size (fun _ => True) v l) ∧ Aside0 (Below w.heap.size w W) ∧ Aside0 (W.heap[gr]? = some (.cells #[.int .i64 0, .int .i64 0, .int .i64 0, .int .i64 0, .bool false, .bool false, .bool false, .slice none 0 0] 24 (0, 0))))
  case atStart => exact ⟨0, false, false, false, false, false, 0, 0, 0, 0, false, false, false, [], .slice none 0 0, rfl, HLP, ⟨Nat.le_refl _⟩, ⟨by omega⟩, SA, OA, RA, HB, BR⟩
  case round =>
   clear HLP SA OA RA HB BR c1b
   obtain ⟨i, s2, s3, s4, s5, s8, m, sc, st, ec, sd, sk, sp, l, v, rfl, HA, HK1, HN, SA, OA, RA, HB, BR⟩ := hrel
   cases gk with
   | zero => exact absurd HA.out (by simp [sternpostref07_Decode.lp])
   | succ k1 =>
    have H := HA.out
    clear HA
    simp only [sternpostref07_Decode.lp] at H
    obtain ⟨Av, cv, hv, hlv, hCv⟩ := Kd.R_reads RA.out
    generalize hln : l.length = ln at hv hlv
    subst hv
    have LN := Aside0.mk hln
    have HLV := Aside0.mk hlv
    have HCV := Aside0.mk hCv
    clear hln hlv hCv
    obtain ⟨hrc0, hrc1, hrc2, hrc3, hrc4, hrc5, hrc6, hrc7⟩ := blk_cells8 BR.out
    obtain ⟨hrf0, hrf1, hrf2, hrf3, hrf4, hrf5, hrf6, hrf7⟩ := blk_frozens8 BR.out
    obtain ⟨hoc0, hoc1, hoc2, hoc3, hoc4, hoc5, hoc6, hoc7⟩ := blk_cells8 OA.out
    obtain ⟨hof0, hof1, hof2, hof3, hof4, hof5, hof6, hof7⟩ := blk_frozens8 OA.out
    have hne := NE1.out
    have hne2 := Ne.symm NE1.out
    have hx0 := bt_at s i
    have p0 : (0 ≤ i) = True := eq_true HN.out.1
    by_cases c0 : i < (s.size : Int)
    ·rw [if_pos c0] at H
     have c0b := decide_eq_true c0
     have q0 : (i < (s.size : Int)) = True := eq_true c0
     have b0 : 0 ≤ bt s i ∧ bt s i ≤ 255 := bt_range s i
     have hw0 : wrap64 (bt s i) = bt s i := by unfold wrap64; omega
     have hi1 : IntKind.i64.wrap (i + 1) = i + 1 := by have := HN.out; rw [i64_w]; unfold wrap64; omega
     by_cases z0 : bt s i = 0
     ·rw [if_pos z0] at H
      have z0b : (bt s i != 0) = false := bne_eq_false_iff_eq.mpr z0
      obtain rfl := Option.some.inj H
      clear H z0 b0 c0
      obtain ⟨cc, hcc, hff⟩ := Option.bind_eq_some_iff.mp (show (sternpostref07_Check.f k m sc st ec sd sk sp l).bind (fun c => if c = 0 then some (m, sc, st, ec, sd, sk, sp, l, (0 : Int)) else some (0, 0, 0, 0, false, false, false, [], 70)) = some (r1, r2, r3, r4, r5, r6, r7, r8, r9) from HF.out)
      have HFF := Aside0.mk hff
      have HC := Aside0.mk hcc
      clear hff hcc
      go_wp2_with fail
      have hck := sternpostref07_Check.calls k m sc st ec sd sk sp Av cv l cc wr (Kd.C_below HCV.out (Below.refl _ _)) (by rw [LN.out]; exact HLV.out) HC.out
      rw [LN.out] at hck
      refine hck.mono ?_
      rintro e w2 ⟨rfl, hb2⟩
      clear hrc0 hrc1 hrc2 hrc3 hrc4 hrc5 hrc6 hrc7 hrf0 hrf1 hrf2 hrf3 hrf4 hrf5 hrf6 hrf7 hoc0 hoc1 hoc2 hoc3 hoc4 hoc5 hoc6 hoc7 hof0 hof1 hof2 hof3 hof4 hof5 hof6 hof7 hck
      have BR2 := Aside0.mk (blk_below BR.out hb2); have OA2 := Aside0.mk (blk_below OA.out hb2); have HB2 := Aside0.mk (below_step HB.out hb2); have RA2 := Aside0.mk (Kd.R_below RA.out hb2)
      obtain ⟨hrc0, hrc1, hrc2, hrc3, hrc4, hrc5, hrc6, hrc7⟩ := blk_cells8 BR2.out
      obtain ⟨hrf0, hrf1, hrf2, hrf3, hrf4, hrf5, hrf6, hrf7⟩ := blk_frozens8 BR2.out
      obtain ⟨hoc0, hoc1, hoc2, hoc3, hoc4, hoc5, hoc6, hoc7⟩ := blk_cells8 OA2.out
      obtain ⟨hof0, hof1, hof2, hof3, hof4, hof5, hof6, hof7⟩ := blk_frozens8 OA2.out
      clear hb2
      by_cases ce : cc = 0
      ·have ceb : (cc != 0) = false := bne_eq_false_iff_eq.mpr ce
       have h := HFF.out
       rw [if_pos ce] at h
       simp only [Option.some.injEq, Prod.mk.injEq] at h
       obtain ⟨rfl, rfl, rfl, rfl, rfl, rfl, rfl, rfl, rfl⟩ := h
       clear ce HFF HF
       have OUT := Aside0.mk (opts_Decode.out8 (y0 := .int .i64 m) (y1 := .int .i64 sc) (y2 := .int .i64 st) (y3 := .int .i64 ec) (y4 := .bool sd) (y5 := .bool sk) (y6 := .bool sp) (y7 := .slice Av ln cv) rfl HB2.out GR.out BR2.out)
       go_wp2
       refine bodyPost_ret (results_ct rfl _ _ gr 24 #[.int .i64 m, .int .i64 sc, .int .i64 st, .int .i64 ec, .bool sd, .bool sk, .bool sp, .slice Av ln cv] (0, 0) _ rfl OUT.out.1 Try.underlying24 rfl (by kernel_rfl)) rfl ?_
       exact ⟨_, rfl, OUT.out.2.2 _ _ RA2.out, OUT.out.2.1⟩
      ·have ceb : (cc != 0) = true := bne_iff_ne.mpr ce
       have h := HFF.out
       rw [if_neg ce] at h
       simp only [Option.some.injEq, Prod.mk.injEq] at h
       obtain ⟨rfl, rfl, rfl, rfl, rfl, rfl, rfl, rfl, rfl⟩ := h
       clear ce HFF HF
       have OUT := Aside0.mk (opts_Decode.out8 (y0 := .int .i64 0) (y1 := .int .i64 0) (y2 := .int .i64 0) (y3 := .int .i64 0) (y4 := .bool false) (y5 := .bool false) (y6 := .bool false) (y7 := .slice none 0 0) rfl HB2.out GR.out BR2.out)
       go_wp2
       refine bodyPost_ret (results_ct rfl _ _ gr 24 #[.int .i64 0, .int .i64 0, .int .i64 0, .int .i64 0, .bool false, .bool false, .bool false, .slice none 0 0] (0, 0) _ rfl OUT.out.1 Try.underlying24 rfl (by kernel_rfl)) rfl ?_
       exact ⟨_, rfl, Kd.R_nil _ _ _ _ _, OUT.out.2.1⟩
     ·rw [if_neg z0] at H
      have z0b : (bt s i != 0) = true := bne_iff_ne.mpr z0
      by_cases z1 : bt s i = 1
      ·rw [if_pos z1] at H
       have z1b : (bt s i == 1) = true := beq_iff_eq.mpr z1
       have H' := Aside0.mk H
       have HN' := Aside0.mk (show 0 ≤ i + 1 ∧ i + 1 ≤ 100 by have := HN.out; have := HS.out; omega)
       clear H z0 b0 c0
       go_wp2
       go_roundg k1
       case measure => have := HK1.out; omega
       case rel => exact ⟨i + 1, s2, s3, s4, s5, s8, m, sc, st, ec, sd, sk, sp, l, .slice Av ln cv, (by first | rfl | (rw [← i64_w, hi1]) | (simp [*]; done)), H', ⟨by have := HK1.out; omega⟩, HN', SA, OA, RA, HB, BR⟩
      ·rw [if_neg z1] at H
       have z1b : (bt s i == 1) = false := beq_eq_false_iff_ne.mpr z1
       by_cases t2 : (s.size : Int) ≤ i + 1
       ·rw [if_pos t2] at H
        have t2b : decide ((s.size : Int) ≤ i + 1) = true := decide_eq_true t2
        clear z0 z1 b0 c0
        obtain rfl := Option.some.inj H
        clear H
        have HFN := HF.out
        simp only [sternpostref07_Decode.fin, Option.some.injEq, Prod.mk.injEq] at HFN
        obtain ⟨rfl, rfl, rfl, rfl, rfl, rfl, rfl, rfl, rfl⟩ := HFN
        clear HF
        have OUT := Aside0.mk (opts_Decode.out8 (y0 := .int .i64 0) (y1 := .int .i64 0) (y2 := .int .i64 0) (y3 := .int .i64 0) (y4 := .bool false) (y5 := .bool false) (y6 := .bool false) (y7 := .slice none 0 0) rfl HB.out GR.out BR.out)
        go_wp2
        refine bodyPost_ret (results_ct rfl _ _ gr 24 #[.int .i64 0, .int .i64 0, .int .i64 0, .int .i64 0, .bool false, .bool false, .bool false, .slice none 0 0] (0, 0) _ rfl OUT.out.1 Try.underlying24 rfl (by kernel_rfl)) rfl ?_
        exact ⟨_, rfl, Kd.R_nil _ _ _ _ _, OUT.out.2.1⟩
       ·rw [if_neg t2] at H
        have t2b : decide ((s.size : Int) ≤ i + 1) = false := decide_eq_false t2
        have p1 : (0 ≤ i + 1) = True := eq_true (by have := HN.out; omega)
        have q1 : (i + 1 < (s.size : Int)) = True := eq_true (by omega)
        have hx1 := bt_at s (i + 1)
        have b1 : 0 ≤ bt s (i + 1) ∧ bt s (i + 1) ≤ 255 := bt_range s (i + 1)
        have hw1 : wrap64 (bt s (i + 1)) = bt s (i + 1) := by unfold wrap64; omega
        have hsb : IntKind.i64.wrap ((s.size : Int) - i) = (s.size : Int) - i := by have := HN.out; have := HS.out; rw [i64_w]; unfold wrap64; omega
        by_cases t3 : bt s (i + 1) < 2
        ·rw [if_pos t3] at H
         have t3b : decide (bt s (i + 1) < 2) = true := decide_eq_true t3
         clear z0 z1 b0 b1 c0
         obtain rfl := Option.some.inj H
         clear H
         have HFN := HF.out
         simp only [sternpostref07_Decode.fin, Option.some.injEq, Prod.mk.injEq] at HFN
         obtain ⟨rfl, rfl, rfl, rfl, rfl, rfl, rfl, rfl, rfl⟩ := HFN
         clear HF
         go_wp2
         repeat (go_quiet (fail); try go_wp2)
         have OUT := Aside0.mk (opts_Decode.out8 (y0 := .int .i64 0) (y1 := .int .i64 0) (y2 := .int .i64 0) (y3 := .int .i64 0) (y4 := .bool false) (y5 := .bool false) (y6 := .bool false) (y7 := .slice none 0 0) (W := wr.drewN nq) rfl (pw_below_drewN HB.out nq) GR.out (blk_drewN BR.out nq))
         refine bodyPost_ret (results_ct rfl _ _ gr 24 #[.int .i64 0, .int .i64 0, .int .i64 0, .int .i64 0, .bool false, .bool false, .bool false, .slice none 0 0] (0, 0) _ rfl OUT.out.1 Try.underlying24 rfl (by kernel_rfl)) rfl ?_
         exact ⟨_, rfl, Kd.R_nil _ _ _ _ _, OUT.out.2.1⟩
        ·rw [if_neg t3] at H
         have t3b : decide (bt s (i + 1) < 2) = false := decide_eq_false t3
         by_cases t4 : (s.size : Int) - i < bt s (i + 1)
         ·rw [if_pos t4] at H
          have t4b : decide ((s.size : Int) - i < bt s (i + 1)) = true := decide_eq_true t4
          clear z0 z1 b0 b1 c0
          obtain rfl := Option.some.inj H
          clear H
          have HFN := HF.out
          simp only [sternpostref07_Decode.fin, Option.some.injEq, Prod.mk.injEq] at HFN
          obtain ⟨rfl, rfl, rfl, rfl, rfl, rfl, rfl, rfl, rfl⟩ := HFN
          clear HF
          go_wp2
          repeat (go_quiet (fail); try go_wp2)
          have OUT := Aside0.mk (opts_Decode.out8 (y0 := .int .i64 0) (y1 := .int .i64 0) (y2 := .int .i64 0) (y3 := .int .i64 0) (y4 := .bool false) (y5 := .bool false) (y6 := .bool false) (y7 := .slice none 0 0) (W := wr.drewN nq) rfl (pw_below_drewN HB.out nq) GR.out (blk_drewN BR.out nq))
          refine bodyPost_ret (results_ct rfl _ _ gr 24 #[.int .i64 0, .int .i64 0, .int .i64 0, .int .i64 0, .bool false, .bool false, .bool false, .slice none 0 0] (0, 0) _ rfl OUT.out.1 Try.underlying24 rfl (by kernel_rfl)) rfl ?_
          exact ⟨_, rfl, Kd.R_nil _ _ _ _ _, OUT.out.2.1⟩
         ·rw [if_neg t4] at H
          have t4b : decide ((s.size : Int) - i < bt s (i + 1)) = false := decide_eq_false t4
          obtain ⟨⟨m', sc', st', ec', sd', sk', sp', l', rr⟩, hrd, H⟩ := Option.bind_eq_some_iff.mp H
          have HRD := Aside0.mk hrd
          have H' := Aside0.mk H
          have hwi0 : IntKind.i64.wrap (bt s i) = bt s i := by rw [i64_w]; exact hw0
          have hi2 : IntKind.i64.wrap (i + 2) = i + 2 := by have := HN.out; rw [i64_w]; unfold wrap64; omega
          have hin : IntKind.i64.wrap (i + bt s (i + 1)) = i + bt s (i + 1) := by have := HN.out; rw [i64_w]; unfold wrap64; omega
          have BN := Aside0.mk (show 0 ≤ i + 2 ∧ i + 2 ≤ i + bt s (i + 1) ∧ i + bt s (i + 1) ≤ (s.size : Int) by have := HN.out; omega)
          have NQ := Aside0.mk (show (go + 1) ≠ go by omega)
          clear H hrd z0 z1 b0 b1 c0 t2 t3 t4
          go_wp2
          have same : True := trivial
          refine AnyPhase.region_then 26 (e := 23) (C := fun b W => if b = true then sternpostref07_part.Post go (go + 1) (.slice Av ln cv) w wr m' sc' st' ec' sd' sk' sp' l' (s2 || decide (bt s i = 2)) (s3 || decide (bt s i = 3)) (s4 || decide (bt s i = 4)) (s5 || decide (bt s i = 5)) (s8 || decide (bt s i = 8)) W else W = { wr with drawn := wr.drawn + 1 }) (G := fun _ _ _ => True) (T := []) (R := fun _ _ _ _ => True) (vs := [(.int .i64 (bt s (i + 1))), (.bool false), (.bool false), (.int .i64 (bt s (i + 1))), (.string s), (.int .i64 (s.size : Int)), (.int .i64 i), (.int .i64 ((s.size : Int) - i)), (.bool false), (.bool false), (.bool false), (.string s), (.int .i64 i), (.int .u8 (bt s i)), (.int .i64 (bt s i)), (.string s), (.int .i64 i), (.int .i64 (i + 2)), (.int .i64 i), (.int .i64 (bt s (i + 1))), (.int .i64 (i + bt s (i + 1))), (.string (cutS s (i + 2).toNat (i + bt s (i + 1)).toNat)), (.slice (some ⟨(go + 1), 0, none⟩) 9 9), (.bool rr), (.bool (!rr)), (.bool (!rr))]) (by kernel_rfl) rfl (by kernel_rfl) rfl (fun _ _ _ => trivial) (fun _ _ _ _ _ _ _ _ _ => trivial) (by decide) (by decide) (fun x => ?obs) ?fin
          case obs =>
           refine AnyPhase.obs_cons (.int .i64 (bt s (i + 1))) rfl (AnyPhase.ob_plain (by decide) rfl rfl (fun _ _ _ => trivial) rfl (fun b W' hW => by go_simp)) ?_
           try simp only [Act.put, List.setIfInBounds_toArray, List.set_cons_zero, List.set_cons_succ]
           refine AnyPhase.obs_cons (.bool false) rfl (AnyPhase.ob_plain (by decide) rfl rfl (fun _ _ _ => trivial) rfl (fun b W' hW => by go_simp)) ?_
           try simp only [Act.put, List.setIfInBounds_toArray, List.set_cons_zero, List.set_cons_succ]
           refine AnyPhase.obs_cons (.bool false) rfl (AnyPhase.ob_plain (by decide) rfl rfl (fun _ _ _ => trivial) rfl (fun b W' hW => by go_simp)) ?_
           try simp only [Act.put, List.setIfInBounds_toArray, List.set_cons_zero, List.set_cons_succ]
           refine AnyPhase.obs_cons (.int .i64 (bt s (i + 1))) rfl (AnyPhase.ob_plain (by decide) rfl rfl (fun _ _ _ => trivial) rfl (fun b W' hW => by go_simp)) ?_
           try simp only [Act.put, List.setIfInBounds_toArray, List.set_cons_zero, List.set_cons_succ]
           refine AnyPhase.obs_cons (.string s) rfl (AnyPhase.ob_plain (by decide) rfl rfl (fun _ _ _ => trivial) rfl (fun b W' hW => by go_simp)) ?_
           try simp only [Act.put, List.setIfInBounds_toArray, List.set_cons_zero, List.set_cons_succ]
           refine AnyPhase.obs_cons (.int .i64 (s.size : Int)) rfl (AnyPhase.ob_plain (by decide) rfl rfl (fun _ _ _ => trivial) rfl (fun b W' hW => by go_simp)) ?_
           try simp only [Act.put, List.setIfInBounds_toArray, List.set_cons_zero, List.set_cons_succ]
           refine AnyPhase.obs_cons (.int .i64 i) rfl (AnyPhase.ob_plain (by decide) rfl rfl (fun _ _ _ => trivial) rfl (fun b W' hW => by go_simp)) ?_
           try simp only [Act.put, List.setIfInBounds_toArray, List.set_cons_zero, List.set_cons_succ]
           refine AnyPhase.obs_cons (.int .i64 ((s.size : Int) - i)) rfl (AnyPhase.ob_plain (by decide) rfl rfl (fun _ _ _ => trivial) rfl (fun b W' hW => by go_simp)) ?_
           try simp only [Act.put, List.setIfInBounds_toArray, List.set_cons_zero, List.set_cons_succ]
           refine AnyPhase.obs_cons (.bool false) rfl (AnyPhase.ob_plain (by decide) rfl rfl (fun _ _ _ => trivial) rfl (fun b W' hW => by go_simp)) ?_
           try simp only [Act.put, List.setIfInBounds_toArray, List.set_cons_zero, List.set_cons_succ]
           refine AnyPhase.obs_cons (.bool false) rfl (AnyPhase.ob_plain (by decide) rfl rfl (fun _ _ _ => trivial) rfl (fun b W' hW => by go_simp)) ?_
           try simp only [Act.put, List.setIfInBounds_toArray, List.set_cons_zero, List.set_cons_succ]
           refine AnyPhase.obs_cons (.bool false) rfl (AnyPhase.ob_plain (by decide) rfl rfl (fun _ _ _ => trivial) rfl (fun b W' hW => by go_simp)) ?_
           try simp only [Act.put, List.setIfInBounds_toArray, List.set_cons_zero, List.set_cons_succ]
           refine AnyPhase.obs_cons (.string s) rfl (AnyPhase.ob_plain (by decide) rfl rfl (fun _ _ _ => trivial) rfl (fun b W' hW => by go_simp)) ?_
           try simp only [Act.put, List.setIfInBounds_toArray, List.set_cons_zero, List.set_cons_succ]
           refine AnyPhase.obs_cons (.int .i64 i) rfl (AnyPhase.ob_plain (by decide) rfl rfl (fun _ _ _ => trivial) rfl (fun b W' hW => by go_simp)) ?_
           try simp only [Act.put, List.setIfInBounds_toArray, List.set_cons_zero, List.set_cons_succ]
           refine AnyPhase.obs_cons (.int .u8 (bt s i)) rfl (AnyPhase.ob_plain (by decide) rfl rfl (fun _ _ _ => trivial) rfl (fun b W' hW => by go_simp)) ?_
           try simp only [Act.put, List.setIfInBounds_toArray, List.set_cons_zero, List.set_cons_succ]
           refine AnyPhase.obs_cons (.int .i64 (bt s i)) rfl (AnyPhase.ob_plain (by decide) rfl rfl (fun _ _ _ => trivial) rfl (fun b W' hW => by go_simp)) ?_
           try simp only [Act.put, List.setIfInBounds_toArray, List.set_cons_zero, List.set_cons_succ]
           refine AnyPhase.obs_cons (.string s) rfl (AnyPhase.ob_plain (by decide) rfl rfl (fun _ _ _ => trivial) rfl (fun b W' hW => by go_simp)) ?_
           try simp only [Act.put, List.setIfInBounds_toArray, List.set_cons_zero, List.set_cons_succ]
           refine AnyPhase.obs_cons (.int .i64 i) rfl (AnyPhase.ob_plain (by decide) rfl rfl (fun _ _ _ => trivial) rfl (fun b W' hW => by go_simp)) ?_
           try simp only [Act.put, List.setIfInBounds_toArray, List.set_cons_zero, List.set_cons_succ]
           refine AnyPhase.obs_cons (.int .i64 (i + 2)) rfl (AnyPhase.ob_plain (by decide) rfl rfl (fun _ _ _ => trivial) rfl (fun b W' hW => by go_simp)) ?_
           try simp only [Act.put, List.setIfInBounds_toArray, List.set_cons_zero, List.set_cons_succ]
           refine AnyPhase.obs_cons (.int .i64 i) rfl (AnyPhase.ob_plain (by decide) rfl rfl (fun _ _ _ => trivial) rfl (fun b W' hW => by go_simp)) ?_
           try simp only [Act.put, List.setIfInBounds_toArray, List.set_cons_zero, List.set_cons_succ]
           refine AnyPhase.obs_cons (.int .i64 (bt s (i + 1))) rfl (AnyPhase.ob_plain (by decide) rfl rfl (fun _ _ _ => trivial) rfl (fun b W' hW => by go_simp)) ?_
           try simp only [Act.put, List.setIfInBounds_toArray, List.set_cons_zero, List.set_cons_succ]
           refine AnyPhase.obs_cons (.int .i64 (i + bt s (i + 1))) rfl (AnyPhase.ob_plain (by decide) rfl rfl (fun _ _ _ => trivial) rfl (fun b W' hW => by go_simp)) ?_
           try simp only [Act.put, List.setIfInBounds_toArray, List.set_cons_zero, List.set_cons_succ]
           refine AnyPhase.obs_cons (.string (cutS s (i + 2).toNat (i + bt s (i + 1)).toNat)) rfl (AnyPhase.ob_plain (by decide) rfl rfl (fun _ _ _ => trivial) rfl (fun b W' hW => slice_int Try.underlying9 rfl rfl rfl rfl BN.out.1 BN.out.2.1 BN.out.2.2)) ?_
           try simp only [Act.put, List.setIfInBounds_toArray, List.set_cons_zero, List.set_cons_succ]
           refine AnyPhase.obs_cons (.slice (some ⟨(go + 1), 0, none⟩) 9 9) rfl (AnyPhase.ob_plain (by decide) rfl rfl (fun _ _ _ => trivial) rfl (fun b W' hW => by go_simp)) ?_
           try simp only [Act.put, List.setIfInBounds_toArray, List.set_cons_zero, List.set_cons_succ]
           refine AnyPhase.obs_cons (.bool rr) rfl (ob_evcall rfl rfl rfl 34 #[.pointer (some ⟨go, 0, none⟩), .int .i64 (bt s i), .string (cutS s (i + 2).toNat (i + bt s (i + 1)).toNat), .slice (some ⟨(go + 1), 0, none⟩) 9 9] (fun W' hW => ?_) (fun W' hW => ?_)) ?_
           ·go_simp
           ·have hW : W' = { wr with drawn := wr.drawn + 1 } := hW
            subst hW
            have b1 : Below wr.heap.size wr { wr with drawn := wr.drawn + 1 } := below_drew1 (Below.refl _ _)
            exact (sternpostref07_part.calls k1 go (go + 1) m sc st ec sd sk sp l (.slice Av ln cv) (bt s i) (cutS s (i + 2).toNat (i + bt s (i + 1)).toNat) s2 s3 s4 s5 s8 m' sc' st' ec' sd' sk' sp' l' rr w _ (below_step HB.out b1) GO.out (by have := GO.out; omega) NQ.out (blk_below OA.out b1) (Kd.R_below RA.out b1) (blk_below SA.out b1) HRD.out).mono fun r w2 h2 => ⟨h2.1, h2.2, trivial⟩
           try simp only [Act.put, List.setIfInBounds_toArray, List.set_cons_zero, List.set_cons_succ]
           refine AnyPhase.obs_cons (.bool (!rr)) rfl (AnyPhase.ob_plain (by decide) rfl rfl (fun _ _ _ => trivial) rfl (fun b W' hW => by go_simp)) ?_
           try simp only [Act.put, List.setIfInBounds_toArray, List.set_cons_zero, List.set_cons_succ]
           refine AnyPhase.obs_cons (.bool (!rr)) rfl (AnyPhase.ob_plain (by decide) rfl rfl (fun _ _ _ => trivial) rfl (fun b W' hW => by go_simp)) ?_
           try simp only [Act.put, List.setIfInBounds_toArray, List.set_cons_zero, List.set_cons_succ]
           trivial
          case fin =>
           intro x w4 hW _
           simp only [List.take_succ_cons, List.take_zero, List.drop_succ_cons, List.drop_zero]
           rw [AnyOrder.lexAt_cons (.int .i64 (bt s (i + 1))) rfl]
           try simp only [Act.put, List.setIfInBounds_toArray, List.set_cons_zero, List.set_cons_succ]
           rw [AnyOrder.lexAt_cons (.bool false) rfl]
           try simp only [Act.put, List.setIfInBounds_toArray, List.set_cons_zero, List.set_cons_succ]
           rw [AnyOrder.lexAt_cons (.bool false) rfl]
           try simp only [Act.put, List.setIfInBounds_toArray, List.set_cons_zero, List.set_cons_succ]
           rw [AnyOrder.lexAt_cons (.int .i64 (bt s (i + 1))) rfl]
           try simp only [Act.put, List.setIfInBounds_toArray, List.set_cons_zero, List.set_cons_succ]
           rw [AnyOrder.lexAt_cons (.string s) rfl]
           try simp only [Act.put, List.setIfInBounds_toArray, List.set_cons_zero, List.set_cons_succ]
           rw [AnyOrder.lexAt_cons (.int .i64 (s.size : Int)) rfl]
           try simp only [Act.put, List.setIfInBounds_toArray, List.set_cons_zero, List.set_cons_succ]
           rw [AnyOrder.lexAt_cons (.int .i64 i) rfl]
           try simp only [Act.put, List.setIfInBounds_toArray, List.set_cons_zero, List.set_cons_succ]
           rw [AnyOrder.lexAt_cons (.int .i64 ((s.size : Int) - i)) rfl]
           try simp only [Act.put, List.setIfInBounds_toArray, List.set_cons_zero, List.set_cons_succ]
           rw [AnyOrder.lexAt_cons (.bool false) rfl]
           try simp only [Act.put, List.setIfInBounds_toArray, List.set_cons_zero, List.set_cons_succ]
           rw [AnyOrder.lexAt_cons (.bool false) rfl]
           try simp only [Act.put, List.setIfInBounds_toArray, List.set_cons_zero, List.set_cons_succ]
           rw [AnyOrder.lexAt_cons (.bool false) rfl]
           try simp only [Act.put, List.setIfInBounds_toArray, List.set_cons_zero, List.set_cons_succ]
           rw [AnyOrder.lexAt_cons (.string s) rfl]
           try simp only [Act.put, List.setIfInBounds_toArray, List.set_cons_zero, List.set_cons_succ]
           rw [AnyOrder.lexAt_cons (.int .i64 i) rfl]
           try simp only [Act.put, List.setIfInBounds_toArray, List.set_cons_zero, List.set_cons_succ]
           rw [AnyOrder.lexAt_cons (.int .u8 (bt s i)) rfl]
           try simp only [Act.put, List.setIfInBounds_toArray, List.set_cons_zero, List.set_cons_succ]
           rw [AnyOrder.lexAt_cons (.int .i64 (bt s i)) rfl]
           try simp only [Act.put, List.setIfInBounds_toArray, List.set_cons_zero, List.set_cons_succ]
           rw [AnyOrder.lexAt_cons (.string s) rfl]
           try simp only [Act.put, List.setIfInBounds_toArray, List.set_cons_zero, List.set_cons_succ]
           rw [AnyOrder.lexAt_cons (.int .i64 i) rfl]
           try simp only [Act.put, List.setIfInBounds_toArray, List.set_cons_zero, List.set_cons_succ]
           rw [AnyOrder.lexAt_cons (.int .i64 (i + 2)) rfl]
           try simp only [Act.put, List.setIfInBounds_toArray, List.set_cons_zero, List.set_cons_succ]
           rw [AnyOrder.lexAt_cons (.int .i64 i) rfl]
           try simp only [Act.put, List.setIfInBounds_toArray, List.set_cons_zero, List.set_cons_succ]
           rw [AnyOrder.lexAt_cons (.int .i64 (bt s (i + 1))) rfl]
           try simp only [Act.put, List.setIfInBounds_toArray, List.set_cons_zero, List.set_cons_succ]
           rw [AnyOrder.lexAt_cons (.int .i64 (i + bt s (i + 1))) rfl]
           try simp only [Act.put, List.setIfInBounds_toArray, List.set_cons_zero, List.set_cons_succ]
           rw [AnyOrder.lexAt_cons (.string (cutS s (i + 2).toNat (i + bt s (i + 1)).toNat)) rfl]
           try simp only [Act.put, List.setIfInBounds_toArray, List.set_cons_zero, List.set_cons_succ]
           rw [AnyOrder.lexAt_cons (.slice (some ⟨(go + 1), 0, none⟩) 9 9) rfl]
           try simp only [Act.put, List.setIfInBounds_toArray, List.set_cons_zero, List.set_cons_succ]
           rw [AnyOrder.lexAt_cons (.bool rr) rfl]
           try simp only [Act.put, List.setIfInBounds_toArray, List.set_cons_zero, List.set_cons_succ]
           rw [AnyOrder.lexAt_cons (.bool (!rr)) rfl]
           try simp only [Act.put, List.setIfInBounds_toArray, List.set_cons_zero, List.set_cons_succ]
           rw [AnyOrder.lexAt_cons (.bool (!rr)) rfl]
           try simp only [Act.put, List.setIfInBounds_toArray, List.set_cons_zero, List.set_cons_succ]
           rw [AnyOrder.lexAt_nil]
           obtain ⟨hB4, hK4, ⟨v', hO4, _, hR4⟩, hA4⟩ := (show sternpostref07_part.Post go (go + 1) (.slice Av ln cv) w wr m' sc' st' ec' sd' sk' sp' l' (s2 || decide (bt s i = 2)) (s3 || decide (bt s i = 3)) (s4 || decide (bt s i = 4)) (s5 || decide (bt s i = 5)) (s8 || decide (bt s i = 8)) w4 from hW)
           have HT := Aside0.mk (Kd.R_typed RA.out)
           have BR4 := Aside0.mk ((hK4.2 gr (blk_lt BR.out) (fun hh => hh.elim (fun hh => hh.elim (fun e => NE1.out e.symm) (fun e => by have := LT1.out; omega)) (row_not BR.out HT.out (by decide)))).trans BR.out)
           have SA4 := Aside0.mk hA4; have OA4 := Aside0.mk hO4; have RA4 := Aside0.mk hR4; have HB4 := Aside0.mk hB4
           clear hB4 hK4 hO4 hR4 hA4 HT BR SA OA RA HB HRD hW hrc0 hrc1 hrc2 hrc3 hrc4 hrc5 hrc6 hrc7 hrf0 hrf1 hrf2 hrf3 hrf4 hrf5 hrf6 hrf7 hoc0 hoc1 hoc2 hoc3 hoc4 hoc5 hoc6 hoc7 hof0 hof1 hof2 hof3 hof4 hof5 hof6 hof7
           have H := H'.out
           clear H'
           obtain ⟨hrc0, hrc1, hrc2, hrc3, hrc4, hrc5, hrc6, hrc7⟩ := blk_cells8 BR4.out
           obtain ⟨hrf0, hrf1, hrf2, hrf3, hrf4, hrf5, hrf6, hrf7⟩ := blk_frozens8 BR4.out
           cases rr with
           | true =>
            rw [if_pos rfl] at H
            have H' := Aside0.mk H
            clear H
            go_wp2
            go_roundg k1
            case measure => have := HK1.out; omega
            case rel => exact ⟨i + bt s (i + 1), (s2 || decide (bt s i = 2)), (s3 || decide (bt s i = 3)), (s4 || decide (bt s i = 4)), (s5 || decide (bt s i = 5)), (s8 || decide (bt s i = 8)), m', sc', st', ec', sd', sk', sp', l', v', (by first | rfl | (rw [← i64_w, hin]) | (simp [*]; done)), H', ⟨by have := HK1.out; omega⟩, ⟨by have := HN.out; have := BN.out; have := HS.out; omega⟩, SA4, OA4, RA4, HB4, BR4⟩
           | false =>
            rw [if_neg (by decide)] at H
            have HB := HB4; have BR := BR4
            clear HB4 BR4
            obtain rfl := Option.some.inj H
            clear H
            have HFN := HF.out
            simp only [sternpostref07_Decode.fin, Option.some.injEq, Prod.mk.injEq] at HFN
            obtain ⟨rfl, rfl, rfl, rfl, rfl, rfl, rfl, rfl, rfl⟩ := HFN
            clear HF
            have OUT := Aside0.mk (opts_Decode.out8 (y0 := .int .i64 0) (y1 := .int .i64 0) (y2 := .int .i64 0) (y3 := .int .i64 0) (y4 := .bool false) (y5 := .bool false) (y6 := .bool false) (y7 := .slice none 0 0) rfl HB.out GR.out BR.out)
            go_wp2
            refine bodyPost_ret (results_ct rfl _ _ gr 24 #[.int .i64 0, .int .i64 0, .int .i64 0, .int .i64 0, .bool false, .bool false, .bool false, .slice none 0 0] (0, 0) _ rfl OUT.out.1 Try.underlying24 rfl (by kernel_rfl)) rfl ?_
            exact ⟨_, rfl, Kd.R_nil _ _ _ _ _, OUT.out.2.1⟩
    ·rw [if_neg c0] at H
     have c0b := decide_eq_false c0
     have q0 : (i < (s.size : Int)) = False := eq_false c0
     obtain rfl := Option.some.inj H
     clear H
     obtain ⟨cc, hcc, hff⟩ := Option.bind_eq_some_iff.mp (show (sternpostref07_Check.f k m sc st ec sd sk sp l).bind (fun c => if c = 0 then some (m, sc, st, ec, sd, sk, sp, l, (0 : Int)) else some (0, 0, 0, 0, false, false, false, [], 70)) = some (r1, r2, r3, r4, r5, r6, r7, r8, r9) from HF.out)
     have HFF := Aside0.mk hff
     have HC := Aside0.mk hcc
     clear hff hcc
     go_wp2_with fail
     have hck := sternpostref07_Check.calls k m sc st ec sd sk sp Av cv l cc wr (Kd.C_below HCV.out (Below.refl _ _)) (by rw [LN.out]; exact HLV.out) HC.out
     rw [LN.out] at hck
     refine hck.mono ?_
     rintro e w2 ⟨rfl, hb2⟩
     clear hrc0 hrc1 hrc2 hrc3 hrc4 hrc5 hrc6 hrc7 hrf0 hrf1 hrf2 hrf3 hrf4 hrf5 hrf6 hrf7 hoc0 hoc1 hoc2 hoc3 hoc4 hoc5 hoc6 hoc7 hof0 hof1 hof2 hof3 hof4 hof5 hof6 hof7 hck
     have BR2 := Aside0.mk (blk_below BR.out hb2); have OA2 := Aside0.mk (blk_below OA.out hb2); have HB2 := Aside0.mk (below_step HB.out hb2); have RA2 := Aside0.mk (Kd.R_below RA.out hb2)
     obtain ⟨hrc0, hrc1, hrc2, hrc3, hrc4, hrc5, hrc6, hrc7⟩ := blk_cells8 BR2.out
     obtain ⟨hrf0, hrf1, hrf2, hrf3, hrf4, hrf5, hrf6, hrf7⟩ := blk_frozens8 BR2.out
     obtain ⟨hoc0, hoc1, hoc2, hoc3, hoc4, hoc5, hoc6, hoc7⟩ := blk_cells8 OA2.out
     obtain ⟨hof0, hof1, hof2, hof3, hof4, hof5, hof6, hof7⟩ := blk_frozens8 OA2.out
     clear hb2
     by_cases ce : cc = 0
     ·have ceb : (cc != 0) = false := bne_eq_false_iff_eq.mpr ce
      have h := HFF.out
      rw [if_pos ce] at h
      simp only [Option.some.injEq, Prod.mk.injEq] at h
      obtain ⟨rfl, rfl, rfl, rfl, rfl, rfl, rfl, rfl, rfl⟩ := h
      clear ce HFF HF
      have OUT := Aside0.mk (opts_Decode.out8 (y0 := .int .i64 m) (y1 := .int .i64 sc) (y2 := .int .i64 st) (y3 := .int .i64 ec) (y4 := .bool sd) (y5 := .bool sk) (y6 := .bool sp) (y7 := .slice Av ln cv) rfl HB2.out GR.out BR2.out)
      go_wp2
      refine bodyPost_ret (results_ct rfl _ _ gr 24 #[.int .i64 m, .int .i64 sc, .int .i64 st, .int .i64 ec, .bool sd, .bool sk, .bool sp, .slice Av ln cv] (0, 0) _ rfl OUT.out.1 Try.underlying24 rfl (by kernel_rfl)) rfl ?_
      exact ⟨_, rfl, OUT.out.2.2 _ _ RA2.out, OUT.out.2.1⟩
     ·have ceb : (cc != 0) = true := bne_iff_ne.mpr ce
      have h := HFF.out
      rw [if_neg ce] at h
      simp only [Option.some.injEq, Prod.mk.injEq] at h
      obtain ⟨rfl, rfl, rfl, rfl, rfl, rfl, rfl, rfl, rfl⟩ := h
      clear ce HFF HF
      have OUT := Aside0.mk (opts_Decode.out8 (y0 := .int .i64 0) (y1 := .int .i64 0) (y2 := .int .i64 0) (y3 := .int .i64 0) (y4 := .bool false) (y5 := .bool false) (y6 := .bool false) (y7 := .slice none 0 0) rfl HB2.out GR.out BR2.out)
      go_wp2
      refine bodyPost_ret (results_ct rfl _ _ gr 24 #[.int .i64 0, .int .i64 0, .int .i64 0, .int .i64 0, .bool false, .bool false, .bool false, .slice none 0 0] (0, 0) _ rfl OUT.out.1 Try.underlying24 rfl (by kernel_rfl)) rfl ?_
      exact ⟨_, rfl, Kd.R_nil _ _ _ _ _, OUT.out.2.1⟩
theorem sternpostref07_Decode.lp_mono : ∀ k s i s2 s3 s4 s5 s8 m sc st ec sd sk sp l, LeO (sternpostref07_Decode.lp k s i s2 s3 s4 s5 s8 m sc st ec sd sk sp l) (sternpostref07_Decode.lp (k + 1) s i s2 s3 s4 s5 s8 m sc st ec sd sk sp l)
 | 0 => fun _ _ _ _ _ _ _ _ _ _ _ _ _ _ _ r h => by simp [sternpostref07_Decode.lp] at h
 | k + 1 => fun s i s2 s3 s4 s5 s8 m sc st ec sd sk sp l => by
  unfold sternpostref07_Decode.lp
  exact LeO.ite (LeO.ite (LeO.refl _) (LeO.ite (sternpostref07_Decode.lp_mono k _ _ _ _ _ _ _ _ _ _ _ _ _ _ _) (LeO.ite (LeO.refl _) (LeO.ite (LeO.refl _) (LeO.ite (LeO.refl _) (LeO.bind (sternpostref07_part.mono _ _ _ _ _ _ _ _ _ _ _ _) fun _ => LeO.ite (sternpostref07_Decode.lp_mono k _ _ _ _ _ _ _ _ _ _ _ _ _ _ _) (LeO.refl _))))))) (LeO.refl _)
theorem sternpostref07_Decode.fin_mono (k : Nat) : ∀ o, LeO (sternpostref07_Decode.fin k o) (sternpostref07_Decode.fin (k + 1) o)
 | none => LeO.refl _
 | some _ => LeO.bind (sternpostref07_Check.mono _ _ _ _ _ _ _ _ _) fun _ => LeO.refl _
theorem sternpostref07_Decode.mono : ∀ a0 k, LeO (sternpostref07_Decode.f k a0) (sternpostref07_Decode.f (k + 1) a0) := by
 intro a0 k
 unfold sternpostref07_Decode.f
 exact LeO.ite (LeO.refl _) (LeO.bind (sternpostref07_Decode.lp_mono k _ _ _ _ _ _ _ _ _ _ _ _ _ _ _) fun _ => sternpostref07_Decode.fin_mono k _)


/-! ### sternpostlaw07_OptsRead: function 6 -/
def sternpostlaw07_OptsRead.f (k : Nat) (a0 : ByteArray) : Option (Bool) := (opts_Decode.f k a0).bind fun bt171 => ((sternpostref07_Decode.f k a0).bind fun bt183 => ((sternpostref07_Same.f k bt171.1 bt171.2.1 bt171.2.2.1 bt171.2.2.2.1 bt171.2.2.2.2.1 bt171.2.2.2.2.2.1 bt171.2.2.2.2.2.2.1 bt171.2.2.2.2.2.2.2.1 bt183.1 bt183.2.1 bt183.2.2.1 bt183.2.2.2.1 bt183.2.2.2.2.1 bt183.2.2.2.2.2.1 bt183.2.2.2.2.2.2.1 bt183.2.2.2.2.2.2.2.1).bind fun t195 => (if t195 = true then (if bt171.2.2.2.2.2.2.2.2 = bt183.2.2.2.2.2.2.2.2 then ((sternpostlaw07_works.f k).bind fun t196 => (some t196)) else (some false)) else (some false))))
theorem sternpostlaw07_OptsRead.mono : ∀ a0 k, LeO (sternpostlaw07_OptsRead.f k a0) (sternpostlaw07_OptsRead.f (k + 1) a0) := by
 intro a0 k
 unfold sternpostlaw07_OptsRead.f
 repeat' first
   | (with_reducible exact opts_Decode.mono _ _)
   | (with_reducible exact sternpostlaw07_works.mono _)
   | (with_reducible exact sternpostref07_Decode.mono _ _)
   | (with_reducible exact sternpostref07_Same.mono _ _ _ _ _ _ _ _ _ _ _ _ _ _ _ _ _)
   | (with_reducible exact LeO.refl _)
   | (with_reducible exact LeO.none _)
   | (with_reducible refine LeO.ite ?_ ?_)
   | (with_reducible refine LeO.bind ?_ (fun _ => ?_))
   | exact opts_Decode.mono _ _
   | exact sternpostlaw07_works.mono _
   | exact sternpostref07_Decode.mono _ _
   | exact sternpostref07_Same.mono _ _ _ _ _ _ _ _ _ _ _ _ _ _ _ _ _
   | exact LeO.none _
   | refine LeO.ite ?_ ?_
   | refine LeO.bind ?_ (fun _ => ?_)
set_option maxHeartbeats 8000000 in
set_option maxRecDepth 100000 in
theorem sternpostlaw07_OptsRead.calls (k : Nat) (a0 : ByteArray) (r : Bool) (w : World) (h : sternpostlaw07_OptsRead.f k a0 = some r) (hrT_ : r = true) :
  Calls Try.prog 6 #[.string a0] w fun e w' => e = .returned (.bool r) ∧ Below w.heap.size w w' := by
 have hu24 := Try.underlying24
 have HB := Aside0.mk (Below.refl w.heap.size w)
 have H : ((opts_Decode.f k a0).bind fun bt171 => ((sternpostref07_Decode.f k a0).bind fun bt183 => ((sternpostref07_Same.f k bt171.1 bt171.2.1 bt171.2.2.1 bt171.2.2.2.1 bt171.2.2.2.2.1 bt171.2.2.2.2.2.1 bt171.2.2.2.2.2.2.1 bt171.2.2.2.2.2.2.2.1 bt183.1 bt183.2.1 bt183.2.2.1 bt183.2.2.2.1 bt183.2.2.2.2.1 bt183.2.2.2.2.2.1 bt183.2.2.2.2.2.2.1 bt183.2.2.2.2.2.2.2.1).bind fun t195 => (if t195 = true then (if bt171.2.2.2.2.2.2.2.2 = bt183.2.2.2.2.2.2.2.2 then ((sternpostlaw07_works.f k).bind fun t196 => (some t196)) else (some false)) else (some false))))) = some r := h
 clear h
 replace H := Option.bind_eq_some_iff.mp H
 obtain ⟨⟨t171, t172, t173, t174, t175, t176, t177, t178, t181⟩, A20, H⟩ := H
 replace H : ((sternpostref07_Decode.f k a0).bind fun bt183 => ((sternpostref07_Same.f k t171 t172 t173 t174 t175 t176 t177 t178 bt183.1 bt183.2.1 bt183.2.2.1 bt183.2.2.2.1 bt183.2.2.2.2.1 bt183.2.2.2.2.2.1 bt183.2.2.2.2.2.2.1 bt183.2.2.2.2.2.2.2.1).bind fun t195 => (if t195 = true then (if t181 = bt183.2.2.2.2.2.2.2.2 then ((sternpostlaw07_works.f k).bind fun t196 => (some t196)) else (some false)) else (some false)))) = some r := H
 have A2 := Aside0.mk A20
 clear A20
 replace H := Option.bind_eq_some_iff.mp H
 obtain ⟨⟨t183, t184, t185, t186, t187, t188, t189, t190, t193⟩, A30, H⟩ := H
 replace H : ((sternpostref07_Same.f k t171 t172 t173 t174 t175 t176 t177 t178 t183 t184 t185 t186 t187 t188 t189 t190).bind fun t195 => (if t195 = true then (if t181 = t193 then ((sternpostlaw07_works.f k).bind fun t196 => (some t196)) else (some false)) else (some false))) = some r := H
 have A3 := Aside0.mk A30
 clear A30
 replace H := Option.bind_eq_some_iff.mp H
 obtain ⟨t195, A40, H⟩ := H
 replace H : (if t195 = true then (if t181 = t193 then ((sternpostlaw07_works.f k).bind fun t196 => (some t196)) else (some false)) else (some false)) = some r := H
 have A4 := Aside0.mk A40
 clear A40
 by_cases c5 : t195 = true
 ·subst c5
  have H1 : (if t181 = t193 then ((sternpostlaw07_works.f k).bind fun t196 => (some t196)) else (some false)) = some r := by rw [if_pos rfl] at H; exact H
  clear H
  have H := H1
  clear H1
  by_cases c6 : t181 = t193
  ·rw [if_pos c6] at H
   have c6b0 : (t181 == t193) = true := beq_iff_eq.mpr c6
   have c6b1 : (t181 != t193) = false := bne_eq_false_iff_eq.mpr c6
   clear c6
   replace H := Option.bind_eq_some_iff.mp H
   obtain ⟨t196, A70, H⟩ := H
   replace H : (some t196) = some r := H
   have A7 := Aside0.mk A70
   clear A70
   obtain rfl := Option.some.inj H
   go_enter Try.func6, Try.ntmps6
   go_wp2_with (first | ((with_reducible refine gate_callee (f := 21) rfl ?_); refine goesL_ (some 9) rfl rfl Try.func21 (by kernel_rfl) rfl #[.string a0] rfl (by (try simp only [List.map_toArray, List.map_cons, List.map_nil]); first | done | rfl | (simp only [List.length_drop, List.length_take]; rfl)) ?_; (with_reducible refine (opts_Decode.calls k a0 t171 t172 t173 t174 t175 t176 t177 t178 t181 _ A2.out).mono ?_); rintro e w8 ⟨v179, rfl, ho0, hb⟩; refine ⟨_, rfl, ?_⟩; have n0_ := Aside0.mk (Kd.R_lower ho0 (below_size (by repeat (first | (with_reducible first | exact HB.out | apply below_alloc | apply pw_below_drewN | apply below_drew1) | exact HB.out)))); have n1_ := Aside0.mk (below_step (by repeat (first | (with_reducible first | exact HB.out | apply below_alloc | apply pw_below_drewN | apply below_drew1) | exact HB.out)) hb); clear HB; have HO180 := n0_; have HB := n1_; clear n0_ n1_; (try clear hb); (try clear hb2); (try clear hk); (try clear hi); (try clear ho0)) | ((with_reducible refine gate_dst (N := 3) rfl ?_); refine box_event ?hg (N := 3) ?hd (cs := #[.int .i64 0, .int .i64 0, .int .i64 0, .int .i64 0, .bool false, .bool false, .bool false, .slice none 0 0]) (t := 24) ?hr ?_; (case hd => rfl); (case hg => rfl); (case hr => first | (go_simp; done) | (go_simp; rfl)); intro gb182 hg w9 hbox hb; have n0_ := Aside0.mk (Kd.R_below (by (with_reducible repeat (first | apply Kd.R_alloc | apply Kd.R_drewN | apply Kd.R_drew)); exact HO180.out) hb); have n1_ := Aside0.mk (below_step (by repeat (first | (with_reducible first | exact HB.out | apply below_alloc | apply pw_below_drewN | apply below_drew1) | exact HB.out)) hb); have n2_ := Aside0.mk (hbox); have n3_ := Aside0.mk ((by rw [hg]; exact (below_size (by repeat (first | (with_reducible first | exact HB.out | apply below_alloc | apply pw_below_drewN | apply below_drew1) | exact HB.out))) : w.heap.size ≤ gb182)); have n4_ := Aside0.mk ((by rw [hg]; exact (below_size (by repeat (first | (with_reducible first | exact HB.out | apply below_alloc | apply pw_below_drewN | apply below_drew1) | exact HB.out))) : w.heap.size ≤ gb182)); clear HO180; clear HB; have HO180 := n0_; have HB := n1_; have BK182 := n2_; have GW182 := n3_; have GE182 := n4_; clear n0_ n1_ n2_ n3_ n4_; clear hb hbox hg; obtain ⟨hcz10_0, hcz10_1, hcz10_2, hcz10_3, hcz10_4, hcz10_5, hcz10_6, hcz10_7⟩ := blk_cells8 BK182.out; obtain ⟨hfz10_0, hfz10_1, hfz10_2, hfz10_3, hfz10_4, hfz10_5, hfz10_6, hfz10_7⟩ := blk_frozens8 BK182.out; obtain ⟨Ao11, co11, eo11⟩ := Kd.R_slice HO180.out; subst eo11) | ((with_reducible refine gate_callee (f := 22) rfl ?_); refine goesL_ (some 14) rfl rfl Try.func22 (by kernel_rfl) rfl #[.string a0] rfl (by (try simp only [List.map_toArray, List.map_cons, List.map_nil]); first | done | rfl | (simp only [List.length_drop, List.length_take]; rfl)) ?_; (with_reducible refine (sternpostref07_Decode.calls k a0 t183 t184 t185 t186 t187 t188 t189 t190 t193 _ A3.out).mono ?_); rintro e w12 ⟨v191, rfl, ho0, hb⟩; refine ⟨_, rfl, ?_⟩; have n0_ := Aside0.mk (Kd.R_elder' (by (with_reducible repeat (first | apply Kd.R_alloc | apply Kd.R_drewN | apply Kd.R_drew)); exact (Kd.R_mono (Kd.R_far (p := ⟨gb182, 7, none⟩) (Kd.R_far (p := ⟨gb182, 6, none⟩) (Kd.R_far (p := ⟨gb182, 5, none⟩) (Kd.R_far (p := ⟨gb182, 4, none⟩) (Kd.R_far (p := ⟨gb182, 3, none⟩) (Kd.R_far (p := ⟨gb182, 2, none⟩) (Kd.R_far (p := ⟨gb182, 1, none⟩) (Kd.R_far (p := ⟨gb182, 0, none⟩) (Kd.R_types HO180.out BK182.out (by decide)) (fun _ hk => hk.2) (.int .i64 t171)) (fun _ hk => hk.2) (.int .i64 t172)) (fun _ hk => hk.2) (.int .i64 t173)) (fun _ hk => hk.2) (.int .i64 t174)) (fun _ hk => hk.2) (.bool t175)) (fun _ hk => hk.2) (.bool t176)) (fun _ hk => hk.2) (.bool t177)) (fun _ hk => hk.2) (.slice Ao11 t178.length co11)) (fun _ h_ => h_.1))) (Kd.R_base ho0) hb); have n1_ := Aside0.mk (Kd.R_lower (Kd.R_new' ho0 (Kd.R_lt (by (with_reducible repeat (first | apply Kd.R_alloc | apply Kd.R_drewN | apply Kd.R_drew)); exact (Kd.R_mono (Kd.R_far (p := ⟨gb182, 7, none⟩) (Kd.R_far (p := ⟨gb182, 6, none⟩) (Kd.R_far (p := ⟨gb182, 5, none⟩) (Kd.R_far (p := ⟨gb182, 4, none⟩) (Kd.R_far (p := ⟨gb182, 3, none⟩) (Kd.R_far (p := ⟨gb182, 2, none⟩) (Kd.R_far (p := ⟨gb182, 1, none⟩) (Kd.R_far (p := ⟨gb182, 0, none⟩) (Kd.R_types HO180.out BK182.out (by decide)) (fun _ hk => hk.2) (.int .i64 t171)) (fun _ hk => hk.2) (.int .i64 t172)) (fun _ hk => hk.2) (.int .i64 t173)) (fun _ hk => hk.2) (.int .i64 t174)) (fun _ hk => hk.2) (.bool t175)) (fun _ hk => hk.2) (.bool t176)) (fun _ hk => hk.2) (.bool t177)) (fun _ hk => hk.2) (.slice Ao11 t178.length co11)) (fun _ h_ => h_.1))))) (below_size (by repeat (first | (with_reducible first | exact HB.out | apply below_alloc | apply pw_below_drewN | apply below_drew1 | refine below_set ?_ GE182.out) | exact HB.out)))); have n2_ := Aside0.mk (blk_below (g := gb182) (o := .cells #[.int .i64 t171, .int .i64 t172, .int .i64 t173, .int .i64 t174, .bool t175, .bool t176, .bool t177, .slice Ao11 t178.length co11] 24 (0, 0)) (by (with_reducible repeat (first | refine blk_drewN ?_ _ | refine blk_drew ?_ | refine blk_alloc ?_ _)); refine blk_put (cs := #[.int .i64 t171, .int .i64 t172, .int .i64 t173, .int .i64 t174, .bool t175, .bool t176, .bool t177, .slice none 0 0]) ?_ 7 _ rfl; refine blk_put (cs := #[.int .i64 t171, .int .i64 t172, .int .i64 t173, .int .i64 t174, .bool t175, .bool t176, .bool false, .slice none 0 0]) ?_ 6 _ rfl; refine blk_put (cs := #[.int .i64 t171, .int .i64 t172, .int .i64 t173, .int .i64 t174, .bool t175, .bool false, .bool false, .slice none 0 0]) ?_ 5 _ rfl; refine blk_put (cs := #[.int .i64 t171, .int .i64 t172, .int .i64 t173, .int .i64 t174, .bool false, .bool false, .bool false, .slice none 0 0]) ?_ 4 _ rfl; refine blk_put (cs := #[.int .i64 t171, .int .i64 t172, .int .i64 t173, .int .i64 0, .bool false, .bool false, .bool false, .slice none 0 0]) ?_ 3 _ rfl; refine blk_put (cs := #[.int .i64 t171, .int .i64 t172, .int .i64 0, .int .i64 0, .bool false, .bool false, .bool false, .slice none 0 0]) ?_ 2 _ rfl; refine blk_put (cs := #[.int .i64 t171, .int .i64 0, .int .i64 0, .int .i64 0, .bool false, .bool false, .bool false, .slice none 0 0]) ?_ 1 _ rfl; refine blk_put (cs := #[.int .i64 0, .int .i64 0, .int .i64 0, .int .i64 0, .bool false, .bool false, .bool false, .slice none 0 0]) ?_ 0 _ rfl; (with_reducible repeat (first | refine blk_drewN ?_ _ | refine blk_drew ?_ | refine blk_alloc ?_ _)); exact BK182.out) hb); have n3_ := Aside0.mk (below_step (by repeat (first | (with_reducible first | exact HB.out | apply below_alloc | apply pw_below_drewN | apply below_drew1 | refine below_set ?_ GE182.out) | exact HB.out)) hb); clear HO180; clear BK182; clear HB; have HO180 := n0_; have HO192 := n1_; have BK182 := n2_; have HB := n3_; clear n0_ n1_ n2_ n3_; (try clear hb); (try clear hb2); (try clear hk); (try clear hi); (try clear ho0)) | ((with_reducible refine gate_dst (N := 5) rfl ?_); refine box_event ?hg (N := 5) ?hd (cs := #[.int .i64 0, .int .i64 0, .int .i64 0, .int .i64 0, .bool false, .bool false, .bool false, .slice none 0 0]) (t := 24) ?hr ?_; (case hd => rfl); (case hg => rfl); (case hr => first | (go_simp; done) | (go_simp; rfl)); intro gb194 hg w13 hbox hb; have n0_ := Aside0.mk (Kd.R_below (by (with_reducible repeat (first | apply Kd.R_alloc | apply Kd.R_drewN | apply Kd.R_drew)); exact HO180.out) hb); have n1_ := Aside0.mk (Kd.R_below (by (with_reducible repeat (first | apply Kd.R_alloc | apply Kd.R_drewN | apply Kd.R_drew)); exact HO192.out) hb); have n2_ := Aside0.mk (blk_below (g := gb182) (o := .cells #[.int .i64 t171, .int .i64 t172, .int .i64 t173, .int .i64 t174, .bool t175, .bool t176, .bool t177, .slice Ao11 t178.length co11] 24 (0, 0)) (by (with_reducible repeat (first | refine blk_drewN ?_ _ | refine blk_drew ?_ | refine blk_alloc ?_ _)); exact BK182.out) hb); have n3_ := Aside0.mk (below_step (by repeat (first | (with_reducible first | exact HB.out | apply below_alloc | apply pw_below_drewN | apply below_drew1 | refine below_set ?_ GE182.out) | exact HB.out)) hb); have n4_ := Aside0.mk (hbox); have n5_ := Aside0.mk ((by rw [hg]; exact (below_size (by repeat (first | (with_reducible first | exact HB.out | apply below_alloc | apply pw_below_drewN | apply below_drew1 | refine below_set ?_ GE182.out) | exact HB.out))) : w.heap.size ≤ gb194)); have n6_ := Aside0.mk ((by rw [hg]; exact (below_size (by repeat (first | (with_reducible first | exact HB.out | apply below_alloc | apply pw_below_drewN | apply below_drew1 | refine below_set ?_ GE182.out) | exact HB.out))) : w.heap.size ≤ gb194)); have n7_ := Aside0.mk ((by rw [hg]; exact Nat.ne_of_lt (blk_lt (g := gb182) (o := .cells #[.int .i64 t171, .int .i64 t172, .int .i64 t173, .int .i64 t174, .bool t175, .bool t176, .bool t177, .slice Ao11 t178.length co11] 24 (0, 0)) (by (with_reducible repeat (first | refine blk_drewN ?_ _ | refine blk_drew ?_ | refine blk_alloc ?_ _)); exact BK182.out)) : gb182 ≠ gb194)); have n8_ := Aside0.mk ((by rw [hg]; exact Nat.ne_of_gt (blk_lt (g := gb182) (o := .cells #[.int .i64 t171, .int .i64 t172, .int .i64 t173, .int .i64 t174, .bool t175, .bool t176, .bool t177, .slice Ao11 t178.length co11] 24 (0, 0)) (by (with_reducible repeat (first | refine blk_drewN ?_ _ | refine blk_drew ?_ | refine blk_alloc ?_ _)); exact BK182.out)) : gb194 ≠ gb182)); clear HO180; clear HO192; clear BK182; clear HB; have HO180 := n0_; have HO192 := n1_; have BK182 := n2_; have HB := n3_; have BK194 := n4_; have GW194 := n5_; have GE194 := n6_; have NB182_194 := n7_; have NB194_182 := n8_; clear n0_ n1_ n2_ n3_ n4_ n5_ n6_ n7_ n8_; clear hb hbox hg; have hnb14 := NB194_182.out; have hnc14 := NB182_194.out; obtain ⟨hcz15_0, hcz15_1, hcz15_2, hcz15_3, hcz15_4, hcz15_5, hcz15_6, hcz15_7⟩ := blk_cells8 BK194.out; obtain ⟨hfz15_0, hfz15_1, hfz15_2, hfz15_3, hfz15_4, hfz15_5, hfz15_6, hfz15_7⟩ := blk_frozens8 BK194.out; obtain ⟨Ao16, co16, eo16⟩ := Kd.R_slice HO192.out; subst eo16; obtain ⟨hcz17_0, hcz17_1, hcz17_2, hcz17_3, hcz17_4, hcz17_5, hcz17_6, hcz17_7⟩ := blk_cells8 BK182.out; obtain ⟨hfz17_0, hfz17_1, hfz17_2, hfz17_3, hfz17_4, hfz17_5, hfz17_6, hfz17_7⟩ := blk_frozens8 BK182.out) | ((with_reducible refine gate_callee (f := 10) rfl ?_); refine goesL_ (some 19) rfl rfl Try.func10 (by kernel_rfl) rfl #[.agg #[.int .i64 t171, .int .i64 t172, .int .i64 t173, .int .i64 t174, .bool t175, .bool t176, .bool t177, .slice Ao11 t178.length co11], .agg #[.int .i64 t183, .int .i64 t184, .int .i64 t185, .int .i64 t186, .bool t187, .bool t188, .bool t189, .slice Ao16 t190.length co16]] rfl (by (try simp only [List.map_toArray, List.map_cons, List.map_nil]); first | done | rfl | (simp only [List.length_drop, List.length_take]; rfl)) ?_; (with_reducible refine (sternpostref07_Same.calls k t171 t172 t173 t174 t175 t176 t177 _ _ t178 t183 t184 t185 t186 t187 t188 t189 _ _ t190 true _ ?side1 ?side2 ?side3 ?side4 A4.out).mono ?_); (case side1 => refine (Kd.R_reads' (e := 35) (base := w.heap.size) (ok := fun k_ => (True ∧ some k_ ≠ (.slice Ao16 t190.length co16 : Value).ownBlock)) (n := t178.length) (c := co11) ?_).2.2; exact (by (with_reducible repeat (first | apply Kd.R_alloc | apply Kd.R_drewN | apply Kd.R_drew)); exact (Kd.R_mono (Kd.R_far (p := ⟨gb194, 7, none⟩) (Kd.R_far (p := ⟨gb194, 6, none⟩) (Kd.R_far (p := ⟨gb194, 5, none⟩) (Kd.R_far (p := ⟨gb194, 4, none⟩) (Kd.R_far (p := ⟨gb194, 3, none⟩) (Kd.R_far (p := ⟨gb194, 2, none⟩) (Kd.R_far (p := ⟨gb194, 1, none⟩) (Kd.R_far (p := ⟨gb194, 0, none⟩) (Kd.R_types HO180.out BK194.out (by decide)) (fun _ hk => hk.2) (.int .i64 t183)) (fun _ hk => hk.2) (.int .i64 t184)) (fun _ hk => hk.2) (.int .i64 t185)) (fun _ hk => hk.2) (.int .i64 t186)) (fun _ hk => hk.2) (.bool t187)) (fun _ hk => hk.2) (.bool t188)) (fun _ hk => hk.2) (.bool t189)) (fun _ hk => hk.2) (.slice Ao16 t190.length co16)) (fun _ h_ => h_.1)))); (case side2 => exact (Kd.R_reads' HO180.out).2.1); (case side3 => refine (Kd.R_reads' (e := 35) (base := w.heap.size) (ok := fun k_ => (True ∧ some k_ ≠ (.slice Ao11 t178.length co11 : Value).ownBlock)) (n := t190.length) (c := co16) ?_).2.2; exact (by (with_reducible repeat (first | apply Kd.R_alloc | apply Kd.R_drewN | apply Kd.R_drew)); exact (Kd.R_mono (Kd.R_far (p := ⟨gb194, 7, none⟩) (Kd.R_far (p := ⟨gb194, 6, none⟩) (Kd.R_far (p := ⟨gb194, 5, none⟩) (Kd.R_far (p := ⟨gb194, 4, none⟩) (Kd.R_far (p := ⟨gb194, 3, none⟩) (Kd.R_far (p := ⟨gb194, 2, none⟩) (Kd.R_far (p := ⟨gb194, 1, none⟩) (Kd.R_far (p := ⟨gb194, 0, none⟩) (Kd.R_types HO192.out BK194.out (by decide)) (fun _ hk => hk.2) (.int .i64 t183)) (fun _ hk => hk.2) (.int .i64 t184)) (fun _ hk => hk.2) (.int .i64 t185)) (fun _ hk => hk.2) (.int .i64 t186)) (fun _ hk => hk.2) (.bool t187)) (fun _ hk => hk.2) (.bool t188)) (fun _ hk => hk.2) (.bool t189)) (fun _ hk => hk.2) (.slice Ao16 t190.length co16)) (fun _ h_ => h_.1)))); (case side4 => exact (Kd.R_reads' HO192.out).2.1); rintro e w18 ⟨rfl, hb⟩; refine ⟨_, rfl, ?_⟩; have n0_ := Aside0.mk (Kd.R_below (by (with_reducible repeat (first | apply Kd.R_alloc | apply Kd.R_drewN | apply Kd.R_drew)); exact (Kd.R_mono (Kd.R_far (p := ⟨gb194, 7, none⟩) (Kd.R_far (p := ⟨gb194, 6, none⟩) (Kd.R_far (p := ⟨gb194, 5, none⟩) (Kd.R_far (p := ⟨gb194, 4, none⟩) (Kd.R_far (p := ⟨gb194, 3, none⟩) (Kd.R_far (p := ⟨gb194, 2, none⟩) (Kd.R_far (p := ⟨gb194, 1, none⟩) (Kd.R_far (p := ⟨gb194, 0, none⟩) (Kd.R_types HO180.out BK194.out (by decide)) (fun _ hk => hk.2) (.int .i64 t183)) (fun _ hk => hk.2) (.int .i64 t184)) (fun _ hk => hk.2) (.int .i64 t185)) (fun _ hk => hk.2) (.int .i64 t186)) (fun _ hk => hk.2) (.bool t187)) (fun _ hk => hk.2) (.bool t188)) (fun _ hk => hk.2) (.bool t189)) (fun _ hk => hk.2) (.slice Ao16 t190.length co16)) (fun _ h_ => h_.1))) hb); have n1_ := Aside0.mk (Kd.R_below (by (with_reducible repeat (first | apply Kd.R_alloc | apply Kd.R_drewN | apply Kd.R_drew)); exact (Kd.R_mono (Kd.R_far (p := ⟨gb194, 7, none⟩) (Kd.R_far (p := ⟨gb194, 6, none⟩) (Kd.R_far (p := ⟨gb194, 5, none⟩) (Kd.R_far (p := ⟨gb194, 4, none⟩) (Kd.R_far (p := ⟨gb194, 3, none⟩) (Kd.R_far (p := ⟨gb194, 2, none⟩) (Kd.R_far (p := ⟨gb194, 1, none⟩) (Kd.R_far (p := ⟨gb194, 0, none⟩) (Kd.R_types HO192.out BK194.out (by decide)) (fun _ hk => hk.2) (.int .i64 t183)) (fun _ hk => hk.2) (.int .i64 t184)) (fun _ hk => hk.2) (.int .i64 t185)) (fun _ hk => hk.2) (.int .i64 t186)) (fun _ hk => hk.2) (.bool t187)) (fun _ hk => hk.2) (.bool t188)) (fun _ hk => hk.2) (.bool t189)) (fun _ hk => hk.2) (.slice Ao16 t190.length co16)) (fun _ h_ => h_.1))) hb); have n2_ := Aside0.mk (blk_below (g := gb182) (o := .cells #[.int .i64 t171, .int .i64 t172, .int .i64 t173, .int .i64 t174, .bool t175, .bool t176, .bool t177, .slice Ao11 t178.length co11] 24 (0, 0)) (by (with_reducible repeat (first | refine blk_drewN ?_ _ | refine blk_drew ?_ | refine blk_alloc ?_ _)); refine blk_far ?_ NB182_194.out _; (with_reducible repeat (first | refine blk_drewN ?_ _ | refine blk_drew ?_ | refine blk_alloc ?_ _)); refine blk_far ?_ NB182_194.out _; (with_reducible repeat (first | refine blk_drewN ?_ _ | refine blk_drew ?_ | refine blk_alloc ?_ _)); refine blk_far ?_ NB182_194.out _; (with_reducible repeat (first | refine blk_drewN ?_ _ | refine blk_drew ?_ | refine blk_alloc ?_ _)); refine blk_far ?_ NB182_194.out _; (with_reducible repeat (first | refine blk_drewN ?_ _ | refine blk_drew ?_ | refine blk_alloc ?_ _)); refine blk_far ?_ NB182_194.out _; (with_reducible repeat (first | refine blk_drewN ?_ _ | refine blk_drew ?_ | refine blk_alloc ?_ _)); refine blk_far ?_ NB182_194.out _; (with_reducible repeat (first | refine blk_drewN ?_ _ | refine blk_drew ?_ | refine blk_alloc ?_ _)); refine blk_far ?_ NB182_194.out _; (with_reducible repeat (first | refine blk_drewN ?_ _ | refine blk_drew ?_ | refine blk_alloc ?_ _)); refine blk_far ?_ NB182_194.out _; (with_reducible repeat (first | refine blk_drewN ?_ _ | refine blk_drew ?_ | refine blk_alloc ?_ _)); exact BK182.out) hb); have n3_ := Aside0.mk (blk_below (g := gb194) (o := .cells #[.int .i64 t183, .int .i64 t184, .int .i64 t185, .int .i64 t186, .bool t187, .bool t188, .bool t189, .slice Ao16 t190.length co16] 24 (0, 0)) (by (with_reducible repeat (first | refine blk_drewN ?_ _ | refine blk_drew ?_ | refine blk_alloc ?_ _)); refine blk_put (cs := #[.int .i64 t183, .int .i64 t184, .int .i64 t185, .int .i64 t186, .bool t187, .bool t188, .bool t189, .slice none 0 0]) ?_ 7 _ rfl; refine blk_put (cs := #[.int .i64 t183, .int .i64 t184, .int .i64 t185, .int .i64 t186, .bool t187, .bool t188, .bool false, .slice none 0 0]) ?_ 6 _ rfl; refine blk_put (cs := #[.int .i64 t183, .int .i64 t184, .int .i64 t185, .int .i64 t186, .bool t187, .bool false, .bool false, .slice none 0 0]) ?_ 5 _ rfl; refine blk_put (cs := #[.int .i64 t183, .int .i64 t184, .int .i64 t185, .int .i64 t186, .bool false, .bool false, .bool false, .slice none 0 0]) ?_ 4 _ rfl; refine blk_put (cs := #[.int .i64 t183, .int .i64 t184, .int .i64 t185, .int .i64 0, .bool false, .bool false, .bool false, .slice none 0 0]) ?_ 3 _ rfl; refine blk_put (cs := #[.int .i64 t183, .int .i64 t184, .int .i64 0, .int .i64 0, .bool false, .bool false, .bool false, .slice none 0 0]) ?_ 2 _ rfl; refine blk_put (cs := #[.int .i64 t183, .int .i64 0, .int .i64 0, .int .i64 0, .bool false, .bool false, .bool false, .slice none 0 0]) ?_ 1 _ rfl; refine blk_put (cs := #[.int .i64 0, .int .i64 0, .int .i64 0, .int .i64 0, .bool false, .bool false, .bool false, .slice none 0 0]) ?_ 0 _ rfl; (with_reducible repeat (first | refine blk_drewN ?_ _ | refine blk_drew ?_ | refine blk_alloc ?_ _)); exact BK194.out) hb); have n4_ := Aside0.mk (below_step (by repeat (first | (with_reducible first | exact HB.out | apply below_alloc | apply pw_below_drewN | apply below_drew1 | refine below_set ?_ GE182.out | refine below_set ?_ GE194.out) | exact HB.out)) hb); clear HO180; clear HO192; clear BK182; clear BK194; clear HB; have HO180 := n0_; have HO192 := n1_; have BK182 := n2_; have BK194 := n3_; have HB := n4_; clear n0_ n1_ n2_ n3_ n4_; (try clear hb); (try clear hb2); (try clear hk); (try clear hi)) | (go_at_call 12; (with_reducible refine (sternpostlaw07_works.calls k  t196 _ A7.out).mono ?_); rintro e w19 ⟨rfl, hb⟩; have n0_ := Aside0.mk (Kd.R_below (by (with_reducible repeat (first | apply Kd.R_alloc | apply Kd.R_drewN | apply Kd.R_drew)); exact HO180.out) hb); have n1_ := Aside0.mk (Kd.R_below (by (with_reducible repeat (first | apply Kd.R_alloc | apply Kd.R_drewN | apply Kd.R_drew)); exact HO192.out) hb); have n2_ := Aside0.mk (blk_below (g := gb182) (o := .cells #[.int .i64 t171, .int .i64 t172, .int .i64 t173, .int .i64 t174, .bool t175, .bool t176, .bool t177, .slice Ao11 t178.length co11] 24 (0, 0)) (by (with_reducible repeat (first | refine blk_drewN ?_ _ | refine blk_drew ?_ | refine blk_alloc ?_ _)); exact BK182.out) hb); have n3_ := Aside0.mk (blk_below (g := gb194) (o := .cells #[.int .i64 t183, .int .i64 t184, .int .i64 t185, .int .i64 t186, .bool t187, .bool t188, .bool t189, .slice Ao16 t190.length co16] 24 (0, 0)) (by (with_reducible repeat (first | refine blk_drewN ?_ _ | refine blk_drew ?_ | refine blk_alloc ?_ _)); exact BK194.out) hb); have n4_ := Aside0.mk (below_step (by repeat (first | (with_reducible first | exact HB.out | apply below_alloc | apply pw_below_drewN | apply below_drew1 | refine below_set ?_ GE182.out | refine below_set ?_ GE194.out) | exact HB.out)) hb); clear HO180; clear HO192; clear BK182; clear BK194; clear HB; have HO180 := n0_; have HO192 := n1_; have BK182 := n2_; have BK194 := n3_; have HB := n4_; clear n0_ n1_ n2_ n3_ n4_; (try clear hb); (try clear hb2); (try clear hk); (try clear hi)))
   go_ret
   exact ⟨by first | rfl | (simp [errW_none, errW_some] <;> rfl) | (simp [*, errW_none, errW_some] <;> rfl), by repeat (first | (with_reducible first | exact HB.out | apply below_alloc | apply pw_below_drewN | apply below_drew1 | refine below_set ?_ GE182.out | refine below_set ?_ GE194.out) | exact HB.out)⟩
  ·rw [if_neg c6] at H
   have c6b0 : (t181 == t193) = false := beq_eq_false_iff_ne.mpr c6
   have c6b1 : (t181 != t193) = true := bne_iff_ne.mpr c6
   exact absurd ((Option.some.inj H).trans hrT_) Bool.false_ne_true
 ·replace c5 := Bool.eq_false_iff.mpr c5
  subst c5
  have H1 : (some false) = some r := by rw [if_neg (show ¬ (false = true) by decide)] at H; exact H
  clear H
  have H := H1
  clear H1
  exact absurd ((Option.some.inj H).trans hrT_) Bool.false_ne_true

/-- THE ONE PURE STATEMENT of sternpostlaw07_OptsRead: yours. -/
def sternpostlaw07_OptsRead.Pure : Prop := ∀ (a0 : ByteArray), a0.size ≤ 140737488351232 → ∃ k, sternpostlaw07_OptsRead.f k a0 = some true
theorem sternpostlaw07_OptsRead.walk (P : sternpostlaw07_OptsRead.Pure) (a0 : ByteArray) (w : World) (w0 : a0.size ≤ 140737488351232) :
  Calls Try.prog 6 #[.string a0] w fun e w' => e = .returned (.bool true) ∧ Below w.heap.size w w' := by
 obtain ⟨k, h⟩ := P a0 w0
 refine (sternpostlaw07_OptsRead.calls k a0 true w h rfl).mono ?_
 rintro e w' ⟨rfl, hd⟩
 exact ⟨rfl, hd⟩

end Go.Proofs.Ytbloljikejinaaa.POptsRead

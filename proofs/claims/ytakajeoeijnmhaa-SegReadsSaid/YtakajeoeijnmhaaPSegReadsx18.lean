-- Laid by this claim's own program over the print's words.
import Derived.Test.YtakajeoeijnmhaaPSegReadsx0
import Derived.Test.YtakajeoeijnmhaaPSegReadsx9
import Derived.Test.YtakajeoeijnmhaaPSegReadsx10
import Derived.Test.YtakajeoeijnmhaaPSegReadsx14
import Derived.Test.YtakajeoeijnmhaaPSegReadsx17
namespace Go.Proofs.Ytakajeoeijnmhaa.PSegReads
open Go.RowKit Go.Proofs.YtakajeoeijnmhaaW.PrintWords Go.Proofs.YtakajeoeijnmhaaW.PrintLast Go.Proofs.YtakajeoeijnmhaaW.PrintMore
attribute [local go_sem] max2_int min2_int max_two min_two max_three min_three max_four min_four max_five min_five extract_cut tmod_nat_lit   -- for this text's walks alone
set_option linter.unusedVariables false
set_option linter.unusedSimpArgs false


/-! ### sternpostref07_Decode: function 47 (by hand) -/
def sternpostref07_Decode.lp:Nat→ByteArray→Int→Bool→Bool→Bool→Bool→Bool→Int→Int→Int→Int→Bool→Bool→Bool→List S73→Option (Option (Int × Int × Int × Int × Bool × Bool × Bool × List S73))
 | 0,_,_,_,_,_,_,_,_,_,_,_,_,_,_,_=>none
 | k+1,s,i,s2,s3,s4,s5,s8,m,sc,st,ec,sd,sk,sp,l =>
  if i < (s.size:Int) then if bt s i=0 then some (some (m,sc,st,ec,sd,sk,sp,l)) else
   if bt s i=1 then sternpostref07_Decode.lp k s (i+1) s2 s3 s4 s5 s8 m sc st ec sd sk sp l else
   if (s.size:Int)≤i+1 then some none else if bt s (i+1) < 2 then some none else if (s.size:Int) - i < bt s (i+1) then some none else
    (sternpostref07_part.f k m sc st ec sd sk sp l (bt s i) (cutS s (i+2).toNat (i+bt s (i+1)).toNat) (sternpostref07_part.fl (bt s i) s2 s3 s4 s5 s8)).bind fun r=>if r.2.2.2.2.2.2.2.2=true then sternpostref07_Decode.lp k s (i+bt s (i+1)) (s2 || decide (bt s i=2)) (s3 || decide (bt s i=3)) (s4 || decide (bt s i=4)) (s5 || decide (bt s i=5)) (s8 || decide (bt s i=8)) r.1 r.2.1 r.2.2.1 r.2.2.2.1 r.2.2.2.2.1 r.2.2.2.2.2.1 r.2.2.2.2.2.2.1 r.2.2.2.2.2.2.2.1 else some none
  else some (some (m,sc,st,ec,sd,sk,sp,l))
def sternpostref07_Decode.fin (k:Nat) (o:Option (Int × Int × Int × Int × Bool × Bool × Bool × List S73)):Option (Int × Int × Int × Int × Bool × Bool × Bool × List S73 × Int) :=
 match o with
 | none=>some (0,0,0,0,false,false,false,[],70)
 | some o=>(sternpostref07_Check.f k o.1 o.2.1 o.2.2.1 o.2.2.2.1 o.2.2.2.2.1 o.2.2.2.2.2.1 o.2.2.2.2.2.2.1 o.2.2.2.2.2.2.2).bind fun c=>if c=0 then some (o.1,o.2.1,o.2.2.1,o.2.2.2.1,o.2.2.2.2.1,o.2.2.2.2.2.1,o.2.2.2.2.2.2.1,o.2.2.2.2.2.2.2,0) else some (0,0,0,0,false,false,false,[],70)
def sternpostref07_Decode.f (k:Nat) (a0:ByteArray):Option (Int × Int × Int × Int × Bool × Bool × Bool × List S73 × Int) :=
 if (a0.size:Int) > 40 then some (0,0,0,0,false,false,false,[],70) else (sternpostref07_Decode.lp k a0 0 false false false false false 0 0 0 0 false false false []).bind fun o=>sternpostref07_Decode.fin k o
theorem slice_int {P:Program} {ρ : Operand→Value} {o:Oper} {W:World} {t:TypeId} {x a b:Operand} {s:ByteArray} {i j:Int} (hu:P.underlying t=some .string) (ho:o.op=.slice t x (some a) (some b) none) (hx : ρ x=.string s) (ha : ρ a=.int .i64 i) (hb : ρ b=.int .i64 j) (h0:0≤i) (h1:i≤j) (h2:j≤(s.size:Int)):(execOp ρ o).run P W=.ok (.value (.string (cutS s i.toNat j.toNat))) W:=by
 obtain⟨a',rfl⟩:=Int.eq_ofNat_of_zero_le h0
 obtain⟨b',rfl⟩:=Int.eq_ofNat_of_zero_le (show 0≤j by omega)
 rw[Int.toNat_natCast,Int.toNat_natCast]
 exact slice_str hu ho hx ha hb (by omega) (by omega)
theorem ob_evcall {P:Program} {ops:Array Oper} {e:Nat} {C:Bool→World→Prop} {G:Bool→World→World→Prop} {T:List Nat} {R:Bool→Nat→World→Value→Prop} {vs:List Value} {x:Nat→Value} {o:Oper} {a:Act} {v:Value} (hw:Region.wanted o (yielded ops a.tmps)=true) (hT:T.contains e=false) (hv:vs.getD e undef=v) (f:FuncId) (args:Array Value)
  (h:∀ w,C false w→(execOp a.eval o).run P w=.ok (.enter f args) w) (hc:∀ w,C false w→Calls P f args w (fun r w'=>r=.returned v∧C true w'∧G true w w')):AnyPhase.PhOb P ops e C G T R vs x e o a:=fun b w hb hC _=>by
 have hb:=hb rfl
 subst hb
 have hn:(e == e)=true:=by simp
 rw[if_pos hw,h w hC,hT,hn,Bool.or_true]
 exact(hc w hC).mono fun r w' ⟨he,h1,h2⟩=>⟨v,he,h1,h2,hv.symm⟩
theorem sternpostref07_Decode.mk (W:World):(Instr.makeSlice 82 (.int .i64 9) (.int .i64 9)).run Try.prog W=.ok (.slice (some ⟨W.heap.size,0,none⟩) 9 9) (W.alloc (.cells #[.bool false,.bool false,.bool false,.bool false,.bool false,.bool false,.bool false,.bool false,.bool false] 4)):=by
 have hi0:(Try.prog.info? 4).map (fun i=>(i.zero,i.size,i.bytes))=some (some (.bool false),1,1):=by kernel_rfl
 obtain⟨i,hi,hz⟩:=Option.map_eq_some_iff.1 hi0
 simp only[Prod.mk.injEq] at hz
 obtain⟨hz0,hz1,hz2⟩:=hz
 have h:=run_makeSlice (w:=W) (P:=Try.prog) 82 4 i (.bool false) Try.underlying82 hi hz0 .i64 .i64 9 9 (by omega) (by omega) (by rw[hz1];decide) (by rw[hz2];decide) (by decide)
 have e:madeCells (Value.bool false).cells (Int.toNat 9 * 1)=#[.bool false,.bool false,.bool false,.bool false,.bool false,.bool false,.bool false,.bool false,.bool false]:=by kernel_rfl
 rw[h,hz1,e];rfl
set_option maxHeartbeats 4000000 in
set_option maxRecDepth 100000 in
theorem sternpostref07_Decode.calls (k:Nat) (s:ByteArray) (r1 r2 r3 r4:Int) (r5 r6 r7:Bool) (r8:List S73) (r9:Int) (w:World) (h:sternpostref07_Decode.f k s=some (r1,r2,r3,r4,r5,r6,r7,r8,r9)) :
  Calls Try.prog 47 #[.string s] w fun e w'=>∃ v7_:Value,e=.returned (.tuple #[.agg #[.int .i64 r1,.int .i64 r2,.int .i64 r3,.int .i64 r4,.bool r5,.bool r6,.bool r7,v7_],.int .i64 r9])∧Kd.R k73 73 w' w.heap.size (fun _=>True) v7_ r8∧Below w.heap.size w w':=by
 have hu24:=Try.underlying24
 have hmk:=sternpostref07_Decode.mk
 unfold sternpostref07_Decode.f at h
 by_cases c1:(s.size:Int) > 40
 ·rw[if_pos c1] at h
  simp only[Option.some.injEq,Prod.mk.injEq] at h
  obtain⟨rfl,rfl,rfl,rfl,rfl,rfl,rfl,rfl,rfl⟩:=h
  have c1b:=decide_eq_true c1
  clear c1
  go_enter Try.func47,Try.ntmps47
  go_wp2_with (first|((with_reducible refine gate_dst (N:=2) rfl ?_);refine box_event ?hg (N:=2) ?hd (cs:=#[.int .i64 0,.int .i64 0,.int .i64 0,.int .i64 0,.bool false,.bool false,.bool false,.slice none 0 0]) (t:=24) ?hr ?_;(case hd=>rfl);(case hg=>rfl);(case hr=>first|(go_simp;done)|(go_simp;rfl));intro gr hgr w1 hbox hb1;have H1:=mkA hb1;have GR:=mkA (show w.heap.size≤gr by omega);have BR:=mkA hbox;obtain⟨hrc0,hrc1,hrc2,hrc3,hrc4,hrc5,hrc6,hrc7⟩:=blk_cells8 hbox;obtain⟨hrf0,hrf1,hrf2,hrf3,hrf4,hrf5,hrf6,hrf7⟩:=blk_frozens8 hbox;clear hbox hb1 hgr))
  refine bodyPost_ret (results_ct rfl _ _ gr 24 #[.int .i64 0,.int .i64 0,.int .i64 0,.int .i64 0,.bool false,.bool false,.bool false,.slice none 0 0] (0,0) _ rfl (by(with_reducible repeat(first|apply kN|apply kD|apply kA|apply kP));exact BR.out;all_goals (simp only[List.setIfInBounds_toArray,List.set_cons_zero,List.set_cons_succ];try rfl)) Try.underlying24 rfl (by kernel_rfl)) rfl ?_
  exact⟨_,rfl,Kd.R_nil _ _ _ _ _,by repeat(first|(with_reducible first|exact H1.out|refine bS ?_ GR.out)|exact H1.out)⟩
 ·rw[if_neg c1] at h
  have c1b:=decide_eq_false c1
  obtain⟨oo,hlp,hfin⟩:=Option.bind_eq_some_iff.mp h
  have HLP:=mkA hlp
  have HF:=mkA hfin
  have HS:=mkA (show (s.size:Int)≤40 by omega)
  clear c1 h hlp hfin
  go_enter Try.func47,Try.ntmps47
  go_wp2_with (first|((with_reducible refine gate_dst (N:=2) rfl ?_);refine box_event ?hg (N:=2) ?hd (cs:=#[.int .i64 0,.int .i64 0,.int .i64 0,.int .i64 0,.bool false,.bool false,.bool false,.slice none 0 0]) (t:=24) ?hr ?_;(case hd=>rfl);(case hg=>rfl);(case hr=>first|(go_simp;done)|(go_simp;rfl));intro gr hgr w1 hbox hb1;have H1:=mkA hb1;have GR:=mkA (show w.heap.size≤gr by omega);have BR:=mkA hbox;obtain⟨hrc0,hrc1,hrc2,hrc3,hrc4,hrc5,hrc6,hrc7⟩:=blk_cells8 hbox;obtain⟨hrf0,hrf1,hrf2,hrf3,hrf4,hrf5,hrf6,hrf7⟩:=blk_frozens8 hbox;clear hbox hb1 hgr))
  have hsz:(w1.alloc (.cells #[.int .i64 0,.int .i64 0,.int .i64 0,.int .i64 0,.bool false,.bool false,.bool false,.slice none 0 0] 24)).heap.size=w1.heap.size+1:=by show (w1.heap.push _).size=_;rw[Array.size_push]
  have GO:=mkA (bZ H1.out)
  have NE1:=mkA (Nat.ne_of_gt (blk_lt BR.out))
  have LT1:=mkA (blk_lt BR.out)
  have OA0:OptAt ((w1.alloc (.cells #[.int .i64 0,.int .i64 0,.int .i64 0,.int .i64 0,.bool false,.bool false,.bool false,.slice none 0 0] 24)).alloc (.cells #[.bool false,.bool false,.bool false,.bool false,.bool false,.bool false,.bool false,.bool false,.bool false] 4)) w1.heap.size 0 0 0 0 false false false (.slice none 0 0):=kA (blk_new w1 _) _
  have SA0:sternpostref07_part.At ((w1.alloc (.cells #[.int .i64 0,.int .i64 0,.int .i64 0,.int .i64 0,.bool false,.bool false,.bool false,.slice none 0 0] 24)).alloc (.cells #[.bool false,.bool false,.bool false,.bool false,.bool false,.bool false,.bool false,.bool false,.bool false] 4)) (w1.alloc (.cells #[.int .i64 0,.int .i64 0,.int .i64 0,.int .i64 0,.bool false,.bool false,.bool false,.slice none 0 0] 24)).heap.size false false false false false:=blk_new (w1.alloc (.cells #[.int .i64 0,.int .i64 0,.int .i64 0,.int .i64 0,.bool false,.bool false,.bool false,.slice none 0 0] 24)) _
  have RA0:Kd.R k73 73 ((w1.alloc (.cells #[.int .i64 0,.int .i64 0,.int .i64 0,.int .i64 0,.bool false,.bool false,.bool false,.slice none 0 0] 24)).alloc (.cells #[.bool false,.bool false,.bool false,.bool false,.bool false,.bool false,.bool false,.bool false,.bool false] 4)) w.heap.size (fun _=>True) (.slice none 0 0) []:=Kd.R_nil _ _ _ _ _
  have HB0:Below w.heap.size w ((w1.alloc (.cells #[.int .i64 0,.int .i64 0,.int .i64 0,.int .i64 0,.bool false,.bool false,.bool false,.slice none 0 0] 24)).alloc (.cells #[.bool false,.bool false,.bool false,.bool false,.bool false,.bool false,.bool false,.bool false,.bool false] 4)):=bA (bA H1.out _) _
  have BR0:=kA (kA BR.out (.cells #[.int .i64 0,.int .i64 0,.int .i64 0,.int .i64 0,.bool false,.bool false,.bool false,.slice none 0 0] 24)) (.cells #[.bool false,.bool false,.bool false,.bool false,.bool false,.bool false,.bool false,.bool false,.bool false] 4)
  rw[hsz] at SA0
  have OA:=mkA OA0;have SA:=mkA SA0;have RA:=mkA RA0;have HB:=mkA HB0;clear BR;have BR:=mkA BR0
  clear OA0 SA0 RA0 HB0 BR0 hsz H1 hrc0 hrc1 hrc2 hrc3 hrc4 hrc5 hrc6 hrc7 hrf0 hrf1 hrf2 hrf3 hrf4 hrf5 hrf6 hrf7
  generalize (w1.alloc (.cells #[.int .i64 0,.int .i64 0,.int .i64 0,.int .i64 0,.bool false,.bool false,.bool false,.slice none 0 0] 24)).alloc (.cells #[.bool false,.bool false,.bool false,.bool false,.bool false,.bool false,.bool false,.bool false,.bool false] 4)=W1 at OA SA RA HB BR ⊢
  generalize w1.heap.size=go at OA SA GO NE1 LT1 ⊢
  go_loopg [6] k (fun kq v6 W=>∃ (i:Int) (s2 s3 s4 s5 s8:Bool) (m sc st ec:Int) (sd sk sp:Bool) (l:List S73) (v:Value),v6=.int .i64 i∧Aside0 (sternpostref07_Decode.lp kq s i s2 s3 s4 s5 s8 m sc st ec sd sk sp l=some oo)∧Aside0 (kq≤k)∧Aside0 (0≤i∧i≤100)∧Aside0 (sternpostref07_part.At W (go+1) s2 s3 s4 s5 s8)∧Aside0 (OptAt W go m sc st ec sd sk sp v)∧Aside0 (Kd.R k73 73 W w.heap.size (fun _=>True) v l)∧Aside0 (Below w.heap.size w W)∧Aside0 (W.heap[gr]?=some (.cells #[.int .i64 0,.int .i64 0,.int .i64 0,.int .i64 0,.bool false,.bool false,.bool false,.slice none 0 0] 24 (0,0))))
  case atStart=>exact⟨0,false,false,false,false,false,0,0,0,0,false,false,false,[],.slice none 0 0,rfl,HLP,⟨Nat.le_refl _⟩,⟨by omega⟩,SA,OA,RA,HB,BR⟩
  case round =>
   clear HLP SA OA RA HB BR c1b
   obtain⟨i,s2,s3,s4,s5,s8,m,sc,st,ec,sd,sk,sp,l,v,rfl,HA,HK1,HN,SA,OA,RA,HB,BR⟩:=hrel
   cases gk with
   | zero=>exact absurd HA.out (by simp[sternpostref07_Decode.lp])
   | succ k1 =>
    have H:=HA.out
    clear HA
    simp only[sternpostref07_Decode.lp] at H
    obtain⟨Av,cv,hv,hlv,hCv⟩:=Kd.R_reads RA.out
    generalize hln:l.length=ln at hv hlv
    subst hv
    have LN:=mkA hln
    have HLV:=mkA hlv
    have HCV:=mkA hCv
    clear hln hlv hCv
    obtain⟨hrc0,hrc1,hrc2,hrc3,hrc4,hrc5,hrc6,hrc7⟩:=blk_cells8 BR.out
    obtain⟨hrf0,hrf1,hrf2,hrf3,hrf4,hrf5,hrf6,hrf7⟩:=blk_frozens8 BR.out
    obtain⟨hoc0,hoc1,hoc2,hoc3,hoc4,hoc5,hoc6,hoc7⟩:=blk_cells8 OA.out
    obtain⟨hof0,hof1,hof2,hof3,hof4,hof5,hof6,hof7⟩:=blk_frozens8 OA.out
    have hne:=NE1.out
    have hne2:=Ne.symm NE1.out
    have hx0:=bt_at s i
    have p0:(0≤i)=True:=eq_true HN.out.1
    by_cases c0:i < (s.size:Int)
    ·rw[if_pos c0] at H
     have c0b:=decide_eq_true c0
     have q0:(i < (s.size:Int))=True:=eq_true c0
     have b0:0≤bt s i∧bt s i≤255:=bt_range s i
     have hw0:wrap64 (bt s i)=bt s i:=by unfold wrap64;omega
     have hi1:IntKind.i64.wrap (i+1)=i+1:=by have:=HN.out;rw[i64_w];unfold wrap64;omega
     by_cases z0:bt s i=0
     ·rw[if_pos z0] at H
      have z0b:(bt s i != 0)=false:=bne_eq_false_iff_eq.mpr z0
      obtain rfl:=Option.some.inj H
      clear H z0 b0 c0
      obtain⟨cc,hcc,hff⟩:=Option.bind_eq_some_iff.mp (show (sternpostref07_Check.f k m sc st ec sd sk sp l).bind (fun c=>if c=0 then some (m,sc,st,ec,sd,sk,sp,l,(0:Int)) else some (0,0,0,0,false,false,false,[],70))=some (r1,r2,r3,r4,r5,r6,r7,r8,r9) from HF.out)
      have HFF:=mkA hff
      have HC:=mkA hcc
      clear hff hcc
      go_wp2_with fail
      have hck:=sternpostref07_Check.calls k m sc st ec sd sk sp Av cv l cc wr (Kd.C_below HCV.out (Below.refl _ _)) (by rw[LN.out];exact HLV.out) HC.out
      rw[LN.out] at hck
      refine hck.mono ?_
      rintro e w2 ⟨rfl,hb2⟩
      clear hrc0 hrc1 hrc2 hrc3 hrc4 hrc5 hrc6 hrc7 hrf0 hrf1 hrf2 hrf3 hrf4 hrf5 hrf6 hrf7 hoc0 hoc1 hoc2 hoc3 hoc4 hoc5 hoc6 hoc7 hof0 hof1 hof2 hof3 hof4 hof5 hof6 hof7 hck
      have BR2:=mkA (kB BR.out hb2);have OA2:=mkA (kB OA.out hb2);have HB2:=mkA (bT HB.out hb2);have RA2:=mkA (Kd.R_below RA.out hb2)
      obtain⟨hrc0,hrc1,hrc2,hrc3,hrc4,hrc5,hrc6,hrc7⟩:=blk_cells8 BR2.out
      obtain⟨hrf0,hrf1,hrf2,hrf3,hrf4,hrf5,hrf6,hrf7⟩:=blk_frozens8 BR2.out
      obtain⟨hoc0,hoc1,hoc2,hoc3,hoc4,hoc5,hoc6,hoc7⟩:=blk_cells8 OA2.out
      obtain⟨hof0,hof1,hof2,hof3,hof4,hof5,hof6,hof7⟩:=blk_frozens8 OA2.out
      clear hb2
      by_cases ce:cc=0
      ·have ceb:(cc != 0)=false:=bne_eq_false_iff_eq.mpr ce
       have h:=HFF.out
       rw[if_pos ce] at h
       simp only[Option.some.injEq,Prod.mk.injEq] at h
       obtain⟨rfl,rfl,rfl,rfl,rfl,rfl,rfl,rfl,rfl⟩:=h
       clear ce HFF HF
       have OUT:=mkA (opts_Decode.out8 (y0:=.int .i64 m) (y1:=.int .i64 sc) (y2:=.int .i64 st) (y3:=.int .i64 ec) (y4:=.bool sd) (y5:=.bool sk) (y6:=.bool sp) (y7:=.slice Av ln cv) rfl HB2.out GR.out BR2.out)
       go_wp2
       refine bodyPost_ret (results_ct rfl _ _ gr 24 #[.int .i64 m,.int .i64 sc,.int .i64 st,.int .i64 ec,.bool sd,.bool sk,.bool sp,.slice Av ln cv] (0,0) _ rfl OUT.out.1 Try.underlying24 rfl (by kernel_rfl)) rfl ?_
       exact⟨_,rfl,OUT.out.2.2 _ _ RA2.out,OUT.out.2.1⟩
      ·have ceb:(cc != 0)=true:=bne_iff_ne.mpr ce
       have h:=HFF.out
       rw[if_neg ce] at h
       simp only[Option.some.injEq,Prod.mk.injEq] at h
       obtain⟨rfl,rfl,rfl,rfl,rfl,rfl,rfl,rfl,rfl⟩:=h
       clear ce HFF HF
       have OUT:=mkA (opts_Decode.out8 (y0:=.int .i64 0) (y1:=.int .i64 0) (y2:=.int .i64 0) (y3:=.int .i64 0) (y4:=.bool false) (y5:=.bool false) (y6:=.bool false) (y7:=.slice none 0 0) rfl HB2.out GR.out BR2.out)
       go_wp2
       refine bodyPost_ret (results_ct rfl _ _ gr 24 #[.int .i64 0,.int .i64 0,.int .i64 0,.int .i64 0,.bool false,.bool false,.bool false,.slice none 0 0] (0,0) _ rfl OUT.out.1 Try.underlying24 rfl (by kernel_rfl)) rfl ?_
       exact⟨_,rfl,Kd.R_nil _ _ _ _ _,OUT.out.2.1⟩
     ·rw[if_neg z0] at H
      have z0b:(bt s i != 0)=true:=bne_iff_ne.mpr z0
      by_cases z1:bt s i=1
      ·rw[if_pos z1] at H
       have z1b:(bt s i == 1)=true:=beq_iff_eq.mpr z1
       have H':=mkA H
       have HN':=mkA (show 0≤i+1∧i+1≤100 by have:=HN.out;have:=HS.out;omega)
       clear H z0 b0 c0
       go_wp2
       go_roundg k1
       case measure=>have:=HK1.out;omega
       case rel=>exact⟨i+1,s2,s3,s4,s5,s8,m,sc,st,ec,sd,sk,sp,l,.slice Av ln cv,(by first|rfl|(rw[← i64_w,hi1])|(simp[*];done)),H',⟨by have:=HK1.out;omega⟩,HN',SA,OA,RA,HB,BR⟩
      ·rw[if_neg z1] at H
       have z1b:(bt s i == 1)=false:=beq_eq_false_iff_ne.mpr z1
       by_cases t2:(s.size:Int)≤i+1
       ·rw[if_pos t2] at H
        have t2b:decide ((s.size:Int)≤i+1)=true:=decide_eq_true t2
        clear z0 z1 b0 c0
        obtain rfl:=Option.some.inj H
        clear H
        have HFN:=HF.out
        simp only[sternpostref07_Decode.fin,Option.some.injEq,Prod.mk.injEq] at HFN
        obtain⟨rfl,rfl,rfl,rfl,rfl,rfl,rfl,rfl,rfl⟩:=HFN
        clear HF
        have OUT:=mkA (opts_Decode.out8 (y0:=.int .i64 0) (y1:=.int .i64 0) (y2:=.int .i64 0) (y3:=.int .i64 0) (y4:=.bool false) (y5:=.bool false) (y6:=.bool false) (y7:=.slice none 0 0) rfl HB.out GR.out BR.out)
        go_wp2
        refine bodyPost_ret (results_ct rfl _ _ gr 24 #[.int .i64 0,.int .i64 0,.int .i64 0,.int .i64 0,.bool false,.bool false,.bool false,.slice none 0 0] (0,0) _ rfl OUT.out.1 Try.underlying24 rfl (by kernel_rfl)) rfl ?_
        exact⟨_,rfl,Kd.R_nil _ _ _ _ _,OUT.out.2.1⟩
       ·rw[if_neg t2] at H
        have t2b:decide ((s.size:Int)≤i+1)=false:=decide_eq_false t2
        have p1:(0≤i+1)=True:=eq_true (by have:=HN.out;omega)
        have q1:(i+1 < (s.size:Int))=True:=eq_true (by omega)
        have hx1:=bt_at s (i+1)
        have b1:0≤bt s (i+1)∧bt s (i+1)≤255:=bt_range s (i+1)
        have hw1:wrap64 (bt s (i+1))=bt s (i+1):=by unfold wrap64;omega
        have hsb:IntKind.i64.wrap ((s.size:Int) - i)=(s.size:Int) - i:=by have:=HN.out;have:=HS.out;rw[i64_w];unfold wrap64;omega
        by_cases t3:bt s (i+1) < 2
        ·rw[if_pos t3] at H
         have t3b:decide (bt s (i+1) < 2)=true:=decide_eq_true t3
         clear z0 z1 b0 b1 c0
         obtain rfl:=Option.some.inj H
         clear H
         have HFN:=HF.out
         simp only[sternpostref07_Decode.fin,Option.some.injEq,Prod.mk.injEq] at HFN
         obtain⟨rfl,rfl,rfl,rfl,rfl,rfl,rfl,rfl,rfl⟩:=HFN
         clear HF
         go_wp2
         repeat(go_quiet (fail);try go_wp2)
         have OUT:=mkA (opts_Decode.out8 (y0:=.int .i64 0) (y1:=.int .i64 0) (y2:=.int .i64 0) (y3:=.int .i64 0) (y4:=.bool false) (y5:=.bool false) (y6:=.bool false) (y7:=.slice none 0 0) (W:=wr.drewN nq) rfl (bN HB.out nq) GR.out (kN BR.out nq))
         refine bodyPost_ret (results_ct rfl _ _ gr 24 #[.int .i64 0,.int .i64 0,.int .i64 0,.int .i64 0,.bool false,.bool false,.bool false,.slice none 0 0] (0,0) _ rfl OUT.out.1 Try.underlying24 rfl (by kernel_rfl)) rfl ?_
         exact⟨_,rfl,Kd.R_nil _ _ _ _ _,OUT.out.2.1⟩
        ·rw[if_neg t3] at H
         have t3b:decide (bt s (i+1) < 2)=false:=decide_eq_false t3
         by_cases t4:(s.size:Int) - i < bt s (i+1)
         ·rw[if_pos t4] at H
          have t4b:decide ((s.size:Int) - i < bt s (i+1))=true:=decide_eq_true t4
          clear z0 z1 b0 b1 c0
          obtain rfl:=Option.some.inj H
          clear H
          have HFN:=HF.out
          simp only[sternpostref07_Decode.fin,Option.some.injEq,Prod.mk.injEq] at HFN
          obtain⟨rfl,rfl,rfl,rfl,rfl,rfl,rfl,rfl,rfl⟩:=HFN
          clear HF
          go_wp2
          repeat(go_quiet (fail);try go_wp2)
          have OUT:=mkA (opts_Decode.out8 (y0:=.int .i64 0) (y1:=.int .i64 0) (y2:=.int .i64 0) (y3:=.int .i64 0) (y4:=.bool false) (y5:=.bool false) (y6:=.bool false) (y7:=.slice none 0 0) (W:=wr.drewN nq) rfl (bN HB.out nq) GR.out (kN BR.out nq))
          refine bodyPost_ret (results_ct rfl _ _ gr 24 #[.int .i64 0,.int .i64 0,.int .i64 0,.int .i64 0,.bool false,.bool false,.bool false,.slice none 0 0] (0,0) _ rfl OUT.out.1 Try.underlying24 rfl (by kernel_rfl)) rfl ?_
          exact⟨_,rfl,Kd.R_nil _ _ _ _ _,OUT.out.2.1⟩
         ·rw[if_neg t4] at H
          have t4b:decide ((s.size:Int) - i < bt s (i+1))=false:=decide_eq_false t4
          obtain⟨⟨m',sc',st',ec',sd',sk',sp',l',rr⟩,hrd,H⟩:=Option.bind_eq_some_iff.mp H
          have HRD:=mkA hrd
          have H':=mkA H
          have hwi0:IntKind.i64.wrap (bt s i)=bt s i:=by rw[i64_w];exact hw0
          have hi2:IntKind.i64.wrap (i+2)=i+2:=by have:=HN.out;rw[i64_w];unfold wrap64;omega
          have hin:IntKind.i64.wrap (i+bt s (i+1))=i+bt s (i+1):=by have:=HN.out;rw[i64_w];unfold wrap64;omega
          have BN:=mkA (show 0≤i+2∧i+2≤i+bt s (i+1)∧i+bt s (i+1)≤(s.size:Int) by have:=HN.out;omega)
          have NQ:=mkA (show (go+1)≠go by omega)
          clear H hrd z0 z1 b0 b1 c0 t2 t3 t4
          go_wp2
          have same:True:=trivial
          refine AnyPhase.region_then 26 (e:=23) (C:=fun b W=>if b=true then sternpostref07_part.Post go (go+1) (.slice Av ln cv) w wr m' sc' st' ec' sd' sk' sp' l' (s2 || decide (bt s i=2)) (s3 || decide (bt s i=3)) (s4 || decide (bt s i=4)) (s5 || decide (bt s i=5)) (s8 || decide (bt s i=8)) W else W={ wr with drawn:=wr.drawn+1 }) (G:=fun _ _ _=>True) (T:=[]) (R:=fun _ _ _ _=>True) (vs:=[(.int .i64 (bt s (i+1))),(.bool false),(.bool false),(.int .i64 (bt s (i+1))),(.string s),(.int .i64 (s.size:Int)),(.int .i64 i),(.int .i64 ((s.size:Int) - i)),(.bool false),(.bool false),(.bool false),(.string s),(.int .i64 i),(.int .u8 (bt s i)),(.int .i64 (bt s i)),(.string s),(.int .i64 i),(.int .i64 (i+2)),(.int .i64 i),(.int .i64 (bt s (i+1))),(.int .i64 (i+bt s (i+1))),(.string (cutS s (i+2).toNat (i+bt s (i+1)).toNat)),(.slice (some ⟨(go+1),0,none⟩) 9 9),(.bool rr),(.bool (!rr)),(.bool (!rr))]) (by kernel_rfl) rfl (by kernel_rfl) rfl (fun _ _ _=>trivial) (fun _ _ _ _ _ _ _ _ _=>trivial) (by decide) (by decide) (fun x=>?obs) ?fin
          case obs =>
           refine AnyPhase.obs_cons (.int .i64 (bt s (i+1))) rfl (AnyPhase.ob_plain (by decide) rfl rfl (fun _ _ _=>trivial) rfl (fun b W' hW=>by go_simp)) ?_
           try simp only[puts]
           refine AnyPhase.obs_cons (.bool false) rfl (AnyPhase.ob_plain (by decide) rfl rfl (fun _ _ _=>trivial) rfl (fun b W' hW=>by go_simp)) ?_
           try simp only[puts]
           refine AnyPhase.obs_cons (.bool false) rfl (AnyPhase.ob_plain (by decide) rfl rfl (fun _ _ _=>trivial) rfl (fun b W' hW=>by go_simp)) ?_
           try simp only[puts]
           refine AnyPhase.obs_cons (.int .i64 (bt s (i+1))) rfl (AnyPhase.ob_plain (by decide) rfl rfl (fun _ _ _=>trivial) rfl (fun b W' hW=>by go_simp)) ?_
           try simp only[puts]
           refine AnyPhase.obs_cons (.string s) rfl (AnyPhase.ob_plain (by decide) rfl rfl (fun _ _ _=>trivial) rfl (fun b W' hW=>by go_simp)) ?_
           try simp only[puts]
           refine AnyPhase.obs_cons (.int .i64 (s.size:Int)) rfl (AnyPhase.ob_plain (by decide) rfl rfl (fun _ _ _=>trivial) rfl (fun b W' hW=>by go_simp)) ?_
           try simp only[puts]
           refine AnyPhase.obs_cons (.int .i64 i) rfl (AnyPhase.ob_plain (by decide) rfl rfl (fun _ _ _=>trivial) rfl (fun b W' hW=>by go_simp)) ?_
           try simp only[puts]
           refine AnyPhase.obs_cons (.int .i64 ((s.size:Int) - i)) rfl (AnyPhase.ob_plain (by decide) rfl rfl (fun _ _ _=>trivial) rfl (fun b W' hW=>by go_simp)) ?_
           try simp only[puts]
           refine AnyPhase.obs_cons (.bool false) rfl (AnyPhase.ob_plain (by decide) rfl rfl (fun _ _ _=>trivial) rfl (fun b W' hW=>by go_simp)) ?_
           try simp only[puts]
           refine AnyPhase.obs_cons (.bool false) rfl (AnyPhase.ob_plain (by decide) rfl rfl (fun _ _ _=>trivial) rfl (fun b W' hW=>by go_simp)) ?_
           try simp only[puts]
           refine AnyPhase.obs_cons (.bool false) rfl (AnyPhase.ob_plain (by decide) rfl rfl (fun _ _ _=>trivial) rfl (fun b W' hW=>by go_simp)) ?_
           try simp only[puts]
           refine AnyPhase.obs_cons (.string s) rfl (AnyPhase.ob_plain (by decide) rfl rfl (fun _ _ _=>trivial) rfl (fun b W' hW=>by go_simp)) ?_
           try simp only[puts]
           refine AnyPhase.obs_cons (.int .i64 i) rfl (AnyPhase.ob_plain (by decide) rfl rfl (fun _ _ _=>trivial) rfl (fun b W' hW=>by go_simp)) ?_
           try simp only[puts]
           refine AnyPhase.obs_cons (.int .u8 (bt s i)) rfl (AnyPhase.ob_plain (by decide) rfl rfl (fun _ _ _=>trivial) rfl (fun b W' hW=>by go_simp)) ?_
           try simp only[puts]
           refine AnyPhase.obs_cons (.int .i64 (bt s i)) rfl (AnyPhase.ob_plain (by decide) rfl rfl (fun _ _ _=>trivial) rfl (fun b W' hW=>by go_simp)) ?_
           try simp only[puts]
           refine AnyPhase.obs_cons (.string s) rfl (AnyPhase.ob_plain (by decide) rfl rfl (fun _ _ _=>trivial) rfl (fun b W' hW=>by go_simp)) ?_
           try simp only[puts]
           refine AnyPhase.obs_cons (.int .i64 i) rfl (AnyPhase.ob_plain (by decide) rfl rfl (fun _ _ _=>trivial) rfl (fun b W' hW=>by go_simp)) ?_
           try simp only[puts]
           refine AnyPhase.obs_cons (.int .i64 (i+2)) rfl (AnyPhase.ob_plain (by decide) rfl rfl (fun _ _ _=>trivial) rfl (fun b W' hW=>by go_simp)) ?_
           try simp only[puts]
           refine AnyPhase.obs_cons (.int .i64 i) rfl (AnyPhase.ob_plain (by decide) rfl rfl (fun _ _ _=>trivial) rfl (fun b W' hW=>by go_simp)) ?_
           try simp only[puts]
           refine AnyPhase.obs_cons (.int .i64 (bt s (i+1))) rfl (AnyPhase.ob_plain (by decide) rfl rfl (fun _ _ _=>trivial) rfl (fun b W' hW=>by go_simp)) ?_
           try simp only[puts]
           refine AnyPhase.obs_cons (.int .i64 (i+bt s (i+1))) rfl (AnyPhase.ob_plain (by decide) rfl rfl (fun _ _ _=>trivial) rfl (fun b W' hW=>by go_simp)) ?_
           try simp only[puts]
           refine AnyPhase.obs_cons (.string (cutS s (i+2).toNat (i+bt s (i+1)).toNat)) rfl (AnyPhase.ob_plain (by decide) rfl rfl (fun _ _ _=>trivial) rfl (fun b W' hW=>slice_int Try.underlying9 rfl rfl rfl rfl BN.out.1 BN.out.2.1 BN.out.2.2)) ?_
           try simp only[puts]
           refine AnyPhase.obs_cons (.slice (some ⟨(go+1),0,none⟩) 9 9) rfl (AnyPhase.ob_plain (by decide) rfl rfl (fun _ _ _=>trivial) rfl (fun b W' hW=>by go_simp)) ?_
           try simp only[puts]
           refine AnyPhase.obs_cons (.bool rr) rfl (ob_evcall rfl rfl rfl 60 #[.pointer (some ⟨go,0,none⟩),.int .i64 (bt s i),.string (cutS s (i+2).toNat (i+bt s (i+1)).toNat),.slice (some ⟨(go+1),0,none⟩) 9 9] (fun W' hW=>?_) (fun W' hW=>?_)) ?_
           ·go_simp
           ·have hW:W'={ wr with drawn:=wr.drawn+1 }:=hW
            subst hW
            have b1:Below wr.heap.size wr { wr with drawn:=wr.drawn+1 }:=bD (Below.refl _ _)
            exact(sternpostref07_part.calls k1 go (go+1) m sc st ec sd sk sp l (.slice Av ln cv) (bt s i) (cutS s (i+2).toNat (i+bt s (i+1)).toNat) s2 s3 s4 s5 s8 m' sc' st' ec' sd' sk' sp' l' rr w _ (bT HB.out b1) GO.out (by have:=GO.out;omega) NQ.out (kB OA.out b1) (Kd.R_below RA.out b1) (kB SA.out b1) HRD.out).mono fun r w2 h2=>⟨h2.1,h2.2,trivial⟩
           try simp only[puts]
           refine AnyPhase.obs_cons (.bool (!rr)) rfl (AnyPhase.ob_plain (by decide) rfl rfl (fun _ _ _=>trivial) rfl (fun b W' hW=>by go_simp)) ?_
           try simp only[puts]
           refine AnyPhase.obs_cons (.bool (!rr)) rfl (AnyPhase.ob_plain (by decide) rfl rfl (fun _ _ _=>trivial) rfl (fun b W' hW=>by go_simp)) ?_
           try simp only[puts]
           trivial
          case fin =>
           intro x w4 hW _
           simp only[List.take_succ_cons,List.take_zero,List.drop_succ_cons,List.drop_zero]
           rw[AnyOrder.lexAt_cons (.int .i64 (bt s (i+1))) rfl]
           try simp only[puts]
           rw[AnyOrder.lexAt_cons (.bool false) rfl]
           try simp only[puts]
           rw[AnyOrder.lexAt_cons (.bool false) rfl]
           try simp only[puts]
           rw[AnyOrder.lexAt_cons (.int .i64 (bt s (i+1))) rfl]
           try simp only[puts]
           rw[AnyOrder.lexAt_cons (.string s) rfl]
           try simp only[puts]
           rw[AnyOrder.lexAt_cons (.int .i64 (s.size:Int)) rfl]
           try simp only[puts]
           rw[AnyOrder.lexAt_cons (.int .i64 i) rfl]
           try simp only[puts]
           rw[AnyOrder.lexAt_cons (.int .i64 ((s.size:Int) - i)) rfl]
           try simp only[puts]
           rw[AnyOrder.lexAt_cons (.bool false) rfl]
           try simp only[puts]
           rw[AnyOrder.lexAt_cons (.bool false) rfl]
           try simp only[puts]
           rw[AnyOrder.lexAt_cons (.bool false) rfl]
           try simp only[puts]
           rw[AnyOrder.lexAt_cons (.string s) rfl]
           try simp only[puts]
           rw[AnyOrder.lexAt_cons (.int .i64 i) rfl]
           try simp only[puts]
           rw[AnyOrder.lexAt_cons (.int .u8 (bt s i)) rfl]
           try simp only[puts]
           rw[AnyOrder.lexAt_cons (.int .i64 (bt s i)) rfl]
           try simp only[puts]
           rw[AnyOrder.lexAt_cons (.string s) rfl]
           try simp only[puts]
           rw[AnyOrder.lexAt_cons (.int .i64 i) rfl]
           try simp only[puts]
           rw[AnyOrder.lexAt_cons (.int .i64 (i+2)) rfl]
           try simp only[puts]
           rw[AnyOrder.lexAt_cons (.int .i64 i) rfl]
           try simp only[puts]
           rw[AnyOrder.lexAt_cons (.int .i64 (bt s (i+1))) rfl]
           try simp only[puts]
           rw[AnyOrder.lexAt_cons (.int .i64 (i+bt s (i+1))) rfl]
           try simp only[puts]
           rw[AnyOrder.lexAt_cons (.string (cutS s (i+2).toNat (i+bt s (i+1)).toNat)) rfl]
           try simp only[puts]
           rw[AnyOrder.lexAt_cons (.slice (some ⟨(go+1),0,none⟩) 9 9) rfl]
           try simp only[puts]
           rw[AnyOrder.lexAt_cons (.bool rr) rfl]
           try simp only[puts]
           rw[AnyOrder.lexAt_cons (.bool (!rr)) rfl]
           try simp only[puts]
           rw[AnyOrder.lexAt_cons (.bool (!rr)) rfl]
           try simp only[puts]
           rw[AnyOrder.lexAt_nil]
           obtain⟨hB4,hK4,⟨v',hO4,_,hR4⟩,hA4⟩:=(show sternpostref07_part.Post go (go+1) (.slice Av ln cv) w wr m' sc' st' ec' sd' sk' sp' l' (s2 || decide (bt s i=2)) (s3 || decide (bt s i=3)) (s4 || decide (bt s i=4)) (s5 || decide (bt s i=5)) (s8 || decide (bt s i=8)) w4 from hW)
           have HT:=mkA (Kd.R_typed RA.out)
           have BR4:=mkA ((hK4.2 gr (blk_lt BR.out) (fun hh=>hh.elim (fun hh=>hh.elim (fun e=>NE1.out e.symm) (fun e=>by have:=LT1.out;omega)) (row_not BR.out HT.out (by decide)))).trans BR.out)
           have SA4:=mkA hA4;have OA4:=mkA hO4;have RA4:=mkA hR4;have HB4:=mkA hB4
           clear hB4 hK4 hO4 hR4 hA4 HT BR SA OA RA HB HRD hW hrc0 hrc1 hrc2 hrc3 hrc4 hrc5 hrc6 hrc7 hrf0 hrf1 hrf2 hrf3 hrf4 hrf5 hrf6 hrf7 hoc0 hoc1 hoc2 hoc3 hoc4 hoc5 hoc6 hoc7 hof0 hof1 hof2 hof3 hof4 hof5 hof6 hof7
           have H:=H'.out
           clear H'
           obtain⟨hrc0,hrc1,hrc2,hrc3,hrc4,hrc5,hrc6,hrc7⟩:=blk_cells8 BR4.out
           obtain⟨hrf0,hrf1,hrf2,hrf3,hrf4,hrf5,hrf6,hrf7⟩:=blk_frozens8 BR4.out
           cases rr with
           | true =>
            rw[if_pos rfl] at H
            have H':=mkA H
            clear H
            go_wp2
            go_roundg k1
            case measure=>have:=HK1.out;omega
            case rel=>exact⟨i+bt s (i+1),(s2 || decide (bt s i=2)),(s3 || decide (bt s i=3)),(s4 || decide (bt s i=4)),(s5 || decide (bt s i=5)),(s8 || decide (bt s i=8)),m',sc',st',ec',sd',sk',sp',l',v',(by first|rfl|(rw[← i64_w,hin])|(simp[*];done)),H',⟨by have:=HK1.out;omega⟩,⟨by have:=HN.out;have:=BN.out;have:=HS.out;omega⟩,SA4,OA4,RA4,HB4,BR4⟩
           | false =>
            rw[if_neg (by decide)] at H
            have HB:=HB4;have BR:=BR4
            clear HB4 BR4
            obtain rfl:=Option.some.inj H
            clear H
            have HFN:=HF.out
            simp only[sternpostref07_Decode.fin,Option.some.injEq,Prod.mk.injEq] at HFN
            obtain⟨rfl,rfl,rfl,rfl,rfl,rfl,rfl,rfl,rfl⟩:=HFN
            clear HF
            have OUT:=mkA (opts_Decode.out8 (y0:=.int .i64 0) (y1:=.int .i64 0) (y2:=.int .i64 0) (y3:=.int .i64 0) (y4:=.bool false) (y5:=.bool false) (y6:=.bool false) (y7:=.slice none 0 0) rfl HB.out GR.out BR.out)
            go_wp2
            refine bodyPost_ret (results_ct rfl _ _ gr 24 #[.int .i64 0,.int .i64 0,.int .i64 0,.int .i64 0,.bool false,.bool false,.bool false,.slice none 0 0] (0,0) _ rfl OUT.out.1 Try.underlying24 rfl (by kernel_rfl)) rfl ?_
            exact⟨_,rfl,Kd.R_nil _ _ _ _ _,OUT.out.2.1⟩
    ·rw[if_neg c0] at H
     have c0b:=decide_eq_false c0
     have q0:(i < (s.size:Int))=False:=eq_false c0
     obtain rfl:=Option.some.inj H
     clear H
     obtain⟨cc,hcc,hff⟩:=Option.bind_eq_some_iff.mp (show (sternpostref07_Check.f k m sc st ec sd sk sp l).bind (fun c=>if c=0 then some (m,sc,st,ec,sd,sk,sp,l,(0:Int)) else some (0,0,0,0,false,false,false,[],70))=some (r1,r2,r3,r4,r5,r6,r7,r8,r9) from HF.out)
     have HFF:=mkA hff
     have HC:=mkA hcc
     clear hff hcc
     go_wp2_with fail
     have hck:=sternpostref07_Check.calls k m sc st ec sd sk sp Av cv l cc wr (Kd.C_below HCV.out (Below.refl _ _)) (by rw[LN.out];exact HLV.out) HC.out
     rw[LN.out] at hck
     refine hck.mono ?_
     rintro e w2 ⟨rfl,hb2⟩
     clear hrc0 hrc1 hrc2 hrc3 hrc4 hrc5 hrc6 hrc7 hrf0 hrf1 hrf2 hrf3 hrf4 hrf5 hrf6 hrf7 hoc0 hoc1 hoc2 hoc3 hoc4 hoc5 hoc6 hoc7 hof0 hof1 hof2 hof3 hof4 hof5 hof6 hof7 hck
     have BR2:=mkA (kB BR.out hb2);have OA2:=mkA (kB OA.out hb2);have HB2:=mkA (bT HB.out hb2);have RA2:=mkA (Kd.R_below RA.out hb2)
     obtain⟨hrc0,hrc1,hrc2,hrc3,hrc4,hrc5,hrc6,hrc7⟩:=blk_cells8 BR2.out
     obtain⟨hrf0,hrf1,hrf2,hrf3,hrf4,hrf5,hrf6,hrf7⟩:=blk_frozens8 BR2.out
     obtain⟨hoc0,hoc1,hoc2,hoc3,hoc4,hoc5,hoc6,hoc7⟩:=blk_cells8 OA2.out
     obtain⟨hof0,hof1,hof2,hof3,hof4,hof5,hof6,hof7⟩:=blk_frozens8 OA2.out
     clear hb2
     by_cases ce:cc=0
     ·have ceb:(cc != 0)=false:=bne_eq_false_iff_eq.mpr ce
      have h:=HFF.out
      rw[if_pos ce] at h
      simp only[Option.some.injEq,Prod.mk.injEq] at h
      obtain⟨rfl,rfl,rfl,rfl,rfl,rfl,rfl,rfl,rfl⟩:=h
      clear ce HFF HF
      have OUT:=mkA (opts_Decode.out8 (y0:=.int .i64 m) (y1:=.int .i64 sc) (y2:=.int .i64 st) (y3:=.int .i64 ec) (y4:=.bool sd) (y5:=.bool sk) (y6:=.bool sp) (y7:=.slice Av ln cv) rfl HB2.out GR.out BR2.out)
      go_wp2
      refine bodyPost_ret (results_ct rfl _ _ gr 24 #[.int .i64 m,.int .i64 sc,.int .i64 st,.int .i64 ec,.bool sd,.bool sk,.bool sp,.slice Av ln cv] (0,0) _ rfl OUT.out.1 Try.underlying24 rfl (by kernel_rfl)) rfl ?_
      exact⟨_,rfl,OUT.out.2.2 _ _ RA2.out,OUT.out.2.1⟩
     ·have ceb:(cc != 0)=true:=bne_iff_ne.mpr ce
      have h:=HFF.out
      rw[if_neg ce] at h
      simp only[Option.some.injEq,Prod.mk.injEq] at h
      obtain⟨rfl,rfl,rfl,rfl,rfl,rfl,rfl,rfl,rfl⟩:=h
      clear ce HFF HF
      have OUT:=mkA (opts_Decode.out8 (y0:=.int .i64 0) (y1:=.int .i64 0) (y2:=.int .i64 0) (y3:=.int .i64 0) (y4:=.bool false) (y5:=.bool false) (y6:=.bool false) (y7:=.slice none 0 0) rfl HB2.out GR.out BR2.out)
      go_wp2
      refine bodyPost_ret (results_ct rfl _ _ gr 24 #[.int .i64 0,.int .i64 0,.int .i64 0,.int .i64 0,.bool false,.bool false,.bool false,.slice none 0 0] (0,0) _ rfl OUT.out.1 Try.underlying24 rfl (by kernel_rfl)) rfl ?_
      exact⟨_,rfl,Kd.R_nil _ _ _ _ _,OUT.out.2.1⟩
theorem sternpostref07_Decode.lp_mono:∀ k s i s2 s3 s4 s5 s8 m sc st ec sd sk sp l,LeO (sternpostref07_Decode.lp k s i s2 s3 s4 s5 s8 m sc st ec sd sk sp l) (sternpostref07_Decode.lp (k+1) s i s2 s3 s4 s5 s8 m sc st ec sd sk sp l)
 | 0=>fun _ _ _ _ _ _ _ _ _ _ _ _ _ _ _ r h=>by simp[sternpostref07_Decode.lp] at h
 | k+1=>fun s i s2 s3 s4 s5 s8 m sc st ec sd sk sp l=>by
  unfold sternpostref07_Decode.lp
  exact LeO.ite (LeO.ite (LeO.refl _) (LeO.ite (sternpostref07_Decode.lp_mono k _ _ _ _ _ _ _ _ _ _ _ _ _ _ _) (LeO.ite (LeO.refl _) (LeO.ite (LeO.refl _) (LeO.ite (LeO.refl _) (LeO.bind (sternpostref07_part.mono _ _ _ _ _ _ _ _ _ _ _ _) fun _=>LeO.ite (sternpostref07_Decode.lp_mono k _ _ _ _ _ _ _ _ _ _ _ _ _ _ _) (LeO.refl _))))))) (LeO.refl _)
theorem sternpostref07_Decode.fin_mono (k:Nat):∀ o,LeO (sternpostref07_Decode.fin k o) (sternpostref07_Decode.fin (k+1) o)
 | none=>LeO.refl _
 | some _=>LeO.bind (sternpostref07_Check.mono _ _ _ _ _ _ _ _ _) fun _=>LeO.refl _
theorem sternpostref07_Decode.mono:∀ a0 k,LeO (sternpostref07_Decode.f k a0) (sternpostref07_Decode.f (k+1) a0):=by
 intro a0 k
 unfold sternpostref07_Decode.f
 exact LeO.ite (LeO.refl _) (LeO.bind (sternpostref07_Decode.lp_mono k _ _ _ _ _ _ _ _ _ _ _ _ _ _ _) fun _=>sternpostref07_Decode.fin_mono k _)


end Go.Proofs.Ytakajeoeijnmhaa.PSegReads

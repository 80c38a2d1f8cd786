-- Laid by this claim's own program over the print's words.
import Derived.Test.YtakajeoeijnmhaaPSegReadsx0
import Derived.Test.YtakajeoeijnmhaaPSegReadsx6
import Derived.Test.YtakajeoeijnmhaaPSegReadsx8
import Derived.Test.YtakajeoeijnmhaaPSegReadsx10
namespace Go.Proofs.Ytakajeoeijnmhaa.PSegReads
open Go.RowKit Go.Proofs.YtakajeoeijnmhaaW.PrintWords Go.Proofs.YtakajeoeijnmhaaW.PrintLast Go.Proofs.YtakajeoeijnmhaaW.PrintMore
attribute [local go_sem] max2_int min2_int max_two min_two max_three min_three max_four min_four max_five min_five extract_cut tmod_nat_lit   -- for this text's walks alone
set_option linter.unusedVariables false
set_option linter.unusedSimpArgs false


/-! ### seg_Decode: function 24 (by hand) -/
set_option maxHeartbeats 1000000 in
set_option maxRecDepth 100000 in
theorem seg_Decode.get (a0:ByteArray) (g:Nat) (a1 a2:Int) (r1 r2:Int) (w:World) (hb:w.heap[g]?=some (.cells #[.string a0] 9 (0,0))) (h:sum_Get.f a0 a1 a2=some (r1,r2)) :
  Calls Try.prog 43 #[.int .i64 a1,.int .i64 a2,.pointer (some ⟨g,0,none⟩)] w fun e w'=>e=.returned (.int .i64 r1)∧Below w.heap.size w w':=by
 have hcz:w.cell? ⟨g,0,none⟩=some (.string a0):=(kC hb 0).trans rfl
 go_enter Try.func43,Try.ntmps43
 go_wp2_with fail
 refine(sum_Get.calls a0 a1 a2 r1 r2 _ h).mono ?_
 rintro e w3 ⟨rfl,hb3⟩
 go_wp2
 go_ret
 exact⟨by first|rfl|simp,hb3⟩
def seg_Decode.hd (s:ByteArray):Int:=wrap64 ((wrap64 ((bt s 12) / 16)) * 4)
def seg_Decode.f2 (k:Nat) (s:ByteArray) (m sc st ec:Int) (sd sk sp:Bool) (l:List S73):Option (Int × Int × Int × Int × Int × Int × Int × Int × Int × Int × Int × Bool × Bool × Bool × List S73 × ByteArray × Int) :=
 (sum_Get.f s 0 2).bind fun g1=>(sum_Get.f s 2 2).bind fun g2=>(sum_Get.f s 4 4).bind fun g3=>(sum_Get.f s 8 4).bind fun g4=>(sum_Get.f s 13 1).bind fun g5=>(sum_Get.f s 14 2).bind fun g6=>(sum_Get.f s 18 2).bind fun g7=>if Go.bits .and .u8 (bt s 12) 15 > 0 then some (0,0,0,0,0,0,0,0,0,0,0,false,false,false,[],(⟨#[]⟩:ByteArray),80) else
 (seg_Check.f k g1.1 g2.1 g3.1 g4.1 g5.1 g6.1 g7.1 m sc st ec sd sk sp l (cutS s (seg_Decode.hd s).toNat s.size)).bind fun cc=>if cc=0 then some (g1.1,g2.1,g3.1,g4.1,g5.1,g6.1,g7.1,m,sc,st,ec,sd,sk,sp,l,cutS s (seg_Decode.hd s).toNat s.size,0) else some (0,0,0,0,0,0,0,0,0,0,0,false,false,false,[],(⟨#[]⟩:ByteArray),80)
def seg_Decode.f (k:Nat) (a b:Int) (s:ByteArray):Option (Int × Int × Int × Int × Int × Int × Int × Int × Int × Int × Int × Bool × Bool × Bool × List S73 × ByteArray × Int) :=
 (seg_addresses.f a b).bind fun e0=>if e0=0 then if (s.size:Int) < 20 then some (0,0,0,0,0,0,0,0,0,0,0,false,false,false,[],(⟨#[]⟩:ByteArray),80) else if (s.size:Int) > 1540 then some (0,0,0,0,0,0,0,0,0,0,0,false,false,false,[],(⟨#[]⟩:ByteArray),80) else
  if seg_Decode.hd s < 20 then some (0,0,0,0,0,0,0,0,0,0,0,false,false,false,[],(⟨#[]⟩:ByteArray),80) else if seg_Decode.hd s > (s.size:Int) then some (0,0,0,0,0,0,0,0,0,0,0,false,false,false,[],(⟨#[]⟩:ByteArray),80) else
  (sum_Pseudo.f k a b 6 (s.size:Int)).bind fun ps=>if ps.1.size+s.size≤9223372036854775807 then
  (sum_Whole.f k (ps.1++s)).bind fun wh=>if wh=true then
  (opts_Decode.f k (cutS s 20 (seg_Decode.hd s).toNat)).bind fun o=>if o.2.2.2.2.2.2.2.2=0 then seg_Decode.f2 k s o.1 o.2.1 o.2.2.1 o.2.2.2.1 o.2.2.2.2.1 o.2.2.2.2.2.1 o.2.2.2.2.2.2.1 o.2.2.2.2.2.2.2.1 else some (0,0,0,0,0,0,0,0,0,0,0,false,false,false,[],(⟨#[]⟩:ByteArray),o.2.2.2.2.2.2.2.2)
  else some (0,0,0,0,0,0,0,0,0,0,0,false,false,false,[],(⟨#[]⟩:ByteArray),20) else none
 else some (0,0,0,0,0,0,0,0,0,0,0,false,false,false,[],(⟨#[]⟩:ByteArray),e0)
theorem seg_Decode.mono2 (k:Nat) (s:ByteArray) (m sc st ec:Int) (sd sk sp:Bool) (l:List S73):LeO (seg_Decode.f2 k s m sc st ec sd sk sp l) (seg_Decode.f2 (k+1) s m sc st ec sd sk sp l):=by
 unfold seg_Decode.f2
 exact LeO.bind (LeO.refl _) fun _=>LeO.bind (LeO.refl _) fun _=>LeO.bind (LeO.refl _) fun _=>LeO.bind (LeO.refl _) fun _=>LeO.bind (LeO.refl _) fun _=>LeO.bind (LeO.refl _) fun _=>LeO.bind (LeO.refl _) fun _=>LeO.ite (LeO.refl _) (LeO.bind (seg_Check.mono _ _ _ _ _ _ _ _ _ _ _ _ _ _ _ _ _) fun _=>LeO.refl _)
set_option maxHeartbeats 400000 in
theorem seg_Decode.mono:∀ a b s k,LeO (seg_Decode.f k a b s) (seg_Decode.f (k+1) a b s):=by
 intro a b s k
 unfold seg_Decode.f
 refine LeO.bind (LeO.refl _) fun e0=>?_
 refine LeO.ite ?_ (LeO.refl _)
 refine LeO.ite (LeO.refl _) ?_
 refine LeO.ite (LeO.refl _) ?_
 refine LeO.ite (LeO.refl _) ?_
 refine LeO.ite (LeO.refl _) ?_
 refine LeO.bind (sum_Pseudo.mono _ _ _ _ _) fun ps=>?_
 refine LeO.ite ?_ (LeO.none _)
 refine LeO.bind (sum_Whole.mono _ _) fun wh=>?_
 refine LeO.ite ?_ (LeO.refl _)
 refine LeO.bind (opts_Decode.mono _ _) fun o=>?_
 exact LeO.ite (seg_Decode.mono2 _ _ _ _ _ _ _ _ _ _) (LeO.refl _)
theorem seg_Decode.out {W:World} {g:Nat} {c0 c1 c2 c3 c4 c5 c6 c7 c8 c9 c10 c11 c12 c13 c14 c15 y0 y1 y2 y3 y4 y5 y6 y7 y8 y9 y10 y11 y12 y13 y14 y15:Value} {cs:Array Value} (hcs:cs=#[y0,y1,y2,y3,y4,y5,y6,y7,y8,y9,y10,y11,y12,y13,y14,y15]) (hb:W.heap[g]?=some (.cells #[c0,c1,c2,c3,c4,c5,c6,c7,c8,c9,c10,c11,c12,c13,c14,c15] 26 (0,0))) :
  ((((((((((((((((W.setCell ⟨g,0,none⟩ y0).setCell ⟨g,1,none⟩ y1).setCell ⟨g,2,none⟩ y2).setCell ⟨g,3,none⟩ y3).setCell ⟨g,4,none⟩ y4).setCell ⟨g,5,none⟩ y5).setCell ⟨g,6,none⟩ y6).setCell ⟨g,7,none⟩ y7).setCell ⟨g,8,none⟩ y8).setCell ⟨g,9,none⟩ y9).setCell ⟨g,10,none⟩ y10).setCell ⟨g,11,none⟩ y11).setCell ⟨g,12,none⟩ y12).setCell ⟨g,13,none⟩ y13).setCell ⟨g,14,none⟩ y14).setCell ⟨g,15,none⟩ y15).heap[g]?=some (.cells cs 26 (0,0))∧∀ (base:Nat) (v:Value) (xs:List S73),Kd.R k73 73 W base (fun _=>True) v xs→Kd.R k73 73 ((((((((((((((((W.setCell ⟨g,0,none⟩ y0).setCell ⟨g,1,none⟩ y1).setCell ⟨g,2,none⟩ y2).setCell ⟨g,3,none⟩ y3).setCell ⟨g,4,none⟩ y4).setCell ⟨g,5,none⟩ y5).setCell ⟨g,6,none⟩ y6).setCell ⟨g,7,none⟩ y7).setCell ⟨g,8,none⟩ y8).setCell ⟨g,9,none⟩ y9).setCell ⟨g,10,none⟩ y10).setCell ⟨g,11,none⟩ y11).setCell ⟨g,12,none⟩ y12).setCell ⟨g,13,none⟩ y13).setCell ⟨g,14,none⟩ y14).setCell ⟨g,15,none⟩ y15) base (fun _=>True) v xs:=by
 subst hcs
 have h0:=kP (cs':=#[y0,c1,c2,c3,c4,c5,c6,c7,c8,c9,c10,c11,c12,c13,c14,c15]) hb 0 y0 rfl
 have h1:=kP (cs':=#[y0,y1,c2,c3,c4,c5,c6,c7,c8,c9,c10,c11,c12,c13,c14,c15]) h0 1 y1 rfl
 have h2:=kP (cs':=#[y0,y1,y2,c3,c4,c5,c6,c7,c8,c9,c10,c11,c12,c13,c14,c15]) h1 2 y2 rfl
 have h3:=kP (cs':=#[y0,y1,y2,y3,c4,c5,c6,c7,c8,c9,c10,c11,c12,c13,c14,c15]) h2 3 y3 rfl
 have h4:=kP (cs':=#[y0,y1,y2,y3,y4,c5,c6,c7,c8,c9,c10,c11,c12,c13,c14,c15]) h3 4 y4 rfl
 have h5:=kP (cs':=#[y0,y1,y2,y3,y4,y5,c6,c7,c8,c9,c10,c11,c12,c13,c14,c15]) h4 5 y5 rfl
 have h6:=kP (cs':=#[y0,y1,y2,y3,y4,y5,y6,c7,c8,c9,c10,c11,c12,c13,c14,c15]) h5 6 y6 rfl
 have h7:=kP (cs':=#[y0,y1,y2,y3,y4,y5,y6,y7,c8,c9,c10,c11,c12,c13,c14,c15]) h6 7 y7 rfl
 have h8:=kP (cs':=#[y0,y1,y2,y3,y4,y5,y6,y7,y8,c9,c10,c11,c12,c13,c14,c15]) h7 8 y8 rfl
 have h9:=kP (cs':=#[y0,y1,y2,y3,y4,y5,y6,y7,y8,y9,c10,c11,c12,c13,c14,c15]) h8 9 y9 rfl
 have h10:=kP (cs':=#[y0,y1,y2,y3,y4,y5,y6,y7,y8,y9,y10,c11,c12,c13,c14,c15]) h9 10 y10 rfl
 have h11:=kP (cs':=#[y0,y1,y2,y3,y4,y5,y6,y7,y8,y9,y10,y11,c12,c13,c14,c15]) h10 11 y11 rfl
 have h12:=kP (cs':=#[y0,y1,y2,y3,y4,y5,y6,y7,y8,y9,y10,y11,y12,c13,c14,c15]) h11 12 y12 rfl
 have h13:=kP (cs':=#[y0,y1,y2,y3,y4,y5,y6,y7,y8,y9,y10,y11,y12,y13,c14,c15]) h12 13 y13 rfl
 have h14:=kP (cs':=#[y0,y1,y2,y3,y4,y5,y6,y7,y8,y9,y10,y11,y12,y13,y14,c15]) h13 14 y14 rfl
 have h15:=kP (cs':=#[y0,y1,y2,y3,y4,y5,y6,y7,y8,y9,y10,y11,y12,y13,y14,y15]) h14 15 y15 rfl
 refine⟨h15,fun base v xs hR=>?_⟩
 have hR:=Kd.R_set hR hb (by decide) 0 y0
 have hR:=Kd.R_set hR h0 (by decide) 1 y1
 have hR:=Kd.R_set hR h1 (by decide) 2 y2
 have hR:=Kd.R_set hR h2 (by decide) 3 y3
 have hR:=Kd.R_set hR h3 (by decide) 4 y4
 have hR:=Kd.R_set hR h4 (by decide) 5 y5
 have hR:=Kd.R_set hR h5 (by decide) 6 y6
 have hR:=Kd.R_set hR h6 (by decide) 7 y7
 have hR:=Kd.R_set hR h7 (by decide) 8 y8
 have hR:=Kd.R_set hR h8 (by decide) 9 y9
 have hR:=Kd.R_set hR h9 (by decide) 10 y10
 have hR:=Kd.R_set hR h10 (by decide) 11 y11
 have hR:=Kd.R_set hR h11 (by decide) 12 y12
 have hR:=Kd.R_set hR h12 (by decide) 13 y13
 have hR:=Kd.R_set hR h13 (by decide) 14 y14
 have hR:=Kd.R_set hR h14 (by decide) 15 y15
 exact hR
theorem slice_from {P:Program} {ρ : Operand→Value} {o:Oper} {W:World} {t:TypeId} {x a:Operand} {s:ByteArray} {i:Int} (hu:P.underlying t=some .string) (ho:o.op=.slice t x (some a) none none) (hx : ρ x=.string s) (ha : ρ a=.int .i64 i) (h0:0≤i) (h1:i≤(s.size:Int)):(execOp ρ o).run P W=.ok (.value (.string (cutS s i.toNat s.size))) W:=by
 have e1:¬ ((s.size:Int) < i):=by omega
 have e2:(0≤i)=True:=eq_true h0
 have e3:(i≤(s.size:Int))=True:=eq_true h1
 unfold execOp
 simp only[ho]
 go_simp
set_option maxHeartbeats 8000000 in
set_option maxRecDepth 100000 in
theorem seg_Decode.calls (k:Nat) (a b:Int) (s:ByteArray) (r1 r2 r3 r4 r5 r6 r7 r8 r9 r10 r11:Int) (r12 r13 r14:Bool) (r15:List S73) (r16:ByteArray) (r17:Int) (w:World) (h:seg_Decode.f k a b s=some (r1,r2,r3,r4,r5,r6,r7,r8,r9,r10,r11,r12,r13,r14,r15,r16,r17)) :
  Calls Try.prog 24 #[.int .i64 a,.int .i64 b,.string s] w fun e w'=>∃ v14_:Value,e=.returned (.tuple #[.agg #[.int .i64 r1,.int .i64 r2,.int .i64 r3,.int .i64 r4,.int .i64 r5,.int .i64 r6,.int .i64 r7,.int .i64 r8,.int .i64 r9,.int .i64 r10,.int .i64 r11,.bool r12,.bool r13,.bool r14,v14_,.string r16],.int .i64 r17])∧Kd.R k73 73 w' w.heap.size (fun _=>True) v14_ r15∧Below w.heap.size w w':=by
 have hu26:=Try.underlying26
 have hu24:=Try.underlying24
 have HB:=mkA (Below.refl w.heap.size w)
 have hmf:∀ (fn:Fn) (first cap:Array Value) (w:World),(Instr.makeFunc fn first cap).run Try.prog w=.ok (.func fn first cap) w:=fun _ _ _ _=>rfl
 unfold seg_Decode.f at h
 obtain⟨e0,he0,H⟩:=Option.bind_eq_some_iff.mp h
 have HE:=mkA he0
 have HT:=mkA H
 clear h he0 H
 go_enter Try.func24,Try.ntmps24
 go_wp2_with (first|((with_reducible refine gate_dst (N:=5) rfl ?_);refine box_event ?hg (N:=5) ?hd (cs:=#[.string s]) (t:=9) ?hr ?_;(case hd=>rfl);(case hg=>rfl);(case hr=>first|(go_simp;done)|(go_simp;rfl));intro gs hg w1 hbox hb;have n0_:=mkA (bT HB.out hb);have BS:=mkA hbox;clear HB hbox hb hg;have HB:=n0_;clear n0_;have hsc0:=(kC BS.out 0).trans rfl;have hsf0:=kF BS.out 0)|((with_reducible refine gate_dst (N:=6) rfl ?_);refine box_event ?hg (N:=6) ?hd (cs:=#[.int .i64 0,.int .i64 0,.int .i64 0,.int .i64 0,.int .i64 0,.int .i64 0,.int .i64 0,.int .i64 0,.int .i64 0,.int .i64 0,.int .i64 0,.bool false,.bool false,.bool false,.slice none 0 0,.string (⟨#[]⟩:ByteArray)]) (t:=26) ?hr ?_;(case hd=>rfl);(case hg=>rfl);(case hr=>first|(go_simp;done)|(go_simp;rfl));intro gr hg w2 hbox hb;have n0_:=mkA (bT HB.out hb);have n1_:=mkA (kB BS.out hb);have GR:=mkA ((by rw[hg];exact bZ HB.out):w.heap.size≤gr);have BR:=mkA hbox;clear HB BS hbox hb hg hsc0 hsf0;have HB:=n0_;have BS:=n1_;clear n0_ n1_;have hsc0:w2.cell? ⟨gs,0,none⟩=some (.string s):=(kC BS.out 0).trans rfl;have hsf0:=kF BS.out 0))
 refine(seg_addresses.calls a b e0 _ HE.out).mono ?_
 rintro e W1 ⟨rfl,hW⟩
 clear hsc0 hsf0
 have n0_:=mkA (bT HB.out hW);have n1_:=mkA (kB BS.out hW);have n2_:=mkA (kB BR.out hW);clear HB BS BR hW;have HB:=n0_;have BS:=n1_;have BR:=n2_;clear n0_ n1_ n2_
 have hsc0:W1.cell? ⟨gs,0,none⟩=some (.string s):=(kC BS.out 0).trans rfl;have hsf0:=kF BS.out 0
 have H:=HT.out
 clear HT HE
 by_cases c0:e0=0
 case neg =>
  rw[if_neg c0] at H
  simp only[Option.some.injEq,Prod.mk.injEq] at H
  obtain⟨rfl,rfl,rfl,rfl,rfl,rfl,rfl,rfl,rfl,rfl,rfl,rfl,rfl,rfl,rfl,rfl,rfl⟩:=H
  have d0:(e0 != 0)=true:=bne_iff_ne.mpr c0
  go_wp2_with (first|((with_reducible refine gate_store (t:=26) rfl ?_);refine store_big rfl 26 _ _ rfl _ _ rfl rfl 26 _ (BR.out) (by kernel_rfl) (by rfl) (by rfl) _ (by simp only[World.setCells,Nat.reduceAdd];rfl) ?_;simp only[puts]))
  refine bodyPost_ret (results_ct rfl _ _ gr 26 #[.int .i64 0,.int .i64 0,.int .i64 0,.int .i64 0,.int .i64 0,.int .i64 0,.int .i64 0,.int .i64 0,.int .i64 0,.int .i64 0,.int .i64 0,.bool false,.bool false,.bool false,.slice none 0 0,.string (⟨#[]⟩:ByteArray)] (0,0) _ rfl (seg_Decode.out (by rfl) BR.out).1 Try.underlying26 rfl (by kernel_rfl)) rfl ?_
  exact⟨_,rfl,Kd.R_nil _ _ _ _ _,by repeat(first|(with_reducible first|exact HB.out|apply bA|apply bN|apply bD|refine bS ?_ GR.out)|exact HB.out)⟩
 rw[if_pos c0] at H
 have d0:(e0 != 0)=false:=bne_eq_false_iff_eq.mpr c0
 by_cases c1:(s.size:Int) < 20
 ·rw[if_pos c1] at H
  simp only[Option.some.injEq,Prod.mk.injEq] at H
  obtain⟨rfl,rfl,rfl,rfl,rfl,rfl,rfl,rfl,rfl,rfl,rfl,rfl,rfl,rfl,rfl,rfl,rfl⟩:=H
  have d1:decide ((s.size:Int) < 20)=true:=decide_eq_true c1
  go_wp2_with (first|((with_reducible refine gate_store (t:=26) rfl ?_);refine store_big rfl 26 _ _ rfl _ _ rfl rfl 26 _ (BR.out) (by kernel_rfl) (by rfl) (by rfl) _ (by simp only[World.setCells,Nat.reduceAdd];rfl) ?_;simp only[puts]))
  refine bodyPost_ret (results_ct rfl _ _ gr 26 #[.int .i64 0,.int .i64 0,.int .i64 0,.int .i64 0,.int .i64 0,.int .i64 0,.int .i64 0,.int .i64 0,.int .i64 0,.int .i64 0,.int .i64 0,.bool false,.bool false,.bool false,.slice none 0 0,.string (⟨#[]⟩:ByteArray)] (0,0) _ rfl (seg_Decode.out (by rfl) BR.out).1 Try.underlying26 rfl (by kernel_rfl)) rfl ?_
  exact⟨_,rfl,Kd.R_nil _ _ _ _ _,by repeat(first|(with_reducible first|exact HB.out|apply bA|apply bN|apply bD|refine bS ?_ GR.out)|exact HB.out)⟩
 rw[if_neg c1] at H
 have d1:decide ((s.size:Int) < 20)=false:=decide_eq_false c1
 by_cases c2:(s.size:Int) > 1540
 ·rw[if_pos c2] at H
  simp only[Option.some.injEq,Prod.mk.injEq] at H
  obtain⟨rfl,rfl,rfl,rfl,rfl,rfl,rfl,rfl,rfl,rfl,rfl,rfl,rfl,rfl,rfl,rfl,rfl⟩:=H
  have d2:decide (1540 < (s.size:Int))=true:=decide_eq_true c2
  go_wp2_with (first|((with_reducible refine gate_store (t:=26) rfl ?_);refine store_big rfl 26 _ _ rfl _ _ rfl rfl 26 _ (BR.out) (by kernel_rfl) (by rfl) (by rfl) _ (by simp only[World.setCells,Nat.reduceAdd];rfl) ?_;simp only[puts]))
  refine bodyPost_ret (results_ct rfl _ _ gr 26 #[.int .i64 0,.int .i64 0,.int .i64 0,.int .i64 0,.int .i64 0,.int .i64 0,.int .i64 0,.int .i64 0,.int .i64 0,.int .i64 0,.int .i64 0,.bool false,.bool false,.bool false,.slice none 0 0,.string (⟨#[]⟩:ByteArray)] (0,0) _ rfl (seg_Decode.out (by rfl) BR.out).1 Try.underlying26 rfl (by kernel_rfl)) rfl ?_
  exact⟨_,rfl,Kd.R_nil _ _ _ _ _,by repeat(first|(with_reducible first|exact HB.out|apply bA|apply bN|apply bD|refine bS ?_ GR.out)|exact HB.out)⟩
 rw[if_neg c2] at H
 have d2:decide (1540 < (s.size:Int))=false:=decide_eq_false c2
 have q12:(12 < s.size)=True:=eq_true (by omega)
 have hx12:∀ h:12 < s.size,((s[12]'h).toNat:Int)=bt s 12:=bt_at s 12
 have HHD:=mkA (show wrap64 ((wrap64 ((bt s 12) / 16)) * 4)=seg_Decode.hd s from rfl)
 obtain⟨hd,hhq⟩:∃ q_,seg_Decode.hd s=q_:=⟨_,rfl⟩
 rw[hhq] at H HHD
 have HHQ:=mkA hhq
 clear hhq
 have hhd:=HHD.out
 by_cases c3:hd < 20
 ·rw[if_pos c3] at H
  simp only[Option.some.injEq,Prod.mk.injEq] at H
  obtain⟨rfl,rfl,rfl,rfl,rfl,rfl,rfl,rfl,rfl,rfl,rfl,rfl,rfl,rfl,rfl,rfl,rfl⟩:=H
  have d3:decide (hd < 20)=true:=decide_eq_true c3
  go_wp2_with (first|((with_reducible refine gate_store (t:=26) rfl ?_);refine store_big rfl 26 _ _ rfl _ _ rfl rfl 26 _ (BR.out) (by kernel_rfl) (by rfl) (by rfl) _ (by simp only[World.setCells,Nat.reduceAdd];rfl) ?_;simp only[puts]))
  refine bodyPost_ret (results_ct rfl _ _ gr 26 #[.int .i64 0,.int .i64 0,.int .i64 0,.int .i64 0,.int .i64 0,.int .i64 0,.int .i64 0,.int .i64 0,.int .i64 0,.int .i64 0,.int .i64 0,.bool false,.bool false,.bool false,.slice none 0 0,.string (⟨#[]⟩:ByteArray)] (0,0) _ rfl (seg_Decode.out (by rfl) BR.out).1 Try.underlying26 rfl (by kernel_rfl)) rfl ?_
  exact⟨_,rfl,Kd.R_nil _ _ _ _ _,by repeat(first|(with_reducible first|exact HB.out|apply bA|apply bN|apply bD|refine bS ?_ GR.out)|exact HB.out)⟩
 rw[if_neg c3] at H
 have d3:decide (hd < 20)=false:=decide_eq_false c3
 by_cases c4:hd > (s.size:Int)
 ·rw[if_pos c4] at H
  simp only[Option.some.injEq,Prod.mk.injEq] at H
  obtain⟨rfl,rfl,rfl,rfl,rfl,rfl,rfl,rfl,rfl,rfl,rfl,rfl,rfl,rfl,rfl,rfl,rfl⟩:=H
  have d4:decide ((s.size:Int) < hd)=true:=decide_eq_true c4
  go_wp2_with (first|((with_reducible refine gate_store (t:=26) rfl ?_);refine store_big rfl 26 _ _ rfl _ _ rfl rfl 26 _ (BR.out) (by kernel_rfl) (by rfl) (by rfl) _ (by simp only[World.setCells,Nat.reduceAdd];rfl) ?_;simp only[puts]))
  refine bodyPost_ret (results_ct rfl _ _ gr 26 #[.int .i64 0,.int .i64 0,.int .i64 0,.int .i64 0,.int .i64 0,.int .i64 0,.int .i64 0,.int .i64 0,.int .i64 0,.int .i64 0,.int .i64 0,.bool false,.bool false,.bool false,.slice none 0 0,.string (⟨#[]⟩:ByteArray)] (0,0) _ rfl (seg_Decode.out (by rfl) BR.out).1 Try.underlying26 rfl (by kernel_rfl)) rfl ?_
  exact⟨_,rfl,Kd.R_nil _ _ _ _ _,by repeat(first|(with_reducible first|exact HB.out|apply bA|apply bN|apply bD|refine bS ?_ GR.out)|exact HB.out)⟩
 rw[if_neg c4] at H
 have d4:decide ((s.size:Int) < hd)=false:=decide_eq_false c4
 obtain⟨⟨ps,pe⟩,hps,H⟩:=Option.bind_eq_some_iff.mp H
 have HP:=mkA hps
 clear hps
 replace H:=mkA H
 go_wp2_with fail
 refine(sum_Pseudo.calls k a b 6 (s.size:Int) ps pe _ HP.out).mono ?_
 rintro e W2 ⟨rfl,hW⟩
 clear hsc0 hsf0
 have n0_:=mkA (bT HB.out hW);have n1_:=mkA (kB BS.out hW);have n2_:=mkA (kB BR.out hW);clear HB BS BR hW;have HB:=n0_;have BS:=n1_;have BR:=n2_;clear n0_ n1_ n2_
 have hsc0:W2.cell? ⟨gs,0,none⟩=some (.string s):=(kC BS.out 0).trans rfl;have hsf0:=kF BS.out 0
 have H:=H.out
 try dsimp only at H
 by_cases c5:ps.size+s.size≤9223372036854775807
 case neg=>rw[if_neg c5] at H;exact absurd H (by simp)
 rw[if_pos c5] at H
 have d5:(9223372036854775807 < ps.size+s.size)=False:=eq_false (Nat.not_lt.2 c5)
 have d5a:=eq_true c5
 obtain⟨wh,hwh,H⟩:=Option.bind_eq_some_iff.mp H
 have HW:=mkA hwh
 have HT:=mkA H
 clear hwh H
 go_wp2_with fail
 refine(sum_Whole.calls k (ps++s) wh _ HW.out).mono ?_
 rintro e W3 ⟨rfl,hW⟩
 clear hsc0 hsf0
 have n0_:=mkA (bT HB.out hW);have n1_:=mkA (kB BS.out hW);have n2_:=mkA (kB BR.out hW);clear HB BS BR hW;have HB:=n0_;have BS:=n1_;have BR:=n2_;clear n0_ n1_ n2_
 have hsc0:W3.cell? ⟨gs,0,none⟩=some (.string s):=(kC BS.out 0).trans rfl;have hsf0:=kF BS.out 0
 have H:=HT.out
 clear HT
 cases wh with
 | false =>
  rw[if_neg (by decide)] at H
  simp only[Option.some.injEq,Prod.mk.injEq] at H
  obtain⟨rfl,rfl,rfl,rfl,rfl,rfl,rfl,rfl,rfl,rfl,rfl,rfl,rfl,rfl,rfl,rfl,rfl⟩:=H
  go_wp2_with (first|((with_reducible refine gate_store (t:=26) rfl ?_);refine store_big rfl 26 _ _ rfl _ _ rfl rfl 26 _ (BR.out) (by kernel_rfl) (by rfl) (by rfl) _ (by simp only[World.setCells,Nat.reduceAdd];rfl) ?_;simp only[puts]))
  refine bodyPost_ret (results_ct rfl _ _ gr 26 #[.int .i64 0,.int .i64 0,.int .i64 0,.int .i64 0,.int .i64 0,.int .i64 0,.int .i64 0,.int .i64 0,.int .i64 0,.int .i64 0,.int .i64 0,.bool false,.bool false,.bool false,.slice none 0 0,.string (⟨#[]⟩:ByteArray)] (0,0) _ rfl (seg_Decode.out (by rfl) BR.out).1 Try.underlying26 rfl (by kernel_rfl)) rfl ?_
  exact⟨_,rfl,Kd.R_nil _ _ _ _ _,by repeat(first|(with_reducible first|exact HB.out|apply bA|apply bN|apply bD|refine bS ?_ GR.out)|exact HB.out)⟩
 | true =>
  rw[if_pos rfl] at H
  have sl0:(20≤hd)=True:=eq_true (by omega)
  have sl1:(hd≤(s.size:Int))=True:=eq_true (by omega)
  have sl2:(hd < 20)=False:=eq_false (by omega)
  have sl3:((s.size:Int) < hd)=False:=eq_false (by omega)
  have sl4:(0≤hd)=True:=eq_true (by omega)
  have HD:=mkA (show 20≤hd∧hd≤(s.size:Int) from ⟨by omega,by omega⟩)
  obtain⟨⟨m,sc,st,ec,sd,sk,sp,l,oe⟩,ho,H⟩:=Option.bind_eq_some_iff.mp H
  have HO:=mkA ho
  have HT:=mkA H
  clear ho H
  go_wp2_with fail
  refine(opts_Decode.calls k (cutS s 20 hd.toNat) m sc st ec sd sk sp l oe _ HO.out).mono ?_
  rintro e W4 ⟨vo,rfl,hRo,hW⟩
  obtain⟨Ao,co,hvo,hlo,hCo⟩:=Kd.R_reads hRo
  generalize hln:l.length=ln at hvo hlo
  subst hvo
  have RO:=mkA (Kd.R_lower hRo (bZ HB.out))
  have LN:=mkA hln
  have HLO:=mkA hlo
  clear hln hlo hCo hRo
  clear hsc0 hsf0
  have n0_:=mkA (bT HB.out hW);have n1_:=mkA (kB BS.out hW);have n2_:=mkA (kB BR.out hW);clear HB BS BR hW;have HB:=n0_;have BS:=n1_;have BR:=n2_;clear n0_ n1_ n2_
  have hsc0:W4.cell? ⟨gs,0,none⟩=some (.string s):=(kC BS.out 0).trans rfl;have hsf0:=kF BS.out 0
  have H:=HT.out
  clear HT
  try dsimp only at H
  by_cases c6:oe=0
  case neg =>
   rw[if_neg c6] at H
   simp only[Option.some.injEq,Prod.mk.injEq] at H
   obtain⟨rfl,rfl,rfl,rfl,rfl,rfl,rfl,rfl,rfl,rfl,rfl,rfl,rfl,rfl,rfl,rfl,rfl⟩:=H
   have d6:(oe != 0)=true:=bne_iff_ne.mpr c6
   go_wp2_with (first|((with_reducible refine gate_dst (N:=12) rfl ?_);refine box_event ?hg (N:=12) ?hd (cs:=#[.int .i64 0,.int .i64 0,.int .i64 0,.int .i64 0,.bool false,.bool false,.bool false,.slice none 0 0]) (t:=24) ?hr ?_;(case hd=>rfl);(case hg=>rfl);(case hr=>first|(go_simp;done)|(go_simp;rfl));intro go hg w5 hbox hb;have n0_:=mkA (bT HB.out hb);have n1_:=mkA (kB BS.out hb);have n2_:=mkA (kB BR.out hb);have n3_:=mkA (Kd.R_below RO.out hb);have GO:=mkA ((by rw[hg];exact bZ HB.out):w.heap.size≤go);have BO:=mkA hbox;have NOR:=mkA ((by rw[hg];exact Nat.ne_of_gt (blk_lt BR.out)):go≠gr);have NOS:=mkA ((by rw[hg];exact Nat.ne_of_gt (blk_lt BS.out)):go≠gs);have NRO:=mkA (Ne.symm NOR.out);have NSO:=mkA (Ne.symm NOS.out);clear HB BS BR RO hbox hb hg hsc0 hsf0;have HB:=n0_;have BS:=n1_;have BR:=n2_;have RO:=n3_;clear n0_ n1_ n2_ n3_;have hsc0:w5.cell? ⟨gs,0,none⟩=some (.string s):=(kC BS.out 0).trans rfl;have hsf0:=kF BS.out 0;have hoc0:w5.cell? ⟨go,0,none⟩=some (.int .i64 0):=(kC BO.out 0).trans rfl;have hof0:=kF BO.out 0;have hoc1:w5.cell? ⟨go,1,none⟩=some (.int .i64 0):=(kC BO.out 1).trans rfl;have hof1:=kF BO.out 1;have hoc2:w5.cell? ⟨go,2,none⟩=some (.int .i64 0):=(kC BO.out 2).trans rfl;have hof2:=kF BO.out 2;have hoc3:w5.cell? ⟨go,3,none⟩=some (.int .i64 0):=(kC BO.out 3).trans rfl;have hof3:=kF BO.out 3;have hoc4:w5.cell? ⟨go,4,none⟩=some (.bool false):=(kC BO.out 4).trans rfl;have hof4:=kF BO.out 4;have hoc5:w5.cell? ⟨go,5,none⟩=some (.bool false):=(kC BO.out 5).trans rfl;have hof5:=kF BO.out 5;have hoc6:w5.cell? ⟨go,6,none⟩=some (.bool false):=(kC BO.out 6).trans rfl;have hof6:=kF BO.out 6;have hoc7:w5.cell? ⟨go,7,none⟩=some (.slice none 0 0):=(kC BO.out 7).trans rfl;have hof7:=kF BO.out 7)|((with_reducible refine gate_store (t:=26) rfl ?_);refine store_big rfl 26 _ _ rfl _ _ rfl rfl 26 _ (by(with_reducible repeat(first|(apply blk_farA;case hp=>assumption)));apply Aside0.out;assumption) (by kernel_rfl) (by rfl) (by rfl) _ (by simp only[World.setCells,Nat.reduceAdd];rfl) ?_;simp only[puts]))
   refine bodyPost_ret (results_ct rfl _ _ gr 26 #[.int .i64 0,.int .i64 0,.int .i64 0,.int .i64 0,.int .i64 0,.int .i64 0,.int .i64 0,.int .i64 0,.int .i64 0,.int .i64 0,.int .i64 0,.bool false,.bool false,.bool false,.slice none 0 0,.string (⟨#[]⟩:ByteArray)] (0,0) _ rfl (seg_Decode.out (by rfl) (by(with_reducible repeat(first|(apply blk_farA;case hp=>assumption)));apply Aside0.out;assumption)).1 Try.underlying26 rfl (by kernel_rfl)) rfl ?_
   exact⟨_,rfl,Kd.R_nil _ _ _ _ _,by repeat(first|(with_reducible first|exact HB.out|apply bA|apply bN|apply bD|refine bS ?_ GR.out|refine bS ?_ GO.out)|exact HB.out)⟩
  rw[if_pos c6] at H
  have d6:(oe != 0)=false:=bne_eq_false_iff_eq.mpr c6
  unfold seg_Decode.f2 at H
  try dsimp only at H
  rw[HHQ.out] at H
  obtain⟨⟨g1,e1⟩,hg1,H⟩:=Option.bind_eq_some_iff.mp H
  have G1:=mkA hg1
  clear hg1
  obtain⟨⟨g2,e2⟩,hg2,H⟩:=Option.bind_eq_some_iff.mp H
  have G2:=mkA hg2
  clear hg2
  obtain⟨⟨g3,e3⟩,hg3,H⟩:=Option.bind_eq_some_iff.mp H
  have G3:=mkA hg3
  clear hg3
  obtain⟨⟨g4,e4⟩,hg4,H⟩:=Option.bind_eq_some_iff.mp H
  have G4:=mkA hg4
  clear hg4
  obtain⟨⟨g5,e5⟩,hg5,H⟩:=Option.bind_eq_some_iff.mp H
  have G5:=mkA hg5
  clear hg5
  obtain⟨⟨g6,e6⟩,hg6,H⟩:=Option.bind_eq_some_iff.mp H
  have G6:=mkA hg6
  clear hg6
  obtain⟨⟨g7,e7⟩,hg7,H⟩:=Option.bind_eq_some_iff.mp H
  have G7:=mkA hg7
  clear hg7
  have HT:=mkA H
  clear H c6
  go_wp2_with (first|((with_reducible refine gate_dst (N:=12) rfl ?_);refine box_event ?hg (N:=12) ?hd (cs:=#[.int .i64 0,.int .i64 0,.int .i64 0,.int .i64 0,.bool false,.bool false,.bool false,.slice none 0 0]) (t:=24) ?hr ?_;(case hd=>rfl);(case hg=>rfl);(case hr=>first|(go_simp;done)|(go_simp;rfl));intro go hg w5 hbox hb;have n0_:=mkA (bT HB.out hb);have n1_:=mkA (kB BS.out hb);have n2_:=mkA (kB BR.out hb);have n3_:=mkA (Kd.R_below RO.out hb);have GO:=mkA ((by rw[hg];exact bZ HB.out):w.heap.size≤go);have BO:=mkA hbox;have NOR:=mkA ((by rw[hg];exact Nat.ne_of_gt (blk_lt BR.out)):go≠gr);have NOS:=mkA ((by rw[hg];exact Nat.ne_of_gt (blk_lt BS.out)):go≠gs);have NRO:=mkA (Ne.symm NOR.out);have NSO:=mkA (Ne.symm NOS.out);clear HB BS BR RO hbox hb hg hsc0 hsf0;have HB:=n0_;have BS:=n1_;have BR:=n2_;have RO:=n3_;clear n0_ n1_ n2_ n3_;have hsc0:w5.cell? ⟨gs,0,none⟩=some (.string s):=(kC BS.out 0).trans rfl;have hsf0:=kF BS.out 0;have hoc0:w5.cell? ⟨go,0,none⟩=some (.int .i64 0):=(kC BO.out 0).trans rfl;have hof0:=kF BO.out 0;have hoc1:w5.cell? ⟨go,1,none⟩=some (.int .i64 0):=(kC BO.out 1).trans rfl;have hof1:=kF BO.out 1;have hoc2:w5.cell? ⟨go,2,none⟩=some (.int .i64 0):=(kC BO.out 2).trans rfl;have hof2:=kF BO.out 2;have hoc3:w5.cell? ⟨go,3,none⟩=some (.int .i64 0):=(kC BO.out 3).trans rfl;have hof3:=kF BO.out 3;have hoc4:w5.cell? ⟨go,4,none⟩=some (.bool false):=(kC BO.out 4).trans rfl;have hof4:=kF BO.out 4;have hoc5:w5.cell? ⟨go,5,none⟩=some (.bool false):=(kC BO.out 5).trans rfl;have hof5:=kF BO.out 5;have hoc6:w5.cell? ⟨go,6,none⟩=some (.bool false):=(kC BO.out 6).trans rfl;have hof6:=kF BO.out 6;have hoc7:w5.cell? ⟨go,7,none⟩=some (.slice none 0 0):=(kC BO.out 7).trans rfl;have hof7:=kF BO.out 7))
  have O8:=opts_Decode.out8 (y0:=.int .i64 m) (y1:=.int .i64 sc) (y2:=.int .i64 st) (y3:=.int .i64 ec) (y4:=.bool sd) (y5:=.bool sk) (y6:=.bool sp) (y7:=.slice Ao ln co) rfl HB.out GO.out BO.out
  have BO6:=O8.1
  have HB6:=O8.2.1
  have RO6:=O8.2.2 _ _ RO.out
  have BS6:((((((((w5.setCell ⟨go,0,none⟩ (.int .i64 m)).setCell ⟨go,1,none⟩ (.int .i64 sc)).setCell ⟨go,2,none⟩ (.int .i64 st)).setCell ⟨go,3,none⟩ (.int .i64 ec)).setCell ⟨go,4,none⟩ (.bool sd)).setCell ⟨go,5,none⟩ (.bool sk)).setCell ⟨go,6,none⟩ (.bool sp)).setCell ⟨go,7,none⟩ (.slice Ao ln co)).heap[gs]?=some (.cells #[.string s] 9 (0,0)):=by(with_reducible repeat(first|(apply blk_farA;case hp=>assumption)));apply Aside0.out;assumption
  have BR6:((((((((w5.setCell ⟨go,0,none⟩ (.int .i64 m)).setCell ⟨go,1,none⟩ (.int .i64 sc)).setCell ⟨go,2,none⟩ (.int .i64 st)).setCell ⟨go,3,none⟩ (.int .i64 ec)).setCell ⟨go,4,none⟩ (.bool sd)).setCell ⟨go,5,none⟩ (.bool sk)).setCell ⟨go,6,none⟩ (.bool sp)).setCell ⟨go,7,none⟩ (.slice Ao ln co)).heap[gr]?=some (.cells #[.int .i64 0,.int .i64 0,.int .i64 0,.int .i64 0,.int .i64 0,.int .i64 0,.int .i64 0,.int .i64 0,.int .i64 0,.int .i64 0,.int .i64 0,.bool false,.bool false,.bool false,.slice none 0 0,.string (⟨#[]⟩:ByteArray)] 26 (0,0)):=by(with_reducible repeat(first|(apply blk_farA;case hp=>assumption)));apply Aside0.out;assumption
  clear O8 hoc0 hof0 hoc1 hof1 hoc2 hof2 hoc3 hof3 hoc4 hof4 hoc5 hof5 hoc6 hof6 hoc7 hof7 hsc0 hsf0 HB BS BR RO BO
  generalize (((((((w5.setCell ⟨go,0,none⟩ (.int .i64 m)).setCell ⟨go,1,none⟩ (.int .i64 sc)).setCell ⟨go,2,none⟩ (.int .i64 st)).setCell ⟨go,3,none⟩ (.int .i64 ec)).setCell ⟨go,4,none⟩ (.bool sd)).setCell ⟨go,5,none⟩ (.bool sk)).setCell ⟨go,6,none⟩ (.bool sp)).setCell ⟨go,7,none⟩ (.slice Ao ln co)=W6 at BO6 HB6 RO6 BS6 BR6 ⊢
  have HB:=mkA HB6;have BS:=mkA BS6;have BR:=mkA BR6;have RO:=mkA RO6;have BO:=mkA BO6;clear HB6 BS6 BR6 RO6 BO6
  have C1:=fun (W:World) (hb:W.heap[gs]?=some (.cells #[.string s] 9 (0,0)))=>seg_Decode.get s gs 0 2 g1 e1 W hb G1.out
  have C2:=fun (W:World) (hb:W.heap[gs]?=some (.cells #[.string s] 9 (0,0)))=>seg_Decode.get s gs 2 2 g2 e2 W hb G2.out
  have C3:=fun (W:World) (hb:W.heap[gs]?=some (.cells #[.string s] 9 (0,0)))=>seg_Decode.get s gs 4 4 g3 e3 W hb G3.out
  have C4:=fun (W:World) (hb:W.heap[gs]?=some (.cells #[.string s] 9 (0,0)))=>seg_Decode.get s gs 8 4 g4 e4 W hb G4.out
  have C5:=fun (W:World) (hb:W.heap[gs]?=some (.cells #[.string s] 9 (0,0)))=>seg_Decode.get s gs 13 1 g5 e5 W hb G5.out
  have C6:=fun (W:World) (hb:W.heap[gs]?=some (.cells #[.string s] 9 (0,0)))=>seg_Decode.get s gs 14 2 g6 e6 W hb G6.out
  have C7:=fun (W:World) (hb:W.heap[gs]?=some (.cells #[.string s] 9 (0,0)))=>seg_Decode.get s gs 18 2 g7 e7 W hb G7.out
  have same:∀ W',Below W6.heap.size W6 W'→Below W'.heap.size W' W':=fun W' _=>Below.refl _ _
  refine AnyOrder.region_then 20 (C:=fun W'=>Below W6.heap.size W6 W') (G:=fun W1 W2=>Below W1.heap.size W1 W2) (T:=[19]) (R:=fun _ w v=>∃ g,v=.pointer (some ⟨g,0,none⟩)∧W6.heap.size≤g∧w.heap[g]?=some (.cells #[.int .i64 0,.int .i64 0,.int .i64 0,.int .i64 0,.int .i64 0,.int .i64 0,.int .i64 0,.int .i64 0,.int .i64 0,.int .i64 0,.int .i64 0,.bool false,.bool false,.bool false,.slice none 0 0,.string (⟨#[]⟩:ByteArray)] 26 (0,0))) (vs:=[(.func (.func 43) #[] #[.pointer (some ⟨gs,0,none⟩)]),(.int .i64 g1),(.func (.func 43) #[] #[.pointer (some ⟨gs,0,none⟩)]),(.int .i64 g2),(.func (.func 43) #[] #[.pointer (some ⟨gs,0,none⟩)]),(.int .i64 g3),(.func (.func 43) #[] #[.pointer (some ⟨gs,0,none⟩)]),(.int .i64 g4),(.func (.func 43) #[] #[.pointer (some ⟨gs,0,none⟩)]),(.int .i64 g5),(.func (.func 43) #[] #[.pointer (some ⟨gs,0,none⟩)]),(.int .i64 g6),(.func (.func 43) #[] #[.pointer (some ⟨gs,0,none⟩)]),(.int .i64 g7),(.agg #[.int .i64 m,.int .i64 sc,.int .i64 st,.int .i64 ec,.bool sd,.bool sk,.bool sp,.slice Ao ln co]),(.string s),(.int .i64 hd),(.string (cutS s hd.toNat s.size)),(.agg #[.int .i64 g1,.int .i64 g2,.int .i64 g3,.int .i64 g4,.int .i64 g5,.int .i64 g6,.int .i64 g7,.int .i64 m,.int .i64 sc,.int .i64 st,.int .i64 ec,.bool sd,.bool sk,.bool sp,.slice Ao ln co,.string (cutS s hd.toNat s.size)]),undef]) (by kernel_rfl) rfl (by kernel_rfl) (bD (Below.refl _ _)) same (fun i w w' v h1 h2=>?keep) (fun x=>?obs) ?fin
  case keep=>exact h2.elim fun g h=>⟨g,h.1,h.2.1,kB h.2.2 h1⟩
  case obs =>
   refine AnyOrder.obs_cons (.func (.func 43) #[] #[.pointer (some ⟨gs,0,none⟩)]) rfl (AnyOrder.ob_quiet (d:=72) rfl (show (72:Nat) < 102 by omega) rfl rfl same (fun _=>by first|exact⟨_,rfl⟩|exact⟨pure _,rfl⟩) ?_) ?_
   ·go_big_quiet_op;first|rfl|exact⟨_,fun _ _=>rfl,rfl⟩
   try simp only[puts]
   refine AnyOrder.obs_cons (.int .i64 g1) rfl (AnyOrder.ob_call rfl rfl rfl 43 #[.int .i64 0,.int .i64 2,.pointer (some ⟨gs,0,none⟩)] (fun W' hW=>?_) (fun W' hW=>?_)) ?_
   ·go_simp
   ·exact(C1 W' (kB BS.out hW)).mono fun e w2 h2=>⟨h2.1,bT hW h2.2,h2.2⟩
   try simp only[puts]
   refine AnyOrder.obs_cons (.func (.func 43) #[] #[.pointer (some ⟨gs,0,none⟩)]) rfl (AnyOrder.ob_quiet (d:=74) rfl (show (74:Nat) < 102 by omega) rfl rfl same (fun _=>by first|exact⟨_,rfl⟩|exact⟨pure _,rfl⟩) ?_) ?_
   ·go_big_quiet_op;first|rfl|exact⟨_,fun _ _=>rfl,rfl⟩
   try simp only[puts]
   refine AnyOrder.obs_cons (.int .i64 g2) rfl (AnyOrder.ob_call rfl rfl rfl 43 #[.int .i64 2,.int .i64 2,.pointer (some ⟨gs,0,none⟩)] (fun W' hW=>?_) (fun W' hW=>?_)) ?_
   ·go_simp
   ·exact(C2 W' (kB BS.out hW)).mono fun e w2 h2=>⟨h2.1,bT hW h2.2,h2.2⟩
   try simp only[puts]
   refine AnyOrder.obs_cons (.func (.func 43) #[] #[.pointer (some ⟨gs,0,none⟩)]) rfl (AnyOrder.ob_quiet (d:=76) rfl (show (76:Nat) < 102 by omega) rfl rfl same (fun _=>by first|exact⟨_,rfl⟩|exact⟨pure _,rfl⟩) ?_) ?_
   ·go_big_quiet_op;first|rfl|exact⟨_,fun _ _=>rfl,rfl⟩
   try simp only[puts]
   refine AnyOrder.obs_cons (.int .i64 g3) rfl (AnyOrder.ob_call rfl rfl rfl 43 #[.int .i64 4,.int .i64 4,.pointer (some ⟨gs,0,none⟩)] (fun W' hW=>?_) (fun W' hW=>?_)) ?_
   ·go_simp
   ·exact(C3 W' (kB BS.out hW)).mono fun e w2 h2=>⟨h2.1,bT hW h2.2,h2.2⟩
   try simp only[puts]
   refine AnyOrder.obs_cons (.func (.func 43) #[] #[.pointer (some ⟨gs,0,none⟩)]) rfl (AnyOrder.ob_quiet (d:=78) rfl (show (78:Nat) < 102 by omega) rfl rfl same (fun _=>by first|exact⟨_,rfl⟩|exact⟨pure _,rfl⟩) ?_) ?_
   ·go_big_quiet_op;first|rfl|exact⟨_,fun _ _=>rfl,rfl⟩
   try simp only[puts]
   refine AnyOrder.obs_cons (.int .i64 g4) rfl (AnyOrder.ob_call rfl rfl rfl 43 #[.int .i64 8,.int .i64 4,.pointer (some ⟨gs,0,none⟩)] (fun W' hW=>?_) (fun W' hW=>?_)) ?_
   ·go_simp
   ·exact(C4 W' (kB BS.out hW)).mono fun e w2 h2=>⟨h2.1,bT hW h2.2,h2.2⟩
   try simp only[puts]
   refine AnyOrder.obs_cons (.func (.func 43) #[] #[.pointer (some ⟨gs,0,none⟩)]) rfl (AnyOrder.ob_quiet (d:=80) rfl (show (80:Nat) < 102 by omega) rfl rfl same (fun _=>by first|exact⟨_,rfl⟩|exact⟨pure _,rfl⟩) ?_) ?_
   ·go_big_quiet_op;first|rfl|exact⟨_,fun _ _=>rfl,rfl⟩
   try simp only[puts]
   refine AnyOrder.obs_cons (.int .i64 g5) rfl (AnyOrder.ob_call rfl rfl rfl 43 #[.int .i64 13,.int .i64 1,.pointer (some ⟨gs,0,none⟩)] (fun W' hW=>?_) (fun W' hW=>?_)) ?_
   ·go_simp
   ·exact(C5 W' (kB BS.out hW)).mono fun e w2 h2=>⟨h2.1,bT hW h2.2,h2.2⟩
   try simp only[puts]
   refine AnyOrder.obs_cons (.func (.func 43) #[] #[.pointer (some ⟨gs,0,none⟩)]) rfl (AnyOrder.ob_quiet (d:=82) rfl (show (82:Nat) < 102 by omega) rfl rfl same (fun _=>by first|exact⟨_,rfl⟩|exact⟨pure _,rfl⟩) ?_) ?_
   ·go_big_quiet_op;first|rfl|exact⟨_,fun _ _=>rfl,rfl⟩
   try simp only[puts]
   refine AnyOrder.obs_cons (.int .i64 g6) rfl (AnyOrder.ob_call rfl rfl rfl 43 #[.int .i64 14,.int .i64 2,.pointer (some ⟨gs,0,none⟩)] (fun W' hW=>?_) (fun W' hW=>?_)) ?_
   ·go_simp
   ·exact(C6 W' (kB BS.out hW)).mono fun e w2 h2=>⟨h2.1,bT hW h2.2,h2.2⟩
   try simp only[puts]
   refine AnyOrder.obs_cons (.func (.func 43) #[] #[.pointer (some ⟨gs,0,none⟩)]) rfl (AnyOrder.ob_quiet (d:=84) rfl (show (84:Nat) < 102 by omega) rfl rfl same (fun _=>by first|exact⟨_,rfl⟩|exact⟨pure _,rfl⟩) ?_) ?_
   ·go_big_quiet_op;first|rfl|exact⟨_,fun _ _=>rfl,rfl⟩
   try simp only[puts]
   refine AnyOrder.obs_cons (.int .i64 g7) rfl (AnyOrder.ob_call rfl rfl rfl 43 #[.int .i64 18,.int .i64 2,.pointer (some ⟨gs,0,none⟩)] (fun W' hW=>?_) (fun W' hW=>?_)) ?_
   ·go_simp
   ·exact(C7 W' (kB BS.out hW)).mono fun e w2 h2=>⟨h2.1,bT hW h2.2,h2.2⟩
   try simp only[puts]
   refine AnyOrder.obs_cons (.agg #[.int .i64 m,.int .i64 sc,.int .i64 st,.int .i64 ec,.bool sd,.bool sk,.bool sp,.slice Ao ln co]) rfl (AnyOrder.ob_quiet (d:=86) rfl (show (86:Nat) < 102 by omega) rfl rfl same (fun _=>by first|exact⟨_,rfl⟩|exact⟨pure _,rfl⟩) ?_) ?_
   ·refine⟨_,fun W' hW=>?_,rfl⟩;obtain⟨ho0,ho1,ho2,ho3,ho4,ho5,ho6,ho7⟩:=blk_cells8 (kB BO.out hW);unfold Oper.quietAt;go_simp;first|done|rfl|exact⟨rfl,rfl⟩
   try simp only[puts]
   refine AnyOrder.obs_cons (.string s) rfl (AnyOrder.ob_quiet (d:=87) rfl (show (87:Nat) < 102 by omega) rfl rfl same (fun _=>by first|exact⟨_,rfl⟩|exact⟨pure _,rfl⟩) ?_) ?_
   ·refine⟨_,fun W' hW=>?_,rfl⟩;have hcz:=(kC (kB BS.out hW) 0).trans rfl;unfold Oper.quietAt;go_simp;first|done|rfl|exact⟨rfl,rfl⟩
   try simp only[puts]
   refine AnyOrder.obs_cons (.int .i64 hd) rfl (AnyOrder.ob_quiet (d:=88) rfl (show (88:Nat) < 102 by omega) rfl rfl same (fun _=>by first|exact⟨_,rfl⟩|exact⟨pure _,rfl⟩) ?_) ?_
   ·go_big_quiet_op;first|rfl|exact⟨_,fun _ _=>rfl,rfl⟩
   try simp only[puts]
   refine AnyOrder.obs_cons (.string (cutS s hd.toNat s.size)) rfl (AnyOrder.ob_plain rfl rfl same rfl (fun W' hW=>slice_from Try.underlying9 rfl rfl rfl (by have:=HD.out;omega) HD.out.2)) ?_
   try simp only[puts]
   refine AnyOrder.obs_cons (.agg #[.int .i64 g1,.int .i64 g2,.int .i64 g3,.int .i64 g4,.int .i64 g5,.int .i64 g6,.int .i64 g7,.int .i64 m,.int .i64 sc,.int .i64 st,.int .i64 ec,.bool sd,.bool sk,.bool sp,.slice Ao ln co,.string (cutS s hd.toNat s.size)]) rfl (AnyOrder.ob_quiet (d:=90) rfl (show (90:Nat) < 102 by omega) rfl rfl same (fun _=>by first|exact⟨_,rfl⟩|exact⟨pure _,rfl⟩) ?_) ?_
   ·go_big_quiet_op;first|rfl|exact⟨_,fun _ _=>rfl,rfl⟩
   try simp only[puts]
   refine AnyOrder.obs_cons (x 19) rfl (AnyOrder.ob_token rfl rfl (fun W' hW=>⟨.pointer (some ⟨W'.heap.size,0,none⟩),W'.alloc (.cells #[.int .i64 0,.int .i64 0,.int .i64 0,.int .i64 0,.int .i64 0,.int .i64 0,.int .i64 0,.int .i64 0,.int .i64 0,.int .i64 0,.int .i64 0,.bool false,.bool false,.bool false,.slice none 0 0,.string (⟨#[]⟩:ByteArray)] 26 (0,0)),by first|(go_simp;done)|(go_simp;rfl),bA hW _,bA (Below.refl _ _) _,W'.heap.size,rfl,bZ hW,blk_new _ _⟩)) ?_
   try simp only[puts]
   trivial
  case fin =>
   intro x W hW hR
   simp only[List.take_succ_cons,List.take_zero,List.drop_succ_cons,List.drop_zero]
   rw[AnyOrder.lexAt_cons (.func (.func 43) #[] #[.pointer (some ⟨gs,0,none⟩)]) rfl]
   try simp only[puts]
   rw[AnyOrder.lexAt_cons (.int .i64 g1) rfl]
   try simp only[puts]
   rw[AnyOrder.lexAt_cons (.func (.func 43) #[] #[.pointer (some ⟨gs,0,none⟩)]) rfl]
   try simp only[puts]
   rw[AnyOrder.lexAt_cons (.int .i64 g2) rfl]
   try simp only[puts]
   rw[AnyOrder.lexAt_cons (.func (.func 43) #[] #[.pointer (some ⟨gs,0,none⟩)]) rfl]
   try simp only[puts]
   rw[AnyOrder.lexAt_cons (.int .i64 g3) rfl]
   try simp only[puts]
   rw[AnyOrder.lexAt_cons (.func (.func 43) #[] #[.pointer (some ⟨gs,0,none⟩)]) rfl]
   try simp only[puts]
   rw[AnyOrder.lexAt_cons (.int .i64 g4) rfl]
   try simp only[puts]
   rw[AnyOrder.lexAt_cons (.func (.func 43) #[] #[.pointer (some ⟨gs,0,none⟩)]) rfl]
   try simp only[puts]
   rw[AnyOrder.lexAt_cons (.int .i64 g5) rfl]
   try simp only[puts]
   rw[AnyOrder.lexAt_cons (.func (.func 43) #[] #[.pointer (some ⟨gs,0,none⟩)]) rfl]
   try simp only[puts]
   rw[AnyOrder.lexAt_cons (.int .i64 g6) rfl]
   try simp only[puts]
   rw[AnyOrder.lexAt_cons (.func (.func 43) #[] #[.pointer (some ⟨gs,0,none⟩)]) rfl]
   try simp only[puts]
   rw[AnyOrder.lexAt_cons (.int .i64 g7) rfl]
   try simp only[puts]
   rw[AnyOrder.lexAt_cons (.agg #[.int .i64 m,.int .i64 sc,.int .i64 st,.int .i64 ec,.bool sd,.bool sk,.bool sp,.slice Ao ln co]) rfl]
   try simp only[puts]
   rw[AnyOrder.lexAt_cons (.string s) rfl]
   try simp only[puts]
   rw[AnyOrder.lexAt_cons (.int .i64 hd) rfl]
   try simp only[puts]
   rw[AnyOrder.lexAt_cons (.string (cutS s hd.toNat s.size)) rfl]
   try simp only[puts]
   rw[AnyOrder.lexAt_cons (.agg #[.int .i64 g1,.int .i64 g2,.int .i64 g3,.int .i64 g4,.int .i64 g5,.int .i64 g6,.int .i64 g7,.int .i64 m,.int .i64 sc,.int .i64 st,.int .i64 ec,.bool sd,.bool sk,.bool sp,.slice Ao ln co,.string (cutS s hd.toNat s.size)]) rfl]
   try simp only[puts]
   rw[AnyOrder.lexAt_cons (x 19) rfl]
   try simp only[puts]
   rw[AnyOrder.lexAt_nil]
   obtain⟨gp,hx,hge,hbp⟩:=hR 19 _ 15 (by omega) rfl rfl rfl
   rw[hx]
   clear hR same
   generalize hQQ:Exit.then _ _=QQ
   go_wp2_with (first|((with_reducible refine gate_store (t:=26) rfl ?_);refine store_big rfl 26 _ _ rfl _ _ rfl rfl 26 _ (hbp) (by kernel_rfl) (by rfl) (by rfl) _ (by simp only[World.setCells,Nat.reduceAdd];rfl) ?_;simp only[puts]))
   generalize hq:World.setCell _ _ _=W7
   have hb7:Below W6.heap.size W6 W7:=by rw[← hq];repeat(first|(with_reducible exact hW)|(with_reducible refine bS ?_ hge))
   have BP:=mkA (show W7.heap[gp]?=some (.cells #[.int .i64 g1,.int .i64 g2,.int .i64 g3,.int .i64 g4,.int .i64 g5,.int .i64 g6,.int .i64 g7,.int .i64 m,.int .i64 sc,.int .i64 st,.int .i64 ec,.bool sd,.bool sk,.bool sp,.slice Ao ln co,.string (cutS s hd.toNat s.size)] 26 (0,0)) from by rw[← hq];exact(seg_Decode.out (by rfl) hbp).1)
   subst hQQ
   have NPS:=mkA (Nat.ne_of_lt (Nat.lt_of_lt_of_le (blk_lt BS.out) hge))
   have NPR:=mkA (Nat.ne_of_lt (Nat.lt_of_lt_of_le (blk_lt BR.out) hge))
   have GP:=mkA (Nat.le_trans (bZ HB.out) hge)
   clear hq hx hW hbp hge C1 C2 C3 C4 C5 C6 C7
   have n0_:=mkA (bT HB.out hb7);have n1_:=mkA (kB BS.out hb7);have n2_:=mkA (kB BR.out hb7);have n3_:=mkA (Kd.R_below RO.out hb7);clear HB BS BR RO;have HB:=n0_;have BS:=n1_;have BR:=n2_;have RO:=n3_;clear n0_ n1_ n2_ n3_
   clear hb7 BO
   have hsc0:W7.cell? ⟨gs,0,none⟩=some (.string s):=(kC BS.out 0).trans rfl
   have H:=HT.out
   clear HT
   try dsimp only at H
   by_cases c7:Go.bits .and .u8 (bt s 12) 15 > 0
   ·rw[if_pos c7] at H
    simp only[Option.some.injEq,Prod.mk.injEq] at H
    obtain⟨rfl,rfl,rfl,rfl,rfl,rfl,rfl,rfl,rfl,rfl,rfl,rfl,rfl,rfl,rfl,rfl,rfl⟩:=H
    have d7:decide (0 < Go.bits .and .u8 (bt s 12) 15)=true:=decide_eq_true c7
    go_wp2_with (first|((with_reducible refine gate_store (t:=26) rfl ?_);refine store_big rfl 26 _ _ rfl _ _ rfl rfl 26 _ (BR.out) (by kernel_rfl) (by rfl) (by rfl) _ (by simp only[World.setCells,Nat.reduceAdd];rfl) ?_;simp only[puts]))
    refine bodyPost_ret (results_ct rfl _ _ gr 26 #[.int .i64 0,.int .i64 0,.int .i64 0,.int .i64 0,.int .i64 0,.int .i64 0,.int .i64 0,.int .i64 0,.int .i64 0,.int .i64 0,.int .i64 0,.bool false,.bool false,.bool false,.slice none 0 0,.string (⟨#[]⟩:ByteArray)] (0,0) _ rfl (seg_Decode.out (by rfl) BR.out).1 Try.underlying26 rfl (by kernel_rfl)) rfl ?_
    exact⟨_,rfl,Kd.R_nil _ _ _ _ _,by repeat(first|(with_reducible first|exact HB.out|apply bA|apply bN|apply bD|refine bS ?_ GR.out)|exact HB.out)⟩
   rw[if_neg c7] at H
   have d7:decide (0 < Go.bits .and .u8 (bt s 12) 15)=false:=decide_eq_false c7
   obtain⟨cc,hcc,H⟩:=Option.bind_eq_some_iff.mp H
   have HC:=mkA hcc
   have HT:=mkA H
   clear hcc H c7
   obtain⟨_,_,hvx,hlx,hCx⟩:=Kd.R_reads RO.out
   have HRX:=mkA RO.out
   clear hvx hlx hCx
   go_wp2_with (first|((with_reducible refine gate_load (t:=26) rfl ?_);refine gate_wanted ?hw (fun hw_=>?_);(case hw=>first|rfl|(go_simp;done));refine load_big hw_ 26 _ rfl _ rfl 26 _ (0,0) _ (BP.out) Try.underlying26 rfl (by kernel_rfl) ?_;clear hw_;simp only[puts]))
   have hck:=seg_Check.calls k g1 g2 g3 g4 g5 g6 g7 m sc st ec sd sk sp Ao co l (cutS s hd.toNat s.size) cc W7 (by have h:=(Kd.R_reads' (xs:=l) (by first|exact RO.out|(rw[LN.out];exact RO.out))).2.2;exact h) (by rw[LN.out];exact HLO.out) HC.out
   rw[LN.out] at hck
   refine hck.mono ?_
   rintro e W8 ⟨rfl,hW⟩
   clear hck hsc0
   have BP8:=mkA (kB BP.out hW);clear BP;have BP:=BP8;clear BP8
   have n0_:=mkA (bT HB.out hW);have n1_:=mkA (kB BS.out hW);have n2_:=mkA (kB BR.out hW);have n3_:=mkA (Kd.R_below RO.out hW);clear HB BS BR RO;have HB:=n0_;have BS:=n1_;have BR:=n2_;have RO:=n3_;clear n0_ n1_ n2_ n3_
   clear hW
   have H:=HT.out
   clear HT
   by_cases c8:cc=0
   case neg =>
    rw[if_neg c8] at H
    simp only[Option.some.injEq,Prod.mk.injEq] at H
    obtain⟨rfl,rfl,rfl,rfl,rfl,rfl,rfl,rfl,rfl,rfl,rfl,rfl,rfl,rfl,rfl,rfl,rfl⟩:=H
    have d8:(cc != 0)=true:=bne_iff_ne.mpr c8
    go_wp2_with (first|((with_reducible refine gate_store (t:=26) rfl ?_);refine store_big rfl 26 _ _ rfl _ _ rfl rfl 26 _ (BR.out) (by kernel_rfl) (by rfl) (by rfl) _ (by simp only[World.setCells,Nat.reduceAdd];rfl) ?_;simp only[puts]))
    refine bodyPost_ret (results_ct rfl _ _ gr 26 #[.int .i64 0,.int .i64 0,.int .i64 0,.int .i64 0,.int .i64 0,.int .i64 0,.int .i64 0,.int .i64 0,.int .i64 0,.int .i64 0,.int .i64 0,.bool false,.bool false,.bool false,.slice none 0 0,.string (⟨#[]⟩:ByteArray)] (0,0) _ rfl (seg_Decode.out (by rfl) BR.out).1 Try.underlying26 rfl (by kernel_rfl)) rfl ?_
    exact⟨_,rfl,Kd.R_nil _ _ _ _ _,by repeat(first|(with_reducible first|exact HB.out|apply bA|apply bN|apply bD|refine bS ?_ GR.out)|exact HB.out)⟩
   rw[if_pos c8] at H
   simp only[Option.some.injEq,Prod.mk.injEq] at H
   obtain⟨rfl,rfl,rfl,rfl,rfl,rfl,rfl,rfl,rfl,rfl,rfl,rfl,rfl,rfl,rfl,rfl,rfl⟩:=H
   have d8:(cc != 0)=false:=bne_eq_false_iff_eq.mpr c8
   clear c8
   go_wp2_with (first|((with_reducible refine gate_load (t:=26) rfl ?_);refine gate_wanted ?hw (fun hw_=>?_);(case hw=>first|rfl|(go_simp;done));refine load_big hw_ 26 _ rfl _ rfl 26 _ (0,0) _ (BP.out) Try.underlying26 rfl (by kernel_rfl) ?_;clear hw_;simp only[puts])|((with_reducible refine gate_store (t:=26) rfl ?_);refine store_big rfl 26 _ _ rfl _ _ rfl rfl 26 _ (BR.out) (by kernel_rfl) (by rfl) (by rfl) _ (by simp only[World.setCells,Nat.reduceAdd];rfl) ?_;simp only[puts]))
   refine bodyPost_ret (results_ct rfl _ _ gr 26 #[.int .i64 g1,.int .i64 g2,.int .i64 g3,.int .i64 g4,.int .i64 g5,.int .i64 g6,.int .i64 g7,.int .i64 m,.int .i64 sc,.int .i64 st,.int .i64 ec,.bool sd,.bool sk,.bool sp,.slice Ao ln co,.string (cutS s hd.toNat s.size)] (0,0) _ rfl (seg_Decode.out (by rfl) BR.out).1 Try.underlying26 rfl (by kernel_rfl)) rfl ?_
   exact⟨_,rfl,(seg_Decode.out (by rfl) BR.out).2 _ _ _ RO.out,by repeat(first|(with_reducible first|exact HB.out|apply bA|apply bN|apply bD|refine bS ?_ GR.out)|exact HB.out)⟩


/-! ### sternpostref08_Has: function 21 -/
def sternpostref08_Has.f (a0_0:Int) (a0_1:Int) (a0_2:Int) (a0_3:Int) (a0_4:Int) (a0_5:Int) (a0_6:Int) (a0_7:Int) (a0_8:Int) (a0_9:Int) (a0_10:Int) (a0_11:Bool) (a0_12:Bool) (a0_13:Bool) (l0_14:List (S73)) (a0_15:ByteArray) (a1:Int):Option (Bool):=some ((Go.bits .and .i64 a0_4 a1) == a1)
set_option maxHeartbeats 8000000 in
set_option maxRecDepth 100000 in
theorem sternpostref08_Has.calls (a0_0:Int) (a0_1:Int) (a0_2:Int) (a0_3:Int) (a0_4:Int) (a0_5:Int) (a0_6:Int) (a0_7:Int) (a0_8:Int) (a0_9:Int) (a0_10:Int) (a0_11:Bool) (a0_12:Bool) (a0_13:Bool) (A0_14:Option Addr) (c0_14:Nat) (l0_14:List (S73)) (a0_15:ByteArray) (a1:Int) (r:Bool) (w:World) (hr0_14:Kd.C k73 w A0_14 l0_14.length l0_14) (hc0_14:l0_14.length≤c0_14) (h:sternpostref08_Has.f a0_0 a0_1 a0_2 a0_3 a0_4 a0_5 a0_6 a0_7 a0_8 a0_9 a0_10 a0_11 a0_12 a0_13 l0_14 a0_15 a1=some r) :
  Calls Try.prog 21 #[.agg #[.int .i64 a0_0,.int .i64 a0_1,.int .i64 a0_2,.int .i64 a0_3,.int .i64 a0_4,.int .i64 a0_5,.int .i64 a0_6,.int .i64 a0_7,.int .i64 a0_8,.int .i64 a0_9,.int .i64 a0_10,.bool a0_11,.bool a0_12,.bool a0_13,.slice A0_14 l0_14.length c0_14,.string a0_15],.int .i64 a1] w fun e w'=>e=.returned (.bool r)∧Below w.heap.size w w':=by
 have hu26:=Try.underlying26
 have HR0_14:=mkA hr0_14
 have HC0_14:=mkA hc0_14
 clear hr0_14 hc0_14
 have HB:=mkA (Below.refl w.heap.size w)
 have H:(some ((Go.bits .and .i64 a0_4 a1) == a1))=some r:=h
 clear h
 obtain rfl:=Option.some.inj H
 go_enter Try.func21,Try.ntmps21
 go_wp2_with (first|((with_reducible refine gate_dst (N:=2) rfl ?_);refine box_event ?hg (N:=2) ?hd (cs:=#[.int .i64 a0_0,.int .i64 a0_1,.int .i64 a0_2,.int .i64 a0_3,.int .i64 a0_4,.int .i64 a0_5,.int .i64 a0_6,.int .i64 a0_7,.int .i64 a0_8,.int .i64 a0_9,.int .i64 a0_10,.bool a0_11,.bool a0_12,.bool a0_13,.slice A0_14 l0_14.length c0_14,.string a0_15]) (t:=26) ?hr ?_;(case hd=>rfl);(case hg=>rfl);(case hr=>first|(go_simp;done)|(go_simp;rfl));intro gb201 hg w3 hbox hb;have n0_:=mkA (bT (by repeat(first|(with_reducible first|exact HB.out|apply bA|apply bN|apply bD)|exact HB.out)) hb);have n1_:=mkA (hbox);have n2_:=mkA ((by rw[hg];exact(bZ (by repeat(first|(with_reducible first|exact HB.out|apply bA|apply bN|apply bD)|exact HB.out))):w.heap.size≤gb201));have n3_:=mkA ((by rw[hg];exact(bZ (by repeat(first|(with_reducible first|exact HB.out|apply bA|apply bN|apply bD)|exact HB.out))):w.heap.size≤gb201));clear HB;have HB:=n0_;have BK201:=n1_;have GW201:=n2_;have GE201:=n3_;clear n0_ n1_ n2_ n3_;clear hb hbox hg;obtain⟨hcz4_0,hcz4_1,hcz4_2,hcz4_3,hcz4_4,hcz4_5,hcz4_6,hcz4_7,hcz4_8,hcz4_9,hcz4_10,hcz4_11,hcz4_12,hcz4_13,hcz4_14,hcz4_15⟩:=blk_cells16 BK201.out;obtain⟨hfz4_0,hfz4_1,hfz4_2,hfz4_3,hfz4_4,hfz4_5,hfz4_6,hfz4_7,hfz4_8,hfz4_9,hfz4_10,hfz4_11,hfz4_12,hfz4_13,hfz4_14,hfz4_15⟩:=blk_frozens16 BK201.out))
 go_ret
 exact⟨by first|rfl|(simp[errW_none,errW_some] <;> rfl)|(simp[*,errW_none,errW_some] <;> rfl),by repeat(first|(with_reducible first|exact HB.out|apply bA|apply bN|apply bD|refine bS ?_ GE201.out)|exact HB.out)⟩

/-! ### sternpostref01_Check: function 37 -/
def sternpostref01_Check.f (a0:Int):Option (Int):=if a0 < 0 then (some 1) else (if a0 > 4294967295 then (some 1) else (some 0))
set_option maxHeartbeats 8000000 in
set_option maxRecDepth 100000 in
theorem sternpostref01_Check.calls (a0:Int) (r:Int) (w:World) (h:sternpostref01_Check.f a0=some r) :
  Calls Try.prog 37 #[.int .i64 a0] w fun e w'=>e=.returned (.int .i64 r)∧Drawn0 w w':=by
 have H:(if a0 < 0 then (some 1) else (if a0 > 4294967295 then (some 1) else (some 0)))=some r:=h
 clear h
 by_cases c2:a0 < 0
 ·rw[if_pos c2] at H
  have c2b0:decide (a0 < 0)=true:=decide_eq_true c2
  clear c2
  obtain rfl:=Option.some.inj H
  go_enter Try.func37,Try.ntmps37
  go_wp2
  go_ret
  exact⟨by first|rfl|(simp;done)|(simp[*];done),by repeat(first|exact Drawn0.refl _|apply Drawn0.step)⟩
 ·rw[if_neg c2] at H
  have c2b0:decide (a0 < 0)=false:=decide_eq_false c2
  clear c2
  by_cases c3:a0 > 4294967295
  ·rw[if_pos c3] at H
   have c3b0:decide (4294967295 < a0)=true:=decide_eq_true c3
   clear c3
   obtain rfl:=Option.some.inj H
   go_enter Try.func37,Try.ntmps37
   go_wp2
   go_ret
   exact⟨by first|rfl|(simp;done)|(simp[*];done),by repeat(first|exact Drawn0.refl _|apply Drawn0.step)⟩
  ·rw[if_neg c3] at H
   have c3b0:decide (4294967295 < a0)=false:=decide_eq_false c3
   clear c3
   obtain rfl:=Option.some.inj H
   go_enter Try.func37,Try.ntmps37
   go_wp2
   go_ret
   exact⟨by first|rfl|(simp;done)|(simp[*];done),by repeat(first|exact Drawn0.refl _|apply Drawn0.step)⟩

/-! ### sternpostref02_Text: function 55 -/
def sternpostref02_Text.l0:Nat→Int→List Int→Int→Option (ByteArray)
 | 0,_,_,_=>none
 | k+1,x0,x5,x6=>if x6≥0 then (if 0≤(wrap64 (8 * x6)) then (if x5.length < 140737488355328 then (sternpostref02_Text.l0 k x0 (x5++[(shr .i64 x0 (wrap64 (8 * x6))) % 256]) (wrap64 (x6 - 1))) else (none)) else (none)) else (some (strOfNums x5))
def sternpostref02_Text.f (k:Nat) (a0:Int) (a1:Int):Option (ByteArray):=sternpostref02_Text.l0 k a0 ([]:List Int) (wrap64 (a1 - 1))
theorem sternpostref02_Text.mono_l:∀ k,(∀ y0 y1 y2,LeO (sternpostref02_Text.l0 k y0 y1 y2) (sternpostref02_Text.l0 (k+1) y0 y1 y2))
 | 0=>fun _ _ _ r h=>by simp[sternpostref02_Text.l0] at h
 | k+1=>by
  have ih0:=sternpostref02_Text.mono_l k
  ·intro y0 y1 y2
   unfold sternpostref02_Text.l0
   repeat' first
   | (with_reducible exact ih0 _ _ _)
   | (with_reducible exact LeO.refl _)
   | (with_reducible exact LeO.none _)
   | (with_reducible refine LeO.ite ?_ ?_)
   | (with_reducible refine LeO.bind ?_ (fun _=>?_))
   | exact ih0 _ _ _
   | exact LeO.none _
   | refine LeO.ite ?_ ?_
   | refine LeO.bind ?_ (fun _=>?_)
theorem sternpostref02_Text.mono:∀ a0 a1 k,LeO (sternpostref02_Text.f k a0 a1) (sternpostref02_Text.f (k+1) a0 a1):=by
 intro a0 a1 k
 have ih0:=sternpostref02_Text.mono_l k
 unfold sternpostref02_Text.f
 repeat' first
   | (with_reducible exact ih0 _ _ _)
   | (with_reducible exact LeO.refl _)
   | (with_reducible exact LeO.none _)
   | (with_reducible refine LeO.ite ?_ ?_)
   | (with_reducible refine LeO.bind ?_ (fun _=>?_))
   | exact ih0 _ _ _
   | exact LeO.none _
   | refine LeO.ite ?_ ?_
   | refine LeO.bind ?_ (fun _=>?_)
set_option maxHeartbeats 8000000 in
set_option maxRecDepth 100000 in
theorem sternpostref02_Text.calls (k:Nat) (a0:Int) (a1:Int) (r:ByteArray) (w:World) (h:sternpostref02_Text.f k a0 a1=some r) :
  Calls Try.prog 55 #[.int .i64 a0,.int .i64 a1] w fun e w'=>e=.returned (.string r)∧Below w.heap.size w w':=by
 have HB:=mkA (Below.refl w.heap.size w)
 have H:(sternpostref02_Text.l0 k a0 ([]:List Int) (wrap64 (a1 - 1)))=some r:=h
 clear h
 have H':=mkA H
 clear H
 go_enter Try.func55,Try.ntmps55
 go_wp2
 go_loopg [5,6] k (fun kq v5 v6 w'=>∃ (x5_1:List Int) (x6_1:Int),v6=.int .i64 x6_1∧Aside0 (sternpostref02_Text.l0 kq a0 x5_1 x6_1=some r)∧Aside0 (kq≤k)∧Aside0 (Kd.R (Kd.int .u8) 5 w' w.heap.size (fun _=>True) v5 x5_1)∧Aside0 (Below w.heap.size w w'))
 case atStart=>exact⟨(([]:List Int)),(wrap64 (a1 - 1)),(by first|rfl|(simp;done)|(simp[*];done)),H',⟨Nat.le_refl _⟩,⟨by first|exact Kd.R_nil _ _ _ _ _|exact Kd.N_nil _ _ _ _ _|exact Kd.V_nil _ _ _ _ _|exact Kd.Q_nil _ _ _ _ _|exact Kd.S_nil _ _ _ _ _⟩,⟨by repeat(first|(with_reducible first|exact HB.out|apply bA|apply bN|apply bD)|exact HB.out)⟩⟩
 case round =>
  clear H'
  try clear p2
  obtain⟨x5_1,x6_1,rfl,HA,HK1,HO_5,HB⟩:=hrel
  cases gk with
  | zero=>exact absurd HA.out (by simp[sternpostref02_Text.l0])
  | succ k1 =>
   have H:=HA.out
   clear HA
   simp only[sternpostref02_Text.l0] at H
   by_cases c3:x6_1≥0
   ·rw[if_pos c3] at H
    have c3b0:decide (0≤x6_1)=true:=decide_eq_true c3
    clear c3
    obtain⟨ji4,hji4⟩:∃ j_:Int,(wrap64 (8 * x6_1))=j_:=⟨_,rfl⟩
    replace H:(if 0≤(ji4) then (if x5_1.length < 140737488355328 then (sternpostref02_Text.l0 k1 a0 (x5_1++[(shr .i64 a0 (ji4)) % 256]) (wrap64 (x6_1 - 1))) else (none)) else (none))=some r:=by first|(rw[hji4] at H;exact H)|(simp only[hji4] at H ⊢;exact H)
    have hji4w:(IntKind.i64.wrap (8 * x6_1))=ji4:=(i64_w _).trans hji4
    by_cases c5:0≤(ji4)
    ·rw[if_pos c5] at H
     have c5b0:=eq_true c5
     have c5b1:decide (0≤(ji4))=true:=decide_eq_true c5
     clear c5
     obtain⟨ji6,hji6⟩:∃ j_:Int,(shr .i64 a0 (ji4))=j_:=⟨_,rfl⟩
     replace H:(if x5_1.length < 140737488355328 then (sternpostref02_Text.l0 k1 a0 (x5_1++[(ji6) % 256]) (wrap64 (x6_1 - 1))) else (none))=some r:=by first|(rw[hji6] at H;exact H)|(simp only[hji6] at H ⊢;exact H)
     have hji6_:(a0 / 2 ^ min (ji4).toNat 64)=ji6:=hji6
     have hji6z:(ji4)≤64→(a0 / 2 ^ (ji4).toNat)=ji6:=shr_small hji6
     by_cases c7:x5_1.length < 140737488355328
     ·rw[if_pos c7] at H
      have LMc7:=mkA c7
      clear c7
      obtain⟨y202,hy202⟩:∃ y_:List Int,y_=(x5_1++[(ji6) % 256]):=⟨_,rfl⟩
      replace H:(sternpostref02_Text.l0 k1 a0 y202 (wrap64 (x6_1 - 1)))=some r:=by first|(rw[hy202];with_reducible exact H)|(have H2_:=(Option.bind_some _ _).symm.trans H;rw[hy202];with_reducible exact H2_)|(have H2_:=(Option.bind_some _ _).symm.trans H;with_reducible exact H2_)|with_reducible exact H|(rw[hy202];exact H)|exact H
      have Ny202:=mkA hy202
      clear hy202
      have H':=mkA H
      clear H
      go_wp2_with (first|((with_reducible refine gate_builtin (b:=.append) (xs:=#[.tmp 13,.tmp 19]) rfl ?_);at_builtin;refine Kd.R_append (Kd.int .u8) (w0:=w) w.heap.size rfl (.tmp 13) (.tmp 19) 49 5 (.int .u8 0) 1 rfl Try.underlying49 info5 rfl (by decide) (by omega) u5 x5_1 ((ji6) % 256) [.int .u8 ((ji6) % 256)] (fun _=>True) (fun _=>False) rfl rfl ?aP (fun _ hk=>hk.elim) ?aF ?aO ?aB ?aS ?aL ?_;(case aP=>exact rfl);(case aB=>exact(by repeat(first|(with_reducible first|exact HB.out|apply bA|apply bN|apply bD)|exact HB.out)));(case aF=>exact(fun _ _=>trivial));(case aO=>exact(by(with_reducible repeat(first|apply Kd.R_alloc|apply Kd.R_drewN|apply Kd.R_drew));exact HO_5.out));(case aS=>exact(bZ (by repeat(first|(with_reducible first|exact HB.out|apply bA|apply bN|apply bD)|exact HB.out))));(case aL=>have:=LMc7.out;omega);intro v203 w8 ho hb hg hat;rw[← Ny202.out] at ho;have n0_:=mkA (hb);have n1_:=mkA (ho);clear HB;clear HO_5;have HB:=n0_;have HO204:=n1_;clear n0_ n1_;clear ho hb hg hat))
      go_roundg k1
      case measure=>have:=HK1.out;omega
      case rel=>exact⟨(y202),(wrap64 (x6_1 - 1)),(by first|rfl|(simp;done)|(simp[*];done)),(by first|exact H'|(simp only[hji4,hji6];exact H')),⟨by have:=HK1.out;omega⟩,⟨by(with_reducible repeat(first|apply Kd.R_alloc|apply Kd.R_drewN|apply Kd.R_drew));exact HO204.out⟩,⟨by repeat(first|(with_reducible first|exact HB.out|apply bA|apply bN|apply bD)|exact HB.out)⟩⟩
     ·rw[if_neg c7] at H
      exact absurd H (by simp)
    ·rw[if_neg c5] at H
     exact absurd H (by simp)
   ·rw[if_neg c3] at H
    have c3b0:decide (0≤x6_1)=false:=decide_eq_false c3
    clear c3
    obtain rfl:=Option.some.inj H
    have hcv9:=own_string (P:=Try.prog) Try.underlying49 Try.underlying5 Try.underlying9 (Kd.own_of_R HO_5.out)
    go_wp2
    go_ret
    exact⟨by first|rfl|(simp[errW_none,errW_some] <;> rfl)|(simp[*,errW_none,errW_some] <;> rfl),by repeat(first|(with_reducible first|exact HB.out|apply bA|apply bN|apply bD)|exact HB.out)⟩

end Go.Proofs.Ytakajeoeijnmhaa.PSegReads

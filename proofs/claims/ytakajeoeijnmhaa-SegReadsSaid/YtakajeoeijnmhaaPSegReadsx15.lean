-- Laid by this claim's own program over the print's words.
import Derived.Test.YtakajeoeijnmhaaPSegReadsx0
import Derived.Test.YtakajeoeijnmhaaPSegReadsx11
import Derived.Test.YtakajeoeijnmhaaPSegReadsx14
namespace Go.Proofs.Ytakajeoeijnmhaa.PSegReads
open Go.RowKit Go.Proofs.YtakajeoeijnmhaaW.PrintWords Go.Proofs.YtakajeoeijnmhaaW.PrintLast Go.Proofs.YtakajeoeijnmhaaW.PrintMore
attribute [local go_sem] max2_int min2_int max_two min_two max_three min_three max_four min_four max_five min_five extract_cut tmod_nat_lit   -- for this text's walks alone
set_option linter.unusedVariables false
set_option linter.unusedSimpArgs false

/-! ### sternpostref08_Check: function 19 -/
def sternpostref08_Check_tail.f (k:Nat) (c0 c1 c2 c3 c4 c5 c6 c7 c8 c9 c10:Int) (c11 c12 c13:Bool) (c14:List S73) (c15:ByteArray):Option Int :=
 (sternpostref01_Check.f c2).bind fun e1=>if e1=0 then (sternpostref01_Check.f c3).bind fun e2=>if e2=0 then if c4 < 0 then some 80 else if c4 > 63 then some 80 else
  (sternpostref08_Has.f c0 c1 c2 c3 c4 c5 c6 c7 c8 c9 c10 c11 c12 c13 c14 c15 16).bind fun h1=>if h1=true∨c3=0 then (sternpostref08_Has.f c0 c1 c2 c3 c4 c5 c6 c7 c8 c9 c10 c11 c12 c13 c14 c15 32).bind fun h2=>if h2=true∨c6=0 then
   (sternpostref07_Check.f k c7 c8 c9 c10 c11 c12 c13 c14).bind fun e3=>if e3=0 then if (c15.size:Int) > 1480 then some 80 else some 0 else some 80 else some 80 else some 80 else some 80 else some 80
theorem sternpostref08_Check_tail.mono (c0 c1 c2 c3 c4 c5 c6 c7 c8 c9 c10:Int) (c11 c12 c13:Bool) (c14:List S73) (c15:ByteArray) (k:Nat):LeO (sternpostref08_Check_tail.f k c0 c1 c2 c3 c4 c5 c6 c7 c8 c9 c10 c11 c12 c13 c14 c15) (sternpostref08_Check_tail.f (k+1) c0 c1 c2 c3 c4 c5 c6 c7 c8 c9 c10 c11 c12 c13 c14 c15):=by
 unfold sternpostref08_Check_tail.f
 exact LeO.bind (LeO.refl _) fun _=>LeO.ite (LeO.bind (LeO.refl _) fun _=>LeO.ite (LeO.ite (LeO.refl _) (LeO.ite (LeO.refl _) (LeO.bind (LeO.refl _) fun _=>LeO.ite (LeO.bind (LeO.refl _) fun _=>LeO.ite (LeO.bind (sternpostref07_Check.mono _ _ _ _ _ _ _ _ _) fun _=>LeO.refl _) (LeO.refl _)) (LeO.refl _)))) (LeO.refl _)) (LeO.refl _)

def sternpostref08_Check.l0:Nat→List Int→Int→Int→Int→Int→Int→Int→Int→Int→Int→Int→Int→Int→Bool→Bool→Bool→List (S73)→ByteArray→Option (Int)
 | 0,_,_,_,_,_,_,_,_,_,_,_,_,_,_,_,_,_,_=>none
 | k+1,x3,x4,x228000,x228001,x228002,x228003,x228004,x228005,x228006,x228007,x228008,x228009,x228010,x228011,x228012,x228013,x228014,x228015=>if x4 < (x3.length:Int) then (if 0≤x4 then (if (rd x3 x4) < 0 then (some 80) else (if (rd x3 x4) > 65535 then (some 80) else (sternpostref08_Check.l0 k x3 (wrap64 (x4+1)) x228000 x228001 x228002 x228003 x228004 x228005 x228006 x228007 x228008 x228009 x228010 x228011 x228012 x228013 x228014 x228015))) else (none)) else (sternpostref08_Check_tail.f k x228000 x228001 x228002 x228003 x228004 x228005 x228006 x228007 x228008 x228009 x228010 x228011 x228012 x228013 x228014 x228015)
def sternpostref08_Check.f (k:Nat) (a0_0:Int) (a0_1:Int) (a0_2:Int) (a0_3:Int) (a0_4:Int) (a0_5:Int) (a0_6:Int) (a0_7:Int) (a0_8:Int) (a0_9:Int) (a0_10:Int) (a0_11:Bool) (a0_12:Bool) (a0_13:Bool) (l0_14:List (S73)) (a0_15:ByteArray):Option (Int):=sternpostref08_Check.l0 k (([a0_0,a0_1,a0_5,a0_6]:List Int)) 0 a0_0 a0_1 a0_2 a0_3 a0_4 a0_5 a0_6 a0_7 a0_8 a0_9 a0_10 a0_11 a0_12 a0_13 l0_14 a0_15
theorem sternpostref08_Check.mono_l:∀ k,(∀ y0 y1 y2 y3 y4 y5 y6 y7 y8 y9 y10 y11 y12 y13 y14 y15 y16 y17,LeO (sternpostref08_Check.l0 k y0 y1 y2 y3 y4 y5 y6 y7 y8 y9 y10 y11 y12 y13 y14 y15 y16 y17) (sternpostref08_Check.l0 (k+1) y0 y1 y2 y3 y4 y5 y6 y7 y8 y9 y10 y11 y12 y13 y14 y15 y16 y17))
 | 0=>fun _ _ _ _ _ _ _ _ _ _ _ _ _ _ _ _ _ _ r h=>by simp[sternpostref08_Check.l0] at h
 | k+1=>by
  have ih0:=sternpostref08_Check.mono_l k
  ·intro y0 y1 y2 y3 y4 y5 y6 y7 y8 y9 y10 y11 y12 y13 y14 y15 y16 y17
   unfold sternpostref08_Check.l0
   repeat' first
   | (with_reducible exact ih0 _ _ _ _ _ _ _ _ _ _ _ _ _ _ _ _ _ _)
   | (with_reducible exact sternpostref08_Check_tail.mono _ _ _ _ _ _ _ _ _ _ _ _ _ _ _ _ _)
   | (with_reducible exact LeO.refl _)
   | (with_reducible exact LeO.none _)
   | (with_reducible refine LeO.ite ?_ ?_)
   | (with_reducible refine LeO.bind ?_ (fun _=>?_))
   | exact ih0 _ _ _ _ _ _ _ _ _ _ _ _ _ _ _ _ _ _
   | exact sternpostref08_Check_tail.mono _ _ _ _ _ _ _ _ _ _ _ _ _ _ _ _ _
   | exact LeO.none _
   | refine LeO.ite ?_ ?_
   | refine LeO.bind ?_ (fun _=>?_)
theorem sternpostref08_Check.mono:∀ a0 a1 a2 a3 a4 a5 a6 a7 a8 a9 a10 a11 a12 a13 a14 a15 k,LeO (sternpostref08_Check.f k a0 a1 a2 a3 a4 a5 a6 a7 a8 a9 a10 a11 a12 a13 a14 a15) (sternpostref08_Check.f (k+1) a0 a1 a2 a3 a4 a5 a6 a7 a8 a9 a10 a11 a12 a13 a14 a15):=by
 intro a0 a1 a2 a3 a4 a5 a6 a7 a8 a9 a10 a11 a12 a13 a14 a15 k
 have ih0:=sternpostref08_Check.mono_l k
 unfold sternpostref08_Check.f
 repeat' first
   | (with_reducible exact ih0 _ _ _ _ _ _ _ _ _ _ _ _ _ _ _ _ _ _)
   | (with_reducible exact sternpostref08_Check_tail.mono _ _ _ _ _ _ _ _ _ _ _ _ _ _ _ _ _)
   | (with_reducible exact LeO.refl _)
   | (with_reducible exact LeO.none _)
   | (with_reducible refine LeO.ite ?_ ?_)
   | (with_reducible refine LeO.bind ?_ (fun _=>?_))
   | exact ih0 _ _ _ _ _ _ _ _ _ _ _ _ _ _ _ _ _ _
   | exact sternpostref08_Check_tail.mono _ _ _ _ _ _ _ _ _ _ _ _ _ _ _ _ _
   | exact LeO.none _
   | refine LeO.ite ?_ ?_
   | refine LeO.bind ?_ (fun _=>?_)
set_option maxHeartbeats 8000000 in
set_option maxRecDepth 100000 in
theorem sternpostref08_Check.calls (k:Nat) (a0_0:Int) (a0_1:Int) (a0_2:Int) (a0_3:Int) (a0_4:Int) (a0_5:Int) (a0_6:Int) (a0_7:Int) (a0_8:Int) (a0_9:Int) (a0_10:Int) (a0_11:Bool) (a0_12:Bool) (a0_13:Bool) (A0_14:Option Addr) (c0_14:Nat) (l0_14:List (S73)) (a0_15:ByteArray) (r:Int) (w:World) (hr0_14:Kd.C k73 w A0_14 l0_14.length l0_14) (hc0_14:l0_14.length≤c0_14) (h:sternpostref08_Check.f k a0_0 a0_1 a0_2 a0_3 a0_4 a0_5 a0_6 a0_7 a0_8 a0_9 a0_10 a0_11 a0_12 a0_13 l0_14 a0_15=some r) :
  Calls Try.prog 19 #[.agg #[.int .i64 a0_0,.int .i64 a0_1,.int .i64 a0_2,.int .i64 a0_3,.int .i64 a0_4,.int .i64 a0_5,.int .i64 a0_6,.int .i64 a0_7,.int .i64 a0_8,.int .i64 a0_9,.int .i64 a0_10,.bool a0_11,.bool a0_12,.bool a0_13,.slice A0_14 l0_14.length c0_14,.string a0_15]] w fun e w'=>e=.returned (.int .i64 r)∧Below w.heap.size w w':=by
 have hu26:=Try.underlying26
 have hu24:=Try.underlying24
 have HR0_14:=mkA hr0_14
 have HC0_14:=mkA hc0_14
 clear hr0_14 hc0_14
 have HB:=mkA (Below.refl w.heap.size w)
 have H:(sternpostref08_Check.l0 k (([a0_0,a0_1,a0_5,a0_6]:List Int)) 0 a0_0 a0_1 a0_2 a0_3 a0_4 a0_5 a0_6 a0_7 a0_8 a0_9 a0_10 a0_11 a0_12 a0_13 l0_14 a0_15)=some r:=h
 clear h
 obtain⟨y228,hy228⟩:∃ y_:List Int,y_=(([a0_0,a0_1,a0_5,a0_6]:List Int)):=⟨_,rfl⟩
 replace H:(sternpostref08_Check.l0 k y228 0 a0_0 a0_1 a0_2 a0_3 a0_4 a0_5 a0_6 a0_7 a0_8 a0_9 a0_10 a0_11 a0_12 a0_13 l0_14 a0_15)=some r:=by first|(rw[hy228];with_reducible exact H)|(have H2_:=(Option.bind_some _ _).symm.trans H;rw[hy228];with_reducible exact H2_)|(have H2_:=(Option.bind_some _ _).symm.trans H;with_reducible exact H2_)|with_reducible exact H|(rw[hy228];exact H)|exact H
 have Ny228:=mkA hy228
 clear hy228
 have H':=mkA H
 clear H
 go_enter Try.func19,Try.ntmps19
 go_wp2_with (first|((with_reducible refine gate_dst (N:=1) rfl ?_);(try(refine gate_guard (by rfl) ?_;dsimp only));refine box_event ?hg (N:=1) ?hd (cs:=#[.int .i64 a0_0,.int .i64 a0_1,.int .i64 a0_2,.int .i64 a0_3,.int .i64 a0_4,.int .i64 a0_5,.int .i64 a0_6,.int .i64 a0_7,.int .i64 a0_8,.int .i64 a0_9,.int .i64 a0_10,.bool a0_11,.bool a0_12,.bool a0_13,.slice A0_14 l0_14.length c0_14,.string a0_15]) (t:=26) ?hr ?_;(case hd=>rfl);(case hg=>rfl);(case hr=>first|(go_simp;done)|(go_simp;rfl));intro gb227 hg w2 hbox hb;have n0_:=mkA (bT (by repeat(first|(with_reducible first|exact HB.out|apply bA|apply bN|apply bD)|exact HB.out)) hb);have n1_:=mkA (hbox);have n2_:=mkA ((by rw[hg];exact(bZ (by repeat(first|(with_reducible first|exact HB.out|apply bA|apply bN|apply bD)|exact HB.out))):w.heap.size≤gb227));have n3_:=mkA ((by rw[hg];exact(bZ (by repeat(first|(with_reducible first|exact HB.out|apply bA|apply bN|apply bD)|exact HB.out))):w.heap.size≤gb227));clear HB;have HB:=n0_;have BK227:=n1_;have GW227:=n2_;have GE227:=n3_;clear n0_ n1_ n2_ n3_;clear hb hbox hg;obtain⟨hcz3_0,hcz3_1,hcz3_2,hcz3_3,hcz3_4,hcz3_5,hcz3_6,hcz3_7,hcz3_8,hcz3_9,hcz3_10,hcz3_11,hcz3_12,hcz3_13,hcz3_14,hcz3_15⟩:=blk_cells16 BK227.out;obtain⟨hfz3_0,hfz3_1,hfz3_2,hfz3_3,hfz3_4,hfz3_5,hfz3_6,hfz3_7,hfz3_8,hfz3_9,hfz3_10,hfz3_11,hfz3_12,hfz3_13,hfz3_14,hfz3_15⟩:=blk_frozens16 BK227.out)|((with_reducible refine gate_dst (N:=13) rfl ?_);(try(refine gate_guard (by rfl) ?_;dsimp only));refine Kd.R_lit (Kd.int .i64) _ 3 ?hg (N:=13) ?hd (xs:=([a0_0,a0_1,a0_5,a0_6]:List Int)) (inner:=[.int .i64 a0_0,.int .i64 a0_1,.int .i64 a0_5,.int .i64 a0_6]) (ok:=fun _=>True) (okp:=fun _=>True) ?hr ?hp (fun _ hk=>hk) trivial (Below.refl _ _) (Nat.le_refl _) (by simp) ?_;(case hd=>rfl);(case hg=>rfl);(case hr=>first|(go_simp;done)|(go_simp;rfl));(case hp=>exact(Reps.one (show Kd.M (Kd.int .i64) _ _ _ a0_0 [.int .i64 a0_0] from rfl) (Reps.one (show Kd.M (Kd.int .i64) _ _ _ a0_1 [.int .i64 a0_1] from rfl) (Reps.one (show Kd.M (Kd.int .i64) _ _ _ a0_5 [.int .i64 a0_5] from rfl) (Reps.one (show Kd.M (Kd.int .i64) _ _ _ a0_6 [.int .i64 a0_6] from rfl) (Reps.none _ _))))));intro v229 w4 ho5 hb hg_ hnew_;clear hg_ hnew_;(first|rw[← Ny228.out] at ho5|(simp only[Int.reduceToNat] at ho5;rw[← Ny228.out] at ho5));have n0_:=mkA (Kd.R_lower ho5 (bZ (by repeat(first|(with_reducible first|exact HB.out|apply bA|apply bN|apply bD|refine bS ?_ GE227.out)|exact HB.out))));have n1_:=mkA (kB (g:=gb227) (o:=.cells #[.int .i64 a0_0,.int .i64 a0_1,.int .i64 a0_2,.int .i64 a0_3,.int .i64 a0_4,.int .i64 a0_5,.int .i64 a0_6,.int .i64 a0_7,.int .i64 a0_8,.int .i64 a0_9,.int .i64 a0_10,.bool a0_11,.bool a0_12,.bool a0_13,.slice A0_14 l0_14.length c0_14,.string a0_15] 26 (0,0)) (by(with_reducible repeat(first|refine kN ?_ _|refine kD ?_|refine kA ?_ _));exact BK227.out) hb);have n2_:=mkA (bT (by repeat(first|(with_reducible first|exact HB.out|apply bA|apply bN|apply bD|refine bS ?_ GE227.out)|exact HB.out)) hb);clear BK227;clear HB;have HO230:=n0_;have BK227:=n1_;have HB:=n2_;clear n0_ n1_ n2_;clear hb ho5))
 go_loopg [4] k (fun kq v4 w'=>∃ (x4_1:Int),v4=.int .i64 x4_1∧Aside0 (sternpostref08_Check.l0 kq y228 x4_1 a0_0 a0_1 a0_2 a0_3 a0_4 a0_5 a0_6 a0_7 a0_8 a0_9 a0_10 a0_11 a0_12 a0_13 l0_14 a0_15=some r)∧Aside0 (kq≤k)∧Aside0 (Kd.R (Kd.int .i64) 3 w' w.heap.size (fun _=>True) v229 y228)∧Aside0 (w'.heap[gb227]?=some (.cells #[.int .i64 a0_0,.int .i64 a0_1,.int .i64 a0_2,.int .i64 a0_3,.int .i64 a0_4,.int .i64 a0_5,.int .i64 a0_6,.int .i64 a0_7,.int .i64 a0_8,.int .i64 a0_9,.int .i64 a0_10,.bool a0_11,.bool a0_12,.bool a0_13,(.slice A0_14 l0_14.length c0_14),.string a0_15] 26 (0,0)))∧Aside0 (Below w.heap.size w w'))
 case atStart=>exact⟨(0),(by first|rfl|(simp;done)|(simp[*];done)),H',⟨Nat.le_refl _⟩,⟨by(with_reducible repeat(first|apply Kd.R_alloc|apply Kd.R_drewN|apply Kd.R_drew));exact HO230.out⟩,⟨by(with_reducible repeat(first|refine kN ?_ _|refine kD ?_|refine kA ?_ _));exact BK227.out⟩,⟨by repeat(first|(with_reducible first|exact HB.out|apply bA|apply bN|apply bD|refine bS ?_ GE227.out)|exact HB.out)⟩⟩
 case round =>
  clear H'
  try clear c1;try clear p2;try clear hcz3_0 hcz3_1 hcz3_10 hcz3_11 hcz3_12 hcz3_13 hcz3_14 hcz3_15 hcz3_2 hcz3_3 hcz3_4 hcz3_5 hcz3_6 hcz3_7 hcz3_8 hcz3_9;try clear hfz3_0 hfz3_1 hfz3_10 hfz3_11 hfz3_12 hfz3_13 hfz3_14 hfz3_15 hfz3_2 hfz3_3 hfz3_4 hfz3_5 hfz3_6 hfz3_7 hfz3_8 hfz3_9
  obtain⟨x4_1,rfl,HA,HK1,HO_3,BK227,HB⟩:=hrel
  cases gk with
  | zero=>exact absurd HA.out (by simp[sternpostref08_Check.l0])
  | succ k1 =>
   have H:=HA.out
   clear HA
   simp only[sternpostref08_Check.l0] at H
   by_cases c6:x4_1 < (y228.length:Int)
   ·rw[if_pos c6] at H
    have c6b0:decide (x4_1 < (y228.length:Int))=true:=decide_eq_true c6
    clear c6
    by_cases c7:0≤x4_1
    ·rw[if_pos c7] at H
     have c7b0:decide (0≤x4_1)=true:=decide_eq_true c7
     clear c7
     by_cases c8:(rd y228 x4_1) < 0
     ·rw[if_pos c8] at H
      have c8b0:decide ((rd y228 x4_1) < 0)=true:=decide_eq_true c8
      clear c8
      obtain rfl:=Option.some.inj H
      obtain⟨Ao9,co9,eo9⟩:=Kd.R_slice HO_3.out
      subst eo9
      have p231:0≤(x4_1:Int):=of_decide_eq_true (by first|(with_reducible assumption)|assumption)
      have q231:x4_1 < (y228.length:Int):=of_decide_eq_true (by first|(with_reducible assumption)|assumption)
      obtain⟨ad231,e231,hx231_0⟩:=Kd.at_int (Kd.R_reads' HO_3.out).2.2 x4_1 p231 q231
      cases e231
      replace p231:=eq_true p231
      replace q231:=eq_true q231
      go_wp2
      go_ret
      exact⟨by first|rfl|(simp[errW_none,errW_some] <;> rfl)|(simp[*,errW_none,errW_some] <;> rfl),by repeat(first|(with_reducible first|exact HB.out|apply bA|apply bN|apply bD|refine bS ?_ GE227.out)|exact HB.out)⟩
     ·rw[if_neg c8] at H
      have c8b0:decide ((rd y228 x4_1) < 0)=false:=decide_eq_false c8
      clear c8
      by_cases c10:(rd y228 x4_1) > 65535
      ·rw[if_pos c10] at H
       have c10b0:decide (65535 < (rd y228 x4_1))=true:=decide_eq_true c10
       clear c10
       obtain rfl:=Option.some.inj H
       obtain⟨Ao11,co11,eo11⟩:=Kd.R_slice HO_3.out
       subst eo11
       have p231:0≤(x4_1:Int):=of_decide_eq_true (by first|(with_reducible assumption)|assumption)
       have q231:x4_1 < (y228.length:Int):=of_decide_eq_true (by first|(with_reducible assumption)|assumption)
       obtain⟨ad231,e231,hx231_0⟩:=Kd.at_int (Kd.R_reads' HO_3.out).2.2 x4_1 p231 q231
       cases e231
       replace p231:=eq_true p231
       replace q231:=eq_true q231
       have p232:0≤(x4_1:Int):=of_decide_eq_true (by first|(with_reducible assumption)|assumption)
       have q232:x4_1 < (y228.length:Int):=of_decide_eq_true (by first|(with_reducible assumption)|assumption)
       obtain⟨ad232,e232,hx232_0⟩:=Kd.at_int (Kd.R_reads' HO_3.out).2.2 x4_1 p232 q232
       obtain rfl:ad231=ad232:=(by injection e232)
       replace p232:=eq_true p232
       replace q232:=eq_true q232
       go_wp2
       go_ret
       exact⟨by first|rfl|(simp[errW_none,errW_some] <;> rfl)|(simp[*,errW_none,errW_some] <;> rfl),by repeat(first|(with_reducible first|exact HB.out|apply bA|apply bN|apply bD|refine bS ?_ GE227.out)|exact HB.out)⟩
      ·rw[if_neg c10] at H
       have c10b0:decide (65535 < (rd y228 x4_1))=false:=decide_eq_false c10
       clear c10
       have H':=mkA H
       clear H
       obtain⟨Ao12,co12,eo12⟩:=Kd.R_slice HO_3.out
       subst eo12
       have p231:0≤(x4_1:Int):=of_decide_eq_true (by first|(with_reducible assumption)|assumption)
       have q231:x4_1 < (y228.length:Int):=of_decide_eq_true (by first|(with_reducible assumption)|assumption)
       obtain⟨ad231,e231,hx231_0⟩:=Kd.at_int (Kd.R_reads' HO_3.out).2.2 x4_1 p231 q231
       cases e231
       replace p231:=eq_true p231
       replace q231:=eq_true q231
       have p232:0≤(x4_1:Int):=of_decide_eq_true (by first|(with_reducible assumption)|assumption)
       have q232:x4_1 < (y228.length:Int):=of_decide_eq_true (by first|(with_reducible assumption)|assumption)
       obtain⟨ad232,e232,hx232_0⟩:=Kd.at_int (Kd.R_reads' HO_3.out).2.2 x4_1 p232 q232
       obtain rfl:ad231=ad232:=(by injection e232)
       replace p232:=eq_true p232
       replace q232:=eq_true q232
       go_wp2
       go_roundg k1
       case measure=>have:=HK1.out;omega
       case rel=>exact⟨(wrap64 (x4_1+1)),(by first|rfl|(simp;done)|(simp[*];done)),H',⟨by have:=HK1.out;omega⟩,⟨by(with_reducible repeat(first|apply Kd.R_alloc|apply Kd.R_drewN|apply Kd.R_drew));exact HO_3.out⟩,⟨by(with_reducible repeat(first|refine kN ?_ _|refine kD ?_|refine kA ?_ _));exact BK227.out⟩,⟨by repeat(first|(with_reducible first|exact HB.out|apply bA|apply bN|apply bD|refine bS ?_ GE227.out)|exact HB.out)⟩⟩
    ·rw[if_neg c7] at H
     exact absurd H (by simp)
   ·rw[if_neg c6] at H
    have c6b0:decide (x4_1 < (y228.length:Int))=false:=decide_eq_false c6
    clear c6
    obtain⟨Ao13,co13,eo13⟩:=Kd.R_slice HO_3.out
    subst eo13
    go_upto_region 7 with (fail)
    have HBt:=mkA (show Below w.heap.size w _ from by repeat(first|(with_reducible first|exact HB.out|apply bA|apply bN|apply bD|refine bS ?_ GE227.out)|exact HB.out))
    -- UPTO
    unfold sternpostref08_Check_tail.f at H
    have BKN:=BK227;have HBN:=HB;have HRN:=mkA (Kd.C_below HR0_14.out HB.out)
    (try clear hcz3_0 hcz3_1 hcz3_2 hcz3_3 hcz3_4 hcz3_5 hcz3_6 hcz3_7 hcz3_8 hcz3_9 hcz3_10 hcz3_11 hcz3_12 hcz3_13 hcz3_14 hcz3_15)
    (try clear hfz3_0 hfz3_1 hfz3_2 hfz3_3 hfz3_4 hfz3_5 hfz3_6 hfz3_7 hfz3_8 hfz3_9 hfz3_10 hfz3_11 hfz3_12 hfz3_13 hfz3_14 hfz3_15)
    have hq2:wr.cell? ⟨gb227,2,none⟩=some (.int .i64 a0_2):=(kC BKN.out 2).trans rfl
    have hq3:wr.cell? ⟨gb227,3,none⟩=some (.int .i64 a0_3):=(kC BKN.out 3).trans rfl
    have hq4:wr.cell? ⟨gb227,4,none⟩=some (.int .i64 a0_4):=(kC BKN.out 4).trans rfl
    have hq6:wr.cell? ⟨gb227,6,none⟩=some (.int .i64 a0_6):=(kC BKN.out 6).trans rfl
    have hq7:wr.cell? ⟨gb227,7,none⟩=some (.int .i64 a0_7):=(kC BKN.out 7).trans rfl
    have hq8:wr.cell? ⟨gb227,8,none⟩=some (.int .i64 a0_8):=(kC BKN.out 8).trans rfl
    have hq9:wr.cell? ⟨gb227,9,none⟩=some (.int .i64 a0_9):=(kC BKN.out 9).trans rfl
    have hq10:wr.cell? ⟨gb227,10,none⟩=some (.int .i64 a0_10):=(kC BKN.out 10).trans rfl
    have hq11:wr.cell? ⟨gb227,11,none⟩=some (.bool a0_11):=(kC BKN.out 11).trans rfl
    have hq12:wr.cell? ⟨gb227,12,none⟩=some (.bool a0_12):=(kC BKN.out 12).trans rfl
    have hq13:wr.cell? ⟨gb227,13,none⟩=some (.bool a0_13):=(kC BKN.out 13).trans rfl
    have hq14:wr.cell? ⟨gb227,14,none⟩=some (.slice A0_14 l0_14.length c0_14):=(kC BKN.out 14).trans rfl
    have hq15:wr.cell? ⟨gb227,15,none⟩=some (.string a0_15):=(kC BKN.out 15).trans rfl
    obtain⟨e1,he1,H⟩:=Option.bind_eq_some_iff.mp H
    have A1:=mkA he1
    clear he1
    have HT:=mkA H
    clear H
    go_wp2_with fail
    refine(sternpostref01_Check.calls a0_2 e1 _ A1.out).mono ?_
    rintro e W1 ⟨rfl,hd1⟩
    have hb1:Below wr.heap.size wr W1:=by obtain⟨nd,e_⟩:=hd1;rw[e_];exact bN (Below.refl _ _) nd
    clear hd1
    have n0_:=mkA (kB BKN.out hb1);have n1_:=mkA (bT HBN.out hb1);have n2_:=mkA (Kd.C_below HRN.out hb1);clear BKN HBN HRN hq2 hq3 hq4 hq6 hq7 hq8 hq9 hq10 hq11 hq12 hq13 hq14 hq15;have BKN:=n0_;have HBN:=n1_;have HRN:=n2_;clear n0_ n1_ n2_
    have hq2:W1.cell? ⟨gb227,2,none⟩=some (.int .i64 a0_2):=(kC BKN.out 2).trans rfl
    have hq3:W1.cell? ⟨gb227,3,none⟩=some (.int .i64 a0_3):=(kC BKN.out 3).trans rfl
    have hq4:W1.cell? ⟨gb227,4,none⟩=some (.int .i64 a0_4):=(kC BKN.out 4).trans rfl
    have hq6:W1.cell? ⟨gb227,6,none⟩=some (.int .i64 a0_6):=(kC BKN.out 6).trans rfl
    have hq7:W1.cell? ⟨gb227,7,none⟩=some (.int .i64 a0_7):=(kC BKN.out 7).trans rfl
    have hq8:W1.cell? ⟨gb227,8,none⟩=some (.int .i64 a0_8):=(kC BKN.out 8).trans rfl
    have hq9:W1.cell? ⟨gb227,9,none⟩=some (.int .i64 a0_9):=(kC BKN.out 9).trans rfl
    have hq10:W1.cell? ⟨gb227,10,none⟩=some (.int .i64 a0_10):=(kC BKN.out 10).trans rfl
    have hq11:W1.cell? ⟨gb227,11,none⟩=some (.bool a0_11):=(kC BKN.out 11).trans rfl
    have hq12:W1.cell? ⟨gb227,12,none⟩=some (.bool a0_12):=(kC BKN.out 12).trans rfl
    have hq13:W1.cell? ⟨gb227,13,none⟩=some (.bool a0_13):=(kC BKN.out 13).trans rfl
    have hq14:W1.cell? ⟨gb227,14,none⟩=some (.slice A0_14 l0_14.length c0_14):=(kC BKN.out 14).trans rfl
    have hq15:W1.cell? ⟨gb227,15,none⟩=some (.string a0_15):=(kC BKN.out 15).trans rfl
    clear hb1
    have H:=HT.out
    clear HT
    by_cases z1:e1=0
    case neg =>
     rw[if_neg z1] at H
     have z1b:(e1 != 0)=true:=bne_iff_ne.mpr z1
     obtain rfl:=Option.some.inj H
     go_wp2
     go_ret
     exact⟨by first|rfl|(simp;done),by repeat(first|(with_reducible first|exact HBN.out|apply bA|apply bN|apply bD)|exact HBN.out)⟩
    rw[if_pos z1] at H
    have z1b:(e1 != 0)=false:=bne_eq_false_iff_eq.mpr z1
    clear z1
    obtain⟨e2,he2,H⟩:=Option.bind_eq_some_iff.mp H
    have A2:=mkA he2
    clear he2
    have HT:=mkA H
    clear H
    go_wp2_with fail
    refine(sternpostref01_Check.calls a0_3 e2 _ A2.out).mono ?_
    rintro e W2 ⟨rfl,hd1⟩
    have hb1:Below W1.heap.size W1 W2:=by obtain⟨nd,e_⟩:=hd1;rw[e_];exact bN (Below.refl _ _) nd
    clear hd1
    have n0_:=mkA (kB BKN.out hb1);have n1_:=mkA (bT HBN.out hb1);have n2_:=mkA (Kd.C_below HRN.out hb1);clear BKN HBN HRN hq2 hq3 hq4 hq6 hq7 hq8 hq9 hq10 hq11 hq12 hq13 hq14 hq15;have BKN:=n0_;have HBN:=n1_;have HRN:=n2_;clear n0_ n1_ n2_
    have hq2:W2.cell? ⟨gb227,2,none⟩=some (.int .i64 a0_2):=(kC BKN.out 2).trans rfl
    have hq3:W2.cell? ⟨gb227,3,none⟩=some (.int .i64 a0_3):=(kC BKN.out 3).trans rfl
    have hq4:W2.cell? ⟨gb227,4,none⟩=some (.int .i64 a0_4):=(kC BKN.out 4).trans rfl
    have hq6:W2.cell? ⟨gb227,6,none⟩=some (.int .i64 a0_6):=(kC BKN.out 6).trans rfl
    have hq7:W2.cell? ⟨gb227,7,none⟩=some (.int .i64 a0_7):=(kC BKN.out 7).trans rfl
    have hq8:W2.cell? ⟨gb227,8,none⟩=some (.int .i64 a0_8):=(kC BKN.out 8).trans rfl
    have hq9:W2.cell? ⟨gb227,9,none⟩=some (.int .i64 a0_9):=(kC BKN.out 9).trans rfl
    have hq10:W2.cell? ⟨gb227,10,none⟩=some (.int .i64 a0_10):=(kC BKN.out 10).trans rfl
    have hq11:W2.cell? ⟨gb227,11,none⟩=some (.bool a0_11):=(kC BKN.out 11).trans rfl
    have hq12:W2.cell? ⟨gb227,12,none⟩=some (.bool a0_12):=(kC BKN.out 12).trans rfl
    have hq13:W2.cell? ⟨gb227,13,none⟩=some (.bool a0_13):=(kC BKN.out 13).trans rfl
    have hq14:W2.cell? ⟨gb227,14,none⟩=some (.slice A0_14 l0_14.length c0_14):=(kC BKN.out 14).trans rfl
    have hq15:W2.cell? ⟨gb227,15,none⟩=some (.string a0_15):=(kC BKN.out 15).trans rfl
    clear hb1
    have H:=HT.out
    clear HT
    by_cases z2:e2=0
    case neg =>
     rw[if_neg z2] at H
     have z2b:(e2 != 0)=true:=bne_iff_ne.mpr z2
     obtain rfl:=Option.some.inj H
     go_wp2
     go_ret
     exact⟨by first|rfl|(simp;done),by repeat(first|(with_reducible first|exact HBN.out|apply bA|apply bN|apply bD)|exact HBN.out)⟩
    rw[if_pos z2] at H
    have z2b:(e2 != 0)=false:=bne_eq_false_iff_eq.mpr z2
    clear z2
    by_cases z3:a0_4 < 0
    case pos =>
     rw[if_pos z3] at H
     have z3b:decide (a0_4 < 0)=true:=decide_eq_true z3
     obtain rfl:=Option.some.inj H
     go_wp2
     go_ret
     exact⟨by first|rfl|(simp;done),by repeat(first|(with_reducible first|exact HBN.out|apply bA|apply bN|apply bD)|exact HBN.out)⟩
    rw[if_neg z3] at H
    have z3b:decide (a0_4 < 0)=false:=decide_eq_false z3
    by_cases z4:a0_4 > 63
    case pos =>
     rw[if_pos z4] at H
     have z4b:decide (63 < a0_4)=true:=decide_eq_true z4
     obtain rfl:=Option.some.inj H
     go_wp2
     go_ret
     exact⟨by first|rfl|(simp;done),by repeat(first|(with_reducible first|exact HBN.out|apply bA|apply bN|apply bD)|exact HBN.out)⟩
    rw[if_neg z4] at H
    have z4b:decide (63 < a0_4)=false:=decide_eq_false z4
    clear z3 z4
    obtain⟨h1,hh1,H⟩:=Option.bind_eq_some_iff.mp H
    have B1:=mkA hh1
    clear hh1
    have HT:=mkA H
    clear H
    go_wp2_with (first|((with_reducible refine gate_load (t:=26) rfl ?_);refine load_big ?hw 26 _ rfl _ rfl 26 _ (0,0) _ BKN.out Try.underlying26 rfl (by kernel_rfl) ?_;(case hw=>first|rfl|(go_simp;done));simp only[puts]))
    refine(sternpostref08_Has.calls a0_0 a0_1 a0_2 a0_3 a0_4 a0_5 a0_6 a0_7 a0_8 a0_9 a0_10 a0_11 a0_12 a0_13 _ _ l0_14 a0_15 16 h1 _ HRN.out HC0_14.out B1.out).mono ?_
    rintro e W3 ⟨rfl,hb1⟩
    have n0_:=mkA (kB BKN.out hb1);have n1_:=mkA (bT HBN.out hb1);have n2_:=mkA (Kd.C_below HRN.out hb1);clear BKN HBN HRN hq2 hq3 hq4 hq6 hq7 hq8 hq9 hq10 hq11 hq12 hq13 hq14 hq15;have BKN:=n0_;have HBN:=n1_;have HRN:=n2_;clear n0_ n1_ n2_
    have hq2:W3.cell? ⟨gb227,2,none⟩=some (.int .i64 a0_2):=(kC BKN.out 2).trans rfl
    have hq3:W3.cell? ⟨gb227,3,none⟩=some (.int .i64 a0_3):=(kC BKN.out 3).trans rfl
    have hq4:W3.cell? ⟨gb227,4,none⟩=some (.int .i64 a0_4):=(kC BKN.out 4).trans rfl
    have hq6:W3.cell? ⟨gb227,6,none⟩=some (.int .i64 a0_6):=(kC BKN.out 6).trans rfl
    have hq7:W3.cell? ⟨gb227,7,none⟩=some (.int .i64 a0_7):=(kC BKN.out 7).trans rfl
    have hq8:W3.cell? ⟨gb227,8,none⟩=some (.int .i64 a0_8):=(kC BKN.out 8).trans rfl
    have hq9:W3.cell? ⟨gb227,9,none⟩=some (.int .i64 a0_9):=(kC BKN.out 9).trans rfl
    have hq10:W3.cell? ⟨gb227,10,none⟩=some (.int .i64 a0_10):=(kC BKN.out 10).trans rfl
    have hq11:W3.cell? ⟨gb227,11,none⟩=some (.bool a0_11):=(kC BKN.out 11).trans rfl
    have hq12:W3.cell? ⟨gb227,12,none⟩=some (.bool a0_12):=(kC BKN.out 12).trans rfl
    have hq13:W3.cell? ⟨gb227,13,none⟩=some (.bool a0_13):=(kC BKN.out 13).trans rfl
    have hq14:W3.cell? ⟨gb227,14,none⟩=some (.slice A0_14 l0_14.length c0_14):=(kC BKN.out 14).trans rfl
    have hq15:W3.cell? ⟨gb227,15,none⟩=some (.string a0_15):=(kC BKN.out 15).trans rfl
    clear hb1
    have H:=HT.out
    clear HT
    have w1:=H
    clear w1
    cases h1 with
    | true =>
     rw[if_pos (.inl rfl)] at H
     obtain⟨h2,hh2,H⟩:=Option.bind_eq_some_iff.mp H
     have B2:=mkA hh2
     clear hh2
     have HT:=mkA H
     clear H
     go_wp2_with (first|((with_reducible refine gate_load (t:=26) rfl ?_);refine load_big ?hw 26 _ rfl _ rfl 26 _ (0,0) _ BKN.out Try.underlying26 rfl (by kernel_rfl) ?_;(case hw=>first|rfl|(go_simp;done));simp only[puts]))
     refine(sternpostref08_Has.calls a0_0 a0_1 a0_2 a0_3 a0_4 a0_5 a0_6 a0_7 a0_8 a0_9 a0_10 a0_11 a0_12 a0_13 _ _ l0_14 a0_15 32 h2 _ HRN.out HC0_14.out B2.out).mono ?_
     rintro e W4 ⟨rfl,hb1⟩
     have n0_:=mkA (kB BKN.out hb1);have n1_:=mkA (bT HBN.out hb1);have n2_:=mkA (Kd.C_below HRN.out hb1);clear BKN HBN HRN hq2 hq3 hq4 hq6 hq7 hq8 hq9 hq10 hq11 hq12 hq13 hq14 hq15;have BKN:=n0_;have HBN:=n1_;have HRN:=n2_;clear n0_ n1_ n2_
     have hq2:W4.cell? ⟨gb227,2,none⟩=some (.int .i64 a0_2):=(kC BKN.out 2).trans rfl
     have hq3:W4.cell? ⟨gb227,3,none⟩=some (.int .i64 a0_3):=(kC BKN.out 3).trans rfl
     have hq4:W4.cell? ⟨gb227,4,none⟩=some (.int .i64 a0_4):=(kC BKN.out 4).trans rfl
     have hq6:W4.cell? ⟨gb227,6,none⟩=some (.int .i64 a0_6):=(kC BKN.out 6).trans rfl
     have hq7:W4.cell? ⟨gb227,7,none⟩=some (.int .i64 a0_7):=(kC BKN.out 7).trans rfl
     have hq8:W4.cell? ⟨gb227,8,none⟩=some (.int .i64 a0_8):=(kC BKN.out 8).trans rfl
     have hq9:W4.cell? ⟨gb227,9,none⟩=some (.int .i64 a0_9):=(kC BKN.out 9).trans rfl
     have hq10:W4.cell? ⟨gb227,10,none⟩=some (.int .i64 a0_10):=(kC BKN.out 10).trans rfl
     have hq11:W4.cell? ⟨gb227,11,none⟩=some (.bool a0_11):=(kC BKN.out 11).trans rfl
     have hq12:W4.cell? ⟨gb227,12,none⟩=some (.bool a0_12):=(kC BKN.out 12).trans rfl
     have hq13:W4.cell? ⟨gb227,13,none⟩=some (.bool a0_13):=(kC BKN.out 13).trans rfl
     have hq14:W4.cell? ⟨gb227,14,none⟩=some (.slice A0_14 l0_14.length c0_14):=(kC BKN.out 14).trans rfl
     have hq15:W4.cell? ⟨gb227,15,none⟩=some (.string a0_15):=(kC BKN.out 15).trans rfl
     clear hb1
     have H:=HT.out
     clear HT
     cases h2 with
     | true =>
      rw[if_pos (.inl rfl)] at H
      obtain⟨e3,he3,H⟩:=Option.bind_eq_some_iff.mp H
      have A3:=mkA he3
      clear he3
      have HT:=mkA H
      clear H
      go_wp2_with fail
      refine(sternpostref07_Check.calls k1 a0_7 a0_8 a0_9 a0_10 a0_11 a0_12 a0_13 _ _ l0_14 e3 _ HRN.out HC0_14.out A3.out).mono ?_
      rintro e W5 ⟨rfl,hb1⟩
      have n0_:=mkA (kB BKN.out hb1);have n1_:=mkA (bT HBN.out hb1);have n2_:=mkA (Kd.C_below HRN.out hb1);clear BKN HBN HRN hq2 hq3 hq4 hq6 hq7 hq8 hq9 hq10 hq11 hq12 hq13 hq14 hq15;have BKN:=n0_;have HBN:=n1_;have HRN:=n2_;clear n0_ n1_ n2_
      have hq2:W5.cell? ⟨gb227,2,none⟩=some (.int .i64 a0_2):=(kC BKN.out 2).trans rfl
      have hq3:W5.cell? ⟨gb227,3,none⟩=some (.int .i64 a0_3):=(kC BKN.out 3).trans rfl
      have hq4:W5.cell? ⟨gb227,4,none⟩=some (.int .i64 a0_4):=(kC BKN.out 4).trans rfl
      have hq6:W5.cell? ⟨gb227,6,none⟩=some (.int .i64 a0_6):=(kC BKN.out 6).trans rfl
      have hq7:W5.cell? ⟨gb227,7,none⟩=some (.int .i64 a0_7):=(kC BKN.out 7).trans rfl
      have hq8:W5.cell? ⟨gb227,8,none⟩=some (.int .i64 a0_8):=(kC BKN.out 8).trans rfl
      have hq9:W5.cell? ⟨gb227,9,none⟩=some (.int .i64 a0_9):=(kC BKN.out 9).trans rfl
      have hq10:W5.cell? ⟨gb227,10,none⟩=some (.int .i64 a0_10):=(kC BKN.out 10).trans rfl
      have hq11:W5.cell? ⟨gb227,11,none⟩=some (.bool a0_11):=(kC BKN.out 11).trans rfl
      have hq12:W5.cell? ⟨gb227,12,none⟩=some (.bool a0_12):=(kC BKN.out 12).trans rfl
      have hq13:W5.cell? ⟨gb227,13,none⟩=some (.bool a0_13):=(kC BKN.out 13).trans rfl
      have hq14:W5.cell? ⟨gb227,14,none⟩=some (.slice A0_14 l0_14.length c0_14):=(kC BKN.out 14).trans rfl
      have hq15:W5.cell? ⟨gb227,15,none⟩=some (.string a0_15):=(kC BKN.out 15).trans rfl
      clear hb1
      have H:=HT.out
      clear HT
      by_cases z5:e3=0
      case neg =>
       rw[if_neg z5] at H
       have z5b:(e3 != 0)=true:=bne_iff_ne.mpr z5
       obtain rfl:=Option.some.inj H
       go_wp2
       go_ret
       exact⟨by first|rfl|(simp;done),by repeat(first|(with_reducible first|exact HBN.out|apply bA|apply bN|apply bD)|exact HBN.out)⟩
      rw[if_pos z5] at H
      have z5b:(e3 != 0)=false:=bne_eq_false_iff_eq.mpr z5
      clear z5
      by_cases z6:(a0_15.size:Int) > 1480
      case pos =>
       rw[if_pos z6] at H
       have z6b:decide (1480 < (a0_15.size:Int))=true:=decide_eq_true z6
       obtain rfl:=Option.some.inj H
       go_wp2
       go_ret
       exact⟨by first|rfl|(simp;done),by repeat(first|(with_reducible first|exact HBN.out|apply bA|apply bN|apply bD)|exact HBN.out)⟩
      rw[if_neg z6] at H
      have z6b:decide (1480 < (a0_15.size:Int))=false:=decide_eq_false z6
      obtain rfl:=Option.some.inj H
      go_wp2
      go_ret
      exact⟨by first|rfl|(simp;done),by repeat(first|(with_reducible first|exact HBN.out|apply bA|apply bN|apply bD)|exact HBN.out)⟩
     | false =>
      by_cases y2:a0_6=0
      case pos =>
       rw[if_pos (.inr y2)] at H
       have y2b:(a0_6 != 0)=false:=bne_eq_false_iff_eq.mpr y2
       clear y2
       obtain⟨e3,he3,H⟩:=Option.bind_eq_some_iff.mp H
       have A3:=mkA he3
       clear he3
       have HT:=mkA H
       clear H
       go_wp2_with fail
       refine(sternpostref07_Check.calls k1 a0_7 a0_8 a0_9 a0_10 a0_11 a0_12 a0_13 _ _ l0_14 e3 _ HRN.out HC0_14.out A3.out).mono ?_
       rintro e W5 ⟨rfl,hb1⟩
       have n0_:=mkA (kB BKN.out hb1);have n1_:=mkA (bT HBN.out hb1);have n2_:=mkA (Kd.C_below HRN.out hb1);clear BKN HBN HRN hq2 hq3 hq4 hq6 hq7 hq8 hq9 hq10 hq11 hq12 hq13 hq14 hq15;have BKN:=n0_;have HBN:=n1_;have HRN:=n2_;clear n0_ n1_ n2_
       have hq2:W5.cell? ⟨gb227,2,none⟩=some (.int .i64 a0_2):=(kC BKN.out 2).trans rfl
       have hq3:W5.cell? ⟨gb227,3,none⟩=some (.int .i64 a0_3):=(kC BKN.out 3).trans rfl
       have hq4:W5.cell? ⟨gb227,4,none⟩=some (.int .i64 a0_4):=(kC BKN.out 4).trans rfl
       have hq6:W5.cell? ⟨gb227,6,none⟩=some (.int .i64 a0_6):=(kC BKN.out 6).trans rfl
       have hq7:W5.cell? ⟨gb227,7,none⟩=some (.int .i64 a0_7):=(kC BKN.out 7).trans rfl
       have hq8:W5.cell? ⟨gb227,8,none⟩=some (.int .i64 a0_8):=(kC BKN.out 8).trans rfl
       have hq9:W5.cell? ⟨gb227,9,none⟩=some (.int .i64 a0_9):=(kC BKN.out 9).trans rfl
       have hq10:W5.cell? ⟨gb227,10,none⟩=some (.int .i64 a0_10):=(kC BKN.out 10).trans rfl
       have hq11:W5.cell? ⟨gb227,11,none⟩=some (.bool a0_11):=(kC BKN.out 11).trans rfl
       have hq12:W5.cell? ⟨gb227,12,none⟩=some (.bool a0_12):=(kC BKN.out 12).trans rfl
       have hq13:W5.cell? ⟨gb227,13,none⟩=some (.bool a0_13):=(kC BKN.out 13).trans rfl
       have hq14:W5.cell? ⟨gb227,14,none⟩=some (.slice A0_14 l0_14.length c0_14):=(kC BKN.out 14).trans rfl
       have hq15:W5.cell? ⟨gb227,15,none⟩=some (.string a0_15):=(kC BKN.out 15).trans rfl
       clear hb1
       have H:=HT.out
       clear HT
       by_cases z5:e3=0
       case neg =>
        rw[if_neg z5] at H
        have z5b:(e3 != 0)=true:=bne_iff_ne.mpr z5
        obtain rfl:=Option.some.inj H
        go_wp2
        go_ret
        exact⟨by first|rfl|(simp;done),by repeat(first|(with_reducible first|exact HBN.out|apply bA|apply bN|apply bD)|exact HBN.out)⟩
       rw[if_pos z5] at H
       have z5b:(e3 != 0)=false:=bne_eq_false_iff_eq.mpr z5
       clear z5
       by_cases z6:(a0_15.size:Int) > 1480
       case pos =>
        rw[if_pos z6] at H
        have z6b:decide (1480 < (a0_15.size:Int))=true:=decide_eq_true z6
        obtain rfl:=Option.some.inj H
        go_wp2
        go_ret
        exact⟨by first|rfl|(simp;done),by repeat(first|(with_reducible first|exact HBN.out|apply bA|apply bN|apply bD)|exact HBN.out)⟩
       rw[if_neg z6] at H
       have z6b:decide (1480 < (a0_15.size:Int))=false:=decide_eq_false z6
       obtain rfl:=Option.some.inj H
       go_wp2
       go_ret
       exact⟨by first|rfl|(simp;done),by repeat(first|(with_reducible first|exact HBN.out|apply bA|apply bN|apply bD)|exact HBN.out)⟩
      rw[if_neg (fun h=>h.elim (by decide) y2)] at H
      have y2b:(a0_6 != 0)=true:=bne_iff_ne.mpr y2
      obtain rfl:=Option.some.inj H
      go_wp2
      go_ret
      exact⟨by first|rfl|(simp;done),by repeat(first|(with_reducible first|exact HBN.out|apply bA|apply bN|apply bD)|exact HBN.out)⟩
    | false =>
     by_cases y1:a0_3=0
     case pos =>
      rw[if_pos (.inr y1)] at H
      have y1b:(a0_3 != 0)=false:=bne_eq_false_iff_eq.mpr y1
      clear y1
      obtain⟨h2,hh2,H⟩:=Option.bind_eq_some_iff.mp H
      have B2:=mkA hh2
      clear hh2
      have HT:=mkA H
      clear H
      go_wp2_with (first|((with_reducible refine gate_load (t:=26) rfl ?_);refine load_big ?hw 26 _ rfl _ rfl 26 _ (0,0) _ BKN.out Try.underlying26 rfl (by kernel_rfl) ?_;(case hw=>first|rfl|(go_simp;done));simp only[puts]))
      refine(sternpostref08_Has.calls a0_0 a0_1 a0_2 a0_3 a0_4 a0_5 a0_6 a0_7 a0_8 a0_9 a0_10 a0_11 a0_12 a0_13 _ _ l0_14 a0_15 32 h2 _ HRN.out HC0_14.out B2.out).mono ?_
      rintro e W4 ⟨rfl,hb1⟩
      have n0_:=mkA (kB BKN.out hb1);have n1_:=mkA (bT HBN.out hb1);have n2_:=mkA (Kd.C_below HRN.out hb1);clear BKN HBN HRN hq2 hq3 hq4 hq6 hq7 hq8 hq9 hq10 hq11 hq12 hq13 hq14 hq15;have BKN:=n0_;have HBN:=n1_;have HRN:=n2_;clear n0_ n1_ n2_
      have hq2:W4.cell? ⟨gb227,2,none⟩=some (.int .i64 a0_2):=(kC BKN.out 2).trans rfl
      have hq3:W4.cell? ⟨gb227,3,none⟩=some (.int .i64 a0_3):=(kC BKN.out 3).trans rfl
      have hq4:W4.cell? ⟨gb227,4,none⟩=some (.int .i64 a0_4):=(kC BKN.out 4).trans rfl
      have hq6:W4.cell? ⟨gb227,6,none⟩=some (.int .i64 a0_6):=(kC BKN.out 6).trans rfl
      have hq7:W4.cell? ⟨gb227,7,none⟩=some (.int .i64 a0_7):=(kC BKN.out 7).trans rfl
      have hq8:W4.cell? ⟨gb227,8,none⟩=some (.int .i64 a0_8):=(kC BKN.out 8).trans rfl
      have hq9:W4.cell? ⟨gb227,9,none⟩=some (.int .i64 a0_9):=(kC BKN.out 9).trans rfl
      have hq10:W4.cell? ⟨gb227,10,none⟩=some (.int .i64 a0_10):=(kC BKN.out 10).trans rfl
      have hq11:W4.cell? ⟨gb227,11,none⟩=some (.bool a0_11):=(kC BKN.out 11).trans rfl
      have hq12:W4.cell? ⟨gb227,12,none⟩=some (.bool a0_12):=(kC BKN.out 12).trans rfl
      have hq13:W4.cell? ⟨gb227,13,none⟩=some (.bool a0_13):=(kC BKN.out 13).trans rfl
      have hq14:W4.cell? ⟨gb227,14,none⟩=some (.slice A0_14 l0_14.length c0_14):=(kC BKN.out 14).trans rfl
      have hq15:W4.cell? ⟨gb227,15,none⟩=some (.string a0_15):=(kC BKN.out 15).trans rfl
      clear hb1
      have H:=HT.out
      clear HT
      cases h2 with
      | true =>
       rw[if_pos (.inl rfl)] at H
       obtain⟨e3,he3,H⟩:=Option.bind_eq_some_iff.mp H
       have A3:=mkA he3
       clear he3
       have HT:=mkA H
       clear H
       go_wp2_with fail
       refine(sternpostref07_Check.calls k1 a0_7 a0_8 a0_9 a0_10 a0_11 a0_12 a0_13 _ _ l0_14 e3 _ HRN.out HC0_14.out A3.out).mono ?_
       rintro e W5 ⟨rfl,hb1⟩
       have n0_:=mkA (kB BKN.out hb1);have n1_:=mkA (bT HBN.out hb1);have n2_:=mkA (Kd.C_below HRN.out hb1);clear BKN HBN HRN hq2 hq3 hq4 hq6 hq7 hq8 hq9 hq10 hq11 hq12 hq13 hq14 hq15;have BKN:=n0_;have HBN:=n1_;have HRN:=n2_;clear n0_ n1_ n2_
       have hq2:W5.cell? ⟨gb227,2,none⟩=some (.int .i64 a0_2):=(kC BKN.out 2).trans rfl
       have hq3:W5.cell? ⟨gb227,3,none⟩=some (.int .i64 a0_3):=(kC BKN.out 3).trans rfl
       have hq4:W5.cell? ⟨gb227,4,none⟩=some (.int .i64 a0_4):=(kC BKN.out 4).trans rfl
       have hq6:W5.cell? ⟨gb227,6,none⟩=some (.int .i64 a0_6):=(kC BKN.out 6).trans rfl
       have hq7:W5.cell? ⟨gb227,7,none⟩=some (.int .i64 a0_7):=(kC BKN.out 7).trans rfl
       have hq8:W5.cell? ⟨gb227,8,none⟩=some (.int .i64 a0_8):=(kC BKN.out 8).trans rfl
       have hq9:W5.cell? ⟨gb227,9,none⟩=some (.int .i64 a0_9):=(kC BKN.out 9).trans rfl
       have hq10:W5.cell? ⟨gb227,10,none⟩=some (.int .i64 a0_10):=(kC BKN.out 10).trans rfl
       have hq11:W5.cell? ⟨gb227,11,none⟩=some (.bool a0_11):=(kC BKN.out 11).trans rfl
       have hq12:W5.cell? ⟨gb227,12,none⟩=some (.bool a0_12):=(kC BKN.out 12).trans rfl
       have hq13:W5.cell? ⟨gb227,13,none⟩=some (.bool a0_13):=(kC BKN.out 13).trans rfl
       have hq14:W5.cell? ⟨gb227,14,none⟩=some (.slice A0_14 l0_14.length c0_14):=(kC BKN.out 14).trans rfl
       have hq15:W5.cell? ⟨gb227,15,none⟩=some (.string a0_15):=(kC BKN.out 15).trans rfl
       clear hb1
       have H:=HT.out
       clear HT
       by_cases z5:e3=0
       case neg =>
        rw[if_neg z5] at H
        have z5b:(e3 != 0)=true:=bne_iff_ne.mpr z5
        obtain rfl:=Option.some.inj H
        go_wp2
        go_ret
        exact⟨by first|rfl|(simp;done),by repeat(first|(with_reducible first|exact HBN.out|apply bA|apply bN|apply bD)|exact HBN.out)⟩
       rw[if_pos z5] at H
       have z5b:(e3 != 0)=false:=bne_eq_false_iff_eq.mpr z5
       clear z5
       by_cases z6:(a0_15.size:Int) > 1480
       case pos =>
        rw[if_pos z6] at H
        have z6b:decide (1480 < (a0_15.size:Int))=true:=decide_eq_true z6
        obtain rfl:=Option.some.inj H
        go_wp2
        go_ret
        exact⟨by first|rfl|(simp;done),by repeat(first|(with_reducible first|exact HBN.out|apply bA|apply bN|apply bD)|exact HBN.out)⟩
       rw[if_neg z6] at H
       have z6b:decide (1480 < (a0_15.size:Int))=false:=decide_eq_false z6
       obtain rfl:=Option.some.inj H
       go_wp2
       go_ret
       exact⟨by first|rfl|(simp;done),by repeat(first|(with_reducible first|exact HBN.out|apply bA|apply bN|apply bD)|exact HBN.out)⟩
      | false =>
       by_cases y2:a0_6=0
       case pos =>
        rw[if_pos (.inr y2)] at H
        have y2b:(a0_6 != 0)=false:=bne_eq_false_iff_eq.mpr y2
        clear y2
        obtain⟨e3,he3,H⟩:=Option.bind_eq_some_iff.mp H
        have A3:=mkA he3
        clear he3
        have HT:=mkA H
        clear H
        go_wp2_with fail
        refine(sternpostref07_Check.calls k1 a0_7 a0_8 a0_9 a0_10 a0_11 a0_12 a0_13 _ _ l0_14 e3 _ HRN.out HC0_14.out A3.out).mono ?_
        rintro e W5 ⟨rfl,hb1⟩
        have n0_:=mkA (kB BKN.out hb1);have n1_:=mkA (bT HBN.out hb1);have n2_:=mkA (Kd.C_below HRN.out hb1);clear BKN HBN HRN hq2 hq3 hq4 hq6 hq7 hq8 hq9 hq10 hq11 hq12 hq13 hq14 hq15;have BKN:=n0_;have HBN:=n1_;have HRN:=n2_;clear n0_ n1_ n2_
        have hq2:W5.cell? ⟨gb227,2,none⟩=some (.int .i64 a0_2):=(kC BKN.out 2).trans rfl
        have hq3:W5.cell? ⟨gb227,3,none⟩=some (.int .i64 a0_3):=(kC BKN.out 3).trans rfl
        have hq4:W5.cell? ⟨gb227,4,none⟩=some (.int .i64 a0_4):=(kC BKN.out 4).trans rfl
        have hq6:W5.cell? ⟨gb227,6,none⟩=some (.int .i64 a0_6):=(kC BKN.out 6).trans rfl
        have hq7:W5.cell? ⟨gb227,7,none⟩=some (.int .i64 a0_7):=(kC BKN.out 7).trans rfl
        have hq8:W5.cell? ⟨gb227,8,none⟩=some (.int .i64 a0_8):=(kC BKN.out 8).trans rfl
        have hq9:W5.cell? ⟨gb227,9,none⟩=some (.int .i64 a0_9):=(kC BKN.out 9).trans rfl
        have hq10:W5.cell? ⟨gb227,10,none⟩=some (.int .i64 a0_10):=(kC BKN.out 10).trans rfl
        have hq11:W5.cell? ⟨gb227,11,none⟩=some (.bool a0_11):=(kC BKN.out 11).trans rfl
        have hq12:W5.cell? ⟨gb227,12,none⟩=some (.bool a0_12):=(kC BKN.out 12).trans rfl
        have hq13:W5.cell? ⟨gb227,13,none⟩=some (.bool a0_13):=(kC BKN.out 13).trans rfl
        have hq14:W5.cell? ⟨gb227,14,none⟩=some (.slice A0_14 l0_14.length c0_14):=(kC BKN.out 14).trans rfl
        have hq15:W5.cell? ⟨gb227,15,none⟩=some (.string a0_15):=(kC BKN.out 15).trans rfl
        clear hb1
        have H:=HT.out
        clear HT
        by_cases z5:e3=0
        case neg =>
         rw[if_neg z5] at H
         have z5b:(e3 != 0)=true:=bne_iff_ne.mpr z5
         obtain rfl:=Option.some.inj H
         go_wp2
         go_ret
         exact⟨by first|rfl|(simp;done),by repeat(first|(with_reducible first|exact HBN.out|apply bA|apply bN|apply bD)|exact HBN.out)⟩
        rw[if_pos z5] at H
        have z5b:(e3 != 0)=false:=bne_eq_false_iff_eq.mpr z5
        clear z5
        by_cases z6:(a0_15.size:Int) > 1480
        case pos =>
         rw[if_pos z6] at H
         have z6b:decide (1480 < (a0_15.size:Int))=true:=decide_eq_true z6
         obtain rfl:=Option.some.inj H
         go_wp2
         go_ret
         exact⟨by first|rfl|(simp;done),by repeat(first|(with_reducible first|exact HBN.out|apply bA|apply bN|apply bD)|exact HBN.out)⟩
        rw[if_neg z6] at H
        have z6b:decide (1480 < (a0_15.size:Int))=false:=decide_eq_false z6
        obtain rfl:=Option.some.inj H
        go_wp2
        go_ret
        exact⟨by first|rfl|(simp;done),by repeat(first|(with_reducible first|exact HBN.out|apply bA|apply bN|apply bD)|exact HBN.out)⟩
       rw[if_neg (fun h=>h.elim (by decide) y2)] at H
       have y2b:(a0_6 != 0)=true:=bne_iff_ne.mpr y2
       obtain rfl:=Option.some.inj H
       go_wp2
       go_ret
       exact⟨by first|rfl|(simp;done),by repeat(first|(with_reducible first|exact HBN.out|apply bA|apply bN|apply bD)|exact HBN.out)⟩
     rw[if_neg (fun h=>h.elim (by decide) y1)] at H
     have y1b:(a0_3 != 0)=true:=bne_iff_ne.mpr y1
     obtain rfl:=Option.some.inj H
     go_wp2
     go_ret
     exact⟨by first|rfl|(simp;done),by repeat(first|(with_reducible first|exact HBN.out|apply bA|apply bN|apply bD)|exact HBN.out)⟩

/-! ### sternpostref02_Pseudo: function 45 -/
def sternpostref02_Pseudo.j0:Nat→Int→Int→Int→Int→Bool→Option (ByteArray × Int)
 | 0,_,_,_,_,_=>none
 | k+1,x0,x1,x2,x3,x33=>if x33=true then (some ((⟨#[]⟩:ByteArray),1)) else ((sternpostref02_Text.f k x0 4).bind fun t235=>((sternpostref02_Text.f k x1 4).bind fun t236=>(if t235.size+t236.size≤9223372036854775807 then ((sternpostref02_Text.f k x2 2).bind fun t237=>(if (t235++t236).size+t237.size≤9223372036854775807 then ((sternpostref02_Text.f k x3 2).bind fun t238=>(if ((t235++t236)++t237).size+t238.size≤9223372036854775807 then (some (((t235++t236)++t237)++t238,0)) else (none))) else (none))) else (none))))
def sternpostref02_Pseudo.f (k:Nat) (a0:Int) (a1:Int) (a2:Int) (a3:Int):Option (ByteArray × Int):=(sternpostref01_Check.f a0).bind fun t233=>(if t233=0 then ((sternpostref01_Check.f a1).bind fun t234=>(if t234=0 then (if a2 < 0 then (sternpostref02_Pseudo.j0 k a0 a1 a2 a3 true) else (if a2 > 255 then (sternpostref02_Pseudo.j0 k a0 a1 a2 a3 true) else (if a3 < 0 then (sternpostref02_Pseudo.j0 k a0 a1 a2 a3 true) else (sternpostref02_Pseudo.j0 k a0 a1 a2 a3 (decide (a3 > 65535)))))) else (sternpostref02_Pseudo.j0 k a0 a1 a2 a3 true))) else (sternpostref02_Pseudo.j0 k a0 a1 a2 a3 true))
theorem sternpostref02_Pseudo.mono_l:∀ k,(∀ y0 y1 y2 y3 y4,LeO (sternpostref02_Pseudo.j0 k y0 y1 y2 y3 y4) (sternpostref02_Pseudo.j0 (k+1) y0 y1 y2 y3 y4))
 | 0=>fun _ _ _ _ _ r h=>by simp[sternpostref02_Pseudo.j0] at h
 | k+1=>by
  have ih0:=sternpostref02_Pseudo.mono_l k
  ·intro y0 y1 y2 y3 y4
   unfold sternpostref02_Pseudo.j0
   repeat' first
   | (with_reducible exact ih0 _ _ _ _ _)
   | (with_reducible exact sternpostref02_Text.mono _ _ _)
   | (with_reducible exact LeO.refl _)
   | (with_reducible exact LeO.none _)
   | (with_reducible refine LeO.ite ?_ ?_)
   | (with_reducible refine LeO.bind ?_ (fun _=>?_))
   | exact ih0 _ _ _ _ _
   | exact sternpostref02_Text.mono _ _ _
   | exact LeO.none _
   | refine LeO.ite ?_ ?_
   | refine LeO.bind ?_ (fun _=>?_)
theorem sternpostref02_Pseudo.mono:∀ a0 a1 a2 a3 k,LeO (sternpostref02_Pseudo.f k a0 a1 a2 a3) (sternpostref02_Pseudo.f (k+1) a0 a1 a2 a3):=by
 intro a0 a1 a2 a3 k
 have ih0:=sternpostref02_Pseudo.mono_l k
 unfold sternpostref02_Pseudo.f
 repeat' first
   | (with_reducible exact ih0 _ _ _ _ _)
   | (with_reducible exact sternpostref02_Text.mono _ _ _)
   | (with_reducible exact LeO.refl _)
   | (with_reducible exact LeO.none _)
   | (with_reducible refine LeO.ite ?_ ?_)
   | (with_reducible refine LeO.bind ?_ (fun _=>?_))
   | exact ih0 _ _ _ _ _
   | exact sternpostref02_Text.mono _ _ _
   | exact LeO.none _
   | refine LeO.ite ?_ ?_
   | refine LeO.bind ?_ (fun _=>?_)
set_option maxHeartbeats 8000000 in
set_option maxRecDepth 100000 in
theorem sternpostref02_Pseudo.calls (k:Nat) (a0:Int) (a1:Int) (a2:Int) (a3:Int) (r1:ByteArray) (r2:Int) (w:World) (h:sternpostref02_Pseudo.f k a0 a1 a2 a3=some (r1,r2)) :
  Calls Try.prog 45 #[.int .i64 a0,.int .i64 a1,.int .i64 a2,.int .i64 a3] w fun e w'=>e=.returned (.tuple #[.string r1,.int .i64 r2])∧Below w.heap.size w w':=by
 have HB:=mkA (Below.refl w.heap.size w)
 have H:((sternpostref01_Check.f a0).bind fun t233=>(if t233=0 then ((sternpostref01_Check.f a1).bind fun t234=>(if t234=0 then (if a2 < 0 then (sternpostref02_Pseudo.j0 k a0 a1 a2 a3 true) else (if a2 > 255 then (sternpostref02_Pseudo.j0 k a0 a1 a2 a3 true) else (if a3 < 0 then (sternpostref02_Pseudo.j0 k a0 a1 a2 a3 true) else (sternpostref02_Pseudo.j0 k a0 a1 a2 a3 (decide (a3 > 65535)))))) else (sternpostref02_Pseudo.j0 k a0 a1 a2 a3 true))) else (sternpostref02_Pseudo.j0 k a0 a1 a2 a3 true)))=some (r1,r2):=h
 clear h
 have HC5:=mkA H
 clear H
 go_enter Try.func45,Try.ntmps45
 go_upto_region 1 with (fail)
 go_cut [33] (fun v33 wc=>∃ (kq:Nat) (x33_4:Bool),v33=.bool x33_4∧Aside0 (sternpostref02_Pseudo.j0 kq a0 a1 a2 a3 x33_4=some (r1,r2))∧Aside0 (kq≤k)∧Aside0 (Below w.heap.size w wc))
 case first =>
  have H:=HC5.out
  clear HC5
  replace H:=Option.bind_eq_some_iff.mp H
  obtain⟨t233,A60,H⟩:=H
  replace H:(if t233=0 then ((sternpostref01_Check.f a1).bind fun t234=>(if t234=0 then (if a2 < 0 then (sternpostref02_Pseudo.j0 k a0 a1 a2 a3 true) else (if a2 > 255 then (sternpostref02_Pseudo.j0 k a0 a1 a2 a3 true) else (if a3 < 0 then (sternpostref02_Pseudo.j0 k a0 a1 a2 a3 true) else (sternpostref02_Pseudo.j0 k a0 a1 a2 a3 (decide (a3 > 65535)))))) else (sternpostref02_Pseudo.j0 k a0 a1 a2 a3 true))) else (sternpostref02_Pseudo.j0 k a0 a1 a2 a3 true))=some (r1,r2):=H
  have A6:=mkA A60
  clear A60
  by_cases c7:t233=0
  ·rw[if_pos c7] at H
   have c7b0:(t233 == 0)=true:=beq_iff_eq.mpr c7
   have c7b1:(t233 != 0)=false:=bne_eq_false_iff_eq.mpr c7
   clear c7
   (first|rw[c7b0]|(simp only[i64_w,i32_w];rw[c7b0])|rw[c7b1]|skip)
   replace H:=Option.bind_eq_some_iff.mp H
   obtain⟨t234,A80,H⟩:=H
   replace H:(if t234=0 then (if a2 < 0 then (sternpostref02_Pseudo.j0 k a0 a1 a2 a3 true) else (if a2 > 255 then (sternpostref02_Pseudo.j0 k a0 a1 a2 a3 true) else (if a3 < 0 then (sternpostref02_Pseudo.j0 k a0 a1 a2 a3 true) else (sternpostref02_Pseudo.j0 k a0 a1 a2 a3 (decide (a3 > 65535)))))) else (sternpostref02_Pseudo.j0 k a0 a1 a2 a3 true))=some (r1,r2):=H
   have A8:=mkA A80
   clear A80
   by_cases c9:t234=0
   ·rw[if_pos c9] at H
    have c9b0:(t234 == 0)=true:=beq_iff_eq.mpr c9
    have c9b1:(t234 != 0)=false:=bne_eq_false_iff_eq.mpr c9
    clear c9
    by_cases c10:a2 < 0
    ·rw[if_pos c10] at H
     have c10b0:decide (a2 < 0)=true:=decide_eq_true c10
     clear c10
     have H':=mkA H
     clear H
     go_wp2_with (first|((with_reducible refine gate_callee (f:=37) rfl ?_);refine goesL_ (some 11) rfl rfl Try.func37 (by kernel_rfl) rfl #[.int .i64 a0] rfl (by(try simp only[List.map_toArray,List.map_cons,List.map_nil]);first|done|rfl|(simp only[List.length_drop,List.length_take];rfl)) ?_;(with_reducible refine(sternpostref01_Check.calls a0 t233 _ A6.out).mono ?_);rintro e w' ⟨rfl,⟨nd,rfl⟩⟩;refine⟨_,rfl,?_⟩)|(go_at_call 37;(with_reducible refine(sternpostref01_Check.calls a1 t234 _ A8.out).mono ?_);rintro e w' ⟨rfl,⟨nd,rfl⟩⟩))
     go_meet
     case rel=>exact⟨_,(true),(by first|rfl|(simp;done)|(simp[*];done)),H',⟨by first|omega|exact Nat.le_refl _⟩,⟨by repeat(first|(with_reducible first|exact HB.out|apply bA|apply bN|apply bD)|exact HB.out)⟩⟩
    ·rw[if_neg c10] at H
     have c10b0:decide (a2 < 0)=false:=decide_eq_false c10
     clear c10
     by_cases c11:a2 > 255
     ·rw[if_pos c11] at H
      have c11b0:decide (255 < a2)=true:=decide_eq_true c11
      clear c11
      have H':=mkA H
      clear H
      go_wp2_with (first|((with_reducible refine gate_callee (f:=37) rfl ?_);refine goesL_ (some 11) rfl rfl Try.func37 (by kernel_rfl) rfl #[.int .i64 a0] rfl (by(try simp only[List.map_toArray,List.map_cons,List.map_nil]);first|done|rfl|(simp only[List.length_drop,List.length_take];rfl)) ?_;(with_reducible refine(sternpostref01_Check.calls a0 t233 _ A6.out).mono ?_);rintro e w' ⟨rfl,⟨nd,rfl⟩⟩;refine⟨_,rfl,?_⟩)|(go_at_call 37;(with_reducible refine(sternpostref01_Check.calls a1 t234 _ A8.out).mono ?_);rintro e w' ⟨rfl,⟨nd,rfl⟩⟩))
      go_meet
      case rel=>exact⟨_,(true),(by first|rfl|(simp;done)|(simp[*];done)),H',⟨by first|omega|exact Nat.le_refl _⟩,⟨by repeat(first|(with_reducible first|exact HB.out|apply bA|apply bN|apply bD)|exact HB.out)⟩⟩
     ·rw[if_neg c11] at H
      have c11b0:decide (255 < a2)=false:=decide_eq_false c11
      clear c11
      by_cases c12:a3 < 0
      ·rw[if_pos c12] at H
       have c12b0:decide (a3 < 0)=true:=decide_eq_true c12
       clear c12
       have H':=mkA H
       clear H
       go_wp2_with (first|((with_reducible refine gate_callee (f:=37) rfl ?_);refine goesL_ (some 11) rfl rfl Try.func37 (by kernel_rfl) rfl #[.int .i64 a0] rfl (by(try simp only[List.map_toArray,List.map_cons,List.map_nil]);first|done|rfl|(simp only[List.length_drop,List.length_take];rfl)) ?_;(with_reducible refine(sternpostref01_Check.calls a0 t233 _ A6.out).mono ?_);rintro e w' ⟨rfl,⟨nd,rfl⟩⟩;refine⟨_,rfl,?_⟩)|(go_at_call 37;(with_reducible refine(sternpostref01_Check.calls a1 t234 _ A8.out).mono ?_);rintro e w' ⟨rfl,⟨nd,rfl⟩⟩))
       go_meet
       case rel=>exact⟨_,(true),(by first|rfl|(simp;done)|(simp[*];done)),H',⟨by first|omega|exact Nat.le_refl _⟩,⟨by repeat(first|(with_reducible first|exact HB.out|apply bA|apply bN|apply bD)|exact HB.out)⟩⟩
      ·rw[if_neg c12] at H
       have c12b0:decide (a3 < 0)=false:=decide_eq_false c12
       clear c12
       have H':=mkA H
       clear H
       go_wp2_with (first|((with_reducible refine gate_callee (f:=37) rfl ?_);refine goesL_ (some 11) rfl rfl Try.func37 (by kernel_rfl) rfl #[.int .i64 a0] rfl (by(try simp only[List.map_toArray,List.map_cons,List.map_nil]);first|done|rfl|(simp only[List.length_drop,List.length_take];rfl)) ?_;(with_reducible refine(sternpostref01_Check.calls a0 t233 _ A6.out).mono ?_);rintro e w' ⟨rfl,⟨nd,rfl⟩⟩;refine⟨_,rfl,?_⟩)|(go_at_call 37;(with_reducible refine(sternpostref01_Check.calls a1 t234 _ A8.out).mono ?_);rintro e w' ⟨rfl,⟨nd,rfl⟩⟩))
       go_meet
       case rel=>exact⟨_,(decide (a3 > 65535)),(by first|rfl|(simp;done)|(simp[*];done)),H',⟨by first|omega|exact Nat.le_refl _⟩,⟨by repeat(first|(with_reducible first|exact HB.out|apply bA|apply bN|apply bD)|exact HB.out)⟩⟩
   ·rw[if_neg c9] at H
    have c9b0:(t234 == 0)=false:=beq_eq_false_iff_ne.mpr c9
    have c9b1:(t234 != 0)=true:=bne_iff_ne.mpr c9
    have H':=mkA H
    clear H
    go_wp2_with (first|((with_reducible refine gate_callee (f:=37) rfl ?_);refine goesL_ (some 11) rfl rfl Try.func37 (by kernel_rfl) rfl #[.int .i64 a0] rfl (by(try simp only[List.map_toArray,List.map_cons,List.map_nil]);first|done|rfl|(simp only[List.length_drop,List.length_take];rfl)) ?_;(with_reducible refine(sternpostref01_Check.calls a0 t233 _ A6.out).mono ?_);rintro e w' ⟨rfl,⟨nd,rfl⟩⟩;refine⟨_,rfl,?_⟩)|(go_at_call 37;(with_reducible refine(sternpostref01_Check.calls a1 t234 _ A8.out).mono ?_);rintro e w' ⟨rfl,⟨nd,rfl⟩⟩))
    go_meet
    case rel=>exact⟨_,(true),(by first|rfl|(simp;done)|(simp[*];done)),H',⟨by first|omega|exact Nat.le_refl _⟩,⟨by repeat(first|(with_reducible first|exact HB.out|apply bA|apply bN|apply bD)|exact HB.out)⟩⟩
  ·rw[if_neg c7] at H
   have c7b0:(t233 == 0)=false:=beq_eq_false_iff_ne.mpr c7
   have c7b1:(t233 != 0)=true:=bne_iff_ne.mpr c7
   (first|rw[c7b0]|(simp only[i64_w,i32_w];rw[c7b0])|rw[c7b1]|skip)
   have H':=mkA H
   clear H
   go_wp2_with (first|((with_reducible refine gate_callee (f:=37) rfl ?_);refine goesL_ (some 11) rfl rfl Try.func37 (by kernel_rfl) rfl #[.int .i64 a0] rfl (by(try simp only[List.map_toArray,List.map_cons,List.map_nil]);first|done|rfl|(simp only[List.length_drop,List.length_take];rfl)) ?_;(with_reducible refine(sternpostref01_Check.calls a0 t233 _ A6.out).mono ?_);rintro e w' ⟨rfl,⟨nd,rfl⟩⟩;refine⟨_,rfl,?_⟩))
   go_meet
   case rel=>exact⟨_,(true),(by first|rfl|(simp;done)|(simp[*];done)),H',⟨by first|omega|exact Nat.le_refl _⟩,⟨by repeat(first|(with_reducible first|exact HB.out|apply bA|apply bN|apply bD)|exact HB.out)⟩⟩
 case rest =>
  clear HC5
  try clear c1;try clear p2;try clear c3;try clear c4;try clear c7;try clear c7b0;try clear c7b1;try clear c9;try clear c9b0;try clear c9b1;try clear c10;try clear c10b0;try clear c11;try clear c11b0;try clear c12;try clear c12b0
  obtain⟨kq,x33_4,rfl,HA,HJ4,HB⟩:=hcut
  cases kq with
  | zero=>exact absurd HA.out (by simp[sternpostref02_Pseudo.j0])
  | succ kj4 =>
   have H:=HA.out
   clear HA
   simp only[sternpostref02_Pseudo.j0] at H
   by_cases c13:x33_4=true
   ·subst c13
    have H1:(some ((⟨#[]⟩:ByteArray),1))=some (r1,r2):=by rw[if_pos rfl] at H;exact H
    clear H
    have H:=H1
    clear H1
    simp only[Option.some.injEq,Prod.mk.injEq] at H
    obtain⟨rfl,rfl⟩:=H
    go_wp2
    go_ret2
    exact⟨by first|rfl|(simp[errW_none,errW_some] <;> rfl)|(simp[*,errW_none,errW_some] <;> rfl),by repeat(first|(with_reducible first|exact HB.out|apply bA|apply bN|apply bD)|exact HB.out)⟩
   ·replace c13:=Bool.eq_false_iff.mpr c13
    subst c13
    have H1:((sternpostref02_Text.f kj4 a0 4).bind fun t235=>((sternpostref02_Text.f kj4 a1 4).bind fun t236=>(if t235.size+t236.size≤9223372036854775807 then ((sternpostref02_Text.f kj4 a2 2).bind fun t237=>(if (t235++t236).size+t237.size≤9223372036854775807 then ((sternpostref02_Text.f kj4 a3 2).bind fun t238=>(if ((t235++t236)++t237).size+t238.size≤9223372036854775807 then (some (((t235++t236)++t237)++t238,0)) else (none))) else (none))) else (none))))=some (r1,r2):=by rw[if_neg (show ¬ (false=true) by decide)] at H;exact H
    clear H
    have H:=H1
    clear H1
    replace H:=Option.bind_eq_some_iff.mp H
    obtain⟨t235,A140,H⟩:=H
    replace H:((sternpostref02_Text.f kj4 a1 4).bind fun t236=>(if t235.size+t236.size≤9223372036854775807 then ((sternpostref02_Text.f kj4 a2 2).bind fun t237=>(if (t235++t236).size+t237.size≤9223372036854775807 then ((sternpostref02_Text.f kj4 a3 2).bind fun t238=>(if ((t235++t236)++t237).size+t238.size≤9223372036854775807 then (some (((t235++t236)++t237)++t238,0)) else (none))) else (none))) else (none)))=some (r1,r2):=H
    have A14:=mkA A140
    clear A140
    replace H:=Option.bind_eq_some_iff.mp H
    obtain⟨t236,A150,H⟩:=H
    replace H:(if t235.size+t236.size≤9223372036854775807 then ((sternpostref02_Text.f kj4 a2 2).bind fun t237=>(if (t235++t236).size+t237.size≤9223372036854775807 then ((sternpostref02_Text.f kj4 a3 2).bind fun t238=>(if ((t235++t236)++t237).size+t238.size≤9223372036854775807 then (some (((t235++t236)++t237)++t238,0)) else (none))) else (none))) else (none))=some (r1,r2):=H
    have A15:=mkA A150
    clear A150
    by_cases c16:t235.size+t236.size≤9223372036854775807
    ·rw[if_pos c16] at H
     have c16b0:=eq_true c16
     have c16b1:decide (t235.size+t236.size≤9223372036854775807)=true:=decide_eq_true c16
     try have c16b2:(9223372036854775807 < t235.size+t236.size)=False:=eq_false (Nat.not_lt.2 c16)
     replace H:=Option.bind_eq_some_iff.mp H
     obtain⟨t237,A170,H⟩:=H
     replace H:(if (t235++t236).size+t237.size≤9223372036854775807 then ((sternpostref02_Text.f kj4 a3 2).bind fun t238=>(if ((t235++t236)++t237).size+t238.size≤9223372036854775807 then (some (((t235++t236)++t237)++t238,0)) else (none))) else (none))=some (r1,r2):=H
     have A17:=mkA A170
     clear A170
     by_cases c18:(t235++t236).size+t237.size≤9223372036854775807
     ·rw[if_pos c18] at H
      have c18b0:=eq_true c18
      have c18b1:decide ((t235++t236).size+t237.size≤9223372036854775807)=true:=decide_eq_true c18
      try have c18b2:(9223372036854775807 < (t235++t236).size+t237.size)=False:=eq_false (Nat.not_lt.2 c18)
      (try(have c18b3:=c18b2;simp only[ByteArray.size_append] at c18b3))
      replace H:=Option.bind_eq_some_iff.mp H
      obtain⟨t238,A190,H⟩:=H
      replace H:(if ((t235++t236)++t237).size+t238.size≤9223372036854775807 then (some (((t235++t236)++t237)++t238,0)) else (none))=some (r1,r2):=H
      have A19:=mkA A190
      clear A190
      by_cases c20:((t235++t236)++t237).size+t238.size≤9223372036854775807
      ·rw[if_pos c20] at H
       have c20b0:=eq_true c20
       have c20b1:decide (((t235++t236)++t237).size+t238.size≤9223372036854775807)=true:=decide_eq_true c20
       try have c20b2:(9223372036854775807 < ((t235++t236)++t237).size+t238.size)=False:=eq_false (Nat.not_lt.2 c20)
       (try(have c20b3:=c20b2;simp only[ByteArray.size_append] at c20b3))
       simp only[Option.some.injEq,Prod.mk.injEq] at H
       obtain⟨rfl,rfl⟩:=H
       go_wp2_with (first|((with_reducible refine gate_callee (f:=55) rfl ?_);refine goesL_ (some 35) rfl rfl Try.func55 (by kernel_rfl) rfl #[.int .i64 a0,.int .i64 4] rfl (by(try simp only[List.map_toArray,List.map_cons,List.map_nil]);first|done|rfl|(simp only[List.length_drop,List.length_take];rfl)) ?_;(with_reducible refine(sternpostref02_Text.calls kj4 a0 4 t235 _ A14.out).mono ?_);rintro e w21 ⟨rfl,hb⟩;refine⟨_,rfl,?_⟩;have n0_:=mkA (bT (by repeat(first|(with_reducible first|exact HB.out|apply bA|apply bN|apply bD)|exact HB.out)) hb);clear HB;have HB:=n0_;clear n0_;(try clear hb);(try clear hb2);(try clear hk);(try clear hi))|((with_reducible refine gate_callee (f:=55) rfl ?_);refine goesL_ (some 37) rfl rfl Try.func55 (by kernel_rfl) rfl #[.int .i64 a1,.int .i64 4] rfl (by(try simp only[List.map_toArray,List.map_cons,List.map_nil]);first|done|rfl|(simp only[List.length_drop,List.length_take];rfl)) ?_;(with_reducible refine(sternpostref02_Text.calls kj4 a1 4 t236 _ A15.out).mono ?_);rintro e w22 ⟨rfl,hb⟩;refine⟨_,rfl,?_⟩;have n0_:=mkA (bT (by repeat(first|(with_reducible first|exact HB.out|apply bA|apply bN|apply bD)|exact HB.out)) hb);clear HB;have HB:=n0_;clear n0_;(try clear hb);(try clear hb2);(try clear hk);(try clear hi))|((with_reducible refine gate_callee (f:=55) rfl ?_);refine goesL_ (some 40) rfl rfl Try.func55 (by kernel_rfl) rfl #[.int .i64 a2,.int .i64 2] rfl (by(try simp only[List.map_toArray,List.map_cons,List.map_nil]);first|done|rfl|(simp only[List.length_drop,List.length_take];rfl)) ?_;(with_reducible refine(sternpostref02_Text.calls kj4 a2 2 t237 _ A17.out).mono ?_);rintro e w23 ⟨rfl,hb⟩;refine⟨_,rfl,?_⟩;have n0_:=mkA (bT (by repeat(first|(with_reducible first|exact HB.out|apply bA|apply bN|apply bD)|exact HB.out)) hb);clear HB;have HB:=n0_;clear n0_;(try clear hb);(try clear hb2);(try clear hk);(try clear hi))|((with_reducible refine gate_callee (f:=55) rfl ?_);refine goesL_ (some 43) rfl rfl Try.func55 (by kernel_rfl) rfl #[.int .i64 a3,.int .i64 2] rfl (by(try simp only[List.map_toArray,List.map_cons,List.map_nil]);first|done|rfl|(simp only[List.length_drop,List.length_take];rfl)) ?_;(with_reducible refine(sternpostref02_Text.calls kj4 a3 2 t238 _ A19.out).mono ?_);rintro e w24 ⟨rfl,hb⟩;refine⟨_,rfl,?_⟩;have n0_:=mkA (bT (by repeat(first|(with_reducible first|exact HB.out|apply bA|apply bN|apply bD)|exact HB.out)) hb);clear HB;have HB:=n0_;clear n0_;(try clear hb);(try clear hb2);(try clear hk);(try clear hi)))
       go_ret2
       exact⟨by first|rfl|(simp[errW_none,errW_some] <;> rfl)|(simp[*,errW_none,errW_some] <;> rfl),by repeat(first|(with_reducible first|exact HB.out|apply bA|apply bN|apply bD)|exact HB.out)⟩
      ·rw[if_neg c20] at H
       exact absurd H (by simp)
     ·rw[if_neg c18] at H
      exact absurd H (by simp)
    ·rw[if_neg c16] at H
     exact absurd H (by simp)

end Go.Proofs.Ytakajeoeijnmhaa.PSegReads

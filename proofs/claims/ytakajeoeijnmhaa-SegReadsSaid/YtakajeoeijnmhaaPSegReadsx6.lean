-- Laid by this claim's own program over the print's words.
import Derived.Test.YtakajeoeijnmhaaPSegReadsx0
import Derived.Test.YtakajeoeijnmhaaPSegReadsx2
import Derived.Test.YtakajeoeijnmhaaPSegReadsx5
namespace Go.Proofs.Ytakajeoeijnmhaa.PSegReads
open Go.RowKit Go.Proofs.YtakajeoeijnmhaaW.PrintWords Go.Proofs.YtakajeoeijnmhaaW.PrintLast Go.Proofs.YtakajeoeijnmhaaW.PrintMore
attribute [local go_sem] max2_int min2_int max_two min_two max_three min_three max_four min_four max_five min_five extract_cut tmod_nat_lit   -- for this text's walks alone
set_option linter.unusedVariables false
set_option linter.unusedSimpArgs false

/-! ### seg_Check: function 14 -/
mutual
def seg_Check.j0:Nat→Bool→Int→Int→Int→Int→Int→Int→Int→Int→Int→Int→Int→Bool→Bool→Bool→List (S73)→ByteArray→Option (Int)
 | 0,_,_,_,_,_,_,_,_,_,_,_,_,_,_,_,_,_=>none
 | k+1,x3,x145000,x145001,x145002,x145003,x145004,x145005,x145006,x145007,x145008,x145009,x145010,x145011,x145012,x145013,x145014,x145015=>if x3=true then (seg_Check.j1 k true x145000 x145001 x145002 x145003 x145004 x145005 x145006 x145007 x145008 x145009 x145010 x145011 x145012 x145013 x145014 x145015) else ((seq_Check.f x145002).bind fun t145=>((seq_Check.f x145003).bind fun t146=>((opts_Check.f k x145007 x145008 x145009 x145010 x145011 x145012 x145013 x145014).bind fun t147=>(if (mx (mx t145 t146) t147) > 0 then (seg_Check.j1 k true x145000 x145001 x145002 x145003 x145004 x145005 x145006 x145007 x145008 x145009 x145010 x145011 x145012 x145013 x145014 x145015) else (seg_Check.j1 k (decide ((x145015.size:Int) > 1480)) x145000 x145001 x145002 x145003 x145004 x145005 x145006 x145007 x145008 x145009 x145010 x145011 x145012 x145013 x145014 x145015)))))
def seg_Check.j1:Nat→Bool→Int→Int→Int→Int→Int→Int→Int→Int→Int→Int→Int→Bool→Bool→Bool→List (S73)→ByteArray→Option (Int)
 | 0,_,_,_,_,_,_,_,_,_,_,_,_,_,_,_,_,_=>none
 | k+1,x3,x145000,x145001,x145002,x145003,x145004,x145005,x145006,x145007,x145008,x145009,x145010,x145011,x145012,x145013,x145014,x145015=>if x3=true then (seg_Check.j2 k true) else (if x145003 > 0 then ((seg_Has.f x145000 x145001 x145002 x145003 x145004 x145005 x145006 x145007 x145008 x145009 x145010 x145011 x145012 x145013 x145014 x145015 16).bind fun t148=>(if t148=true then (if x145006 > 0 then ((seg_Has.f x145000 x145001 x145002 x145003 x145004 x145005 x145006 x145007 x145008 x145009 x145010 x145011 x145012 x145013 x145014 x145015 32).bind fun t149=>(seg_Check.j2 k (!t149))) else (seg_Check.j2 k false)) else (seg_Check.j2 k true))) else (if x145006 > 0 then ((seg_Has.f x145000 x145001 x145002 x145003 x145004 x145005 x145006 x145007 x145008 x145009 x145010 x145011 x145012 x145013 x145014 x145015 32).bind fun t150=>(seg_Check.j2 k (!t150))) else (seg_Check.j2 k false)))
def seg_Check.j2:Nat→Bool→Option (Int)
 | 0,_=>none
 | k+1,x73=>if x73=true then (some 80) else (some 0)
end
def seg_Check.f (k:Nat) (a0_0:Int) (a0_1:Int) (a0_2:Int) (a0_3:Int) (a0_4:Int) (a0_5:Int) (a0_6:Int) (a0_7:Int) (a0_8:Int) (a0_9:Int) (a0_10:Int) (a0_11:Bool) (a0_12:Bool) (a0_13:Bool) (l0_14:List (S73)) (a0_15:ByteArray):Option (Int):=if (mn (mn (mn (mn a0_0 a0_1) a0_5) a0_6) a0_4) < 0 then (seg_Check.j0 k true a0_0 a0_1 a0_2 a0_3 a0_4 a0_5 a0_6 a0_7 a0_8 a0_9 a0_10 a0_11 a0_12 a0_13 l0_14 a0_15) else (if (mx (mx (mx a0_0 a0_1) a0_5) a0_6) > 65535 then (seg_Check.j0 k true a0_0 a0_1 a0_2 a0_3 a0_4 a0_5 a0_6 a0_7 a0_8 a0_9 a0_10 a0_11 a0_12 a0_13 l0_14 a0_15) else (seg_Check.j0 k (decide (a0_4 > 63)) a0_0 a0_1 a0_2 a0_3 a0_4 a0_5 a0_6 a0_7 a0_8 a0_9 a0_10 a0_11 a0_12 a0_13 l0_14 a0_15))
theorem seg_Check.mono_l:∀ k,(∀ y0 y1 y2 y3 y4 y5 y6 y7 y8 y9 y10 y11 y12 y13 y14 y15 y16,LeO (seg_Check.j0 k y0 y1 y2 y3 y4 y5 y6 y7 y8 y9 y10 y11 y12 y13 y14 y15 y16) (seg_Check.j0 (k+1) y0 y1 y2 y3 y4 y5 y6 y7 y8 y9 y10 y11 y12 y13 y14 y15 y16))∧(∀ y0 y1 y2 y3 y4 y5 y6 y7 y8 y9 y10 y11 y12 y13 y14 y15 y16,LeO (seg_Check.j1 k y0 y1 y2 y3 y4 y5 y6 y7 y8 y9 y10 y11 y12 y13 y14 y15 y16) (seg_Check.j1 (k+1) y0 y1 y2 y3 y4 y5 y6 y7 y8 y9 y10 y11 y12 y13 y14 y15 y16))∧(∀ y0,LeO (seg_Check.j2 k y0) (seg_Check.j2 (k+1) y0))
 | 0=>⟨fun _ _ _ _ _ _ _ _ _ _ _ _ _ _ _ _ _ r h=>by simp[seg_Check.j0] at h,fun _ _ _ _ _ _ _ _ _ _ _ _ _ _ _ _ _ r h=>by simp[seg_Check.j1] at h,fun _ r h=>by simp[seg_Check.j2] at h⟩
 | k+1=>by
  obtain⟨ih0,ih1,ih2⟩:=seg_Check.mono_l k
  refine⟨?_,?_,?_⟩
  ·intro y0 y1 y2 y3 y4 y5 y6 y7 y8 y9 y10 y11 y12 y13 y14 y15 y16
   unfold seg_Check.j0
   repeat' first
   | (with_reducible exact ih0 _ _ _ _ _ _ _ _ _ _ _ _ _ _ _ _ _)
   | (with_reducible exact ih1 _ _ _ _ _ _ _ _ _ _ _ _ _ _ _ _ _)
   | (with_reducible exact ih2 _)
   | (with_reducible exact opts_Check.mono _ _ _ _ _ _ _ _ _)
   | (with_reducible exact LeO.refl _)
   | (with_reducible exact LeO.none _)
   | (with_reducible refine LeO.ite ?_ ?_)
   | (with_reducible refine LeO.bind ?_ (fun _=>?_))
   | exact ih0 _ _ _ _ _ _ _ _ _ _ _ _ _ _ _ _ _
   | exact ih1 _ _ _ _ _ _ _ _ _ _ _ _ _ _ _ _ _
   | exact ih2 _
   | exact opts_Check.mono _ _ _ _ _ _ _ _ _
   | exact LeO.none _
   | refine LeO.ite ?_ ?_
   | refine LeO.bind ?_ (fun _=>?_)
  ·intro y0 y1 y2 y3 y4 y5 y6 y7 y8 y9 y10 y11 y12 y13 y14 y15 y16
   unfold seg_Check.j1
   repeat' first
   | (with_reducible exact ih0 _ _ _ _ _ _ _ _ _ _ _ _ _ _ _ _ _)
   | (with_reducible exact ih1 _ _ _ _ _ _ _ _ _ _ _ _ _ _ _ _ _)
   | (with_reducible exact ih2 _)
   | (with_reducible exact opts_Check.mono _ _ _ _ _ _ _ _ _)
   | (with_reducible exact LeO.refl _)
   | (with_reducible exact LeO.none _)
   | (with_reducible refine LeO.ite ?_ ?_)
   | (with_reducible refine LeO.bind ?_ (fun _=>?_))
   | exact ih0 _ _ _ _ _ _ _ _ _ _ _ _ _ _ _ _ _
   | exact ih1 _ _ _ _ _ _ _ _ _ _ _ _ _ _ _ _ _
   | exact ih2 _
   | exact opts_Check.mono _ _ _ _ _ _ _ _ _
   | exact LeO.none _
   | refine LeO.ite ?_ ?_
   | refine LeO.bind ?_ (fun _=>?_)
  ·intro y0
   unfold seg_Check.j2
   repeat' first
   | (with_reducible exact ih0 _ _ _ _ _ _ _ _ _ _ _ _ _ _ _ _ _)
   | (with_reducible exact ih1 _ _ _ _ _ _ _ _ _ _ _ _ _ _ _ _ _)
   | (with_reducible exact ih2 _)
   | (with_reducible exact opts_Check.mono _ _ _ _ _ _ _ _ _)
   | (with_reducible exact LeO.refl _)
   | (with_reducible exact LeO.none _)
   | (with_reducible refine LeO.ite ?_ ?_)
   | (with_reducible refine LeO.bind ?_ (fun _=>?_))
   | exact ih0 _ _ _ _ _ _ _ _ _ _ _ _ _ _ _ _ _
   | exact ih1 _ _ _ _ _ _ _ _ _ _ _ _ _ _ _ _ _
   | exact ih2 _
   | exact opts_Check.mono _ _ _ _ _ _ _ _ _
   | exact LeO.none _
   | refine LeO.ite ?_ ?_
   | refine LeO.bind ?_ (fun _=>?_)
theorem seg_Check.mono:∀ a0 a1 a2 a3 a4 a5 a6 a7 a8 a9 a10 a11 a12 a13 a14 a15 k,LeO (seg_Check.f k a0 a1 a2 a3 a4 a5 a6 a7 a8 a9 a10 a11 a12 a13 a14 a15) (seg_Check.f (k+1) a0 a1 a2 a3 a4 a5 a6 a7 a8 a9 a10 a11 a12 a13 a14 a15):=by
 intro a0 a1 a2 a3 a4 a5 a6 a7 a8 a9 a10 a11 a12 a13 a14 a15 k
 obtain⟨ih0,ih1,ih2⟩:=seg_Check.mono_l k
 unfold seg_Check.f
 repeat' first
   | (with_reducible exact ih0 _ _ _ _ _ _ _ _ _ _ _ _ _ _ _ _ _)
   | (with_reducible exact ih1 _ _ _ _ _ _ _ _ _ _ _ _ _ _ _ _ _)
   | (with_reducible exact ih2 _)
   | (with_reducible exact opts_Check.mono _ _ _ _ _ _ _ _ _)
   | (with_reducible exact LeO.refl _)
   | (with_reducible exact LeO.none _)
   | (with_reducible refine LeO.ite ?_ ?_)
   | (with_reducible refine LeO.bind ?_ (fun _=>?_))
   | exact ih0 _ _ _ _ _ _ _ _ _ _ _ _ _ _ _ _ _
   | exact ih1 _ _ _ _ _ _ _ _ _ _ _ _ _ _ _ _ _
   | exact ih2 _
   | exact opts_Check.mono _ _ _ _ _ _ _ _ _
   | exact LeO.none _
   | refine LeO.ite ?_ ?_
   | refine LeO.bind ?_ (fun _=>?_)
def seg_Check.T2:Bool × List (List Nat × List Nat):=(true,[([],[]),([0],[0]),([1],[1]),([2,1],[1,2]),([3,1,1],[1,3]),([1],[1]),([5,1],[1,5]),([6,4,1],[1,6]),([1],[1]),([8,1],[1,8]),([9,7,1],[1,9]),([4,7,10,1],[1,4,7,10]),([11,1],[1,11]),([1,12],[1,12]),([13,10],[13]),([14],[14]),([15,14],[14,15]),([16,14],[14,16]),([17,14],[14,17]),([14,18],[14,18]),([19,14,0,1,2,3,4,5,6,7,8,9,10,11,12,13,14,15,16,17,18,19],[0,19])])
def seg_Check.B2:List Nat:=[0,1,3,7,15,3,35,127,3,259,1023,2047,4095,8191,16383,32767,65535,131071,262143,524287,1048575]
theorem seg_Check.tab2:rtab .any (opsOf Try.f14 2)=seg_Check.T2:=by kernel_rfl
theorem seg_Check.bits2:waitsOk seg_Check.T2.2 seg_Check.B2=true:=by kernel_rfl
set_option maxHeartbeats 8000000 in
set_option maxRecDepth 100000 in
theorem seg_Check.calls (k:Nat) (a0_0:Int) (a0_1:Int) (a0_2:Int) (a0_3:Int) (a0_4:Int) (a0_5:Int) (a0_6:Int) (a0_7:Int) (a0_8:Int) (a0_9:Int) (a0_10:Int) (a0_11:Bool) (a0_12:Bool) (a0_13:Bool) (A0_14:Option Addr) (c0_14:Nat) (l0_14:List (S73)) (a0_15:ByteArray) (r:Int) (w:World) (hr0_14:Kd.C k73 w A0_14 l0_14.length l0_14) (hc0_14:l0_14.length≤c0_14) (h:seg_Check.f k a0_0 a0_1 a0_2 a0_3 a0_4 a0_5 a0_6 a0_7 a0_8 a0_9 a0_10 a0_11 a0_12 a0_13 l0_14 a0_15=some r) :
  Calls Try.prog 14 #[.agg #[.int .i64 a0_0,.int .i64 a0_1,.int .i64 a0_2,.int .i64 a0_3,.int .i64 a0_4,.int .i64 a0_5,.int .i64 a0_6,.int .i64 a0_7,.int .i64 a0_8,.int .i64 a0_9,.int .i64 a0_10,.bool a0_11,.bool a0_12,.bool a0_13,.slice A0_14 l0_14.length c0_14,.string a0_15]] w fun e w'=>e=.returned (.int .i64 r)∧Below w.heap.size w w':=by
 have hu26:=Try.underlying26
 have hu24:=Try.underlying24
 have HR0_14:=mkA hr0_14
 have HC0_14:=mkA hc0_14
 clear hr0_14 hc0_14
 have HB:=mkA (Below.refl w.heap.size w)
 have H:(if (mn (mn (mn (mn a0_0 a0_1) a0_5) a0_6) a0_4) < 0 then (seg_Check.j0 k true a0_0 a0_1 a0_2 a0_3 a0_4 a0_5 a0_6 a0_7 a0_8 a0_9 a0_10 a0_11 a0_12 a0_13 l0_14 a0_15) else (if (mx (mx (mx a0_0 a0_1) a0_5) a0_6) > 65535 then (seg_Check.j0 k true a0_0 a0_1 a0_2 a0_3 a0_4 a0_5 a0_6 a0_7 a0_8 a0_9 a0_10 a0_11 a0_12 a0_13 l0_14 a0_15) else (seg_Check.j0 k (decide (a0_4 > 63)) a0_0 a0_1 a0_2 a0_3 a0_4 a0_5 a0_6 a0_7 a0_8 a0_9 a0_10 a0_11 a0_12 a0_13 l0_14 a0_15)))=some r:=h
 clear h
 have HC2:=mkA H
 clear H
 go_enter Try.func14,Try.ntmps14
 go_upto_region 1 with (first|((with_reducible refine gate_load (t:=26) rfl ?_);refine gate_wanted ?hw (fun hw_=>?_);(case hw=>first|rfl|(go_simp;done));refine load_big hw_ 26 _ rfl _ rfl 26 _ (0,0) _ (by(with_reducible repeat(first|apply kN|apply kD|apply kA|(apply blk_farA;case hp=>assumption)|apply kP));apply Aside0.out;assumption;all_goals (simp only[List.setIfInBounds_toArray,List.set_cons_zero,List.set_cons_succ];try rfl)) Try.underlying26 rfl (by kernel_rfl) ?_;clear hw_;simp only[puts])|((with_reducible refine gate_store (t:=26) rfl ?_);refine store_big rfl 26 _ _ rfl _ _ rfl rfl 26 _ (by(with_reducible repeat(first|apply kN|apply kD|apply kA|(apply blk_farA;case hp=>assumption)|apply kP));apply Aside0.out;assumption;all_goals (simp only[List.setIfInBounds_toArray,List.set_cons_zero,List.set_cons_succ];try rfl)) (by kernel_rfl) (by rfl) (by rfl) _ (by simp only[World.setCells,Nat.reduceAdd];rfl) ?_;simp only[puts])|((with_reducible refine gate_dst (N:=1) rfl ?_);(try(refine gate_guard (by rfl) ?_;dsimp only));refine box_event ?hg (N:=1) ?hd (cs:=#[.int .i64 a0_0,.int .i64 a0_1,.int .i64 a0_2,.int .i64 a0_3,.int .i64 a0_4,.int .i64 a0_5,.int .i64 a0_6,.int .i64 a0_7,.int .i64 a0_8,.int .i64 a0_9,.int .i64 a0_10,.bool a0_11,.bool a0_12,.bool a0_13,.slice A0_14 l0_14.length c0_14,.string a0_15]) (t:=26) ?hr ?_;(case hd=>rfl);(case hg=>rfl);(case hr=>first|(go_simp;done)|(go_simp;rfl));intro gb144 hg w3 hbox hb;have n0_:=mkA (bT (by repeat(first|(with_reducible first|exact HB.out|apply bA|apply bN|apply bD)|exact HB.out)) hb);have n1_:=mkA (hbox);have n2_:=mkA ((by rw[hg];exact(bZ (by repeat(first|(with_reducible first|exact HB.out|apply bA|apply bN|apply bD)|exact HB.out))):w.heap.size≤gb144));have n3_:=mkA ((by rw[hg];exact(bZ (by repeat(first|(with_reducible first|exact HB.out|apply bA|apply bN|apply bD)|exact HB.out))):w.heap.size≤gb144));clear HB;have HB:=n0_;have BK144:=n1_;have GW144:=n2_;have GE144:=n3_;clear n0_ n1_ n2_ n3_;clear hb hbox hg))
 (try simp only[puts])
 go_cut [3] (fun v3 wc=>∃ (kq:Nat) (x3_1:Bool),v3=.bool x3_1∧Aside0 (seg_Check.j0 kq x3_1 a0_0 a0_1 a0_2 a0_3 a0_4 a0_5 a0_6 a0_7 a0_8 a0_9 a0_10 a0_11 a0_12 a0_13 l0_14 a0_15=some r)∧Aside0 (kq≤k)∧Aside0 (wc.heap[gb144]?=some (.cells #[.int .i64 a0_0,.int .i64 a0_1,.int .i64 a0_2,.int .i64 a0_3,.int .i64 a0_4,.int .i64 a0_5,.int .i64 a0_6,.int .i64 a0_7,.int .i64 a0_8,.int .i64 a0_9,.int .i64 a0_10,.bool a0_11,.bool a0_12,.bool a0_13,(.slice A0_14 l0_14.length c0_14),.string a0_15] 26 (0,0)))∧Aside0 (Below w.heap.size w wc))
 case first =>
  have H:=HC2.out
  clear HC2
  obtain⟨ji4,hji4⟩:∃ j_:Int,(mn a0_0 a0_1)=j_:=⟨_,rfl⟩
  replace H:(if (mn (mn (mn (ji4) a0_5) a0_6) a0_4) < 0 then (seg_Check.j0 k true a0_0 a0_1 a0_2 a0_3 a0_4 a0_5 a0_6 a0_7 a0_8 a0_9 a0_10 a0_11 a0_12 a0_13 l0_14 a0_15) else (if (mx (mx (mx a0_0 a0_1) a0_5) a0_6) > 65535 then (seg_Check.j0 k true a0_0 a0_1 a0_2 a0_3 a0_4 a0_5 a0_6 a0_7 a0_8 a0_9 a0_10 a0_11 a0_12 a0_13 l0_14 a0_15) else (seg_Check.j0 k (decide (a0_4 > 63)) a0_0 a0_1 a0_2 a0_3 a0_4 a0_5 a0_6 a0_7 a0_8 a0_9 a0_10 a0_11 a0_12 a0_13 l0_14 a0_15)))=some r:=by first|(rw[hji4] at H;exact H)|(simp only[hji4] at H ⊢;exact H)
  have hji4_:(if a0_1 < a0_0 then a0_1 else a0_0)=ji4:=hji4
  obtain⟨ji5,hji5⟩:∃ j_:Int,(mn (ji4) a0_5)=j_:=⟨_,rfl⟩
  replace H:(if (mn (mn (ji5) a0_6) a0_4) < 0 then (seg_Check.j0 k true a0_0 a0_1 a0_2 a0_3 a0_4 a0_5 a0_6 a0_7 a0_8 a0_9 a0_10 a0_11 a0_12 a0_13 l0_14 a0_15) else (if (mx (mx (mx a0_0 a0_1) a0_5) a0_6) > 65535 then (seg_Check.j0 k true a0_0 a0_1 a0_2 a0_3 a0_4 a0_5 a0_6 a0_7 a0_8 a0_9 a0_10 a0_11 a0_12 a0_13 l0_14 a0_15) else (seg_Check.j0 k (decide (a0_4 > 63)) a0_0 a0_1 a0_2 a0_3 a0_4 a0_5 a0_6 a0_7 a0_8 a0_9 a0_10 a0_11 a0_12 a0_13 l0_14 a0_15)))=some r:=by first|(rw[hji5] at H;exact H)|(simp only[hji5] at H ⊢;exact H)
  have hji5_:(if a0_5 < (ji4) then a0_5 else (ji4))=ji5:=hji5
  obtain⟨ji6,hji6⟩:∃ j_:Int,(mn (ji5) a0_6)=j_:=⟨_,rfl⟩
  replace H:(if (mn (ji6) a0_4) < 0 then (seg_Check.j0 k true a0_0 a0_1 a0_2 a0_3 a0_4 a0_5 a0_6 a0_7 a0_8 a0_9 a0_10 a0_11 a0_12 a0_13 l0_14 a0_15) else (if (mx (mx (mx a0_0 a0_1) a0_5) a0_6) > 65535 then (seg_Check.j0 k true a0_0 a0_1 a0_2 a0_3 a0_4 a0_5 a0_6 a0_7 a0_8 a0_9 a0_10 a0_11 a0_12 a0_13 l0_14 a0_15) else (seg_Check.j0 k (decide (a0_4 > 63)) a0_0 a0_1 a0_2 a0_3 a0_4 a0_5 a0_6 a0_7 a0_8 a0_9 a0_10 a0_11 a0_12 a0_13 l0_14 a0_15)))=some r:=by first|(rw[hji6] at H;exact H)|(simp only[hji6] at H ⊢;exact H)
  have hji6_:(if a0_6 < (ji5) then a0_6 else (ji5))=ji6:=hji6
  obtain⟨ji7,hji7⟩:∃ j_:Int,(mn (ji6) a0_4)=j_:=⟨_,rfl⟩
  replace H:(if (ji7) < 0 then (seg_Check.j0 k true a0_0 a0_1 a0_2 a0_3 a0_4 a0_5 a0_6 a0_7 a0_8 a0_9 a0_10 a0_11 a0_12 a0_13 l0_14 a0_15) else (if (mx (mx (mx a0_0 a0_1) a0_5) a0_6) > 65535 then (seg_Check.j0 k true a0_0 a0_1 a0_2 a0_3 a0_4 a0_5 a0_6 a0_7 a0_8 a0_9 a0_10 a0_11 a0_12 a0_13 l0_14 a0_15) else (seg_Check.j0 k (decide (a0_4 > 63)) a0_0 a0_1 a0_2 a0_3 a0_4 a0_5 a0_6 a0_7 a0_8 a0_9 a0_10 a0_11 a0_12 a0_13 l0_14 a0_15)))=some r:=by first|(rw[hji7] at H;exact H)|(simp only[hji7] at H ⊢;exact H)
  have hji7_:(if a0_4 < (ji6) then a0_4 else (ji6))=ji7:=hji7
  by_cases c8:(ji7) < 0
  ·rw[if_pos c8] at H
   have c8b0:decide ((ji7) < 0)=true:=decide_eq_true c8
   clear c8
   (first|rw[c8b0]|(simp only[i64_w,i32_w];rw[c8b0])|rw[c8b1]|skip)
   have H':=mkA H
   clear H
   obtain⟨hcz9_0,hcz9_1,hcz9_2,hcz9_3,hcz9_4,hcz9_5,hcz9_6,hcz9_7,hcz9_8,hcz9_9,hcz9_10,hcz9_11,hcz9_12,hcz9_13,hcz9_14,hcz9_15⟩:=blk_cells16 BK144.out
   obtain⟨hfz9_0,hfz9_1,hfz9_2,hfz9_3,hfz9_4,hfz9_5,hfz9_6,hfz9_7,hfz9_8,hfz9_9,hfz9_10,hfz9_11,hfz9_12,hfz9_13,hfz9_14,hfz9_15⟩:=blk_frozens16 BK144.out
   go_wp2_with (first|((with_reducible refine gate_load (t:=26) rfl ?_);refine gate_wanted ?hw (fun hw_=>?_);(case hw=>first|rfl|(go_simp;done));refine load_big hw_ 26 _ rfl _ rfl 26 _ (0,0) _ (by(with_reducible repeat(first|apply kN|apply kD|apply kA|(apply blk_farA;case hp=>assumption)|apply kP));apply Aside0.out;assumption;all_goals (simp only[List.setIfInBounds_toArray,List.set_cons_zero,List.set_cons_succ];try rfl)) Try.underlying26 rfl (by kernel_rfl) ?_;clear hw_;simp only[puts])|((with_reducible refine gate_store (t:=26) rfl ?_);refine store_big rfl 26 _ _ rfl _ _ rfl rfl 26 _ (by(with_reducible repeat(first|apply kN|apply kD|apply kA|(apply blk_farA;case hp=>assumption)|apply kP));apply Aside0.out;assumption;all_goals (simp only[List.setIfInBounds_toArray,List.set_cons_zero,List.set_cons_succ];try rfl)) (by kernel_rfl) (by rfl) (by rfl) _ (by simp only[World.setCells,Nat.reduceAdd];rfl) ?_;simp only[puts])|go_in)
   go_meet
   case rel=>exact⟨_,(true),(by first|rfl|(simp;done)|(simp[*];done)),(by first|exact H'|(simp only[hji4,hji5,hji6,hji7];exact H')),⟨by first|omega|exact Nat.le_refl _⟩,⟨by(with_reducible repeat(first|refine kN ?_ _|refine kD ?_|refine kA ?_ _));exact BK144.out⟩,⟨by repeat(first|(with_reducible first|exact HB.out|apply bA|apply bN|apply bD|refine bS ?_ GE144.out)|exact HB.out)⟩⟩
  ·rw[if_neg c8] at H
   have c8b0:decide ((ji7) < 0)=false:=decide_eq_false c8
   clear c8
   (first|rw[c8b0]|(simp only[i64_w,i32_w];rw[c8b0])|rw[c8b1]|skip)
   obtain⟨ji10,hji10⟩:∃ j_:Int,(mx a0_0 a0_1)=j_:=⟨_,rfl⟩
   replace H:(if (mx (mx (ji10) a0_5) a0_6) > 65535 then (seg_Check.j0 k true a0_0 a0_1 a0_2 a0_3 a0_4 a0_5 a0_6 a0_7 a0_8 a0_9 a0_10 a0_11 a0_12 a0_13 l0_14 a0_15) else (seg_Check.j0 k (decide (a0_4 > 63)) a0_0 a0_1 a0_2 a0_3 a0_4 a0_5 a0_6 a0_7 a0_8 a0_9 a0_10 a0_11 a0_12 a0_13 l0_14 a0_15))=some r:=by first|(rw[hji10] at H;exact H)|(simp only[hji10] at H ⊢;exact H)
   have hji10_:(if a0_0 < a0_1 then a0_1 else a0_0)=ji10:=hji10
   obtain⟨ji11,hji11⟩:∃ j_:Int,(mx (ji10) a0_5)=j_:=⟨_,rfl⟩
   replace H:(if (mx (ji11) a0_6) > 65535 then (seg_Check.j0 k true a0_0 a0_1 a0_2 a0_3 a0_4 a0_5 a0_6 a0_7 a0_8 a0_9 a0_10 a0_11 a0_12 a0_13 l0_14 a0_15) else (seg_Check.j0 k (decide (a0_4 > 63)) a0_0 a0_1 a0_2 a0_3 a0_4 a0_5 a0_6 a0_7 a0_8 a0_9 a0_10 a0_11 a0_12 a0_13 l0_14 a0_15))=some r:=by first|(rw[hji11] at H;exact H)|(simp only[hji11] at H ⊢;exact H)
   have hji11_:(if (ji10) < a0_5 then a0_5 else (ji10))=ji11:=hji11
   obtain⟨ji12,hji12⟩:∃ j_:Int,(mx (ji11) a0_6)=j_:=⟨_,rfl⟩
   replace H:(if (ji12) > 65535 then (seg_Check.j0 k true a0_0 a0_1 a0_2 a0_3 a0_4 a0_5 a0_6 a0_7 a0_8 a0_9 a0_10 a0_11 a0_12 a0_13 l0_14 a0_15) else (seg_Check.j0 k (decide (a0_4 > 63)) a0_0 a0_1 a0_2 a0_3 a0_4 a0_5 a0_6 a0_7 a0_8 a0_9 a0_10 a0_11 a0_12 a0_13 l0_14 a0_15))=some r:=by first|(rw[hji12] at H;exact H)|(simp only[hji12] at H ⊢;exact H)
   have hji12_:(if (ji11) < a0_6 then a0_6 else (ji11))=ji12:=hji12
   by_cases c13:(ji12) > 65535
   ·rw[if_pos c13] at H
    have c13b0:decide (65535 < (ji12))=true:=decide_eq_true c13
    clear c13
    have H':=mkA H
    clear H
    obtain⟨hcz14_0,hcz14_1,hcz14_2,hcz14_3,hcz14_4,hcz14_5,hcz14_6,hcz14_7,hcz14_8,hcz14_9,hcz14_10,hcz14_11,hcz14_12,hcz14_13,hcz14_14,hcz14_15⟩:=blk_cells16 BK144.out
    obtain⟨hfz14_0,hfz14_1,hfz14_2,hfz14_3,hfz14_4,hfz14_5,hfz14_6,hfz14_7,hfz14_8,hfz14_9,hfz14_10,hfz14_11,hfz14_12,hfz14_13,hfz14_14,hfz14_15⟩:=blk_frozens16 BK144.out
    go_wp2_with (first|((with_reducible refine gate_load (t:=26) rfl ?_);refine gate_wanted ?hw (fun hw_=>?_);(case hw=>first|rfl|(go_simp;done));refine load_big hw_ 26 _ rfl _ rfl 26 _ (0,0) _ (by(with_reducible repeat(first|apply kN|apply kD|apply kA|(apply blk_farA;case hp=>assumption)|apply kP));apply Aside0.out;assumption;all_goals (simp only[List.setIfInBounds_toArray,List.set_cons_zero,List.set_cons_succ];try rfl)) Try.underlying26 rfl (by kernel_rfl) ?_;clear hw_;simp only[puts])|((with_reducible refine gate_store (t:=26) rfl ?_);refine store_big rfl 26 _ _ rfl _ _ rfl rfl 26 _ (by(with_reducible repeat(first|apply kN|apply kD|apply kA|(apply blk_farA;case hp=>assumption)|apply kP));apply Aside0.out;assumption;all_goals (simp only[List.setIfInBounds_toArray,List.set_cons_zero,List.set_cons_succ];try rfl)) (by kernel_rfl) (by rfl) (by rfl) _ (by simp only[World.setCells,Nat.reduceAdd];rfl) ?_;simp only[puts])|go_in)
    go_meet
    case rel=>exact⟨_,(true),(by first|rfl|(simp;done)|(simp[*];done)),(by first|exact H'|(simp only[hji4,hji5,hji6,hji7,hji10,hji11,hji12];exact H')),⟨by first|omega|exact Nat.le_refl _⟩,⟨by(with_reducible repeat(first|refine kN ?_ _|refine kD ?_|refine kA ?_ _));exact BK144.out⟩,⟨by repeat(first|(with_reducible first|exact HB.out|apply bA|apply bN|apply bD|refine bS ?_ GE144.out)|exact HB.out)⟩⟩
   ·rw[if_neg c13] at H
    have c13b0:decide (65535 < (ji12))=false:=decide_eq_false c13
    clear c13
    have H':=mkA H
    clear H
    obtain⟨hcz15_0,hcz15_1,hcz15_2,hcz15_3,hcz15_4,hcz15_5,hcz15_6,hcz15_7,hcz15_8,hcz15_9,hcz15_10,hcz15_11,hcz15_12,hcz15_13,hcz15_14,hcz15_15⟩:=blk_cells16 BK144.out
    obtain⟨hfz15_0,hfz15_1,hfz15_2,hfz15_3,hfz15_4,hfz15_5,hfz15_6,hfz15_7,hfz15_8,hfz15_9,hfz15_10,hfz15_11,hfz15_12,hfz15_13,hfz15_14,hfz15_15⟩:=blk_frozens16 BK144.out
    go_wp2_with (first|((with_reducible refine gate_load (t:=26) rfl ?_);refine gate_wanted ?hw (fun hw_=>?_);(case hw=>first|rfl|(go_simp;done));refine load_big hw_ 26 _ rfl _ rfl 26 _ (0,0) _ (by(with_reducible repeat(first|apply kN|apply kD|apply kA|(apply blk_farA;case hp=>assumption)|apply kP));apply Aside0.out;assumption;all_goals (simp only[List.setIfInBounds_toArray,List.set_cons_zero,List.set_cons_succ];try rfl)) Try.underlying26 rfl (by kernel_rfl) ?_;clear hw_;simp only[puts])|((with_reducible refine gate_store (t:=26) rfl ?_);refine store_big rfl 26 _ _ rfl _ _ rfl rfl 26 _ (by(with_reducible repeat(first|apply kN|apply kD|apply kA|(apply blk_farA;case hp=>assumption)|apply kP));apply Aside0.out;assumption;all_goals (simp only[List.setIfInBounds_toArray,List.set_cons_zero,List.set_cons_succ];try rfl)) (by kernel_rfl) (by rfl) (by rfl) _ (by simp only[World.setCells,Nat.reduceAdd];rfl) ?_;simp only[puts])|go_in)
    go_meet
    case rel=>exact⟨_,(decide (a0_4 > 63)),(by first|rfl|(simp;done)|(simp[*];done)),(by first|exact H'|(simp only[hji4,hji5,hji6,hji7,hji10,hji11,hji12];exact H')),⟨by first|omega|exact Nat.le_refl _⟩,⟨by(with_reducible repeat(first|refine kN ?_ _|refine kD ?_|refine kA ?_ _));exact BK144.out⟩,⟨by repeat(first|(with_reducible first|exact HB.out|apply bA|apply bN|apply bD|refine bS ?_ GE144.out)|exact HB.out)⟩⟩
 case rest =>
  clear HC2
  try clear c1;try clear p2;try clear c8;try clear c8b0;try clear c8b1;try clear c13;try clear c13b0;try clear c14;try clear hcz14_0 hcz14_1 hcz14_10 hcz14_11 hcz14_12 hcz14_13 hcz14_14 hcz14_15 hcz14_2 hcz14_3 hcz14_4 hcz14_5 hcz14_6 hcz14_7 hcz14_8 hcz14_9;try clear hcz15_0 hcz15_1 hcz15_10 hcz15_11 hcz15_12 hcz15_13 hcz15_14 hcz15_15 hcz15_2 hcz15_3 hcz15_4 hcz15_5 hcz15_6 hcz15_7 hcz15_8 hcz15_9;try clear hcz9_0 hcz9_1 hcz9_10 hcz9_11 hcz9_12 hcz9_13 hcz9_14 hcz9_15 hcz9_2 hcz9_3 hcz9_4 hcz9_5 hcz9_6 hcz9_7 hcz9_8 hcz9_9;try clear hfz14_0 hfz14_1 hfz14_10 hfz14_11 hfz14_12 hfz14_13 hfz14_14 hfz14_15 hfz14_2 hfz14_3 hfz14_4 hfz14_5 hfz14_6 hfz14_7 hfz14_8 hfz14_9;try clear hfz15_0 hfz15_1 hfz15_10 hfz15_11 hfz15_12 hfz15_13 hfz15_14 hfz15_15 hfz15_2 hfz15_3 hfz15_4 hfz15_5 hfz15_6 hfz15_7 hfz15_8 hfz15_9;try clear hfz9_0 hfz9_1 hfz9_10 hfz9_11 hfz9_12 hfz9_13 hfz9_14 hfz9_15 hfz9_2 hfz9_3 hfz9_4 hfz9_5 hfz9_6 hfz9_7 hfz9_8 hfz9_9
  obtain⟨kq,x3_1,rfl,HA,HJ1,BK144,HB⟩:=hcut
  cases kq with
  | zero=>exact absurd HA.out (by simp[seg_Check.j0])
  | succ kj1 =>
   have H:=HA.out
   clear HA
   simp only[seg_Check.j0] at H
   have HC16:=mkA H
   clear H
   go_upto_region 2 with (fail)
   go_cut [3] (fun v3 wc=>∃ (kq:Nat) (x3_15:Bool),v3=.bool x3_15∧Aside0 (seg_Check.j1 kq x3_15 a0_0 a0_1 a0_2 a0_3 a0_4 a0_5 a0_6 a0_7 a0_8 a0_9 a0_10 a0_11 a0_12 a0_13 l0_14 a0_15=some r)∧Aside0 (kq≤kj1)∧Aside0 (wc.heap[gb144]?=some (.cells #[.int .i64 a0_0,.int .i64 a0_1,.int .i64 a0_2,.int .i64 a0_3,.int .i64 a0_4,.int .i64 a0_5,.int .i64 a0_6,.int .i64 a0_7,.int .i64 a0_8,.int .i64 a0_9,.int .i64 a0_10,.bool a0_11,.bool a0_12,.bool a0_13,(.slice A0_14 l0_14.length c0_14),.string a0_15] 26 (0,0)))∧Aside0 (Below w.heap.size w wc))
   case first =>
    have H:=HC16.out
    clear HC16
    by_cases c17:x3_1=true
    ·subst c17
     have H1:(seg_Check.j1 kj1 true a0_0 a0_1 a0_2 a0_3 a0_4 a0_5 a0_6 a0_7 a0_8 a0_9 a0_10 a0_11 a0_12 a0_13 l0_14 a0_15)=some r:=by rw[if_pos rfl] at H;exact H
     clear H
     have H:=H1
     clear H1
     have H':=mkA H
     clear H
     try go_wp2_with (first|((with_reducible refine gate_load (t:=26) rfl ?_);refine gate_wanted ?hw (fun hw_=>?_);(case hw=>first|rfl|(go_simp;done));refine load_big hw_ 26 _ rfl _ rfl 26 _ (0,0) _ (by(with_reducible repeat(first|apply kN|apply kD|apply kA|(apply blk_farA;case hp=>assumption)|apply kP));apply Aside0.out;assumption;all_goals (simp only[List.setIfInBounds_toArray,List.set_cons_zero,List.set_cons_succ];try rfl)) Try.underlying26 rfl (by kernel_rfl) ?_;clear hw_;simp only[puts])|((with_reducible refine gate_store (t:=26) rfl ?_);refine store_big rfl 26 _ _ rfl _ _ rfl rfl 26 _ (by(with_reducible repeat(first|apply kN|apply kD|apply kA|(apply blk_farA;case hp=>assumption)|apply kP));apply Aside0.out;assumption;all_goals (simp only[List.setIfInBounds_toArray,List.set_cons_zero,List.set_cons_succ];try rfl)) (by kernel_rfl) (by rfl) (by rfl) _ (by simp only[World.setCells,Nat.reduceAdd];rfl) ?_;simp only[puts])|go_in)
     have n0_:=mkA (kD BK144.out)
     have n1_:=mkA (bD HB.out)
     clear BK144
     clear HB
     have BK144:=n0_
     have HB:=n1_
     clear n0_ n1_
     refine start_ (n:=21) (S:=fun w'=>True) (ds:=[]) #[false,false,false,false,false,false,false,false,false,false,false,false,false,false,false,false,false,false,false,false,false] (by kernel_rfl) rfl rfl trivial (fun hHeld=>?_);refine with_tabW seg_Check.tab2 seg_Check.bits2 (fun HT_ HW_=>?_)
     generalize wc.drew=w18 at BK144 HB hHeld ⊢
     refine pure_ (i:=0) (N:=some 33) (v:=?_) (a':=?_) #[true,false,false,false,false,false,false,false,false,false,false,false,false,false,false,false,false,false,false,false,false] rfl rfl (any_of HT_.out (by kernel_rfl)) (fun _ _ _ h=>h) (Or.inl ⟨by rfl,?_⟩) ?_ ?_
     rotate_left
     ·intro w'
      go_simp
      with_reducible rfl
     rotate_left
     ·simp only[puts,i64_w,i32_w]
      rfl
     refine pure_ (i:=1) (N:=some 34) (v:=?_) (a':=?_) #[true,true,false,false,false,false,false,false,false,false,false,false,false,false,false,false,false,false,false,false,false] rfl rfl (any_of HT_.out (by kernel_rfl)) (fun _ _ _ h=>h) (Or.inl ⟨by rfl,?_⟩) ?_ ?_
     rotate_left
     ·intro w'
      go_simp
      with_reducible rfl
     rotate_left
     ·simp only[puts,i64_w,i32_w]
      rfl
     refine pure_ (i:=2) (N:=some 35) (v:=undef) (a':=?_) #[true,true,true,false,false,false,false,false,false,false,false,false,false,false,false,false,false,false,false,false,false] rfl rfl (any_of HT_.out (by kernel_rfl)) (fun _ _ _ h=>h) (Or.inr ⟨by rfl,rfl⟩) ?_ ?_
     rotate_left
     ·simp only[puts,i64_w,i32_w]
      rfl
     refine pure_ (i:=3) (N:=some 36) (v:=undef) (a':=?_) #[true,true,true,true,false,false,false,false,false,false,false,false,false,false,false,false,false,false,false,false,false] rfl rfl (any_of HT_.out (by kernel_rfl)) (fun _ _ _ h=>h) (Or.inr ⟨by rfl,rfl⟩) ?_ ?_
     rotate_left
     ·simp only[puts,i64_w,i32_w]
      rfl
     refine pure_ (i:=4) (N:=some 37) (v:=undef) (a':=?_) #[true,true,true,true,true,false,false,false,false,false,false,false,false,false,false,false,false,false,false,false,false] rfl rfl (any_of HT_.out (by kernel_rfl)) (fun _ _ _ h=>h) (Or.inr ⟨by rfl,rfl⟩) ?_ ?_
     rotate_left
     ·simp only[puts,i64_w,i32_w]
      rfl
     refine pure_ (i:=5) (N:=some 38) (v:=undef) (a':=?_) #[true,true,true,true,true,true,false,false,false,false,false,false,false,false,false,false,false,false,false,false,false] rfl rfl (any_of HT_.out (by kernel_rfl)) (fun _ _ _ h=>h) (Or.inr ⟨by rfl,rfl⟩) ?_ ?_
     rotate_left
     ·simp only[puts,i64_w,i32_w]
      rfl
     refine pure_ (i:=6) (N:=some 39) (v:=undef) (a':=?_) #[true,true,true,true,true,true,true,false,false,false,false,false,false,false,false,false,false,false,false,false,false] rfl rfl (any_of HT_.out (by kernel_rfl)) (fun _ _ _ h=>h) (Or.inr ⟨by rfl,rfl⟩) ?_ ?_
     rotate_left
     ·simp only[puts,i64_w,i32_w]
      rfl
     refine pure_ (i:=7) (N:=some 40) (v:=undef) (a':=?_) #[true,true,true,true,true,true,true,true,false,false,false,false,false,false,false,false,false,false,false,false,false] rfl rfl (any_of HT_.out (by kernel_rfl)) (fun _ _ _ h=>h) (Or.inr ⟨by rfl,rfl⟩) ?_ ?_
     rotate_left
     ·simp only[puts,i64_w,i32_w]
      rfl
     refine pure_ (i:=8) (N:=some 41) (v:=undef) (a':=?_) #[true,true,true,true,true,true,true,true,true,false,false,false,false,false,false,false,false,false,false,false,false] rfl rfl (any_of HT_.out (by kernel_rfl)) (fun _ _ _ h=>h) (Or.inr ⟨by rfl,rfl⟩) ?_ ?_
     rotate_left
     ·simp only[puts,i64_w,i32_w]
      rfl
     refine pure_ (i:=9) (N:=some 42) (v:=undef) (a':=?_) #[true,true,true,true,true,true,true,true,true,true,false,false,false,false,false,false,false,false,false,false,false] rfl rfl (any_of HT_.out (by kernel_rfl)) (fun _ _ _ h=>h) (Or.inr ⟨by rfl,rfl⟩) ?_ ?_
     rotate_left
     ·simp only[puts,i64_w,i32_w]
      rfl
     refine pure_ (i:=10) (N:=some 43) (v:=undef) (a':=?_) #[true,true,true,true,true,true,true,true,true,true,true,false,false,false,false,false,false,false,false,false,false] rfl rfl (any_of HT_.out (by kernel_rfl)) (fun _ _ _ h=>h) (Or.inr ⟨by rfl,rfl⟩) ?_ ?_
     rotate_left
     ·simp only[puts,i64_w,i32_w]
      rfl
     refine pure_ (i:=11) (N:=some 44) (v:=undef) (a':=?_) #[true,true,true,true,true,true,true,true,true,true,true,true,false,false,false,false,false,false,false,false,false] rfl rfl (any_of HT_.out (by kernel_rfl)) (fun _ _ _ h=>h) (Or.inr ⟨by rfl,rfl⟩) ?_ ?_
     rotate_left
     ·simp only[puts,i64_w,i32_w]
      rfl
     refine pure_ (i:=12) (N:=some 45) (v:=undef) (a':=?_) #[true,true,true,true,true,true,true,true,true,true,true,true,true,false,false,false,false,false,false,false,false] rfl rfl (any_of HT_.out (by kernel_rfl)) (fun _ _ _ h=>h) (Or.inr ⟨by rfl,rfl⟩) ?_ ?_
     rotate_left
     ·simp only[puts,i64_w,i32_w]
      rfl
     refine pure_ (i:=13) (N:=some 46) (v:=?_) (a':=?_) #[true,true,true,true,true,true,true,true,true,true,true,true,true,true,false,false,false,false,false,false,false] rfl rfl (any_of HT_.out (by kernel_rfl)) (fun _ _ _ h=>h) (Or.inl ⟨by rfl,?_⟩) ?_ ?_
     rotate_left
     ·intro w'
      go_simp
      with_reducible rfl
     rotate_left
     ·simp only[puts,i64_w,i32_w]
      rfl
     refine pure_ (i:=14) (N:=some 47) (v:=?_) (a':=?_) #[true,true,true,true,true,true,true,true,true,true,true,true,true,true,true,false,false,false,false,false,false] rfl rfl (any_of HT_.out (by kernel_rfl)) (fun _ _ _ h=>h) (Or.inl ⟨by rfl,?_⟩) ?_ ?_
     rotate_left
     ·intro w'
      go_simp
      with_reducible rfl
     rotate_left
     ·simp only[puts,i64_w,i32_w]
      rfl
     refine pure_ (i:=15) (N:=some 48) (v:=undef) (a':=?_) #[true,true,true,true,true,true,true,true,true,true,true,true,true,true,true,true,false,false,false,false,false] rfl rfl (any_of HT_.out (by kernel_rfl)) (fun _ _ _ h=>h) (Or.inr ⟨by rfl,rfl⟩) ?_ ?_
     rotate_left
     ·simp only[puts,i64_w,i32_w]
      rfl
     refine pure_ (i:=16) (N:=some 49) (v:=undef) (a':=?_) #[true,true,true,true,true,true,true,true,true,true,true,true,true,true,true,true,true,false,false,false,false] rfl rfl (any_of HT_.out (by kernel_rfl)) (fun _ _ _ h=>h) (Or.inr ⟨by rfl,rfl⟩) ?_ ?_
     rotate_left
     ·simp only[puts,i64_w,i32_w]
      rfl
     refine pure_ (i:=17) (N:=some 50) (v:=undef) (a':=?_) #[true,true,true,true,true,true,true,true,true,true,true,true,true,true,true,true,true,true,false,false,false] rfl rfl (any_of HT_.out (by kernel_rfl)) (fun _ _ _ h=>h) (Or.inr ⟨by rfl,rfl⟩) ?_ ?_
     rotate_left
     ·simp only[puts,i64_w,i32_w]
      rfl
     refine pure_ (i:=18) (N:=some 51) (v:=undef) (a':=?_) #[true,true,true,true,true,true,true,true,true,true,true,true,true,true,true,true,true,true,true,false,false] rfl rfl (any_of HT_.out (by kernel_rfl)) (fun _ _ _ h=>h) (Or.inr ⟨by rfl,rfl⟩) ?_ ?_
     rotate_left
     ·simp only[puts,i64_w,i32_w]
      rfl
     refine pure_ (i:=19) (N:=some 52) (v:=?_) (a':=?_) #[true,true,true,true,true,true,true,true,true,true,true,true,true,true,true,true,true,true,true,true,false] rfl rfl (any_of HT_.out (by kernel_rfl)) (fun _ _ _ h=>h) (Or.inl ⟨by rfl,?_⟩) ?_ ?_
     rotate_left
     ·intro w'
      go_simp
      with_reducible rfl
     rotate_left
     ·simp only[puts,i64_w,i32_w]
      rfl
     refine pure_ (i:=20) (N:=some 3) (v:=?_) (a':=?_) #[true,true,true,true,true,true,true,true,true,true,true,true,true,true,true,true,true,true,true,true,true] rfl rfl (any_of HT_.out (by kernel_rfl)) (fun _ _ _ h=>h) (Or.inl ⟨by rfl,?_⟩) ?_ ?_
     rotate_left
     ·intro w'
      go_simp
      with_reducible rfl
     rotate_left
     ·simp only[puts,i64_w,i32_w]
      rfl
     refine done_ (done_of HT_.out (by kernel_rfl)) ?_
     try go_wp2_with (first|((with_reducible refine gate_load (t:=26) rfl ?_);refine gate_wanted ?hw (fun hw_=>?_);(case hw=>first|rfl|(go_simp;done));refine load_big hw_ 26 _ rfl _ rfl 26 _ (0,0) _ (by(with_reducible repeat(first|apply kN|apply kD|apply kA|(apply blk_farA;case hp=>assumption)|apply kP));apply Aside0.out;assumption;all_goals (simp only[List.setIfInBounds_toArray,List.set_cons_zero,List.set_cons_succ];try rfl)) Try.underlying26 rfl (by kernel_rfl) ?_;clear hw_;simp only[puts])|((with_reducible refine gate_store (t:=26) rfl ?_);refine store_big rfl 26 _ _ rfl _ _ rfl rfl 26 _ (by(with_reducible repeat(first|apply kN|apply kD|apply kA|(apply blk_farA;case hp=>assumption)|apply kP));apply Aside0.out;assumption;all_goals (simp only[List.setIfInBounds_toArray,List.set_cons_zero,List.set_cons_succ];try rfl)) (by kernel_rfl) (by rfl) (by rfl) _ (by simp only[World.setCells,Nat.reduceAdd];rfl) ?_;simp only[puts])|go_in)
     go_meet
     case rel=>exact⟨_,(true),(by first|rfl|(simp;done)|(simp[*];done)),H',⟨by have:=HJ1.out;first|omega|exact Nat.le_refl _⟩,⟨by(with_reducible repeat(first|refine kN ?_ _|refine kD ?_|refine kA ?_ _));exact BK144.out⟩,⟨by repeat(first|(with_reducible first|exact HB.out|apply bA|apply bN|apply bD|refine bS ?_ GE144.out)|exact HB.out)⟩⟩
    ·replace c17:=Bool.eq_false_iff.mpr c17
     subst c17
     have H1:((seq_Check.f a0_2).bind fun t145=>((seq_Check.f a0_3).bind fun t146=>((opts_Check.f kj1 a0_7 a0_8 a0_9 a0_10 a0_11 a0_12 a0_13 l0_14).bind fun t147=>(if (mx (mx t145 t146) t147) > 0 then (seg_Check.j1 kj1 true a0_0 a0_1 a0_2 a0_3 a0_4 a0_5 a0_6 a0_7 a0_8 a0_9 a0_10 a0_11 a0_12 a0_13 l0_14 a0_15) else (seg_Check.j1 kj1 (decide ((a0_15.size:Int) > 1480)) a0_0 a0_1 a0_2 a0_3 a0_4 a0_5 a0_6 a0_7 a0_8 a0_9 a0_10 a0_11 a0_12 a0_13 l0_14 a0_15)))))=some r:=by rw[if_neg (show ¬ (false=true) by decide)] at H;exact H
     clear H
     have H:=H1
     clear H1
     replace H:=Option.bind_eq_some_iff.mp H
     obtain⟨t145,A190,H⟩:=H
     replace H:((seq_Check.f a0_3).bind fun t146=>((opts_Check.f kj1 a0_7 a0_8 a0_9 a0_10 a0_11 a0_12 a0_13 l0_14).bind fun t147=>(if (mx (mx t145 t146) t147) > 0 then (seg_Check.j1 kj1 true a0_0 a0_1 a0_2 a0_3 a0_4 a0_5 a0_6 a0_7 a0_8 a0_9 a0_10 a0_11 a0_12 a0_13 l0_14 a0_15) else (seg_Check.j1 kj1 (decide ((a0_15.size:Int) > 1480)) a0_0 a0_1 a0_2 a0_3 a0_4 a0_5 a0_6 a0_7 a0_8 a0_9 a0_10 a0_11 a0_12 a0_13 l0_14 a0_15))))=some r:=H
     have A19:=mkA A190
     clear A190
     replace H:=Option.bind_eq_some_iff.mp H
     obtain⟨t146,A200,H⟩:=H
     replace H:((opts_Check.f kj1 a0_7 a0_8 a0_9 a0_10 a0_11 a0_12 a0_13 l0_14).bind fun t147=>(if (mx (mx t145 t146) t147) > 0 then (seg_Check.j1 kj1 true a0_0 a0_1 a0_2 a0_3 a0_4 a0_5 a0_6 a0_7 a0_8 a0_9 a0_10 a0_11 a0_12 a0_13 l0_14 a0_15) else (seg_Check.j1 kj1 (decide ((a0_15.size:Int) > 1480)) a0_0 a0_1 a0_2 a0_3 a0_4 a0_5 a0_6 a0_7 a0_8 a0_9 a0_10 a0_11 a0_12 a0_13 l0_14 a0_15)))=some r:=H
     have A20:=mkA A200
     clear A200
     replace H:=Option.bind_eq_some_iff.mp H
     obtain⟨t147,A210,H⟩:=H
     replace H:(if (mx (mx t145 t146) t147) > 0 then (seg_Check.j1 kj1 true a0_0 a0_1 a0_2 a0_3 a0_4 a0_5 a0_6 a0_7 a0_8 a0_9 a0_10 a0_11 a0_12 a0_13 l0_14 a0_15) else (seg_Check.j1 kj1 (decide ((a0_15.size:Int) > 1480)) a0_0 a0_1 a0_2 a0_3 a0_4 a0_5 a0_6 a0_7 a0_8 a0_9 a0_10 a0_11 a0_12 a0_13 l0_14 a0_15))=some r:=H
     have A21:=mkA A210
     clear A210
     obtain⟨ji22,hji22⟩:∃ j_:Int,(mx t145 t146)=j_:=⟨_,rfl⟩
     replace H:(if (mx (ji22) t147) > 0 then (seg_Check.j1 kj1 true a0_0 a0_1 a0_2 a0_3 a0_4 a0_5 a0_6 a0_7 a0_8 a0_9 a0_10 a0_11 a0_12 a0_13 l0_14 a0_15) else (seg_Check.j1 kj1 (decide ((a0_15.size:Int) > 1480)) a0_0 a0_1 a0_2 a0_3 a0_4 a0_5 a0_6 a0_7 a0_8 a0_9 a0_10 a0_11 a0_12 a0_13 l0_14 a0_15))=some r:=by first|(rw[hji22] at H;exact H)|(simp only[hji22] at H ⊢;exact H)
     (try rw[hji22] at A19)
     (try rw[hji22] at A20)
     (try rw[hji22] at A21)
     have hji22_:(if t145 < t146 then t146 else t145)=ji22:=hji22
     obtain⟨ji23,hji23⟩:∃ j_:Int,(mx (ji22) t147)=j_:=⟨_,rfl⟩
     replace H:(if (ji23) > 0 then (seg_Check.j1 kj1 true a0_0 a0_1 a0_2 a0_3 a0_4 a0_5 a0_6 a0_7 a0_8 a0_9 a0_10 a0_11 a0_12 a0_13 l0_14 a0_15) else (seg_Check.j1 kj1 (decide ((a0_15.size:Int) > 1480)) a0_0 a0_1 a0_2 a0_3 a0_4 a0_5 a0_6 a0_7 a0_8 a0_9 a0_10 a0_11 a0_12 a0_13 l0_14 a0_15))=some r:=by first|(rw[hji23] at H;exact H)|(simp only[hji23] at H ⊢;exact H)
     (try rw[hji23] at A19)
     (try rw[hji23] at A20)
     (try rw[hji23] at A21)
     have hji23_:(if (ji22) < t147 then t147 else (ji22))=ji23:=hji23
     by_cases c24:(ji23) > 0
     ·rw[if_pos c24] at H
      have c24b0:decide (0 < (ji23))=true:=decide_eq_true c24
      clear c24
      (first|rw[c24b0]|(simp only[i64_w,i32_w];rw[c24b0])|rw[c24b1]|skip)
      have H':=mkA H
      clear H
      try go_wp2_with (first|((with_reducible refine gate_load (t:=26) rfl ?_);refine gate_wanted ?hw (fun hw_=>?_);(case hw=>first|rfl|(go_simp;done));refine load_big hw_ 26 _ rfl _ rfl 26 _ (0,0) _ (by(with_reducible repeat(first|apply kN|apply kD|apply kA|(apply blk_farA;case hp=>assumption)|apply kP));apply Aside0.out;assumption;all_goals (simp only[List.setIfInBounds_toArray,List.set_cons_zero,List.set_cons_succ];try rfl)) Try.underlying26 rfl (by kernel_rfl) ?_;clear hw_;simp only[puts])|((with_reducible refine gate_store (t:=26) rfl ?_);refine store_big rfl 26 _ _ rfl _ _ rfl rfl 26 _ (by(with_reducible repeat(first|apply kN|apply kD|apply kA|(apply blk_farA;case hp=>assumption)|apply kP));apply Aside0.out;assumption;all_goals (simp only[List.setIfInBounds_toArray,List.set_cons_zero,List.set_cons_succ];try rfl)) (by kernel_rfl) (by rfl) (by rfl) _ (by simp only[World.setCells,Nat.reduceAdd];rfl) ?_;simp only[puts])|go_in)
      have n0_:=mkA (kD BK144.out)
      have n1_:=mkA (bD HB.out)
      clear BK144
      clear HB
      have BK144:=n0_
      have HB:=n1_
      clear n0_ n1_
      refine start_ (n:=21) (S:=fun w'=>w'.cell? ⟨gb144,0,none⟩=some (.int .i64 a0_0)∧w'.cell? ⟨gb144,1,none⟩=some (.int .i64 a0_1)∧w'.cell? ⟨gb144,2,none⟩=some (.int .i64 a0_2)∧w'.cell? ⟨gb144,3,none⟩=some (.int .i64 a0_3)∧w'.cell? ⟨gb144,4,none⟩=some (.int .i64 a0_4)∧w'.cell? ⟨gb144,5,none⟩=some (.int .i64 a0_5)∧w'.cell? ⟨gb144,6,none⟩=some (.int .i64 a0_6)∧w'.cell? ⟨gb144,7,none⟩=some (.int .i64 a0_7)∧w'.cell? ⟨gb144,8,none⟩=some (.int .i64 a0_8)∧w'.cell? ⟨gb144,9,none⟩=some (.int .i64 a0_9)∧w'.cell? ⟨gb144,10,none⟩=some (.int .i64 a0_10)∧w'.cell? ⟨gb144,11,none⟩=some (.bool a0_11)∧w'.cell? ⟨gb144,12,none⟩=some (.bool a0_12)∧w'.cell? ⟨gb144,13,none⟩=some (.bool a0_13)∧w'.cell? ⟨gb144,14,none⟩=some (.slice A0_14 l0_14.length c0_14)∧w'.cell? ⟨gb144,15,none⟩=some (.string a0_15)) (ds:=[]) #[false,false,false,false,false,false,false,false,false,false,false,false,false,false,false,false,false,false,false,false,false] (by kernel_rfl) rfl rfl ⟨(kC BK144.out 0).trans rfl,(kC BK144.out 1).trans rfl,(kC BK144.out 2).trans rfl,(kC BK144.out 3).trans rfl,(kC BK144.out 4).trans rfl,(kC BK144.out 5).trans rfl,(kC BK144.out 6).trans rfl,(kC BK144.out 7).trans rfl,(kC BK144.out 8).trans rfl,(kC BK144.out 9).trans rfl,(kC BK144.out 10).trans rfl,(kC BK144.out 11).trans rfl,(kC BK144.out 12).trans rfl,(kC BK144.out 13).trans rfl,(kC BK144.out 14).trans rfl,(kC BK144.out 15).trans rfl⟩ (fun hHeld=>?_);refine with_tabW seg_Check.tab2 seg_Check.bits2 (fun HT_ HW_=>?_)
      generalize wc.drew=w25 at BK144 HB hHeld ⊢
      refine pure_ (i:=0) (N:=some 33) (v:=?_) (a':=?_) #[true,false,false,false,false,false,false,false,false,false,false,false,false,false,false,false,false,false,false,false,false] rfl rfl (any_of HT_.out (by kernel_rfl)) (fun _ _ _ h=>h) (Or.inl ⟨by rfl,?_⟩) ?_ ?_
      rotate_left
      ·intro w'
       go_simp
       with_reducible rfl
      rotate_left
      ·simp only[puts,i64_w,i32_w]
       rfl
      refine pure_ (i:=1) (N:=some 34) (v:=?_) (a':=?_) #[true,true,false,false,false,false,false,false,false,false,false,false,false,false,false,false,false,false,false,false,false] rfl rfl (any_of HT_.out (by kernel_rfl)) (fun _ _ _ h=>h) (Or.inl ⟨by rfl,?_⟩) ?_ ?_
      rotate_left
      ·intro w'
       go_simp
       with_reducible rfl
      rotate_left
      ·simp only[puts,i64_w,i32_w]
       rfl
      refine pure_ (i:=2) (N:=some 35) (v:=?_) (a':=?_) #[true,true,true,false,false,false,false,false,false,false,false,false,false,false,false,false,false,false,false,false,false] rfl rfl (any_of HT_.out (by kernel_rfl)) (fun _ _ _ h=>h) (Or.inl ⟨by rfl,?_⟩) ?_ ?_
      rotate_left
      ·intro w'
       go_simp
       with_reducible rfl
      rotate_left
      ·simp only[puts,i64_w,i32_w]
       rfl
      refine pure_ (i:=5) (N:=some 38) (v:=?_) (a':=?_) #[true,true,true,false,false,true,false,false,false,false,false,false,false,false,false,false,false,false,false,false,false] rfl rfl (any_of HT_.out (by kernel_rfl)) (fun _ _ _ h=>h) (Or.inl ⟨by rfl,?_⟩) ?_ ?_
      rotate_left
      ·intro w'
       go_simp
       with_reducible rfl
      rotate_left
      ·simp only[puts,i64_w,i32_w]
       rfl
      refine pure_ (i:=8) (N:=some 41) (v:=?_) (a':=?_) #[true,true,true,false,false,true,false,false,true,false,false,false,false,false,false,false,false,false,false,false,false] rfl rfl (any_of HT_.out (by kernel_rfl)) (fun _ _ _ h=>h) (Or.inl ⟨by rfl,?_⟩) ?_ ?_
      rotate_left
      ·intro w'
       go_simp
       with_reducible rfl
      rotate_left
      ·simp only[puts,i64_w,i32_w]
       rfl
      refine take_ (i:=3) (N:=some 36) (v:=?_) (a':=?_) #[true,true,true,true,false,true,false,false,true,false,false,false,false,false,false,false,false,false,false,false,false] rfl rfl (take_ofW HT_.out HW_.out (by kernel_rfl)) (fun _ _ _ h=>h) (Or.inl ⟨by rfl,?_⟩) hHeld ?_ ?_
      rotate_left
      ·rintro w' ⟨s0,s1,s2,s3,s4,s5,s6,s7,s8,s9,s10,s11,s12,s13,s14,s15⟩
       go_simp
       with_reducible rfl
      rotate_left
      ·simp only[puts,i64_w,i32_w]
       rfl
      refine take_ (i:=6) (N:=some 39) (v:=?_) (a':=?_) #[true,true,true,true,false,true,true,false,true,false,false,false,false,false,false,false,false,false,false,false,false] rfl rfl (take_ofW HT_.out HW_.out (by kernel_rfl)) (fun _ _ _ h=>h) (Or.inl ⟨by rfl,?_⟩) hHeld ?_ ?_
      rotate_left
      ·rintro w' ⟨s0,s1,s2,s3,s4,s5,s6,s7,s8,s9,s10,s11,s12,s13,s14,s15⟩
       go_simp
       with_reducible rfl
      rotate_left
      ·simp only[puts,i64_w,i32_w]
       rfl
      refine take_ (i:=9) (N:=some 42) (v:=?_) (a':=?_) #[true,true,true,true,false,true,true,false,true,true,false,false,false,false,false,false,false,false,false,false,false] rfl rfl (take_ofW HT_.out HW_.out (by kernel_rfl)) (fun _ _ _ h=>h) (Or.inl ⟨by rfl,?_⟩) hHeld ?_ ?_
      rotate_left
      ·rintro w' ⟨s0,s1,s2,s3,s4,s5,s6,s7,s8,s9,s10,s11,s12,s13,s14,s15⟩
       go_simp
       with_reducible rfl
      rotate_left
      ·simp only[puts,i64_w,i32_w]
       rfl
      refine one_ (i:=4) (N:=some 37) #[true,true,true,true,true,true,true,false,true,true,false,false,false,false,false,false,false,false,false,false,false] rfl rfl (one_of HT_.out (by kernel_rfl)) (by decide) (fun K hK=>?_)
      refine goes_ Try.func31 (by kernel_rfl) rfl #[.int .i64 a0_2] (by rfl) rfl rfl (by(try simp only[List.map_toArray,List.map_cons,List.map_nil]);first|done|rfl|(simp only[List.length_drop,List.length_take];rfl)) ?_
      with_reducible refine(seq_Check.calls a0_2 t145 _ A19.out).mono ?_
      rintro e w' ⟨rfl,⟨nd,rfl⟩⟩
      refine⟨_,rfl,?_⟩
      refine hK.out _ _ ⟨(kC BK144.out 0).trans rfl,(kC BK144.out 1).trans rfl,(kC BK144.out 2).trans rfl,(kC BK144.out 3).trans rfl,(kC BK144.out 4).trans rfl,(kC BK144.out 5).trans rfl,(kC BK144.out 6).trans rfl,(kC BK144.out 7).trans rfl,(kC BK144.out 8).trans rfl,(kC BK144.out 9).trans rfl,(kC BK144.out 10).trans rfl,(kC BK144.out 11).trans rfl,(kC BK144.out 12).trans rfl,(kC BK144.out 13).trans rfl,(kC BK144.out 14).trans rfl,(kC BK144.out 15).trans rfl⟩ (fun hHeld=>?_)
      clear hK K
      refine norm_ (a':=?_) ?_ ?_
      rotate_left
      ·show Act.put _ (some 37) _=_
       simp only[puts,i64_w,i32_w]
       rfl
      refine one_ (i:=7) (N:=some 40) #[true,true,true,true,true,true,true,true,true,true,false,false,false,false,false,false,false,false,false,false,false] rfl rfl (one_of HT_.out (by kernel_rfl)) (by decide) (fun K hK=>?_)
      refine goes_ Try.func31 (by kernel_rfl) rfl #[.int .i64 a0_3] (by rfl) rfl rfl (by(try simp only[List.map_toArray,List.map_cons,List.map_nil]);first|done|rfl|(simp only[List.length_drop,List.length_take];rfl)) ?_
      with_reducible refine(seq_Check.calls a0_3 t146 _ A20.out).mono ?_
      rintro e w' ⟨rfl,⟨nd,rfl⟩⟩
      refine⟨_,rfl,?_⟩
      refine hK.out _ _ ⟨(kC BK144.out 0).trans rfl,(kC BK144.out 1).trans rfl,(kC BK144.out 2).trans rfl,(kC BK144.out 3).trans rfl,(kC BK144.out 4).trans rfl,(kC BK144.out 5).trans rfl,(kC BK144.out 6).trans rfl,(kC BK144.out 7).trans rfl,(kC BK144.out 8).trans rfl,(kC BK144.out 9).trans rfl,(kC BK144.out 10).trans rfl,(kC BK144.out 11).trans rfl,(kC BK144.out 12).trans rfl,(kC BK144.out 13).trans rfl,(kC BK144.out 14).trans rfl,(kC BK144.out 15).trans rfl⟩ (fun hHeld=>?_)
      clear hK K
      refine norm_ (a':=?_) ?_ ?_
      rotate_left
      ·show Act.put _ (some 40) _=_
       simp only[puts,i64_w,i32_w]
       rfl
      refine one_ (i:=10) (N:=some 43) #[true,true,true,true,true,true,true,true,true,true,true,false,false,false,false,false,false,false,false,false,false] rfl rfl (one_of HT_.out (by kernel_rfl)) (by decide) (fun K hK=>?_)
      refine goes_ Try.func32 (by kernel_rfl) rfl #[.agg #[.int .i64 a0_7,.int .i64 a0_8,.int .i64 a0_9,.int .i64 a0_10,.bool a0_11,.bool a0_12,.bool a0_13,.slice A0_14 l0_14.length c0_14]] (by rfl) rfl rfl (by(try simp only[List.map_toArray,List.map_cons,List.map_nil]);first|done|rfl|(simp only[List.length_drop,List.length_take];rfl)) ?_
      with_reducible refine(opts_Check.calls kj1 a0_7 a0_8 a0_9 a0_10 a0_11 a0_12 a0_13 _ _ l0_14 t147 _ ?side1 ?side2 A21.out).mono ?_
      (case side1=>repeat(first|exact(Kd.C_below HR0_14.out (by repeat(first|(with_reducible first|exact HB.out|apply bA|apply bN|apply bD|refine bS ?_ GE144.out)|exact HB.out)))|(with_reducible refine Kd.C_alloc ?_ _)|(with_reducible refine Kd.C_drewN ?_ _)|(with_reducible refine Kd.C_drew ?_)))
      (case side2=>exact HC0_14.out)
      rintro e w26 ⟨rfl,hb⟩
      refine⟨_,rfl,?_⟩
      have n0_:=mkA (kB (g:=gb144) (by(with_reducible repeat(first|apply kN|apply kD|apply kA));exact BK144.out) hb)
      have n1_:=mkA (bT (by repeat(first|(with_reducible first|exact HB.out|apply bA|apply bN|apply bD|refine bS ?_ GE144.out)|exact HB.out)) hb)
      clear BK144
      clear HB
      have BK144:=n0_
      have HB:=n1_
      clear n0_ n1_
      (try clear hb)
      (try clear hb2)
      (try clear hk)
      (try clear hi)
      refine hK.out _ _ ⟨(kC BK144.out 0).trans rfl,(kC BK144.out 1).trans rfl,(kC BK144.out 2).trans rfl,(kC BK144.out 3).trans rfl,(kC BK144.out 4).trans rfl,(kC BK144.out 5).trans rfl,(kC BK144.out 6).trans rfl,(kC BK144.out 7).trans rfl,(kC BK144.out 8).trans rfl,(kC BK144.out 9).trans rfl,(kC BK144.out 10).trans rfl,(kC BK144.out 11).trans rfl,(kC BK144.out 12).trans rfl,(kC BK144.out 13).trans rfl,(kC BK144.out 14).trans rfl,(kC BK144.out 15).trans rfl⟩ (fun hHeld=>?_)
      clear hK K
      refine norm_ (a':=?_) ?_ ?_
      rotate_left
      ·show Act.put _ (some 43) _=_
       simp only[puts,i64_w,i32_w]
       rfl
      refine pure_ (i:=11) (N:=some 44) (v:=?_) (a':=?_) #[true,true,true,true,true,true,true,true,true,true,true,true,false,false,false,false,false,false,false,false,false] rfl rfl (any_of HT_.out (by kernel_rfl)) (fun _ _ _ h=>h) (Or.inl ⟨by rfl,?_⟩) ?_ ?_
      rotate_left
      ·intro w'
       go_simp
       with_reducible rfl
      rotate_left
      ·simp only[puts,i64_w,i32_w]
       rfl
      refine pure_ (i:=12) (N:=some 45) (v:=?_) (a':=?_) #[true,true,true,true,true,true,true,true,true,true,true,true,true,false,false,false,false,false,false,false,false] rfl rfl (any_of HT_.out (by kernel_rfl)) (fun _ _ _ h=>h) (Or.inl ⟨by rfl,?_⟩) ?_ ?_
      rotate_left
      ·intro w'
       go_simp
       with_reducible rfl
      rotate_left
      ·simp only[puts,i64_w,i32_w]
       rfl
      refine pure_ (i:=13) (N:=some 46) (v:=?_) (a':=?_) #[true,true,true,true,true,true,true,true,true,true,true,true,true,true,false,false,false,false,false,false,false] rfl rfl (any_of HT_.out (by kernel_rfl)) (fun _ _ _ h=>h) (Or.inl ⟨by rfl,?_⟩) ?_ ?_
      rotate_left
      ·intro w'
       go_simp
       with_reducible rfl
      rotate_left
      ·simp only[puts,i64_w,i32_w]
       rfl
      refine pure_ (i:=14) (N:=some 47) (v:=?_) (a':=?_) #[true,true,true,true,true,true,true,true,true,true,true,true,true,true,true,false,false,false,false,false,false] rfl rfl (any_of HT_.out (by kernel_rfl)) (fun _ _ _ h=>h) (Or.inl ⟨by rfl,?_⟩) ?_ ?_
      rotate_left
      ·intro w'
       go_simp
       with_reducible rfl
      rotate_left
      ·simp only[puts,i64_w,i32_w]
       rfl
      refine pure_ (i:=15) (N:=some 48) (v:=undef) (a':=?_) #[true,true,true,true,true,true,true,true,true,true,true,true,true,true,true,true,false,false,false,false,false] rfl rfl (any_of HT_.out (by kernel_rfl)) (fun _ _ _ h=>h) (Or.inr ⟨by rfl,rfl⟩) ?_ ?_
      rotate_left
      ·simp only[puts,i64_w,i32_w]
       rfl
      refine pure_ (i:=16) (N:=some 49) (v:=undef) (a':=?_) #[true,true,true,true,true,true,true,true,true,true,true,true,true,true,true,true,true,false,false,false,false] rfl rfl (any_of HT_.out (by kernel_rfl)) (fun _ _ _ h=>h) (Or.inr ⟨by rfl,rfl⟩) ?_ ?_
      rotate_left
      ·simp only[puts,i64_w,i32_w]
       rfl
      refine pure_ (i:=17) (N:=some 50) (v:=undef) (a':=?_) #[true,true,true,true,true,true,true,true,true,true,true,true,true,true,true,true,true,true,false,false,false] rfl rfl (any_of HT_.out (by kernel_rfl)) (fun _ _ _ h=>h) (Or.inr ⟨by rfl,rfl⟩) ?_ ?_
      rotate_left
      ·simp only[puts,i64_w,i32_w]
       rfl
      refine pure_ (i:=18) (N:=some 51) (v:=undef) (a':=?_) #[true,true,true,true,true,true,true,true,true,true,true,true,true,true,true,true,true,true,true,false,false] rfl rfl (any_of HT_.out (by kernel_rfl)) (fun _ _ _ h=>h) (Or.inr ⟨by rfl,rfl⟩) ?_ ?_
      rotate_left
      ·simp only[puts,i64_w,i32_w]
       rfl
      refine pure_ (i:=19) (N:=some 52) (v:=?_) (a':=?_) #[true,true,true,true,true,true,true,true,true,true,true,true,true,true,true,true,true,true,true,true,false] rfl rfl (any_of HT_.out (by kernel_rfl)) (fun _ _ _ h=>h) (Or.inl ⟨by rfl,?_⟩) ?_ ?_
      rotate_left
      ·intro w'
       go_simp
       with_reducible rfl
      rotate_left
      ·simp only[puts,i64_w,i32_w]
       rfl
      refine pure_ (i:=20) (N:=some 3) (v:=?_) (a':=?_) #[true,true,true,true,true,true,true,true,true,true,true,true,true,true,true,true,true,true,true,true,true] rfl rfl (any_of HT_.out (by kernel_rfl)) (fun _ _ _ h=>h) (Or.inl ⟨by rfl,?_⟩) ?_ ?_
      rotate_left
      ·intro w'
       go_simp
       with_reducible rfl
      rotate_left
      ·simp only[puts,i64_w,i32_w]
       rfl
      refine done_ (done_of HT_.out (by kernel_rfl)) ?_
      try go_wp2_with (first|((with_reducible refine gate_load (t:=26) rfl ?_);refine gate_wanted ?hw (fun hw_=>?_);(case hw=>first|rfl|(go_simp;done));refine load_big hw_ 26 _ rfl _ rfl 26 _ (0,0) _ (by(with_reducible repeat(first|apply kN|apply kD|apply kA|(apply blk_farA;case hp=>assumption)|apply kP));apply Aside0.out;assumption;all_goals (simp only[List.setIfInBounds_toArray,List.set_cons_zero,List.set_cons_succ];try rfl)) Try.underlying26 rfl (by kernel_rfl) ?_;clear hw_;simp only[puts])|((with_reducible refine gate_store (t:=26) rfl ?_);refine store_big rfl 26 _ _ rfl _ _ rfl rfl 26 _ (by(with_reducible repeat(first|apply kN|apply kD|apply kA|(apply blk_farA;case hp=>assumption)|apply kP));apply Aside0.out;assumption;all_goals (simp only[List.setIfInBounds_toArray,List.set_cons_zero,List.set_cons_succ];try rfl)) (by kernel_rfl) (by rfl) (by rfl) _ (by simp only[World.setCells,Nat.reduceAdd];rfl) ?_;simp only[puts])|go_in)
      go_meet
      case rel=>exact⟨_,(true),(by first|rfl|(simp;done)|(simp[*];done)),(by first|exact H'|(simp only[hji22,hji23];exact H')),⟨by have:=HJ1.out;first|omega|exact Nat.le_refl _⟩,⟨by(with_reducible repeat(first|refine kN ?_ _|refine kD ?_|refine kA ?_ _));exact BK144.out⟩,⟨by repeat(first|(with_reducible first|exact HB.out|apply bA|apply bN|apply bD|refine bS ?_ GE144.out)|exact HB.out)⟩⟩
     ·rw[if_neg c24] at H
      have c24b0:decide (0 < (ji23))=false:=decide_eq_false c24
      clear c24
      (first|rw[c24b0]|(simp only[i64_w,i32_w];rw[c24b0])|rw[c24b1]|skip)
      have H':=mkA H
      clear H
      try go_wp2_with (first|((with_reducible refine gate_load (t:=26) rfl ?_);refine gate_wanted ?hw (fun hw_=>?_);(case hw=>first|rfl|(go_simp;done));refine load_big hw_ 26 _ rfl _ rfl 26 _ (0,0) _ (by(with_reducible repeat(first|apply kN|apply kD|apply kA|(apply blk_farA;case hp=>assumption)|apply kP));apply Aside0.out;assumption;all_goals (simp only[List.setIfInBounds_toArray,List.set_cons_zero,List.set_cons_succ];try rfl)) Try.underlying26 rfl (by kernel_rfl) ?_;clear hw_;simp only[puts])|((with_reducible refine gate_store (t:=26) rfl ?_);refine store_big rfl 26 _ _ rfl _ _ rfl rfl 26 _ (by(with_reducible repeat(first|apply kN|apply kD|apply kA|(apply blk_farA;case hp=>assumption)|apply kP));apply Aside0.out;assumption;all_goals (simp only[List.setIfInBounds_toArray,List.set_cons_zero,List.set_cons_succ];try rfl)) (by kernel_rfl) (by rfl) (by rfl) _ (by simp only[World.setCells,Nat.reduceAdd];rfl) ?_;simp only[puts])|go_in)
      have n0_:=mkA (kD BK144.out)
      have n1_:=mkA (bD HB.out)
      clear BK144
      clear HB
      have BK144:=n0_
      have HB:=n1_
      clear n0_ n1_
      refine start_ (n:=21) (S:=fun w'=>w'.cell? ⟨gb144,0,none⟩=some (.int .i64 a0_0)∧w'.cell? ⟨gb144,1,none⟩=some (.int .i64 a0_1)∧w'.cell? ⟨gb144,2,none⟩=some (.int .i64 a0_2)∧w'.cell? ⟨gb144,3,none⟩=some (.int .i64 a0_3)∧w'.cell? ⟨gb144,4,none⟩=some (.int .i64 a0_4)∧w'.cell? ⟨gb144,5,none⟩=some (.int .i64 a0_5)∧w'.cell? ⟨gb144,6,none⟩=some (.int .i64 a0_6)∧w'.cell? ⟨gb144,7,none⟩=some (.int .i64 a0_7)∧w'.cell? ⟨gb144,8,none⟩=some (.int .i64 a0_8)∧w'.cell? ⟨gb144,9,none⟩=some (.int .i64 a0_9)∧w'.cell? ⟨gb144,10,none⟩=some (.int .i64 a0_10)∧w'.cell? ⟨gb144,11,none⟩=some (.bool a0_11)∧w'.cell? ⟨gb144,12,none⟩=some (.bool a0_12)∧w'.cell? ⟨gb144,13,none⟩=some (.bool a0_13)∧w'.cell? ⟨gb144,14,none⟩=some (.slice A0_14 l0_14.length c0_14)∧w'.cell? ⟨gb144,15,none⟩=some (.string a0_15)) (ds:=[]) #[false,false,false,false,false,false,false,false,false,false,false,false,false,false,false,false,false,false,false,false,false] (by kernel_rfl) rfl rfl ⟨(kC BK144.out 0).trans rfl,(kC BK144.out 1).trans rfl,(kC BK144.out 2).trans rfl,(kC BK144.out 3).trans rfl,(kC BK144.out 4).trans rfl,(kC BK144.out 5).trans rfl,(kC BK144.out 6).trans rfl,(kC BK144.out 7).trans rfl,(kC BK144.out 8).trans rfl,(kC BK144.out 9).trans rfl,(kC BK144.out 10).trans rfl,(kC BK144.out 11).trans rfl,(kC BK144.out 12).trans rfl,(kC BK144.out 13).trans rfl,(kC BK144.out 14).trans rfl,(kC BK144.out 15).trans rfl⟩ (fun hHeld=>?_);refine with_tabW seg_Check.tab2 seg_Check.bits2 (fun HT_ HW_=>?_)
      generalize wc.drew=w27 at BK144 HB hHeld ⊢
      refine pure_ (i:=0) (N:=some 33) (v:=?_) (a':=?_) #[true,false,false,false,false,false,false,false,false,false,false,false,false,false,false,false,false,false,false,false,false] rfl rfl (any_of HT_.out (by kernel_rfl)) (fun _ _ _ h=>h) (Or.inl ⟨by rfl,?_⟩) ?_ ?_
      rotate_left
      ·intro w'
       go_simp
       with_reducible rfl
      rotate_left
      ·simp only[puts,i64_w,i32_w]
       rfl
      refine pure_ (i:=1) (N:=some 34) (v:=?_) (a':=?_) #[true,true,false,false,false,false,false,false,false,false,false,false,false,false,false,false,false,false,false,false,false] rfl rfl (any_of HT_.out (by kernel_rfl)) (fun _ _ _ h=>h) (Or.inl ⟨by rfl,?_⟩) ?_ ?_
      rotate_left
      ·intro w'
       go_simp
       with_reducible rfl
      rotate_left
      ·simp only[puts,i64_w,i32_w]
       rfl
      refine pure_ (i:=2) (N:=some 35) (v:=?_) (a':=?_) #[true,true,true,false,false,false,false,false,false,false,false,false,false,false,false,false,false,false,false,false,false] rfl rfl (any_of HT_.out (by kernel_rfl)) (fun _ _ _ h=>h) (Or.inl ⟨by rfl,?_⟩) ?_ ?_
      rotate_left
      ·intro w'
       go_simp
       with_reducible rfl
      rotate_left
      ·simp only[puts,i64_w,i32_w]
       rfl
      refine pure_ (i:=5) (N:=some 38) (v:=?_) (a':=?_) #[true,true,true,false,false,true,false,false,false,false,false,false,false,false,false,false,false,false,false,false,false] rfl rfl (any_of HT_.out (by kernel_rfl)) (fun _ _ _ h=>h) (Or.inl ⟨by rfl,?_⟩) ?_ ?_
      rotate_left
      ·intro w'
       go_simp
       with_reducible rfl
      rotate_left
      ·simp only[puts,i64_w,i32_w]
       rfl
      refine pure_ (i:=8) (N:=some 41) (v:=?_) (a':=?_) #[true,true,true,false,false,true,false,false,true,false,false,false,false,false,false,false,false,false,false,false,false] rfl rfl (any_of HT_.out (by kernel_rfl)) (fun _ _ _ h=>h) (Or.inl ⟨by rfl,?_⟩) ?_ ?_
      rotate_left
      ·intro w'
       go_simp
       with_reducible rfl
      rotate_left
      ·simp only[puts,i64_w,i32_w]
       rfl
      refine take_ (i:=3) (N:=some 36) (v:=?_) (a':=?_) #[true,true,true,true,false,true,false,false,true,false,false,false,false,false,false,false,false,false,false,false,false] rfl rfl (take_ofW HT_.out HW_.out (by kernel_rfl)) (fun _ _ _ h=>h) (Or.inl ⟨by rfl,?_⟩) hHeld ?_ ?_
      rotate_left
      ·rintro w' ⟨s0,s1,s2,s3,s4,s5,s6,s7,s8,s9,s10,s11,s12,s13,s14,s15⟩
       go_simp
       with_reducible rfl
      rotate_left
      ·simp only[puts,i64_w,i32_w]
       rfl
      refine take_ (i:=6) (N:=some 39) (v:=?_) (a':=?_) #[true,true,true,true,false,true,true,false,true,false,false,false,false,false,false,false,false,false,false,false,false] rfl rfl (take_ofW HT_.out HW_.out (by kernel_rfl)) (fun _ _ _ h=>h) (Or.inl ⟨by rfl,?_⟩) hHeld ?_ ?_
      rotate_left
      ·rintro w' ⟨s0,s1,s2,s3,s4,s5,s6,s7,s8,s9,s10,s11,s12,s13,s14,s15⟩
       go_simp
       with_reducible rfl
      rotate_left
      ·simp only[puts,i64_w,i32_w]
       rfl
      refine take_ (i:=9) (N:=some 42) (v:=?_) (a':=?_) #[true,true,true,true,false,true,true,false,true,true,false,false,false,false,false,false,false,false,false,false,false] rfl rfl (take_ofW HT_.out HW_.out (by kernel_rfl)) (fun _ _ _ h=>h) (Or.inl ⟨by rfl,?_⟩) hHeld ?_ ?_
      rotate_left
      ·rintro w' ⟨s0,s1,s2,s3,s4,s5,s6,s7,s8,s9,s10,s11,s12,s13,s14,s15⟩
       go_simp
       with_reducible rfl
      rotate_left
      ·simp only[puts,i64_w,i32_w]
       rfl
      refine one_ (i:=4) (N:=some 37) #[true,true,true,true,true,true,true,false,true,true,false,false,false,false,false,false,false,false,false,false,false] rfl rfl (one_of HT_.out (by kernel_rfl)) (by decide) (fun K hK=>?_)
      refine goes_ Try.func31 (by kernel_rfl) rfl #[.int .i64 a0_2] (by rfl) rfl rfl (by(try simp only[List.map_toArray,List.map_cons,List.map_nil]);first|done|rfl|(simp only[List.length_drop,List.length_take];rfl)) ?_
      with_reducible refine(seq_Check.calls a0_2 t145 _ A19.out).mono ?_
      rintro e w' ⟨rfl,⟨nd,rfl⟩⟩
      refine⟨_,rfl,?_⟩
      refine hK.out _ _ ⟨(kC BK144.out 0).trans rfl,(kC BK144.out 1).trans rfl,(kC BK144.out 2).trans rfl,(kC BK144.out 3).trans rfl,(kC BK144.out 4).trans rfl,(kC BK144.out 5).trans rfl,(kC BK144.out 6).trans rfl,(kC BK144.out 7).trans rfl,(kC BK144.out 8).trans rfl,(kC BK144.out 9).trans rfl,(kC BK144.out 10).trans rfl,(kC BK144.out 11).trans rfl,(kC BK144.out 12).trans rfl,(kC BK144.out 13).trans rfl,(kC BK144.out 14).trans rfl,(kC BK144.out 15).trans rfl⟩ (fun hHeld=>?_)
      clear hK K
      refine norm_ (a':=?_) ?_ ?_
      rotate_left
      ·show Act.put _ (some 37) _=_
       simp only[puts,i64_w,i32_w]
       rfl
      refine one_ (i:=7) (N:=some 40) #[true,true,true,true,true,true,true,true,true,true,false,false,false,false,false,false,false,false,false,false,false] rfl rfl (one_of HT_.out (by kernel_rfl)) (by decide) (fun K hK=>?_)
      refine goes_ Try.func31 (by kernel_rfl) rfl #[.int .i64 a0_3] (by rfl) rfl rfl (by(try simp only[List.map_toArray,List.map_cons,List.map_nil]);first|done|rfl|(simp only[List.length_drop,List.length_take];rfl)) ?_
      with_reducible refine(seq_Check.calls a0_3 t146 _ A20.out).mono ?_
      rintro e w' ⟨rfl,⟨nd,rfl⟩⟩
      refine⟨_,rfl,?_⟩
      refine hK.out _ _ ⟨(kC BK144.out 0).trans rfl,(kC BK144.out 1).trans rfl,(kC BK144.out 2).trans rfl,(kC BK144.out 3).trans rfl,(kC BK144.out 4).trans rfl,(kC BK144.out 5).trans rfl,(kC BK144.out 6).trans rfl,(kC BK144.out 7).trans rfl,(kC BK144.out 8).trans rfl,(kC BK144.out 9).trans rfl,(kC BK144.out 10).trans rfl,(kC BK144.out 11).trans rfl,(kC BK144.out 12).trans rfl,(kC BK144.out 13).trans rfl,(kC BK144.out 14).trans rfl,(kC BK144.out 15).trans rfl⟩ (fun hHeld=>?_)
      clear hK K
      refine norm_ (a':=?_) ?_ ?_
      rotate_left
      ·show Act.put _ (some 40) _=_
       simp only[puts,i64_w,i32_w]
       rfl
      refine one_ (i:=10) (N:=some 43) #[true,true,true,true,true,true,true,true,true,true,true,false,false,false,false,false,false,false,false,false,false] rfl rfl (one_of HT_.out (by kernel_rfl)) (by decide) (fun K hK=>?_)
      refine goes_ Try.func32 (by kernel_rfl) rfl #[.agg #[.int .i64 a0_7,.int .i64 a0_8,.int .i64 a0_9,.int .i64 a0_10,.bool a0_11,.bool a0_12,.bool a0_13,.slice A0_14 l0_14.length c0_14]] (by rfl) rfl rfl (by(try simp only[List.map_toArray,List.map_cons,List.map_nil]);first|done|rfl|(simp only[List.length_drop,List.length_take];rfl)) ?_
      with_reducible refine(opts_Check.calls kj1 a0_7 a0_8 a0_9 a0_10 a0_11 a0_12 a0_13 _ _ l0_14 t147 _ ?side1 ?side2 A21.out).mono ?_
      (case side1=>repeat(first|exact(Kd.C_below HR0_14.out (by repeat(first|(with_reducible first|exact HB.out|apply bA|apply bN|apply bD|refine bS ?_ GE144.out)|exact HB.out)))|(with_reducible refine Kd.C_alloc ?_ _)|(with_reducible refine Kd.C_drewN ?_ _)|(with_reducible refine Kd.C_drew ?_)))
      (case side2=>exact HC0_14.out)
      rintro e w28 ⟨rfl,hb⟩
      refine⟨_,rfl,?_⟩
      have n0_:=mkA (kB (g:=gb144) (by(with_reducible repeat(first|apply kN|apply kD|apply kA));exact BK144.out) hb)
      have n1_:=mkA (bT (by repeat(first|(with_reducible first|exact HB.out|apply bA|apply bN|apply bD|refine bS ?_ GE144.out)|exact HB.out)) hb)
      clear BK144
      clear HB
      have BK144:=n0_
      have HB:=n1_
      clear n0_ n1_
      (try clear hb)
      (try clear hb2)
      (try clear hk)
      (try clear hi)
      refine hK.out _ _ ⟨(kC BK144.out 0).trans rfl,(kC BK144.out 1).trans rfl,(kC BK144.out 2).trans rfl,(kC BK144.out 3).trans rfl,(kC BK144.out 4).trans rfl,(kC BK144.out 5).trans rfl,(kC BK144.out 6).trans rfl,(kC BK144.out 7).trans rfl,(kC BK144.out 8).trans rfl,(kC BK144.out 9).trans rfl,(kC BK144.out 10).trans rfl,(kC BK144.out 11).trans rfl,(kC BK144.out 12).trans rfl,(kC BK144.out 13).trans rfl,(kC BK144.out 14).trans rfl,(kC BK144.out 15).trans rfl⟩ (fun hHeld=>?_)
      clear hK K
      refine norm_ (a':=?_) ?_ ?_
      rotate_left
      ·show Act.put _ (some 43) _=_
       simp only[puts,i64_w,i32_w]
       rfl
      refine pure_ (i:=11) (N:=some 44) (v:=?_) (a':=?_) #[true,true,true,true,true,true,true,true,true,true,true,true,false,false,false,false,false,false,false,false,false] rfl rfl (any_of HT_.out (by kernel_rfl)) (fun _ _ _ h=>h) (Or.inl ⟨by rfl,?_⟩) ?_ ?_
      rotate_left
      ·intro w'
       go_simp
       with_reducible rfl
      rotate_left
      ·simp only[puts,i64_w,i32_w]
       rfl
      refine pure_ (i:=12) (N:=some 45) (v:=?_) (a':=?_) #[true,true,true,true,true,true,true,true,true,true,true,true,true,false,false,false,false,false,false,false,false] rfl rfl (any_of HT_.out (by kernel_rfl)) (fun _ _ _ h=>h) (Or.inl ⟨by rfl,?_⟩) ?_ ?_
      rotate_left
      ·intro w'
       go_simp
       with_reducible rfl
      rotate_left
      ·simp only[puts,i64_w,i32_w]
       rfl
      refine pure_ (i:=13) (N:=some 46) (v:=?_) (a':=?_) #[true,true,true,true,true,true,true,true,true,true,true,true,true,true,false,false,false,false,false,false,false] rfl rfl (any_of HT_.out (by kernel_rfl)) (fun _ _ _ h=>h) (Or.inl ⟨by rfl,?_⟩) ?_ ?_
      rotate_left
      ·intro w'
       go_simp
       with_reducible rfl
      rotate_left
      ·simp only[puts,i64_w,i32_w]
       rfl
      refine pure_ (i:=14) (N:=some 47) (v:=?_) (a':=?_) #[true,true,true,true,true,true,true,true,true,true,true,true,true,true,true,false,false,false,false,false,false] rfl rfl (any_of HT_.out (by kernel_rfl)) (fun _ _ _ h=>h) (Or.inl ⟨by rfl,?_⟩) ?_ ?_
      rotate_left
      ·intro w'
       go_simp
       with_reducible rfl
      rotate_left
      ·simp only[puts,i64_w,i32_w]
       rfl
      refine pure_ (i:=15) (N:=some 48) (v:=?_) (a':=?_) #[true,true,true,true,true,true,true,true,true,true,true,true,true,true,true,true,false,false,false,false,false] rfl rfl (any_of HT_.out (by kernel_rfl)) (fun _ _ _ h=>h) (Or.inl ⟨by rfl,?_⟩) ?_ ?_
      rotate_left
      ·intro w'
       go_simp
       with_reducible rfl
      rotate_left
      ·simp only[puts,i64_w,i32_w]
       rfl
      refine take_ (i:=16) (N:=some 49) (v:=?_) (a':=?_) #[true,true,true,true,true,true,true,true,true,true,true,true,true,true,true,true,true,false,false,false,false] rfl rfl (take_ofW HT_.out HW_.out (by kernel_rfl)) (fun _ _ _ h=>h) (Or.inl ⟨by rfl,?_⟩) hHeld ?_ ?_
      rotate_left
      ·rintro w' ⟨s0,s1,s2,s3,s4,s5,s6,s7,s8,s9,s10,s11,s12,s13,s14,s15⟩
       go_simp
       with_reducible rfl
      rotate_left
      ·simp only[puts,i64_w,i32_w]
       rfl
      refine pure_ (i:=17) (N:=some 50) (v:=?_) (a':=?_) #[true,true,true,true,true,true,true,true,true,true,true,true,true,true,true,true,true,true,false,false,false] rfl rfl (any_of HT_.out (by kernel_rfl)) (fun _ _ _ h=>h) (Or.inl ⟨by rfl,?_⟩) ?_ ?_
      rotate_left
      ·intro w'
       go_simp
       with_reducible rfl
      rotate_left
      ·simp only[puts,i64_w,i32_w]
       rfl
      refine pure_ (i:=18) (N:=some 51) (v:=?_) (a':=?_) #[true,true,true,true,true,true,true,true,true,true,true,true,true,true,true,true,true,true,true,false,false] rfl rfl (any_of HT_.out (by kernel_rfl)) (fun _ _ _ h=>h) (Or.inl ⟨by rfl,?_⟩) ?_ ?_
      rotate_left
      ·intro w'
       go_simp
       with_reducible rfl
      rotate_left
      ·simp only[puts,i64_w,i32_w]
       rfl
      refine pure_ (i:=19) (N:=some 52) (v:=?_) (a':=?_) #[true,true,true,true,true,true,true,true,true,true,true,true,true,true,true,true,true,true,true,true,false] rfl rfl (any_of HT_.out (by kernel_rfl)) (fun _ _ _ h=>h) (Or.inl ⟨by rfl,?_⟩) ?_ ?_
      rotate_left
      ·intro w'
       go_simp
       with_reducible rfl
      rotate_left
      ·simp only[puts,i64_w,i32_w]
       rfl
      refine pure_ (i:=20) (N:=some 3) (v:=?_) (a':=?_) #[true,true,true,true,true,true,true,true,true,true,true,true,true,true,true,true,true,true,true,true,true] rfl rfl (any_of HT_.out (by kernel_rfl)) (fun _ _ _ h=>h) (Or.inl ⟨by rfl,?_⟩) ?_ ?_
      rotate_left
      ·intro w'
       go_simp
       with_reducible rfl
      rotate_left
      ·simp only[puts,i64_w,i32_w]
       rfl
      refine done_ (done_of HT_.out (by kernel_rfl)) ?_
      try go_wp2_with (first|((with_reducible refine gate_load (t:=26) rfl ?_);refine gate_wanted ?hw (fun hw_=>?_);(case hw=>first|rfl|(go_simp;done));refine load_big hw_ 26 _ rfl _ rfl 26 _ (0,0) _ (by(with_reducible repeat(first|apply kN|apply kD|apply kA|(apply blk_farA;case hp=>assumption)|apply kP));apply Aside0.out;assumption;all_goals (simp only[List.setIfInBounds_toArray,List.set_cons_zero,List.set_cons_succ];try rfl)) Try.underlying26 rfl (by kernel_rfl) ?_;clear hw_;simp only[puts])|((with_reducible refine gate_store (t:=26) rfl ?_);refine store_big rfl 26 _ _ rfl _ _ rfl rfl 26 _ (by(with_reducible repeat(first|apply kN|apply kD|apply kA|(apply blk_farA;case hp=>assumption)|apply kP));apply Aside0.out;assumption;all_goals (simp only[List.setIfInBounds_toArray,List.set_cons_zero,List.set_cons_succ];try rfl)) (by kernel_rfl) (by rfl) (by rfl) _ (by simp only[World.setCells,Nat.reduceAdd];rfl) ?_;simp only[puts])|go_in)
      go_meet
      case rel=>exact⟨_,(decide ((a0_15.size:Int) > 1480)),(by first|rfl|(simp;done)|(simp[*];done)),(by first|exact H'|(simp only[hji22,hji23];exact H')),⟨by have:=HJ1.out;first|omega|exact Nat.le_refl _⟩,⟨by(with_reducible repeat(first|refine kN ?_ _|refine kD ?_|refine kA ?_ _));exact BK144.out⟩,⟨by repeat(first|(with_reducible first|exact HB.out|apply bA|apply bN|apply bD|refine bS ?_ GE144.out)|exact HB.out)⟩⟩
   case rest =>
    clear HC16
    try clear c1;try clear c2;try clear p2;try clear c3;try clear c17;try clear c24;try clear c24b0;try clear c24b1;try clear hfz9_14 hfz9_15 hfz9_2 hfz9_3 hfz9_4 hfz9_5 hfz9_6 hfz9_7 hfz9_8 hfz9_9
    obtain⟨kq,x3_15,rfl,HA,HJ15,BK144,HB⟩:=hcut
    cases kq with
    | zero=>exact absurd HA.out (by simp[seg_Check.j1])
    | succ kj15 =>
     have H:=HA.out
     clear HA
     simp only[seg_Check.j1] at H
     have HC29:=mkA H
     clear H
     go_upto_region 3 with (fail)
     go_cut [73] (fun v73 wc=>∃ (kq:Nat) (x73_28:Bool),v73=.bool x73_28∧Aside0 (seg_Check.j2 kq x73_28=some r)∧Aside0 (kq≤kj15)∧Aside0 (wc.heap[gb144]?=some (.cells #[.int .i64 a0_0,.int .i64 a0_1,.int .i64 a0_2,.int .i64 a0_3,.int .i64 a0_4,.int .i64 a0_5,.int .i64 a0_6,.int .i64 a0_7,.int .i64 a0_8,.int .i64 a0_9,.int .i64 a0_10,.bool a0_11,.bool a0_12,.bool a0_13,(.slice A0_14 l0_14.length c0_14),.string a0_15] 26 (0,0)))∧Aside0 (Below w.heap.size w wc))
     case first =>
      have H:=HC29.out
      clear HC29
      by_cases c30:x3_15=true
      ·subst c30
       have H1:(seg_Check.j2 kj15 true)=some r:=by rw[if_pos rfl] at H;exact H
       clear H
       have H:=H1
       clear H1
       have H':=mkA H
       clear H
       go_wp2_with (first|((with_reducible refine gate_load (t:=26) rfl ?_);refine gate_wanted ?hw (fun hw_=>?_);(case hw=>first|rfl|(go_simp;done));refine load_big hw_ 26 _ rfl _ rfl 26 _ (0,0) _ (by(with_reducible repeat(first|apply kN|apply kD|apply kA|(apply blk_farA;case hp=>assumption)|apply kP));apply Aside0.out;assumption;all_goals (simp only[List.setIfInBounds_toArray,List.set_cons_zero,List.set_cons_succ];try rfl)) Try.underlying26 rfl (by kernel_rfl) ?_;clear hw_;simp only[puts])|((with_reducible refine gate_store (t:=26) rfl ?_);refine store_big rfl 26 _ _ rfl _ _ rfl rfl 26 _ (by(with_reducible repeat(first|apply kN|apply kD|apply kA|(apply blk_farA;case hp=>assumption)|apply kP));apply Aside0.out;assumption;all_goals (simp only[List.setIfInBounds_toArray,List.set_cons_zero,List.set_cons_succ];try rfl)) (by kernel_rfl) (by rfl) (by rfl) _ (by simp only[World.setCells,Nat.reduceAdd];rfl) ?_;simp only[puts])|go_in)
       go_meet
       case rel=>exact⟨_,(true),(by first|rfl|(simp;done)|(simp[*];done)),H',⟨by have:=HJ1.out;have:=HJ15.out;first|omega|exact Nat.le_refl _⟩,⟨by(with_reducible repeat(first|refine kN ?_ _|refine kD ?_|refine kA ?_ _));exact BK144.out⟩,⟨by repeat(first|(with_reducible first|exact HB.out|apply bA|apply bN|apply bD|refine bS ?_ GE144.out)|exact HB.out)⟩⟩
      ·replace c30:=Bool.eq_false_iff.mpr c30
       subst c30
       have H1:(if a0_3 > 0 then ((seg_Has.f a0_0 a0_1 a0_2 a0_3 a0_4 a0_5 a0_6 a0_7 a0_8 a0_9 a0_10 a0_11 a0_12 a0_13 l0_14 a0_15 16).bind fun t148=>(if t148=true then (if a0_6 > 0 then ((seg_Has.f a0_0 a0_1 a0_2 a0_3 a0_4 a0_5 a0_6 a0_7 a0_8 a0_9 a0_10 a0_11 a0_12 a0_13 l0_14 a0_15 32).bind fun t149=>(seg_Check.j2 kj15 (!t149))) else (seg_Check.j2 kj15 false)) else (seg_Check.j2 kj15 true))) else (if a0_6 > 0 then ((seg_Has.f a0_0 a0_1 a0_2 a0_3 a0_4 a0_5 a0_6 a0_7 a0_8 a0_9 a0_10 a0_11 a0_12 a0_13 l0_14 a0_15 32).bind fun t150=>(seg_Check.j2 kj15 (!t150))) else (seg_Check.j2 kj15 false)))=some r:=by rw[if_neg (show ¬ (false=true) by decide)] at H;exact H
       clear H
       have H:=H1
       clear H1
       by_cases c31:a0_3 > 0
       ·rw[if_pos c31] at H
        have c31b0:decide (0 < a0_3)=true:=decide_eq_true c31
        clear c31
        (first|rw[c31b0]|(simp only[i64_w,i32_w];rw[c31b0])|rw[c31b1]|skip)
        replace H:=Option.bind_eq_some_iff.mp H
        obtain⟨t148,A320,H⟩:=H
        replace H:(if t148=true then (if a0_6 > 0 then ((seg_Has.f a0_0 a0_1 a0_2 a0_3 a0_4 a0_5 a0_6 a0_7 a0_8 a0_9 a0_10 a0_11 a0_12 a0_13 l0_14 a0_15 32).bind fun t149=>(seg_Check.j2 kj15 (!t149))) else (seg_Check.j2 kj15 false)) else (seg_Check.j2 kj15 true))=some r:=H
        have A32:=mkA A320
        clear A320
        by_cases c33:t148=true
        ·subst c33
         have H1:(if a0_6 > 0 then ((seg_Has.f a0_0 a0_1 a0_2 a0_3 a0_4 a0_5 a0_6 a0_7 a0_8 a0_9 a0_10 a0_11 a0_12 a0_13 l0_14 a0_15 32).bind fun t149=>(seg_Check.j2 kj15 (!t149))) else (seg_Check.j2 kj15 false))=some r:=by rw[if_pos rfl] at H;exact H
         clear H
         have H:=H1
         clear H1
         by_cases c34:a0_6 > 0
         ·rw[if_pos c34] at H
          have c34b0:decide (0 < a0_6)=true:=decide_eq_true c34
          clear c34
          replace H:=Option.bind_eq_some_iff.mp H
          obtain⟨t149,A350,H⟩:=H
          replace H:(seg_Check.j2 kj15 (!t149))=some r:=H
          have A35:=mkA A350
          clear A350
          have H':=mkA H
          clear H
          obtain⟨hcz36_0,hcz36_1,hcz36_2,hcz36_3,hcz36_4,hcz36_5,hcz36_6,hcz36_7,hcz36_8,hcz36_9,hcz36_10,hcz36_11,hcz36_12,hcz36_13,hcz36_14,hcz36_15⟩:=blk_cells16 BK144.out
          obtain⟨hfz36_0,hfz36_1,hfz36_2,hfz36_3,hfz36_4,hfz36_5,hfz36_6,hfz36_7,hfz36_8,hfz36_9,hfz36_10,hfz36_11,hfz36_12,hfz36_13,hfz36_14,hfz36_15⟩:=blk_frozens16 BK144.out
          go_wp2_with (first|((with_reducible refine gate_load (t:=26) rfl ?_);refine gate_wanted ?hw (fun hw_=>?_);(case hw=>first|rfl|(go_simp;done));refine load_big hw_ 26 _ rfl _ rfl 26 _ (0,0) _ (by(with_reducible repeat(first|apply kN|apply kD|apply kA|(apply blk_farA;case hp=>assumption)|apply kP));apply Aside0.out;assumption;all_goals (simp only[List.setIfInBounds_toArray,List.set_cons_zero,List.set_cons_succ];try rfl)) Try.underlying26 rfl (by kernel_rfl) ?_;clear hw_;simp only[puts])|((with_reducible refine gate_store (t:=26) rfl ?_);refine store_big rfl 26 _ _ rfl _ _ rfl rfl 26 _ (by(with_reducible repeat(first|apply kN|apply kD|apply kA|(apply blk_farA;case hp=>assumption)|apply kP));apply Aside0.out;assumption;all_goals (simp only[List.setIfInBounds_toArray,List.set_cons_zero,List.set_cons_succ];try rfl)) (by kernel_rfl) (by rfl) (by rfl) _ (by simp only[World.setCells,Nat.reduceAdd];rfl) ?_;simp only[puts])|(go_at_call 15;(with_reducible refine(seg_Has.calls a0_0 a0_1 a0_2 a0_3 a0_4 a0_5 a0_6 a0_7 a0_8 a0_9 a0_10 a0_11 a0_12 a0_13 _ _ l0_14 a0_15 16 true _ ?side1 ?side2 A32.out).mono ?_);(case side1=>repeat(first|exact(Kd.C_below HR0_14.out HB.out)|(with_reducible refine Kd.C_alloc ?_ _)|(with_reducible refine Kd.C_drewN ?_ _)|(with_reducible refine Kd.C_drew ?_)));(case side2=>exact HC0_14.out);rintro e w37 ⟨rfl,hb⟩;have n0_:=mkA (kB (g:=gb144) (by(with_reducible repeat(first|apply kN|apply kD|apply kA));exact BK144.out) hb);have n1_:=mkA (bT (by repeat(first|(with_reducible first|exact HB.out|apply bA|apply bN|apply bD|refine bS ?_ GE144.out)|exact HB.out)) hb);clear BK144;clear HB;have BK144:=n0_;have HB:=n1_;clear n0_ n1_;(try clear hb);(try clear hb2);(try clear hk);(try clear hi);obtain⟨hcz38_0,hcz38_1,hcz38_2,hcz38_3,hcz38_4,hcz38_5,hcz38_6,hcz38_7,hcz38_8,hcz38_9,hcz38_10,hcz38_11,hcz38_12,hcz38_13,hcz38_14,hcz38_15⟩:=blk_cells16 BK144.out;obtain⟨hfz38_0,hfz38_1,hfz38_2,hfz38_3,hfz38_4,hfz38_5,hfz38_6,hfz38_7,hfz38_8,hfz38_9,hfz38_10,hfz38_11,hfz38_12,hfz38_13,hfz38_14,hfz38_15⟩:=blk_frozens16 BK144.out)|(go_at_call 15;(with_reducible refine(seg_Has.calls a0_0 a0_1 a0_2 a0_3 a0_4 a0_5 a0_6 a0_7 a0_8 a0_9 a0_10 a0_11 a0_12 a0_13 _ _ l0_14 a0_15 32 t149 _ ?side1 ?side2 A35.out).mono ?_);(case side1=>repeat(first|exact(Kd.C_below HR0_14.out HB.out)|(with_reducible refine Kd.C_alloc ?_ _)|(with_reducible refine Kd.C_drewN ?_ _)|(with_reducible refine Kd.C_drew ?_)));(case side2=>exact HC0_14.out);rintro e w39 ⟨rfl,hb⟩;have n0_:=mkA (kB (g:=gb144) (by(with_reducible repeat(first|apply kN|apply kD|apply kA));exact BK144.out) hb);have n1_:=mkA (bT (by repeat(first|(with_reducible first|exact HB.out|apply bA|apply bN|apply bD|refine bS ?_ GE144.out)|exact HB.out)) hb);clear BK144;clear HB;have BK144:=n0_;have HB:=n1_;clear n0_ n1_;(try clear hb);(try clear hb2);(try clear hk);(try clear hi)))
          go_meet
          case rel=>exact⟨_,(!t149),(by first|rfl|(simp;done)|(simp[*];done)),H',⟨by have:=HJ1.out;have:=HJ15.out;first|omega|exact Nat.le_refl _⟩,⟨by(with_reducible repeat(first|refine kN ?_ _|refine kD ?_|refine kA ?_ _));exact BK144.out⟩,⟨by repeat(first|(with_reducible first|exact HB.out|apply bA|apply bN|apply bD|refine bS ?_ GE144.out)|exact HB.out)⟩⟩
         ·rw[if_neg c34] at H
          have c34b0:decide (0 < a0_6)=false:=decide_eq_false c34
          clear c34
          have H':=mkA H
          clear H
          obtain⟨hcz40_0,hcz40_1,hcz40_2,hcz40_3,hcz40_4,hcz40_5,hcz40_6,hcz40_7,hcz40_8,hcz40_9,hcz40_10,hcz40_11,hcz40_12,hcz40_13,hcz40_14,hcz40_15⟩:=blk_cells16 BK144.out
          obtain⟨hfz40_0,hfz40_1,hfz40_2,hfz40_3,hfz40_4,hfz40_5,hfz40_6,hfz40_7,hfz40_8,hfz40_9,hfz40_10,hfz40_11,hfz40_12,hfz40_13,hfz40_14,hfz40_15⟩:=blk_frozens16 BK144.out
          go_wp2_with (first|((with_reducible refine gate_load (t:=26) rfl ?_);refine gate_wanted ?hw (fun hw_=>?_);(case hw=>first|rfl|(go_simp;done));refine load_big hw_ 26 _ rfl _ rfl 26 _ (0,0) _ (by(with_reducible repeat(first|apply kN|apply kD|apply kA|(apply blk_farA;case hp=>assumption)|apply kP));apply Aside0.out;assumption;all_goals (simp only[List.setIfInBounds_toArray,List.set_cons_zero,List.set_cons_succ];try rfl)) Try.underlying26 rfl (by kernel_rfl) ?_;clear hw_;simp only[puts])|((with_reducible refine gate_store (t:=26) rfl ?_);refine store_big rfl 26 _ _ rfl _ _ rfl rfl 26 _ (by(with_reducible repeat(first|apply kN|apply kD|apply kA|(apply blk_farA;case hp=>assumption)|apply kP));apply Aside0.out;assumption;all_goals (simp only[List.setIfInBounds_toArray,List.set_cons_zero,List.set_cons_succ];try rfl)) (by kernel_rfl) (by rfl) (by rfl) _ (by simp only[World.setCells,Nat.reduceAdd];rfl) ?_;simp only[puts])|(go_at_call 15;(with_reducible refine(seg_Has.calls a0_0 a0_1 a0_2 a0_3 a0_4 a0_5 a0_6 a0_7 a0_8 a0_9 a0_10 a0_11 a0_12 a0_13 _ _ l0_14 a0_15 16 true _ ?side1 ?side2 A32.out).mono ?_);(case side1=>repeat(first|exact(Kd.C_below HR0_14.out HB.out)|(with_reducible refine Kd.C_alloc ?_ _)|(with_reducible refine Kd.C_drewN ?_ _)|(with_reducible refine Kd.C_drew ?_)));(case side2=>exact HC0_14.out);rintro e w41 ⟨rfl,hb⟩;have n0_:=mkA (kB (g:=gb144) (by(with_reducible repeat(first|apply kN|apply kD|apply kA));exact BK144.out) hb);have n1_:=mkA (bT (by repeat(first|(with_reducible first|exact HB.out|apply bA|apply bN|apply bD|refine bS ?_ GE144.out)|exact HB.out)) hb);clear BK144;clear HB;have BK144:=n0_;have HB:=n1_;clear n0_ n1_;(try clear hb);(try clear hb2);(try clear hk);(try clear hi);obtain⟨hcz42_0,hcz42_1,hcz42_2,hcz42_3,hcz42_4,hcz42_5,hcz42_6,hcz42_7,hcz42_8,hcz42_9,hcz42_10,hcz42_11,hcz42_12,hcz42_13,hcz42_14,hcz42_15⟩:=blk_cells16 BK144.out;obtain⟨hfz42_0,hfz42_1,hfz42_2,hfz42_3,hfz42_4,hfz42_5,hfz42_6,hfz42_7,hfz42_8,hfz42_9,hfz42_10,hfz42_11,hfz42_12,hfz42_13,hfz42_14,hfz42_15⟩:=blk_frozens16 BK144.out))
          go_meet
          case rel=>exact⟨_,(false),(by first|rfl|(simp;done)|(simp[*];done)),H',⟨by have:=HJ1.out;have:=HJ15.out;first|omega|exact Nat.le_refl _⟩,⟨by(with_reducible repeat(first|refine kN ?_ _|refine kD ?_|refine kA ?_ _));exact BK144.out⟩,⟨by repeat(first|(with_reducible first|exact HB.out|apply bA|apply bN|apply bD|refine bS ?_ GE144.out)|exact HB.out)⟩⟩
        ·replace c33:=Bool.eq_false_iff.mpr c33
         subst c33
         have H1:(seg_Check.j2 kj15 true)=some r:=by rw[if_neg (show ¬ (false=true) by decide)] at H;exact H
         clear H
         have H:=H1
         clear H1
         have H':=mkA H
         clear H
         obtain⟨hcz43_0,hcz43_1,hcz43_2,hcz43_3,hcz43_4,hcz43_5,hcz43_6,hcz43_7,hcz43_8,hcz43_9,hcz43_10,hcz43_11,hcz43_12,hcz43_13,hcz43_14,hcz43_15⟩:=blk_cells16 BK144.out
         obtain⟨hfz43_0,hfz43_1,hfz43_2,hfz43_3,hfz43_4,hfz43_5,hfz43_6,hfz43_7,hfz43_8,hfz43_9,hfz43_10,hfz43_11,hfz43_12,hfz43_13,hfz43_14,hfz43_15⟩:=blk_frozens16 BK144.out
         go_wp2_with (first|((with_reducible refine gate_load (t:=26) rfl ?_);refine gate_wanted ?hw (fun hw_=>?_);(case hw=>first|rfl|(go_simp;done));refine load_big hw_ 26 _ rfl _ rfl 26 _ (0,0) _ (by(with_reducible repeat(first|apply kN|apply kD|apply kA|(apply blk_farA;case hp=>assumption)|apply kP));apply Aside0.out;assumption;all_goals (simp only[List.setIfInBounds_toArray,List.set_cons_zero,List.set_cons_succ];try rfl)) Try.underlying26 rfl (by kernel_rfl) ?_;clear hw_;simp only[puts])|((with_reducible refine gate_store (t:=26) rfl ?_);refine store_big rfl 26 _ _ rfl _ _ rfl rfl 26 _ (by(with_reducible repeat(first|apply kN|apply kD|apply kA|(apply blk_farA;case hp=>assumption)|apply kP));apply Aside0.out;assumption;all_goals (simp only[List.setIfInBounds_toArray,List.set_cons_zero,List.set_cons_succ];try rfl)) (by kernel_rfl) (by rfl) (by rfl) _ (by simp only[World.setCells,Nat.reduceAdd];rfl) ?_;simp only[puts])|(go_at_call 15;(with_reducible refine(seg_Has.calls a0_0 a0_1 a0_2 a0_3 a0_4 a0_5 a0_6 a0_7 a0_8 a0_9 a0_10 a0_11 a0_12 a0_13 _ _ l0_14 a0_15 16 false _ ?side1 ?side2 A32.out).mono ?_);(case side1=>repeat(first|exact(Kd.C_below HR0_14.out HB.out)|(with_reducible refine Kd.C_alloc ?_ _)|(with_reducible refine Kd.C_drewN ?_ _)|(with_reducible refine Kd.C_drew ?_)));(case side2=>exact HC0_14.out);rintro e w44 ⟨rfl,hb⟩;have n0_:=mkA (kB (g:=gb144) (by(with_reducible repeat(first|apply kN|apply kD|apply kA));exact BK144.out) hb);have n1_:=mkA (bT (by repeat(first|(with_reducible first|exact HB.out|apply bA|apply bN|apply bD|refine bS ?_ GE144.out)|exact HB.out)) hb);clear BK144;clear HB;have BK144:=n0_;have HB:=n1_;clear n0_ n1_;(try clear hb);(try clear hb2);(try clear hk);(try clear hi)))
         go_meet
         case rel=>exact⟨_,(true),(by first|rfl|(simp;done)|(simp[*];done)),H',⟨by have:=HJ1.out;have:=HJ15.out;first|omega|exact Nat.le_refl _⟩,⟨by(with_reducible repeat(first|refine kN ?_ _|refine kD ?_|refine kA ?_ _));exact BK144.out⟩,⟨by repeat(first|(with_reducible first|exact HB.out|apply bA|apply bN|apply bD|refine bS ?_ GE144.out)|exact HB.out)⟩⟩
       ·rw[if_neg c31] at H
        have c31b0:decide (0 < a0_3)=false:=decide_eq_false c31
        clear c31
        (first|rw[c31b0]|(simp only[i64_w,i32_w];rw[c31b0])|rw[c31b1]|skip)
        by_cases c45:a0_6 > 0
        ·rw[if_pos c45] at H
         have c45b0:decide (0 < a0_6)=true:=decide_eq_true c45
         clear c45
         replace H:=Option.bind_eq_some_iff.mp H
         obtain⟨t150,A460,H⟩:=H
         replace H:(seg_Check.j2 kj15 (!t150))=some r:=H
         have A46:=mkA A460
         clear A460
         have H':=mkA H
         clear H
         obtain⟨hcz47_0,hcz47_1,hcz47_2,hcz47_3,hcz47_4,hcz47_5,hcz47_6,hcz47_7,hcz47_8,hcz47_9,hcz47_10,hcz47_11,hcz47_12,hcz47_13,hcz47_14,hcz47_15⟩:=blk_cells16 BK144.out
         obtain⟨hfz47_0,hfz47_1,hfz47_2,hfz47_3,hfz47_4,hfz47_5,hfz47_6,hfz47_7,hfz47_8,hfz47_9,hfz47_10,hfz47_11,hfz47_12,hfz47_13,hfz47_14,hfz47_15⟩:=blk_frozens16 BK144.out
         go_wp2_with (first|((with_reducible refine gate_load (t:=26) rfl ?_);refine gate_wanted ?hw (fun hw_=>?_);(case hw=>first|rfl|(go_simp;done));refine load_big hw_ 26 _ rfl _ rfl 26 _ (0,0) _ (by(with_reducible repeat(first|apply kN|apply kD|apply kA|(apply blk_farA;case hp=>assumption)|apply kP));apply Aside0.out;assumption;all_goals (simp only[List.setIfInBounds_toArray,List.set_cons_zero,List.set_cons_succ];try rfl)) Try.underlying26 rfl (by kernel_rfl) ?_;clear hw_;simp only[puts])|((with_reducible refine gate_store (t:=26) rfl ?_);refine store_big rfl 26 _ _ rfl _ _ rfl rfl 26 _ (by(with_reducible repeat(first|apply kN|apply kD|apply kA|(apply blk_farA;case hp=>assumption)|apply kP));apply Aside0.out;assumption;all_goals (simp only[List.setIfInBounds_toArray,List.set_cons_zero,List.set_cons_succ];try rfl)) (by kernel_rfl) (by rfl) (by rfl) _ (by simp only[World.setCells,Nat.reduceAdd];rfl) ?_;simp only[puts])|(go_at_call 15;(with_reducible refine(seg_Has.calls a0_0 a0_1 a0_2 a0_3 a0_4 a0_5 a0_6 a0_7 a0_8 a0_9 a0_10 a0_11 a0_12 a0_13 _ _ l0_14 a0_15 32 t150 _ ?side1 ?side2 A46.out).mono ?_);(case side1=>repeat(first|exact(Kd.C_below HR0_14.out HB.out)|(with_reducible refine Kd.C_alloc ?_ _)|(with_reducible refine Kd.C_drewN ?_ _)|(with_reducible refine Kd.C_drew ?_)));(case side2=>exact HC0_14.out);rintro e w48 ⟨rfl,hb⟩;have n0_:=mkA (kB (g:=gb144) (by(with_reducible repeat(first|apply kN|apply kD|apply kA));exact BK144.out) hb);have n1_:=mkA (bT (by repeat(first|(with_reducible first|exact HB.out|apply bA|apply bN|apply bD|refine bS ?_ GE144.out)|exact HB.out)) hb);clear BK144;clear HB;have BK144:=n0_;have HB:=n1_;clear n0_ n1_;(try clear hb);(try clear hb2);(try clear hk);(try clear hi)))
         go_meet
         case rel=>exact⟨_,(!t150),(by first|rfl|(simp;done)|(simp[*];done)),H',⟨by have:=HJ1.out;have:=HJ15.out;first|omega|exact Nat.le_refl _⟩,⟨by(with_reducible repeat(first|refine kN ?_ _|refine kD ?_|refine kA ?_ _));exact BK144.out⟩,⟨by repeat(first|(with_reducible first|exact HB.out|apply bA|apply bN|apply bD|refine bS ?_ GE144.out)|exact HB.out)⟩⟩
        ·rw[if_neg c45] at H
         have c45b0:decide (0 < a0_6)=false:=decide_eq_false c45
         clear c45
         have H':=mkA H
         clear H
         obtain⟨hcz49_0,hcz49_1,hcz49_2,hcz49_3,hcz49_4,hcz49_5,hcz49_6,hcz49_7,hcz49_8,hcz49_9,hcz49_10,hcz49_11,hcz49_12,hcz49_13,hcz49_14,hcz49_15⟩:=blk_cells16 BK144.out
         obtain⟨hfz49_0,hfz49_1,hfz49_2,hfz49_3,hfz49_4,hfz49_5,hfz49_6,hfz49_7,hfz49_8,hfz49_9,hfz49_10,hfz49_11,hfz49_12,hfz49_13,hfz49_14,hfz49_15⟩:=blk_frozens16 BK144.out
         go_wp2_with (first|((with_reducible refine gate_load (t:=26) rfl ?_);refine gate_wanted ?hw (fun hw_=>?_);(case hw=>first|rfl|(go_simp;done));refine load_big hw_ 26 _ rfl _ rfl 26 _ (0,0) _ (by(with_reducible repeat(first|apply kN|apply kD|apply kA|(apply blk_farA;case hp=>assumption)|apply kP));apply Aside0.out;assumption;all_goals (simp only[List.setIfInBounds_toArray,List.set_cons_zero,List.set_cons_succ];try rfl)) Try.underlying26 rfl (by kernel_rfl) ?_;clear hw_;simp only[puts])|((with_reducible refine gate_store (t:=26) rfl ?_);refine store_big rfl 26 _ _ rfl _ _ rfl rfl 26 _ (by(with_reducible repeat(first|apply kN|apply kD|apply kA|(apply blk_farA;case hp=>assumption)|apply kP));apply Aside0.out;assumption;all_goals (simp only[List.setIfInBounds_toArray,List.set_cons_zero,List.set_cons_succ];try rfl)) (by kernel_rfl) (by rfl) (by rfl) _ (by simp only[World.setCells,Nat.reduceAdd];rfl) ?_;simp only[puts])|go_in)
         go_meet
         case rel=>exact⟨_,(false),(by first|rfl|(simp;done)|(simp[*];done)),H',⟨by have:=HJ1.out;have:=HJ15.out;first|omega|exact Nat.le_refl _⟩,⟨by(with_reducible repeat(first|refine kN ?_ _|refine kD ?_|refine kA ?_ _));exact BK144.out⟩,⟨by repeat(first|(with_reducible first|exact HB.out|apply bA|apply bN|apply bD|refine bS ?_ GE144.out)|exact HB.out)⟩⟩
     case rest =>
      clear HC29
      try clear c1;try clear c2;try clear p2;try clear c3;try clear c4;try clear c17;try clear c24;try clear c24b0;try clear c24b1;try clear c30;try clear c31;try clear c31b0;try clear c31b1;try clear c32;try clear c33;try clear c34;try clear c34b0;try clear c45;try clear c45b0;try clear hcz36_0 hcz36_1 hcz36_10 hcz36_11 hcz36_12 hcz36_13 hcz36_14 hcz36_15 hcz36_2 hcz36_3 hcz36_4 hcz36_5 hcz36_6 hcz36_7 hcz36_8 hcz36_9;try clear hcz38_0 hcz38_1 hcz38_10 hcz38_11 hcz38_12 hcz38_13 hcz38_14 hcz38_15 hcz38_2 hcz38_3 hcz38_4 hcz38_5 hcz38_6 hcz38_7 hcz38_8 hcz38_9;try clear hcz40_0 hcz40_1 hcz40_10 hcz40_11 hcz40_12 hcz40_13 hcz40_14 hcz40_15 hcz40_2 hcz40_3 hcz40_4 hcz40_5 hcz40_6 hcz40_7 hcz40_8 hcz40_9;try clear hcz42_0 hcz42_1 hcz42_10 hcz42_11 hcz42_12 hcz42_13 hcz42_14 hcz42_15 hcz42_2 hcz42_3 hcz42_4 hcz42_5 hcz42_6 hcz42_7 hcz42_8 hcz42_9;try clear hcz43_0 hcz43_1 hcz43_10 hcz43_11 hcz43_12 hcz43_13 hcz43_14 hcz43_15 hcz43_2 hcz43_3 hcz43_4 hcz43_5 hcz43_6 hcz43_7 hcz43_8 hcz43_9;try clear hcz47_0 hcz47_1 hcz47_10 hcz47_11 hcz47_12 hcz47_13 hcz47_14 hcz47_15 hcz47_2 hcz47_3 hcz47_4 hcz47_5 hcz47_6 hcz47_7 hcz47_8 hcz47_9;try clear hcz49_0 hcz49_1 hcz49_10 hcz49_11 hcz49_12 hcz49_13 hcz49_14 hcz49_15 hcz49_2 hcz49_3 hcz49_4 hcz49_5 hcz49_6 hcz49_7 hcz49_8 hcz49_9;try clear hfz36_0 hfz36_1 hfz36_10 hfz36_11 hfz36_12 hfz36_13 hfz36_14 hfz36_15 hfz36_2 hfz36_3 hfz36_4 hfz36_5 hfz36_6 hfz36_7 hfz36_8 hfz36_9;try clear hfz38_0 hfz38_1 hfz38_10 hfz38_11 hfz38_12 hfz38_13 hfz38_14 hfz38_15 hfz38_2 hfz38_3 hfz38_4 hfz38_5 hfz38_6 hfz38_7 hfz38_8 hfz38_9;try clear hfz40_0 hfz40_1 hfz40_10 hfz40_11 hfz40_12 hfz40_13 hfz40_14 hfz40_15 hfz40_2 hfz40_3 hfz40_4 hfz40_5 hfz40_6 hfz40_7 hfz40_8 hfz40_9;try clear hfz42_0 hfz42_1 hfz42_10 hfz42_11 hfz42_12 hfz42_13 hfz42_14 hfz42_15 hfz42_2 hfz42_3 hfz42_4 hfz42_5 hfz42_6 hfz42_7 hfz42_8 hfz42_9;try clear hfz43_0 hfz43_1 hfz43_10 hfz43_11 hfz43_12 hfz43_13 hfz43_14 hfz43_15 hfz43_2 hfz43_3 hfz43_4 hfz43_5 hfz43_6 hfz43_7 hfz43_8 hfz43_9;try clear hfz47_0 hfz47_1 hfz47_10 hfz47_11 hfz47_12 hfz47_13 hfz47_14 hfz47_15 hfz47_2 hfz47_3 hfz47_4 hfz47_5 hfz47_6 hfz47_7 hfz47_8 hfz47_9;try clear hfz49_0 hfz49_1 hfz49_10 hfz49_11 hfz49_12 hfz49_13 hfz49_14 hfz49_15 hfz49_2 hfz49_3 hfz49_4 hfz49_5 hfz49_6 hfz49_7 hfz49_8 hfz49_9;try clear hfz9_14 hfz9_15 hfz9_2 hfz9_3 hfz9_4 hfz9_5 hfz9_6 hfz9_7 hfz9_8 hfz9_9;try clear p2
      obtain⟨kq,x73_28,rfl,HA,HJ28,BK144,HB⟩:=hcut
      cases kq with
      | zero=>exact absurd HA.out (by simp[seg_Check.j2])
      | succ kj28 =>
       have H:=HA.out
       clear HA
       simp only[seg_Check.j2] at H
       by_cases c50:x73_28=true
       ·subst c50
        have H1:(some 80)=some r:=by rw[if_pos rfl] at H;exact H
        clear H
        have H:=H1
        clear H1
        obtain rfl:=Option.some.inj H
        go_wp2_with (first|((with_reducible refine gate_load (t:=26) rfl ?_);refine gate_wanted ?hw (fun hw_=>?_);(case hw=>first|rfl|(go_simp;done));refine load_big hw_ 26 _ rfl _ rfl 26 _ (0,0) _ (by(with_reducible repeat(first|apply kN|apply kD|apply kA|(apply blk_farA;case hp=>assumption)|apply kP));apply Aside0.out;assumption;all_goals (simp only[List.setIfInBounds_toArray,List.set_cons_zero,List.set_cons_succ];try rfl)) Try.underlying26 rfl (by kernel_rfl) ?_;clear hw_;simp only[puts])|((with_reducible refine gate_store (t:=26) rfl ?_);refine store_big rfl 26 _ _ rfl _ _ rfl rfl 26 _ (by(with_reducible repeat(first|apply kN|apply kD|apply kA|(apply blk_farA;case hp=>assumption)|apply kP));apply Aside0.out;assumption;all_goals (simp only[List.setIfInBounds_toArray,List.set_cons_zero,List.set_cons_succ];try rfl)) (by kernel_rfl) (by rfl) (by rfl) _ (by simp only[World.setCells,Nat.reduceAdd];rfl) ?_;simp only[puts])|go_in)
        go_ret
        exact⟨by first|rfl|(simp[errW_none,errW_some] <;> rfl)|(simp[*,errW_none,errW_some] <;> rfl),by repeat(first|(with_reducible first|exact HB.out|apply bA|apply bN|apply bD|refine bS ?_ GE144.out)|exact HB.out)⟩
       ·replace c50:=Bool.eq_false_iff.mpr c50
        subst c50
        have H1:(some 0)=some r:=by rw[if_neg (show ¬ (false=true) by decide)] at H;exact H
        clear H
        have H:=H1
        clear H1
        obtain rfl:=Option.some.inj H
        go_wp2_with (first|((with_reducible refine gate_load (t:=26) rfl ?_);refine gate_wanted ?hw (fun hw_=>?_);(case hw=>first|rfl|(go_simp;done));refine load_big hw_ 26 _ rfl _ rfl 26 _ (0,0) _ (by(with_reducible repeat(first|apply kN|apply kD|apply kA|(apply blk_farA;case hp=>assumption)|apply kP));apply Aside0.out;assumption;all_goals (simp only[List.setIfInBounds_toArray,List.set_cons_zero,List.set_cons_succ];try rfl)) Try.underlying26 rfl (by kernel_rfl) ?_;clear hw_;simp only[puts])|((with_reducible refine gate_store (t:=26) rfl ?_);refine store_big rfl 26 _ _ rfl _ _ rfl rfl 26 _ (by(with_reducible repeat(first|apply kN|apply kD|apply kA|(apply blk_farA;case hp=>assumption)|apply kP));apply Aside0.out;assumption;all_goals (simp only[List.setIfInBounds_toArray,List.set_cons_zero,List.set_cons_succ];try rfl)) (by kernel_rfl) (by rfl) (by rfl) _ (by simp only[World.setCells,Nat.reduceAdd];rfl) ?_;simp only[puts])|go_in)
        go_ret
        exact⟨by first|rfl|(simp[errW_none,errW_some] <;> rfl)|(simp[*,errW_none,errW_some] <;> rfl),by repeat(first|(with_reducible first|exact HB.out|apply bA|apply bN|apply bD|refine bS ?_ GE144.out)|exact HB.out)⟩

end Go.Proofs.Ytakajeoeijnmhaa.PSegReads

-- Laid by this claim's own program over the print's words.
import Derived.Test.YtakajeoeijnmhaaPSegReadsx0
import Derived.Test.YtakajeoeijnmhaaPSegReadsx2
import Derived.Test.YtakajeoeijnmhaaPSegReadsx3
namespace Go.Proofs.Ytakajeoeijnmhaa.PSegReads
open Go.RowKit Go.Proofs.YtakajeoeijnmhaaW.PrintWords Go.Proofs.YtakajeoeijnmhaaW.PrintLast Go.Proofs.YtakajeoeijnmhaaW.PrintMore
attribute [local go_sem] max2_int min2_int max_two min_two max_three min_three max_four min_four max_five min_five extract_cut tmod_nat_lit   -- for this text's walks alone
set_option linter.unusedVariables false
set_option linter.unusedSimpArgs false

/-! ### opts_text: function 53 -/
mutual
def opts_text.j0:Nat→ByteArray→Int→Int→Int→Int→Bool→Bool→Bool→List (S73)→Option (ByteArray)
 | 0,_,_,_,_,_,_,_,_,_=>none
 | k+1,x3,x125000,x125001,x125002,x125003,x125004,x125005,x125006,x125007=>if x125004=true then ((opts_num.f k x125001 1).bind fun t127=>((opts_option.f 3 t127).bind fun t128=>(if x3.size+t128.size≤9223372036854775807 then (opts_text.j1 k (x3++t128) x125000 x125001 x125002 x125003 x125004 x125005 x125006 x125007) else (none)))) else (opts_text.j1 k x3 x125000 x125001 x125002 x125003 x125004 x125005 x125006 x125007)
def opts_text.j1:Nat→ByteArray→Int→Int→Int→Int→Bool→Bool→Bool→List (S73)→Option (ByteArray)
 | 0,_,_,_,_,_,_,_,_,_=>none
 | k+1,x3,x125000,x125001,x125002,x125003,x125004,x125005,x125006,x125007=>if x125005=true then ((opts_option.f 4 (⟨#[]⟩:ByteArray)).bind fun t129=>(if x3.size+t129.size≤9223372036854775807 then (opts_text.j2 k (x3++t129) x125000 x125001 x125002 x125003 x125004 x125005 x125006 x125007) else (none))) else (opts_text.j2 k x3 x125000 x125001 x125002 x125003 x125004 x125005 x125006 x125007)
def opts_text.j2:Nat→ByteArray→Int→Int→Int→Int→Bool→Bool→Bool→List (S73)→Option (ByteArray)
 | 0,_,_,_,_,_,_,_,_,_=>none
 | k+1,x3,x125000,x125001,x125002,x125003,x125004,x125005,x125006,x125007=>if x125006=true then ((opts_num.f k x125002 4).bind fun t130=>((opts_num.f k x125003 4).bind fun t131=>(if t130.size+t131.size≤9223372036854775807 then ((opts_option.f 8 (t130++t131)).bind fun t132=>(if x3.size+t132.size≤9223372036854775807 then (opts_text.j3 k (x3++t132) x125000 x125001 x125002 x125003 x125004 x125005 x125006 x125007) else (none))) else (none)))) else (opts_text.j3 k x3 x125000 x125001 x125002 x125003 x125004 x125005 x125006 x125007)
def opts_text.j3:Nat→ByteArray→Int→Int→Int→Int→Bool→Bool→Bool→List (S73)→Option (ByteArray)
 | 0,_,_,_,_,_,_,_,_,_=>none
 | k+1,x3,x125000,x125001,x125002,x125003,x125004,x125005,x125006,x125007=>if (x125007.length:Int) > 0 then (opts_text.l0 k x3 (⟨#[]⟩:ByteArray) x125007 (x125007.length:Int) 0) else (opts_text.j5 k x3)
def opts_text.j5:Nat→ByteArray→Option (ByteArray)
 | 0,_=>none
 | k+1,x3=>(strings_Repeat.f (⟨#[0]⟩:ByteArray) (Go.bits .and .i64 (-(x3.size:Int)) 3)).bind fun t138=>(if x3.size+t138.size≤9223372036854775807 then (some (x3++t138)) else (none))
def opts_text.l0:Nat→ByteArray→ByteArray→List (S73)→Int→Int→Option (ByteArray)
 | 0,_,_,_,_,_=>none
 | k+1,x3,x4,x46,x47,x48=>if x48 < x47 then (if 0≤x48 then (if x48 < (x46.length:Int) then ((opts_num.f k ((rd_T73 x46 x48).f0) 4).bind fun t135=>((opts_num.f k ((rd_T73 x46 x48).f1) 4).bind fun t136=>(if t135.size+t136.size≤9223372036854775807 then (if x4.size+(t135++t136).size≤9223372036854775807 then (opts_text.l0 k x3 (x4++(t135++t136)) x46 x47 (wrap64 (x48+1))) else (none)) else (none)))) else (none)) else (none)) else ((opts_option.f 5 x4).bind fun t137=>(if x3.size+t137.size≤9223372036854775807 then (opts_text.j5 k (x3++t137)) else (none)))
end
def opts_text.f (k:Nat) (a0_0:Int) (a0_1:Int) (a0_2:Int) (a0_3:Int) (a0_4:Bool) (a0_5:Bool) (a0_6:Bool) (l0_7:List (S73)):Option (ByteArray):=if a0_0 > 0 then ((opts_num.f k a0_0 2).bind fun t125=>((opts_option.f 2 t125).bind fun t126=>(if 0+t126.size≤9223372036854775807 then (opts_text.j0 k ((⟨#[]⟩:ByteArray)++t126) a0_0 a0_1 a0_2 a0_3 a0_4 a0_5 a0_6 l0_7) else (none)))) else (opts_text.j0 k (⟨#[]⟩:ByteArray) a0_0 a0_1 a0_2 a0_3 a0_4 a0_5 a0_6 l0_7)
theorem opts_text.mono_l:∀ k,(∀ y0 y1 y2 y3 y4 y5 y6 y7 y8,LeO (opts_text.j0 k y0 y1 y2 y3 y4 y5 y6 y7 y8) (opts_text.j0 (k+1) y0 y1 y2 y3 y4 y5 y6 y7 y8))∧(∀ y0 y1 y2 y3 y4 y5 y6 y7 y8,LeO (opts_text.j1 k y0 y1 y2 y3 y4 y5 y6 y7 y8) (opts_text.j1 (k+1) y0 y1 y2 y3 y4 y5 y6 y7 y8))∧(∀ y0 y1 y2 y3 y4 y5 y6 y7 y8,LeO (opts_text.j2 k y0 y1 y2 y3 y4 y5 y6 y7 y8) (opts_text.j2 (k+1) y0 y1 y2 y3 y4 y5 y6 y7 y8))∧(∀ y0 y1 y2 y3 y4 y5 y6 y7 y8,LeO (opts_text.j3 k y0 y1 y2 y3 y4 y5 y6 y7 y8) (opts_text.j3 (k+1) y0 y1 y2 y3 y4 y5 y6 y7 y8))∧(∀ y0,LeO (opts_text.j5 k y0) (opts_text.j5 (k+1) y0))∧(∀ y0 y1 y2 y3 y4,LeO (opts_text.l0 k y0 y1 y2 y3 y4) (opts_text.l0 (k+1) y0 y1 y2 y3 y4))
 | 0=>⟨fun _ _ _ _ _ _ _ _ _ r h=>by simp[opts_text.j0] at h,fun _ _ _ _ _ _ _ _ _ r h=>by simp[opts_text.j1] at h,fun _ _ _ _ _ _ _ _ _ r h=>by simp[opts_text.j2] at h,fun _ _ _ _ _ _ _ _ _ r h=>by simp[opts_text.j3] at h,fun _ r h=>by simp[opts_text.j5] at h,fun _ _ _ _ _ r h=>by simp[opts_text.l0] at h⟩
 | k+1=>by
  obtain⟨ih0,ih1,ih2,ih3,ih4,ih5⟩:=opts_text.mono_l k
  refine⟨?_,?_,?_,?_,?_,?_⟩
  ·intro y0 y1 y2 y3 y4 y5 y6 y7 y8
   unfold opts_text.j0
   repeat' first
   | (with_reducible exact ih0 _ _ _ _ _ _ _ _ _)
   | (with_reducible exact ih1 _ _ _ _ _ _ _ _ _)
   | (with_reducible exact ih2 _ _ _ _ _ _ _ _ _)
   | (with_reducible exact ih3 _ _ _ _ _ _ _ _ _)
   | (with_reducible exact ih4 _)
   | (with_reducible exact ih5 _ _ _ _ _)
   | (with_reducible exact opts_num.mono _ _ _)
   | (with_reducible exact LeO.refl _)
   | (with_reducible exact LeO.none _)
   | (with_reducible refine LeO.ite ?_ ?_)
   | (with_reducible refine LeO.bind ?_ (fun _=>?_))
   | exact ih0 _ _ _ _ _ _ _ _ _
   | exact ih1 _ _ _ _ _ _ _ _ _
   | exact ih2 _ _ _ _ _ _ _ _ _
   | exact ih3 _ _ _ _ _ _ _ _ _
   | exact ih4 _
   | exact ih5 _ _ _ _ _
   | exact opts_num.mono _ _ _
   | exact LeO.none _
   | refine LeO.ite ?_ ?_
   | refine LeO.bind ?_ (fun _=>?_)
  ·intro y0 y1 y2 y3 y4 y5 y6 y7 y8
   unfold opts_text.j1
   repeat' first
   | (with_reducible exact ih0 _ _ _ _ _ _ _ _ _)
   | (with_reducible exact ih1 _ _ _ _ _ _ _ _ _)
   | (with_reducible exact ih2 _ _ _ _ _ _ _ _ _)
   | (with_reducible exact ih3 _ _ _ _ _ _ _ _ _)
   | (with_reducible exact ih4 _)
   | (with_reducible exact ih5 _ _ _ _ _)
   | (with_reducible exact opts_num.mono _ _ _)
   | (with_reducible exact LeO.refl _)
   | (with_reducible exact LeO.none _)
   | (with_reducible refine LeO.ite ?_ ?_)
   | (with_reducible refine LeO.bind ?_ (fun _=>?_))
   | exact ih0 _ _ _ _ _ _ _ _ _
   | exact ih1 _ _ _ _ _ _ _ _ _
   | exact ih2 _ _ _ _ _ _ _ _ _
   | exact ih3 _ _ _ _ _ _ _ _ _
   | exact ih4 _
   | exact ih5 _ _ _ _ _
   | exact opts_num.mono _ _ _
   | exact LeO.none _
   | refine LeO.ite ?_ ?_
   | refine LeO.bind ?_ (fun _=>?_)
  ·intro y0 y1 y2 y3 y4 y5 y6 y7 y8
   unfold opts_text.j2
   repeat' first
   | (with_reducible exact ih0 _ _ _ _ _ _ _ _ _)
   | (with_reducible exact ih1 _ _ _ _ _ _ _ _ _)
   | (with_reducible exact ih2 _ _ _ _ _ _ _ _ _)
   | (with_reducible exact ih3 _ _ _ _ _ _ _ _ _)
   | (with_reducible exact ih4 _)
   | (with_reducible exact ih5 _ _ _ _ _)
   | (with_reducible exact opts_num.mono _ _ _)
   | (with_reducible exact LeO.refl _)
   | (with_reducible exact LeO.none _)
   | (with_reducible refine LeO.ite ?_ ?_)
   | (with_reducible refine LeO.bind ?_ (fun _=>?_))
   | exact ih0 _ _ _ _ _ _ _ _ _
   | exact ih1 _ _ _ _ _ _ _ _ _
   | exact ih2 _ _ _ _ _ _ _ _ _
   | exact ih3 _ _ _ _ _ _ _ _ _
   | exact ih4 _
   | exact ih5 _ _ _ _ _
   | exact opts_num.mono _ _ _
   | exact LeO.none _
   | refine LeO.ite ?_ ?_
   | refine LeO.bind ?_ (fun _=>?_)
  ·intro y0 y1 y2 y3 y4 y5 y6 y7 y8
   unfold opts_text.j3
   repeat' first
   | (with_reducible exact ih0 _ _ _ _ _ _ _ _ _)
   | (with_reducible exact ih1 _ _ _ _ _ _ _ _ _)
   | (with_reducible exact ih2 _ _ _ _ _ _ _ _ _)
   | (with_reducible exact ih3 _ _ _ _ _ _ _ _ _)
   | (with_reducible exact ih4 _)
   | (with_reducible exact ih5 _ _ _ _ _)
   | (with_reducible exact opts_num.mono _ _ _)
   | (with_reducible exact LeO.refl _)
   | (with_reducible exact LeO.none _)
   | (with_reducible refine LeO.ite ?_ ?_)
   | (with_reducible refine LeO.bind ?_ (fun _=>?_))
   | exact ih0 _ _ _ _ _ _ _ _ _
   | exact ih1 _ _ _ _ _ _ _ _ _
   | exact ih2 _ _ _ _ _ _ _ _ _
   | exact ih3 _ _ _ _ _ _ _ _ _
   | exact ih4 _
   | exact ih5 _ _ _ _ _
   | exact opts_num.mono _ _ _
   | exact LeO.none _
   | refine LeO.ite ?_ ?_
   | refine LeO.bind ?_ (fun _=>?_)
  ·intro y0
   unfold opts_text.j5
   repeat' first
   | (with_reducible exact ih0 _ _ _ _ _ _ _ _ _)
   | (with_reducible exact ih1 _ _ _ _ _ _ _ _ _)
   | (with_reducible exact ih2 _ _ _ _ _ _ _ _ _)
   | (with_reducible exact ih3 _ _ _ _ _ _ _ _ _)
   | (with_reducible exact ih4 _)
   | (with_reducible exact ih5 _ _ _ _ _)
   | (with_reducible exact opts_num.mono _ _ _)
   | (with_reducible exact LeO.refl _)
   | (with_reducible exact LeO.none _)
   | (with_reducible refine LeO.ite ?_ ?_)
   | (with_reducible refine LeO.bind ?_ (fun _=>?_))
   | exact ih0 _ _ _ _ _ _ _ _ _
   | exact ih1 _ _ _ _ _ _ _ _ _
   | exact ih2 _ _ _ _ _ _ _ _ _
   | exact ih3 _ _ _ _ _ _ _ _ _
   | exact ih4 _
   | exact ih5 _ _ _ _ _
   | exact opts_num.mono _ _ _
   | exact LeO.none _
   | refine LeO.ite ?_ ?_
   | refine LeO.bind ?_ (fun _=>?_)
  ·intro y0 y1 y2 y3 y4
   unfold opts_text.l0
   repeat' first
   | (with_reducible exact ih0 _ _ _ _ _ _ _ _ _)
   | (with_reducible exact ih1 _ _ _ _ _ _ _ _ _)
   | (with_reducible exact ih2 _ _ _ _ _ _ _ _ _)
   | (with_reducible exact ih3 _ _ _ _ _ _ _ _ _)
   | (with_reducible exact ih4 _)
   | (with_reducible exact ih5 _ _ _ _ _)
   | (with_reducible exact opts_num.mono _ _ _)
   | (with_reducible exact LeO.refl _)
   | (with_reducible exact LeO.none _)
   | (with_reducible refine LeO.ite ?_ ?_)
   | (with_reducible refine LeO.bind ?_ (fun _=>?_))
   | exact ih0 _ _ _ _ _ _ _ _ _
   | exact ih1 _ _ _ _ _ _ _ _ _
   | exact ih2 _ _ _ _ _ _ _ _ _
   | exact ih3 _ _ _ _ _ _ _ _ _
   | exact ih4 _
   | exact ih5 _ _ _ _ _
   | exact opts_num.mono _ _ _
   | exact LeO.none _
   | refine LeO.ite ?_ ?_
   | refine LeO.bind ?_ (fun _=>?_)
theorem opts_text.mono:∀ a0 a1 a2 a3 a4 a5 a6 a7 k,LeO (opts_text.f k a0 a1 a2 a3 a4 a5 a6 a7) (opts_text.f (k+1) a0 a1 a2 a3 a4 a5 a6 a7):=by
 intro a0 a1 a2 a3 a4 a5 a6 a7 k
 obtain⟨ih0,ih1,ih2,ih3,ih4,ih5⟩:=opts_text.mono_l k
 unfold opts_text.f
 repeat' first
   | (with_reducible exact ih0 _ _ _ _ _ _ _ _ _)
   | (with_reducible exact ih1 _ _ _ _ _ _ _ _ _)
   | (with_reducible exact ih2 _ _ _ _ _ _ _ _ _)
   | (with_reducible exact ih3 _ _ _ _ _ _ _ _ _)
   | (with_reducible exact ih4 _)
   | (with_reducible exact ih5 _ _ _ _ _)
   | (with_reducible exact opts_num.mono _ _ _)
   | (with_reducible exact LeO.refl _)
   | (with_reducible exact LeO.none _)
   | (with_reducible refine LeO.ite ?_ ?_)
   | (with_reducible refine LeO.bind ?_ (fun _=>?_))
   | exact ih0 _ _ _ _ _ _ _ _ _
   | exact ih1 _ _ _ _ _ _ _ _ _
   | exact ih2 _ _ _ _ _ _ _ _ _
   | exact ih3 _ _ _ _ _ _ _ _ _
   | exact ih4 _
   | exact ih5 _ _ _ _ _
   | exact opts_num.mono _ _ _
   | exact LeO.none _
   | refine LeO.ite ?_ ?_
   | refine LeO.bind ?_ (fun _=>?_)
def opts_text.T9:Bool × List (List Nat × List Nat):=(true,[([],[]),([],[]),([1],[1]),([2],[2]),([],[]),([4],[4]),([5,3],[5]),([3,6],[3,6]),([7,6],[7]),([0,8],[0,8]),([9,8,0,1,2,3,4,5,6,7,8,9],[0,9])])
def opts_text.B9:List Nat:=[0,0,2,6,0,16,62,126,254,511,1023]
theorem opts_text.tab9:rtab .any (opsOf Try.f53 9)=opts_text.T9:=by kernel_rfl
theorem opts_text.bits9:waitsOk opts_text.T9.2 opts_text.B9=true:=by kernel_rfl
def opts_text.T15:Bool × List (List Nat × List Nat):=(true,[([],[]),([],[]),([1],[1]),([2],[2]),([],[]),([4],[4]),([5,3],[5]),([3,6],[3,6]),([0,7],[0,7]),([8,6,0,1,2,3,4,5,6,7,8],[0,8])])
def opts_text.B15:List Nat:=[0,0,2,6,0,16,62,126,255,511]
theorem opts_text.tab15:rtab .any (opsOf Try.f53 15)=opts_text.T15:=by kernel_rfl
theorem opts_text.bits15:waitsOk opts_text.T15.2 opts_text.B15=true:=by kernel_rfl
set_option maxHeartbeats 8000000 in
set_option maxRecDepth 100000 in
theorem opts_text.calls (k:Nat) (a0_0:Int) (a0_1:Int) (a0_2:Int) (a0_3:Int) (a0_4:Bool) (a0_5:Bool) (a0_6:Bool) (A0_7:Option Addr) (c0_7:Nat) (l0_7:List (S73)) (r:ByteArray) (w:World) (hr0_7:Kd.C k73 w A0_7 l0_7.length l0_7) (hc0_7:l0_7.length≤c0_7) (h:opts_text.f k a0_0 a0_1 a0_2 a0_3 a0_4 a0_5 a0_6 l0_7=some r) :
  Calls Try.prog 53 #[.agg #[.int .i64 a0_0,.int .i64 a0_1,.int .i64 a0_2,.int .i64 a0_3,.bool a0_4,.bool a0_5,.bool a0_6,.slice A0_7 l0_7.length c0_7]] w fun e w'=>e=.returned (.string r)∧Below w.heap.size w w':=by
 have hu24:=Try.underlying24
 have hu73:=Try.underlying73
 have HR0_7:=mkA hr0_7
 have HC0_7:=mkA hc0_7
 clear hr0_7 hc0_7
 have HB:=mkA (Below.refl w.heap.size w)
 have H:(if a0_0 > 0 then ((opts_num.f k a0_0 2).bind fun t125=>((opts_option.f 2 t125).bind fun t126=>(if 0+t126.size≤9223372036854775807 then (opts_text.j0 k ((⟨#[]⟩:ByteArray)++t126) a0_0 a0_1 a0_2 a0_3 a0_4 a0_5 a0_6 l0_7) else (none)))) else (opts_text.j0 k (⟨#[]⟩:ByteArray) a0_0 a0_1 a0_2 a0_3 a0_4 a0_5 a0_6 l0_7))=some r:=h
 clear h
 have HC2:=mkA H
 clear H
 go_enter Try.func53,Try.ntmps53
 go_upto_if 9 with (first|((with_reducible refine gate_dst (N:=1) rfl ?_);refine box_event ?hg (N:=1) ?hd (cs:=#[.int .i64 a0_0,.int .i64 a0_1,.int .i64 a0_2,.int .i64 a0_3,.bool a0_4,.bool a0_5,.bool a0_6,.slice A0_7 l0_7.length c0_7]) (t:=24) ?hr ?_;(case hd=>rfl);(case hg=>rfl);(case hr=>first|(go_simp;done)|(go_simp;rfl));intro gb124 hg w3 hbox hb;have n0_:=mkA (bT (by repeat(first|(with_reducible first|exact HB.out|apply bA|apply bN|apply bD)|exact HB.out)) hb);have n1_:=mkA (hbox);have n2_:=mkA ((by rw[hg];exact(bZ (by repeat(first|(with_reducible first|exact HB.out|apply bA|apply bN|apply bD)|exact HB.out))):w.heap.size≤gb124));have n3_:=mkA ((by rw[hg];exact(bZ (by repeat(first|(with_reducible first|exact HB.out|apply bA|apply bN|apply bD)|exact HB.out))):w.heap.size≤gb124));clear HB;have HB:=n0_;have BK124:=n1_;have GW124:=n2_;have GE124:=n3_;clear n0_ n1_ n2_ n3_;clear hb hbox hg;obtain⟨hcz4_0,hcz4_1,hcz4_2,hcz4_3,hcz4_4,hcz4_5,hcz4_6,hcz4_7⟩:=blk_cells8 BK124.out;obtain⟨hfz4_0,hfz4_1,hfz4_2,hfz4_3,hfz4_4,hfz4_5,hfz4_6,hfz4_7⟩:=blk_frozens8 BK124.out))
 (try simp only[puts])
 go_cut [3] (fun v3 wc=>∃ (kq:Nat) (x3_1:ByteArray),v3=.string x3_1∧Aside0 (opts_text.j0 kq x3_1 a0_0 a0_1 a0_2 a0_3 a0_4 a0_5 a0_6 l0_7=some r)∧Aside0 (kq≤k)∧Aside0 (wc.heap[gb124]?=some (.cells #[.int .i64 a0_0,.int .i64 a0_1,.int .i64 a0_2,.int .i64 a0_3,.bool a0_4,.bool a0_5,.bool a0_6,(.slice A0_7 l0_7.length c0_7)] 24 (0,0)))∧Aside0 (Below w.heap.size w wc))
 case first =>
  have H:=HC2.out
  clear HC2
  by_cases c5:a0_0 > 0
  ·rw[if_pos c5] at H
   have c5b0:decide (0 < a0_0)=true:=decide_eq_true c5
   clear c5
   (first|rw[c5b0]|(simp only[i64_w,i32_w];rw[c5b0])|rw[c5b1]|skip)
   replace H:=Option.bind_eq_some_iff.mp H
   obtain⟨t125,A60,H⟩:=H
   replace H:((opts_option.f 2 t125).bind fun t126=>(if 0+t126.size≤9223372036854775807 then (opts_text.j0 k ((⟨#[]⟩:ByteArray)++t126) a0_0 a0_1 a0_2 a0_3 a0_4 a0_5 a0_6 l0_7) else (none)))=some r:=H
   have A6:=mkA A60
   clear A60
   replace H:=Option.bind_eq_some_iff.mp H
   obtain⟨t126,A70,H⟩:=H
   replace H:(if 0+t126.size≤9223372036854775807 then (opts_text.j0 k ((⟨#[]⟩:ByteArray)++t126) a0_0 a0_1 a0_2 a0_3 a0_4 a0_5 a0_6 l0_7) else (none))=some r:=H
   have A7:=mkA A70
   clear A70
   by_cases c8:0+t126.size≤9223372036854775807
   ·rw[if_pos c8] at H
    have c8b0:=eq_true c8
    have c8b1:decide (0+t126.size≤9223372036854775807)=true:=decide_eq_true c8
    try have c8b2:(9223372036854775807 < 0+t126.size)=False:=eq_false (Nat.not_lt.2 c8)
    have H':=mkA H
    clear H
    obtain⟨hcz9_0,hcz9_1,hcz9_2,hcz9_3,hcz9_4,hcz9_5,hcz9_6,hcz9_7⟩:=blk_cells8 BK124.out
    obtain⟨hfz9_0,hfz9_1,hfz9_2,hfz9_3,hfz9_4,hfz9_5,hfz9_6,hfz9_7⟩:=blk_frozens8 BK124.out
    go_wp2_with (first|((with_reducible refine gate_callee (f:=63) rfl ?_);refine goesL_ (some 13) rfl rfl Try.func63 (by kernel_rfl) rfl #[.int .i64 a0_0,.int .i64 2] rfl (by(try simp only[List.map_toArray,List.map_cons,List.map_nil]);first|done|rfl|(simp only[List.length_drop,List.length_take];rfl)) ?_;(with_reducible refine(opts_num.calls k a0_0 2 t125 _ A6.out).mono ?_);rintro e w10 ⟨rfl,hb⟩;refine⟨_,rfl,?_⟩;have n0_:=mkA (kB (g:=gb124) (by(with_reducible repeat(first|apply kN|apply kD|apply kA));exact BK124.out) hb);have n1_:=mkA (bT (by repeat(first|(with_reducible first|exact HB.out|apply bA|apply bN|apply bD|refine bS ?_ GE124.out)|exact HB.out)) hb);clear BK124;clear HB;have BK124:=n0_;have HB:=n1_;clear n0_ n1_;(try clear hb);(try clear hb2);(try clear hk);(try clear hi))|((with_reducible refine gate_callee (f:=62) rfl ?_);refine goesL_ (some 14) rfl rfl Try.func62 (by kernel_rfl) rfl #[.int .i64 2,.string t125] rfl (by(try simp only[List.map_toArray,List.map_cons,List.map_nil]);first|done|rfl|(simp only[List.length_drop,List.length_take];rfl)) ?_;(with_reducible refine(opts_option.calls 2 t125 t126 _ A7.out).mono ?_);rintro e w11 ⟨rfl,hb⟩;refine⟨_,rfl,?_⟩;have n0_:=mkA (kB (g:=gb124) (by(with_reducible repeat(first|apply kN|apply kD|apply kA));exact BK124.out) hb);have n1_:=mkA (bT (by repeat(first|(with_reducible first|exact HB.out|apply bA|apply bN|apply bD|refine bS ?_ GE124.out)|exact HB.out)) hb);clear BK124;clear HB;have BK124:=n0_;have HB:=n1_;clear n0_ n1_;(try clear hb);(try clear hb2);(try clear hk);(try clear hi)))
    go_meet
    case rel=>exact⟨_,((⟨#[]⟩:ByteArray)++t126),(by first|rfl|(simp;done)|(simp[*];done)),H',⟨by first|omega|exact Nat.le_refl _⟩,⟨by(with_reducible repeat(first|refine kN ?_ _|refine kD ?_|refine kA ?_ _));exact BK124.out⟩,⟨by repeat(first|(with_reducible first|exact HB.out|apply bA|apply bN|apply bD|refine bS ?_ GE124.out)|exact HB.out)⟩⟩
   ·rw[if_neg c8] at H
    exact absurd H (by simp)
  ·rw[if_neg c5] at H
   have c5b0:decide (0 < a0_0)=false:=decide_eq_false c5
   clear c5
   (first|rw[c5b0]|(simp only[i64_w,i32_w];rw[c5b0])|rw[c5b1]|skip)
   have H':=mkA H
   clear H
   go_wp2
   go_meet
   case rel=>exact⟨_,((⟨#[]⟩:ByteArray)),(by first|rfl|(simp;done)|(simp[*];done)),H',⟨by first|omega|exact Nat.le_refl _⟩,⟨by(with_reducible repeat(first|refine kN ?_ _|refine kD ?_|refine kA ?_ _));exact BK124.out⟩,⟨by repeat(first|(with_reducible first|exact HB.out|apply bA|apply bN|apply bD|refine bS ?_ GE124.out)|exact HB.out)⟩⟩
 case rest =>
  clear HC2
  try clear p2;try clear c5;try clear c5b0;try clear c5b1;try clear c6;try clear c8;try clear c8b0;try clear c8b1;try clear c8b2;try clear hcz4_0 hcz4_1 hcz4_2 hcz4_3 hcz4_4 hcz4_5 hcz4_6 hcz4_7;try clear hcz9_0 hcz9_1 hcz9_2 hcz9_3 hcz9_4 hcz9_5 hcz9_6 hcz9_7;try clear hfz4_0 hfz4_1 hfz4_2 hfz4_3 hfz4_4 hfz4_5 hfz4_6 hfz4_7;try clear hfz9_0 hfz9_1 hfz9_2 hfz9_3 hfz9_4 hfz9_5 hfz9_6 hfz9_7
  obtain⟨kq,x3_1,rfl,HA,HJ1,BK124,HB⟩:=hcut
  cases kq with
  | zero=>exact absurd HA.out (by simp[opts_text.j0])
  | succ kj1 =>
   have H:=HA.out
   clear HA
   simp only[opts_text.j0] at H
   have HC12:=mkA H
   clear H
   obtain⟨hcz13_0,hcz13_1,hcz13_2,hcz13_3,hcz13_4,hcz13_5,hcz13_6,hcz13_7⟩:=blk_cells8 BK124.out
   obtain⟨hfz13_0,hfz13_1,hfz13_2,hfz13_3,hfz13_4,hfz13_5,hfz13_6,hfz13_7⟩:=blk_frozens8 BK124.out
   go_upto_if 17 with (fail)
   go_cut [3] (fun v3 wc=>∃ (kq:Nat) (x3_11:ByteArray),v3=.string x3_11∧Aside0 (opts_text.j1 kq x3_11 a0_0 a0_1 a0_2 a0_3 a0_4 a0_5 a0_6 l0_7=some r)∧Aside0 (kq≤kj1)∧Aside0 (wc.heap[gb124]?=some (.cells #[.int .i64 a0_0,.int .i64 a0_1,.int .i64 a0_2,.int .i64 a0_3,.bool a0_4,.bool a0_5,.bool a0_6,(.slice A0_7 l0_7.length c0_7)] 24 (0,0)))∧Aside0 (Below w.heap.size w wc))
   case first =>
    have H:=HC12.out
    clear HC12
    by_cases c14:a0_4=true
    ·subst c14
     have H1:((opts_num.f kj1 a0_1 1).bind fun t127=>((opts_option.f 3 t127).bind fun t128=>(if x3_1.size+t128.size≤9223372036854775807 then (opts_text.j1 kj1 (x3_1++t128) a0_0 a0_1 a0_2 a0_3 true a0_5 a0_6 l0_7) else (none))))=some r:=by rw[if_pos rfl] at H;exact H
     clear H
     have H:=H1
     clear H1
     replace H:=Option.bind_eq_some_iff.mp H
     obtain⟨t127,A150,H⟩:=H
     replace H:((opts_option.f 3 t127).bind fun t128=>(if x3_1.size+t128.size≤9223372036854775807 then (opts_text.j1 kj1 (x3_1++t128) a0_0 a0_1 a0_2 a0_3 true a0_5 a0_6 l0_7) else (none)))=some r:=H
     have A15:=mkA A150
     clear A150
     replace H:=Option.bind_eq_some_iff.mp H
     obtain⟨t128,A160,H⟩:=H
     replace H:(if x3_1.size+t128.size≤9223372036854775807 then (opts_text.j1 kj1 (x3_1++t128) a0_0 a0_1 a0_2 a0_3 true a0_5 a0_6 l0_7) else (none))=some r:=H
     have A16:=mkA A160
     clear A160
     by_cases c17:x3_1.size+t128.size≤9223372036854775807
     ·rw[if_pos c17] at H
      have c17b0:=eq_true c17
      have c17b1:decide (x3_1.size+t128.size≤9223372036854775807)=true:=decide_eq_true c17
      try have c17b2:(9223372036854775807 < x3_1.size+t128.size)=False:=eq_false (Nat.not_lt.2 c17)
      have H':=mkA H
      clear H
      obtain⟨hcz18_0,hcz18_1,hcz18_2,hcz18_3,hcz18_4,hcz18_5,hcz18_6,hcz18_7⟩:=blk_cells8 BK124.out
      obtain⟨hfz18_0,hfz18_1,hfz18_2,hfz18_3,hfz18_4,hfz18_5,hfz18_6,hfz18_7⟩:=blk_frozens8 BK124.out
      go_wp2_with (first|((with_reducible refine gate_callee (f:=63) rfl ?_);refine goesL_ (some 21) rfl rfl Try.func63 (by kernel_rfl) rfl #[.int .i64 a0_1,.int .i64 1] rfl (by(try simp only[List.map_toArray,List.map_cons,List.map_nil]);first|done|rfl|(simp only[List.length_drop,List.length_take];rfl)) ?_;(with_reducible refine(opts_num.calls kj1 a0_1 1 t127 _ A15.out).mono ?_);rintro e w19 ⟨rfl,hb⟩;refine⟨_,rfl,?_⟩;have n0_:=mkA (kB (g:=gb124) (by(with_reducible repeat(first|apply kN|apply kD|apply kA));exact BK124.out) hb);have n1_:=mkA (bT (by repeat(first|(with_reducible first|exact HB.out|apply bA|apply bN|apply bD|refine bS ?_ GE124.out)|exact HB.out)) hb);clear BK124;clear HB;have BK124:=n0_;have HB:=n1_;clear n0_ n1_;(try clear hb);(try clear hb2);(try clear hk);(try clear hi))|((with_reducible refine gate_callee (f:=62) rfl ?_);refine goesL_ (some 22) rfl rfl Try.func62 (by kernel_rfl) rfl #[.int .i64 3,.string t127] rfl (by(try simp only[List.map_toArray,List.map_cons,List.map_nil]);first|done|rfl|(simp only[List.length_drop,List.length_take];rfl)) ?_;(with_reducible refine(opts_option.calls 3 t127 t128 _ A16.out).mono ?_);rintro e w20 ⟨rfl,hb⟩;refine⟨_,rfl,?_⟩;have n0_:=mkA (kB (g:=gb124) (by(with_reducible repeat(first|apply kN|apply kD|apply kA));exact BK124.out) hb);have n1_:=mkA (bT (by repeat(first|(with_reducible first|exact HB.out|apply bA|apply bN|apply bD|refine bS ?_ GE124.out)|exact HB.out)) hb);clear BK124;clear HB;have BK124:=n0_;have HB:=n1_;clear n0_ n1_;(try clear hb);(try clear hb2);(try clear hk);(try clear hi)))
      go_meet
      case rel=>exact⟨_,(x3_1++t128),(by first|rfl|(simp;done)|(simp[*];done)),H',⟨by have:=HJ1.out;first|omega|exact Nat.le_refl _⟩,⟨by(with_reducible repeat(first|refine kN ?_ _|refine kD ?_|refine kA ?_ _));exact BK124.out⟩,⟨by repeat(first|(with_reducible first|exact HB.out|apply bA|apply bN|apply bD|refine bS ?_ GE124.out)|exact HB.out)⟩⟩
     ·rw[if_neg c17] at H
      exact absurd H (by simp)
    ·replace c14:=Bool.eq_false_iff.mpr c14
     subst c14
     have H1:(opts_text.j1 kj1 x3_1 a0_0 a0_1 a0_2 a0_3 false a0_5 a0_6 l0_7)=some r:=by rw[if_neg (show ¬ (false=true) by decide)] at H;exact H
     clear H
     have H:=H1
     clear H1
     have H':=mkA H
     clear H
     go_wp2
     go_meet
     case rel=>exact⟨_,(x3_1),(by first|rfl|(simp;done)|(simp[*];done)),H',⟨by have:=HJ1.out;first|omega|exact Nat.le_refl _⟩,⟨by(with_reducible repeat(first|refine kN ?_ _|refine kD ?_|refine kA ?_ _));exact BK124.out⟩,⟨by repeat(first|(with_reducible first|exact HB.out|apply bA|apply bN|apply bD|refine bS ?_ GE124.out)|exact HB.out)⟩⟩
   case rest =>
    clear HC12
    try clear c1;try clear p2;try clear c5;try clear c5b0;try clear c5b1;try clear c6;try clear c8;try clear c8b0;try clear c8b1;try clear c8b2;try clear c14;try clear c17;try clear c17b0;try clear c17b1;try clear c17b2;try clear hcz13_0 hcz13_1 hcz13_2 hcz13_3 hcz13_4 hcz13_5 hcz13_6 hcz13_7;try clear hcz18_0 hcz18_1 hcz18_2 hcz18_3 hcz18_4 hcz18_5 hcz18_6 hcz18_7;try clear hcz4_0 hcz4_1 hcz4_2 hcz4_3 hcz4_4 hcz4_5 hcz4_6 hcz4_7;try clear hcz9_0 hcz9_1 hcz9_2 hcz9_3 hcz9_4 hcz9_5 hcz9_6 hcz9_7;try clear hfz13_0 hfz13_1 hfz13_2 hfz13_3 hfz13_4 hfz13_5 hfz13_6 hfz13_7;try clear hfz18_0 hfz18_1 hfz18_2 hfz18_3 hfz18_4 hfz18_5 hfz18_6 hfz18_7;try clear hfz4_0 hfz4_1 hfz4_2 hfz4_3 hfz4_4 hfz4_5 hfz4_6 hfz4_7;try clear hfz9_0 hfz9_1 hfz9_2 hfz9_3 hfz9_4 hfz9_5 hfz9_6 hfz9_7;try clear p2
    obtain⟨kq,x3_11,rfl,HA,HJ11,BK124,HB⟩:=hcut
    cases kq with
    | zero=>exact absurd HA.out (by simp[opts_text.j1])
    | succ kj11 =>
     have H:=HA.out
     clear HA
     simp only[opts_text.j1] at H
     have HC21:=mkA H
     clear H
     obtain⟨hcz22_0,hcz22_1,hcz22_2,hcz22_3,hcz22_4,hcz22_5,hcz22_6,hcz22_7⟩:=blk_cells8 BK124.out
     obtain⟨hfz22_0,hfz22_1,hfz22_2,hfz22_3,hfz22_4,hfz22_5,hfz22_6,hfz22_7⟩:=blk_frozens8 BK124.out
     go_upto_if 25 with (fail)
     go_cut [3] (fun v3 wc=>∃ (kq:Nat) (x3_20:ByteArray),v3=.string x3_20∧Aside0 (opts_text.j2 kq x3_20 a0_0 a0_1 a0_2 a0_3 a0_4 a0_5 a0_6 l0_7=some r)∧Aside0 (kq≤kj11)∧Aside0 (wc.heap[gb124]?=some (.cells #[.int .i64 a0_0,.int .i64 a0_1,.int .i64 a0_2,.int .i64 a0_3,.bool a0_4,.bool a0_5,.bool a0_6,(.slice A0_7 l0_7.length c0_7)] 24 (0,0)))∧Aside0 (Below w.heap.size w wc))
     case first =>
      have H:=HC21.out
      clear HC21
      by_cases c23:a0_5=true
      ·subst c23
       have H1:((opts_option.f 4 (⟨#[]⟩:ByteArray)).bind fun t129=>(if x3_11.size+t129.size≤9223372036854775807 then (opts_text.j2 kj11 (x3_11++t129) a0_0 a0_1 a0_2 a0_3 a0_4 true a0_6 l0_7) else (none)))=some r:=by rw[if_pos rfl] at H;exact H
       clear H
       have H:=H1
       clear H1
       replace H:=Option.bind_eq_some_iff.mp H
       obtain⟨t129,A240,H⟩:=H
       replace H:(if x3_11.size+t129.size≤9223372036854775807 then (opts_text.j2 kj11 (x3_11++t129) a0_0 a0_1 a0_2 a0_3 a0_4 true a0_6 l0_7) else (none))=some r:=H
       have A24:=mkA A240
       clear A240
       by_cases c25:x3_11.size+t129.size≤9223372036854775807
       ·rw[if_pos c25] at H
        have c25b0:=eq_true c25
        have c25b1:decide (x3_11.size+t129.size≤9223372036854775807)=true:=decide_eq_true c25
        try have c25b2:(9223372036854775807 < x3_11.size+t129.size)=False:=eq_false (Nat.not_lt.2 c25)
        have H':=mkA H
        clear H
        go_wp2_with (first|((with_reducible refine gate_callee (f:=62) rfl ?_);refine goesL_ (some 27) rfl rfl Try.func62 (by kernel_rfl) rfl #[.int .i64 4,.string (⟨#[]⟩:ByteArray)] rfl (by(try simp only[List.map_toArray,List.map_cons,List.map_nil]);first|done|rfl|(simp only[List.length_drop,List.length_take];rfl)) ?_;(with_reducible refine(opts_option.calls 4 (⟨#[]⟩:ByteArray) t129 _ A24.out).mono ?_);rintro e w26 ⟨rfl,hb⟩;refine⟨_,rfl,?_⟩;have n0_:=mkA (kB (g:=gb124) (by(with_reducible repeat(first|apply kN|apply kD|apply kA));exact BK124.out) hb);have n1_:=mkA (bT (by repeat(first|(with_reducible first|exact HB.out|apply bA|apply bN|apply bD|refine bS ?_ GE124.out)|exact HB.out)) hb);clear BK124;clear HB;have BK124:=n0_;have HB:=n1_;clear n0_ n1_;(try clear hb);(try clear hb2);(try clear hk);(try clear hi)))
        go_meet
        case rel=>exact⟨_,(x3_11++t129),(by first|rfl|(simp;done)|(simp[*];done)),H',⟨by have:=HJ1.out;have:=HJ11.out;first|omega|exact Nat.le_refl _⟩,⟨by(with_reducible repeat(first|refine kN ?_ _|refine kD ?_|refine kA ?_ _));exact BK124.out⟩,⟨by repeat(first|(with_reducible first|exact HB.out|apply bA|apply bN|apply bD|refine bS ?_ GE124.out)|exact HB.out)⟩⟩
       ·rw[if_neg c25] at H
        exact absurd H (by simp)
      ·replace c23:=Bool.eq_false_iff.mpr c23
       subst c23
       have H1:(opts_text.j2 kj11 x3_11 a0_0 a0_1 a0_2 a0_3 a0_4 false a0_6 l0_7)=some r:=by rw[if_neg (show ¬ (false=true) by decide)] at H;exact H
       clear H
       have H:=H1
       clear H1
       have H':=mkA H
       clear H
       go_wp2
       go_meet
       case rel=>exact⟨_,(x3_11),(by first|rfl|(simp;done)|(simp[*];done)),H',⟨by have:=HJ1.out;have:=HJ11.out;first|omega|exact Nat.le_refl _⟩,⟨by(with_reducible repeat(first|refine kN ?_ _|refine kD ?_|refine kA ?_ _));exact BK124.out⟩,⟨by repeat(first|(with_reducible first|exact HB.out|apply bA|apply bN|apply bD|refine bS ?_ GE124.out)|exact HB.out)⟩⟩
     case rest =>
      clear HC21
      try clear c1;try clear c2;try clear p2;try clear c5;try clear c5b0;try clear c5b1;try clear c6;try clear c8;try clear c8b0;try clear c8b1;try clear c8b2;try clear c14;try clear c17;try clear c17b0;try clear c17b1;try clear c17b2;try clear c23;try clear c25;try clear c25b0;try clear c25b1;try clear c25b2;try clear hcz13_0 hcz13_1 hcz13_2 hcz13_3 hcz13_4 hcz13_5 hcz13_6 hcz13_7;try clear hcz18_0 hcz18_1 hcz18_2 hcz18_3 hcz18_4 hcz18_5 hcz18_6 hcz18_7;try clear hcz22_0 hcz22_1 hcz22_2 hcz22_3 hcz22_4 hcz22_5 hcz22_6 hcz22_7;try clear hcz4_0 hcz4_1 hcz4_2 hcz4_3 hcz4_4 hcz4_5 hcz4_6 hcz4_7;try clear hcz9_0 hcz9_1 hcz9_2 hcz9_3 hcz9_4 hcz9_5 hcz9_6 hcz9_7;try clear hfz13_0 hfz13_1 hfz13_2 hfz13_3 hfz13_4 hfz13_5 hfz13_6 hfz13_7;try clear hfz18_0 hfz18_1 hfz18_2 hfz18_3 hfz18_4 hfz18_5 hfz18_6 hfz18_7;try clear hfz22_0 hfz22_1 hfz22_2 hfz22_3 hfz22_4 hfz22_5 hfz22_6 hfz22_7;try clear hfz4_0 hfz4_1 hfz4_2 hfz4_3 hfz4_4 hfz4_5 hfz4_6 hfz4_7;try clear hfz9_0 hfz9_1 hfz9_2 hfz9_3 hfz9_4 hfz9_5 hfz9_6 hfz9_7;try clear p2
      obtain⟨kq,x3_20,rfl,HA,HJ20,BK124,HB⟩:=hcut
      cases kq with
      | zero=>exact absurd HA.out (by simp[opts_text.j2])
      | succ kj20 =>
       have H:=HA.out
       clear HA
       simp only[opts_text.j2] at H
       have HC27:=mkA H
       clear H
       obtain⟨hcz28_0,hcz28_1,hcz28_2,hcz28_3,hcz28_4,hcz28_5,hcz28_6,hcz28_7⟩:=blk_cells8 BK124.out
       obtain⟨hfz28_0,hfz28_1,hfz28_2,hfz28_3,hfz28_4,hfz28_5,hfz28_6,hfz28_7⟩:=blk_frozens8 BK124.out
       go_upto_if 30 with (fail)
       go_cut [3] (fun v3 wc=>∃ (kq:Nat) (x3_26:ByteArray),v3=.string x3_26∧Aside0 (opts_text.j3 kq x3_26 a0_0 a0_1 a0_2 a0_3 a0_4 a0_5 a0_6 l0_7=some r)∧Aside0 (kq≤kj20)∧Aside0 (wc.heap[gb124]?=some (.cells #[.int .i64 a0_0,.int .i64 a0_1,.int .i64 a0_2,.int .i64 a0_3,.bool a0_4,.bool a0_5,.bool a0_6,(.slice A0_7 l0_7.length c0_7)] 24 (0,0)))∧Aside0 (Below w.heap.size w wc))
       case first =>
        have H:=HC27.out
        clear HC27
        by_cases c29:a0_6=true
        ·subst c29
         have H1:((opts_num.f kj20 a0_2 4).bind fun t130=>((opts_num.f kj20 a0_3 4).bind fun t131=>(if t130.size+t131.size≤9223372036854775807 then ((opts_option.f 8 (t130++t131)).bind fun t132=>(if x3_20.size+t132.size≤9223372036854775807 then (opts_text.j3 kj20 (x3_20++t132) a0_0 a0_1 a0_2 a0_3 a0_4 a0_5 true l0_7) else (none))) else (none))))=some r:=by rw[if_pos rfl] at H;exact H
         clear H
         have H:=H1
         clear H1
         replace H:=Option.bind_eq_some_iff.mp H
         obtain⟨t130,A300,H⟩:=H
         replace H:((opts_num.f kj20 a0_3 4).bind fun t131=>(if t130.size+t131.size≤9223372036854775807 then ((opts_option.f 8 (t130++t131)).bind fun t132=>(if x3_20.size+t132.size≤9223372036854775807 then (opts_text.j3 kj20 (x3_20++t132) a0_0 a0_1 a0_2 a0_3 a0_4 a0_5 true l0_7) else (none))) else (none)))=some r:=H
         have A30:=mkA A300
         clear A300
         replace H:=Option.bind_eq_some_iff.mp H
         obtain⟨t131,A310,H⟩:=H
         replace H:(if t130.size+t131.size≤9223372036854775807 then ((opts_option.f 8 (t130++t131)).bind fun t132=>(if x3_20.size+t132.size≤9223372036854775807 then (opts_text.j3 kj20 (x3_20++t132) a0_0 a0_1 a0_2 a0_3 a0_4 a0_5 true l0_7) else (none))) else (none))=some r:=H
         have A31:=mkA A310
         clear A310
         by_cases c32:t130.size+t131.size≤9223372036854775807
         ·rw[if_pos c32] at H
          have c32b0:=eq_true c32
          have c32b1:decide (t130.size+t131.size≤9223372036854775807)=true:=decide_eq_true c32
          try have c32b2:(9223372036854775807 < t130.size+t131.size)=False:=eq_false (Nat.not_lt.2 c32)
          replace H:=Option.bind_eq_some_iff.mp H
          obtain⟨t132,A330,H⟩:=H
          replace H:(if x3_20.size+t132.size≤9223372036854775807 then (opts_text.j3 kj20 (x3_20++t132) a0_0 a0_1 a0_2 a0_3 a0_4 a0_5 true l0_7) else (none))=some r:=H
          have A33:=mkA A330
          clear A330
          by_cases c34:x3_20.size+t132.size≤9223372036854775807
          ·rw[if_pos c34] at H
           have c34b0:=eq_true c34
           have c34b1:decide (x3_20.size+t132.size≤9223372036854775807)=true:=decide_eq_true c34
           try have c34b2:(9223372036854775807 < x3_20.size+t132.size)=False:=eq_false (Nat.not_lt.2 c34)
           have H':=mkA H
           clear H
           try go_wp2
           have n0_:=mkA (kD BK124.out)
           have n1_:=mkA (bD HB.out)
           clear BK124
           clear HB
           have BK124:=n0_
           have HB:=n1_
           clear n0_ n1_
           refine start_ (n:=11) (S:=fun w'=>w'.cell? ⟨gb124,0,none⟩=some (.int .i64 a0_0)∧w'.cell? ⟨gb124,1,none⟩=some (.int .i64 a0_1)∧w'.cell? ⟨gb124,2,none⟩=some (.int .i64 a0_2)∧w'.cell? ⟨gb124,3,none⟩=some (.int .i64 a0_3)∧w'.cell? ⟨gb124,4,none⟩=some (.bool a0_4)∧w'.cell? ⟨gb124,5,none⟩=some (.bool a0_5)∧w'.cell? ⟨gb124,6,none⟩=some (.bool true)∧w'.cell? ⟨gb124,7,none⟩=some (.slice A0_7 l0_7.length c0_7)) (ds:=[]) #[false,false,false,false,false,false,false,false,false,false,false] (by kernel_rfl) rfl rfl ⟨(kC BK124.out 0).trans rfl,(kC BK124.out 1).trans rfl,(kC BK124.out 2).trans rfl,(kC BK124.out 3).trans rfl,(kC BK124.out 4).trans rfl,(kC BK124.out 5).trans rfl,(kC BK124.out 6).trans rfl,(kC BK124.out 7).trans rfl⟩ (fun hHeld=>?_);refine with_tabW opts_text.tab9 opts_text.bits9 (fun HT_ HW_=>?_)
           generalize wc.drew=w35 at BK124 HB hHeld ⊢
           refine pure_ (i:=0) (N:=some 31) (v:=?_) (a':=?_) #[true,false,false,false,false,false,false,false,false,false,false] rfl rfl (any_of HT_.out (by kernel_rfl)) (fun _ _ _ h=>h) (Or.inl ⟨by rfl,?_⟩) ?_ ?_
           rotate_left
           ·intro w'
            go_simp
            with_reducible rfl
           rotate_left
           ·simp only[puts,i64_w,i32_w]
            rfl
           refine pure_ (i:=1) (N:=some 32) (v:=?_) (a':=?_) #[true,true,false,false,false,false,false,false,false,false,false] rfl rfl (any_of HT_.out (by kernel_rfl)) (fun _ _ _ h=>h) (Or.inl ⟨by rfl,?_⟩) ?_ ?_
           rotate_left
           ·intro w'
            go_simp
            with_reducible rfl
           rotate_left
           ·simp only[puts,i64_w,i32_w]
            rfl
           refine pure_ (i:=4) (N:=some 35) (v:=?_) (a':=?_) #[true,true,false,false,true,false,false,false,false,false,false] rfl rfl (any_of HT_.out (by kernel_rfl)) (fun _ _ _ h=>h) (Or.inl ⟨by rfl,?_⟩) ?_ ?_
           rotate_left
           ·intro w'
            go_simp
            with_reducible rfl
           rotate_left
           ·simp only[puts,i64_w,i32_w]
            rfl
           refine take_ (i:=2) (N:=some 33) (v:=?_) (a':=?_) #[true,true,true,false,true,false,false,false,false,false,false] rfl rfl (take_ofW HT_.out HW_.out (by kernel_rfl)) (fun _ _ _ h=>h) (Or.inl ⟨by rfl,?_⟩) hHeld ?_ ?_
           rotate_left
           ·rintro w' ⟨s0,s1,s2,s3,s4,s5,s6,s7⟩
            go_simp
            with_reducible rfl
           rotate_left
           ·simp only[puts,i64_w,i32_w]
            rfl
           refine take_ (i:=5) (N:=some 36) (v:=?_) (a':=?_) #[true,true,true,false,true,true,false,false,false,false,false] rfl rfl (take_ofW HT_.out HW_.out (by kernel_rfl)) (fun _ _ _ h=>h) (Or.inl ⟨by rfl,?_⟩) hHeld ?_ ?_
           rotate_left
           ·rintro w' ⟨s0,s1,s2,s3,s4,s5,s6,s7⟩
            go_simp
            with_reducible rfl
           rotate_left
           ·simp only[puts,i64_w,i32_w]
            rfl
           refine one_ (i:=3) (N:=some 34) #[true,true,true,true,true,true,false,false,false,false,false] rfl rfl (one_of HT_.out (by kernel_rfl)) (by decide) (fun K hK=>?_)
           refine goes_ Try.func63 (by kernel_rfl) rfl #[.int .i64 a0_2,.int .i64 4] (by rfl) rfl rfl (by(try simp only[List.map_toArray,List.map_cons,List.map_nil]);first|done|rfl|(simp only[List.length_drop,List.length_take];rfl)) ?_
           with_reducible refine(opts_num.calls kj20 a0_2 4 t130 _ A30.out).mono ?_
           rintro e w36 ⟨rfl,hb⟩
           refine⟨_,rfl,?_⟩
           have n0_:=mkA (kB (g:=gb124) (by(with_reducible repeat(first|apply kN|apply kD|apply kA));exact BK124.out) hb)
           have n1_:=mkA (bT (by repeat(first|(with_reducible first|exact HB.out|apply bA|apply bN|apply bD|refine bS ?_ GE124.out)|exact HB.out)) hb)
           clear BK124
           clear HB
           have BK124:=n0_
           have HB:=n1_
           clear n0_ n1_
           (try clear hb)
           (try clear hb2)
           (try clear hk)
           (try clear hi)
           refine hK.out _ _ ⟨(kC BK124.out 0).trans rfl,(kC BK124.out 1).trans rfl,(kC BK124.out 2).trans rfl,(kC BK124.out 3).trans rfl,(kC BK124.out 4).trans rfl,(kC BK124.out 5).trans rfl,(kC BK124.out 6).trans rfl,(kC BK124.out 7).trans rfl⟩ (fun hHeld=>?_)
           clear hK K
           refine norm_ (a':=?_) ?_ ?_
           rotate_left
           ·show Act.put _ (some 34) _=_
            simp only[puts,i64_w,i32_w]
            rfl
           refine one_ (i:=6) (N:=some 37) #[true,true,true,true,true,true,true,false,false,false,false] rfl rfl (one_of HT_.out (by kernel_rfl)) (by decide) (fun K hK=>?_)
           refine goes_ Try.func63 (by kernel_rfl) rfl #[.int .i64 a0_3,.int .i64 4] (by rfl) rfl rfl (by(try simp only[List.map_toArray,List.map_cons,List.map_nil]);first|done|rfl|(simp only[List.length_drop,List.length_take];rfl)) ?_
           with_reducible refine(opts_num.calls kj20 a0_3 4 t131 _ A31.out).mono ?_
           rintro e w37 ⟨rfl,hb⟩
           refine⟨_,rfl,?_⟩
           have n0_:=mkA (kB (g:=gb124) (by(with_reducible repeat(first|apply kN|apply kD|apply kA));exact BK124.out) hb)
           have n1_:=mkA (bT (by repeat(first|(with_reducible first|exact HB.out|apply bA|apply bN|apply bD|refine bS ?_ GE124.out)|exact HB.out)) hb)
           clear BK124
           clear HB
           have BK124:=n0_
           have HB:=n1_
           clear n0_ n1_
           (try clear hb)
           (try clear hb2)
           (try clear hk)
           (try clear hi)
           refine hK.out _ _ ⟨(kC BK124.out 0).trans rfl,(kC BK124.out 1).trans rfl,(kC BK124.out 2).trans rfl,(kC BK124.out 3).trans rfl,(kC BK124.out 4).trans rfl,(kC BK124.out 5).trans rfl,(kC BK124.out 6).trans rfl,(kC BK124.out 7).trans rfl⟩ (fun hHeld=>?_)
           clear hK K
           refine norm_ (a':=?_) ?_ ?_
           rotate_left
           ·show Act.put _ (some 37) _=_
            simp only[puts,i64_w,i32_w]
            rfl
           refine pure_ (i:=7) (N:=some 38) (v:=?_) (a':=?_) #[true,true,true,true,true,true,true,true,false,false,false] rfl rfl (any_of HT_.out (by kernel_rfl)) (fun _ _ _ h=>h) (Or.inl ⟨by rfl,?_⟩) ?_ ?_
           rotate_left
           ·intro w'
            go_simp
            first|(with_reducible rfl)|((repeat(first|rw[if_pos (by simp only[ByteArray.size_extract,ByteArray.size_append,eq_iff_iff,iff_true,iff_false,Nat.not_lt] at *;first|omega|(simp only[ByteArray.size,List.size_toArray,List.length_cons,List.length_nil] at *;omega))]|rw[if_neg (by simp only[ByteArray.size_extract,ByteArray.size_append,eq_iff_iff,iff_true,iff_false,Nat.not_lt] at *;first|omega|(simp only[ByteArray.size,List.size_toArray,List.length_cons,List.length_nil] at *;omega))]));try with_reducible rfl)
           rotate_left
           ·simp only[puts,i64_w,i32_w]
            rfl
           refine one_ (i:=8) (N:=some 39) #[true,true,true,true,true,true,true,true,true,false,false] rfl rfl (one_of HT_.out (by kernel_rfl)) (by decide) (fun K hK=>?_)
           refine goes_ Try.func62 (by kernel_rfl) rfl #[.int .i64 8,.string (t130++t131)] (by rfl) rfl rfl (by(try simp only[List.map_toArray,List.map_cons,List.map_nil]);first|done|rfl|(simp only[List.length_drop,List.length_take];rfl)) ?_
           with_reducible refine(opts_option.calls 8 (t130++t131) t132 _ A33.out).mono ?_
           rintro e w38 ⟨rfl,hb⟩
           refine⟨_,rfl,?_⟩
           have n0_:=mkA (kB (g:=gb124) (by(with_reducible repeat(first|apply kN|apply kD|apply kA));exact BK124.out) hb)
           have n1_:=mkA (bT (by repeat(first|(with_reducible first|exact HB.out|apply bA|apply bN|apply bD|refine bS ?_ GE124.out)|exact HB.out)) hb)
           clear BK124
           clear HB
           have BK124:=n0_
           have HB:=n1_
           clear n0_ n1_
           (try clear hb)
           (try clear hb2)
           (try clear hk)
           (try clear hi)
           refine hK.out _ _ ⟨(kC BK124.out 0).trans rfl,(kC BK124.out 1).trans rfl,(kC BK124.out 2).trans rfl,(kC BK124.out 3).trans rfl,(kC BK124.out 4).trans rfl,(kC BK124.out 5).trans rfl,(kC BK124.out 6).trans rfl,(kC BK124.out 7).trans rfl⟩ (fun hHeld=>?_)
           clear hK K
           refine norm_ (a':=?_) ?_ ?_
           rotate_left
           ·show Act.put _ (some 39) _=_
            simp only[puts,i64_w,i32_w]
            rfl
           refine pure_ (i:=9) (N:=some 40) (v:=?_) (a':=?_) #[true,true,true,true,true,true,true,true,true,true,false] rfl rfl (any_of HT_.out (by kernel_rfl)) (fun _ _ _ h=>h) (Or.inl ⟨by rfl,?_⟩) ?_ ?_
           rotate_left
           ·intro w'
            go_simp
            first|(with_reducible rfl)|((repeat(first|rw[if_pos (by simp only[ByteArray.size_extract,ByteArray.size_append,eq_iff_iff,iff_true,iff_false,Nat.not_lt] at *;first|omega|(simp only[ByteArray.size,List.size_toArray,List.length_cons,List.length_nil] at *;omega))]|rw[if_neg (by simp only[ByteArray.size_extract,ByteArray.size_append,eq_iff_iff,iff_true,iff_false,Nat.not_lt] at *;first|omega|(simp only[ByteArray.size,List.size_toArray,List.length_cons,List.length_nil] at *;omega))]));try with_reducible rfl)
           rotate_left
           ·simp only[puts,i64_w,i32_w]
            rfl
           refine pure_ (i:=10) (N:=some 3) (v:=?_) (a':=?_) #[true,true,true,true,true,true,true,true,true,true,true] rfl rfl (any_of HT_.out (by kernel_rfl)) (fun _ _ _ h=>h) (Or.inl ⟨by rfl,?_⟩) ?_ ?_
           rotate_left
           ·intro w'
            go_simp
            with_reducible rfl
           rotate_left
           ·simp only[puts,i64_w,i32_w]
            rfl
           refine done_ (done_of HT_.out (by kernel_rfl)) ?_
           try go_wp2
           go_meet
           case rel=>exact⟨_,(x3_20++t132),(by first|rfl|(simp;done)|(simp[*];done)),H',⟨by have:=HJ1.out;have:=HJ11.out;have:=HJ20.out;first|omega|exact Nat.le_refl _⟩,⟨by(with_reducible repeat(first|refine kN ?_ _|refine kD ?_|refine kA ?_ _));exact BK124.out⟩,⟨by repeat(first|(with_reducible first|exact HB.out|apply bA|apply bN|apply bD|refine bS ?_ GE124.out)|exact HB.out)⟩⟩
          ·rw[if_neg c34] at H
           exact absurd H (by simp)
         ·rw[if_neg c32] at H
          exact absurd H (by simp)
        ·replace c29:=Bool.eq_false_iff.mpr c29
         subst c29
         have H1:(opts_text.j3 kj20 x3_20 a0_0 a0_1 a0_2 a0_3 a0_4 a0_5 false l0_7)=some r:=by rw[if_neg (show ¬ (false=true) by decide)] at H;exact H
         clear H
         have H:=H1
         clear H1
         have H':=mkA H
         clear H
         go_wp2
         go_meet
         case rel=>exact⟨_,(x3_20),(by first|rfl|(simp;done)|(simp[*];done)),H',⟨by have:=HJ1.out;have:=HJ11.out;have:=HJ20.out;first|omega|exact Nat.le_refl _⟩,⟨by(with_reducible repeat(first|refine kN ?_ _|refine kD ?_|refine kA ?_ _));exact BK124.out⟩,⟨by repeat(first|(with_reducible first|exact HB.out|apply bA|apply bN|apply bD|refine bS ?_ GE124.out)|exact HB.out)⟩⟩
       case rest =>
        clear HC27
        try clear c1;try clear c2;try clear p2;try clear c3;try clear c5;try clear c5b0;try clear c5b1;try clear c6;try clear c8;try clear c8b0;try clear c8b1;try clear c8b2;try clear c14;try clear c17;try clear c17b0;try clear c17b1;try clear c17b2;try clear c23;try clear c25;try clear c25b0;try clear c25b1;try clear c25b2;try clear c29;try clear c32;try clear c32b0;try clear c32b1;try clear c32b2;try clear c34;try clear c34b0;try clear c34b1;try clear c34b2;try clear hcz13_0 hcz13_1 hcz13_2 hcz13_3 hcz13_4 hcz13_5 hcz13_6 hcz13_7;try clear hcz18_0 hcz18_1 hcz18_2 hcz18_3 hcz18_4 hcz18_5 hcz18_6 hcz18_7;try clear hcz22_0 hcz22_1 hcz22_2 hcz22_3 hcz22_4 hcz22_5 hcz22_6 hcz22_7;try clear hcz28_0 hcz28_1 hcz28_2 hcz28_3 hcz28_4 hcz28_5 hcz28_6 hcz28_7;try clear hcz4_0 hcz4_1 hcz4_2 hcz4_3 hcz4_4 hcz4_5 hcz4_6 hcz4_7;try clear hcz9_0 hcz9_1 hcz9_2 hcz9_3 hcz9_4 hcz9_5 hcz9_6 hcz9_7;try clear hfz13_0 hfz13_1 hfz13_2 hfz13_3 hfz13_4 hfz13_5 hfz13_6 hfz13_7;try clear hfz18_0 hfz18_1 hfz18_2 hfz18_3 hfz18_4 hfz18_5 hfz18_6 hfz18_7;try clear hfz22_0 hfz22_1 hfz22_2 hfz22_3 hfz22_4 hfz22_5 hfz22_6 hfz22_7;try clear hfz28_0 hfz28_1 hfz28_2 hfz28_3 hfz28_4 hfz28_5 hfz28_6 hfz28_7;try clear hfz4_0 hfz4_1 hfz4_2 hfz4_3 hfz4_4 hfz4_5 hfz4_6 hfz4_7;try clear hfz9_0 hfz9_1 hfz9_2 hfz9_3 hfz9_4 hfz9_5 hfz9_6 hfz9_7;try clear p2
        obtain⟨kq,x3_26,rfl,HA,HJ26,BK124,HB⟩:=hcut
        cases kq with
        | zero=>exact absurd HA.out (by simp[opts_text.j3])
        | succ kj26 =>
         have H:=HA.out
         clear HA
         simp only[opts_text.j3] at H
         have HC39:=mkA H
         clear H
         obtain⟨hcz40_0,hcz40_1,hcz40_2,hcz40_3,hcz40_4,hcz40_5,hcz40_6,hcz40_7⟩:=blk_cells8 BK124.out
         obtain⟨hfz40_0,hfz40_1,hfz40_2,hfz40_3,hfz40_4,hfz40_5,hfz40_6,hfz40_7⟩:=blk_frozens8 BK124.out
         go_upto_if 44 with (fail)
         go_cut [3] (fun v3 wc=>∃ (kq:Nat) (x3_38:ByteArray),v3=.string x3_38∧Aside0 (opts_text.j5 kq x3_38=some r)∧Aside0 (kq≤kj26)∧Aside0 (wc.heap[gb124]?=some (.cells #[.int .i64 a0_0,.int .i64 a0_1,.int .i64 a0_2,.int .i64 a0_3,.bool a0_4,.bool a0_5,.bool a0_6,(.slice A0_7 l0_7.length c0_7)] 24 (0,0)))∧Aside0 (Below w.heap.size w wc))
         case first =>
          have H:=HC39.out
          clear HC39
          by_cases c41:(l0_7.length:Int) > 0
          ·rw[if_pos c41] at H
           have c41b0:decide (0 < (l0_7.length:Int))=true:=decide_eq_true c41
           have c41b1:decide (0 < l0_7.length)=true:=decide_eq_true (by omega)
           clear c41
           (first|rw[c41b0]|(simp only[i64_w,i32_w];rw[c41b0])|rw[c41b1]|skip)
           have H':=mkA H
           clear H
           obtain⟨hcz42_0,hcz42_1,hcz42_2,hcz42_3,hcz42_4,hcz42_5,hcz42_6,hcz42_7⟩:=blk_cells8 BK124.out
           obtain⟨hfz42_0,hfz42_1,hfz42_2,hfz42_3,hfz42_4,hfz42_5,hfz42_6,hfz42_7⟩:=blk_frozens8 BK124.out
           go_wp2
           go_loopg [4,48] kj26 (fun kq v4 v48 w'=>∃ (x4_5:ByteArray) (x48_5:Int),v4=.string x4_5∧v48=.int .i64 x48_5∧Aside0 (opts_text.l0 kq x3_26 x4_5 l0_7 (l0_7.length:Int) x48_5=some r)∧Aside0 (kq≤kj26)∧Aside0 (w'.heap[gb124]?=some (.cells #[.int .i64 a0_0,.int .i64 a0_1,.int .i64 a0_2,.int .i64 a0_3,.bool a0_4,.bool a0_5,.bool a0_6,(.slice A0_7 l0_7.length c0_7)] 24 (0,0)))∧Aside0 (Below w.heap.size w w'))
           case atStart=>exact⟨((⟨#[]⟩:ByteArray)),(0),(by first|rfl|(simp;done)|(simp[*];done)),(by first|rfl|(simp;done)|(simp[*];done)),H',⟨Nat.le_refl _⟩,⟨by(with_reducible repeat(first|refine kN ?_ _|refine kD ?_|refine kA ?_ _));exact BK124.out⟩,⟨by repeat(first|(with_reducible first|exact HB.out|apply bA|apply bN|apply bD|refine bS ?_ GE124.out)|exact HB.out)⟩⟩
           case round =>
            clear H'
            try clear c1;try clear c2;try clear p2;try clear c3;try clear c4;try clear c5;try clear c5b0;try clear c5b1;try clear c6;try clear c8;try clear c8b0;try clear c8b1;try clear c8b2;try clear c14;try clear c17;try clear c17b0;try clear c17b1;try clear c17b2;try clear c23;try clear c25;try clear c25b0;try clear c25b1;try clear c25b2;try clear c29;try clear c32;try clear c32b0;try clear c32b1;try clear c32b2;try clear c34;try clear c34b0;try clear c34b1;try clear c34b2;try clear c41;try clear c41b0;try clear c41b1;try clear hcz13_0 hcz13_1 hcz13_2 hcz13_3 hcz13_4 hcz13_5 hcz13_6 hcz13_7;try clear hcz18_0 hcz18_1 hcz18_2 hcz18_3 hcz18_4 hcz18_5 hcz18_6 hcz18_7;try clear hcz22_0 hcz22_1 hcz22_2 hcz22_3 hcz22_4 hcz22_5 hcz22_6 hcz22_7;try clear hcz28_0 hcz28_1 hcz28_2 hcz28_3 hcz28_4 hcz28_5 hcz28_6 hcz28_7;try clear hcz40_0 hcz40_1 hcz40_2 hcz40_3 hcz40_4 hcz40_5 hcz40_6 hcz40_7;try clear hcz42_0 hcz42_1 hcz42_2 hcz42_3 hcz42_4 hcz42_5 hcz42_6 hcz42_7;try clear hcz4_0 hcz4_1 hcz4_2 hcz4_3 hcz4_4 hcz4_5 hcz4_6 hcz4_7;try clear hcz9_0 hcz9_1 hcz9_2 hcz9_3 hcz9_4 hcz9_5 hcz9_6 hcz9_7;try clear hfz13_0 hfz13_1 hfz13_2 hfz13_3 hfz13_4 hfz13_5 hfz13_6 hfz13_7;try clear hfz18_0 hfz18_1 hfz18_2 hfz18_3 hfz18_4 hfz18_5 hfz18_6 hfz18_7;try clear hfz22_0 hfz22_1 hfz22_2 hfz22_3 hfz22_4 hfz22_5 hfz22_6 hfz22_7;try clear hfz28_0 hfz28_1 hfz28_2 hfz28_3 hfz28_4 hfz28_5 hfz28_6 hfz28_7;try clear hfz40_0 hfz40_1 hfz40_2 hfz40_3 hfz40_4 hfz40_5 hfz40_6 hfz40_7;try clear hfz42_0 hfz42_1 hfz42_2 hfz42_3 hfz42_4 hfz42_5 hfz42_6 hfz42_7;try clear hfz4_0 hfz4_1 hfz4_2 hfz4_3 hfz4_4 hfz4_5 hfz4_6 hfz4_7;try clear hfz9_0 hfz9_1 hfz9_2 hfz9_3 hfz9_4 hfz9_5 hfz9_6 hfz9_7;try clear p2
            obtain⟨x4_5,x48_5,rfl,rfl,HA,HK5,BK124,HB⟩:=hrel
            cases gk with
            | zero=>exact absurd HA.out (by simp[opts_text.l0])
            | succ k5 =>
             have H:=HA.out
             clear HA
             simp only[opts_text.l0] at H
             by_cases c43:x48_5 < (l0_7.length:Int)
             ·rw[if_pos c43] at H
              have c43b0:decide (x48_5 < (l0_7.length:Int))=true:=decide_eq_true c43
              clear c43
              by_cases c44:0≤x48_5
              ·rw[if_pos c44] at H
               have c44b0:decide (0≤x48_5)=true:=decide_eq_true c44
               clear c44
               by_cases c45:x48_5 < (l0_7.length:Int)
               ·rw[if_pos c45] at H
                have c45b0:decide (x48_5 < (l0_7.length:Int))=true:=decide_eq_true c45
                clear c45
                replace H:=Option.bind_eq_some_iff.mp H
                obtain⟨t135,A460,H⟩:=H
                replace H:((opts_num.f k5 ((rd_T73 l0_7 x48_5).f1) 4).bind fun t136=>(if t135.size+t136.size≤9223372036854775807 then (if x4_5.size+(t135++t136).size≤9223372036854775807 then (opts_text.l0 k5 x3_26 (x4_5++(t135++t136)) l0_7 (l0_7.length:Int) (wrap64 (x48_5+1))) else (none)) else (none)))=some r:=H
                have A46:=mkA A460
                clear A460
                replace H:=Option.bind_eq_some_iff.mp H
                obtain⟨t136,A470,H⟩:=H
                replace H:(if t135.size+t136.size≤9223372036854775807 then (if x4_5.size+(t135++t136).size≤9223372036854775807 then (opts_text.l0 k5 x3_26 (x4_5++(t135++t136)) l0_7 (l0_7.length:Int) (wrap64 (x48_5+1))) else (none)) else (none))=some r:=H
                have A47:=mkA A470
                clear A470
                by_cases c48:t135.size+t136.size≤9223372036854775807
                ·rw[if_pos c48] at H
                 have c48b0:=eq_true c48
                 have c48b1:decide (t135.size+t136.size≤9223372036854775807)=true:=decide_eq_true c48
                 try have c48b2:(9223372036854775807 < t135.size+t136.size)=False:=eq_false (Nat.not_lt.2 c48)
                 by_cases c49:x4_5.size+(t135++t136).size≤9223372036854775807
                 ·rw[if_pos c49] at H
                  have c49b0:=eq_true c49
                  have c49b1:decide (x4_5.size+(t135++t136).size≤9223372036854775807)=true:=decide_eq_true c49
                  try have c49b2:(9223372036854775807 < x4_5.size+(t135++t136).size)=False:=eq_false (Nat.not_lt.2 c49)
                  (try(have c49b3:=c49b2;simp only[ByteArray.size_append] at c49b3))
                  have H':=mkA H
                  clear H
                  have p133:0≤(x48_5:Int):=of_decide_eq_true (by first|(with_reducible assumption)|assumption)
                  have q133:x48_5 < (l0_7.length:Int):=of_decide_eq_true (by first|(with_reducible assumption)|assumption)
                  obtain⟨ad133,e133,hx133_0,hx133_1⟩:=at_T73 HR0_7.out x48_5 p133 q133
                  cases e133
                  replace hx133_0:=(HB.out.cell (World.block_lt_of_cell? w _ hx133_0)).trans hx133_0
                  replace hx133_1:=(HB.out.cell (World.block_lt_of_cell? w _ hx133_1)).trans hx133_1
                  replace p133:=eq_true p133
                  replace q133:=eq_true q133
                  try go_wp2_with (first|((with_reducible refine gate_dst (N:=6) rfl ?_);refine box_event ?hg (N:=6) ?hd (cs:=#[.int .i64 0,.int .i64 0]) (t:=73) ?hr ?_;(case hd=>rfl);(case hg=>rfl);(case hr=>first|(go_simp;done)|(go_simp;rfl));intro gb134 hg w50 hbox hb;have n0_:=mkA (kB (g:=gb124) (by(with_reducible repeat(first|apply kN|apply kD|apply kA));exact BK124.out) hb);have n1_:=mkA (bT (by repeat(first|(with_reducible first|exact HB.out|apply bA|apply bN|apply bD|refine bS ?_ GE124.out)|exact HB.out)) hb);have n2_:=mkA (hbox);have n3_:=mkA ((by rw[hg];exact(bZ (by repeat(first|(with_reducible first|exact HB.out|apply bA|apply bN|apply bD|refine bS ?_ GE124.out)|exact HB.out))):w.heap.size≤gb134));have n4_:=mkA ((by rw[hg];exact(bZ (by repeat(first|(with_reducible first|exact HB.out|apply bA|apply bN|apply bD|refine bS ?_ GE124.out)|exact HB.out))):w.heap.size≤gb134));have n5_:=mkA ((by rw[hg];exact Nat.ne_of_lt (blk_lt (g:=gb124) (by(with_reducible repeat(first|apply kN|apply kD|apply kA));exact BK124.out)):gb124≠gb134));have n6_:=mkA ((by rw[hg];exact Nat.ne_of_gt (blk_lt (g:=gb124) (by(with_reducible repeat(first|apply kN|apply kD|apply kA));exact BK124.out)):gb134≠gb124));clear BK124;clear HB;have BK124:=n0_;have HB:=n1_;have BK134:=n2_;have GW134:=n3_;have GE134:=n4_;have NB124_134:=n5_;have NB134_124:=n6_;clear n0_ n1_ n2_ n3_ n4_ n5_ n6_;clear hb hbox hg;have hnb51:=NB134_124.out;have hnc51:=NB124_134.out;obtain⟨hcz52_0,hcz52_1⟩:=blk_cells2 BK134.out;obtain⟨hfz52_0,hfz52_1⟩:=blk_frozens2 BK134.out))
                  have n0_:Aside0 (((w50.setCell ⟨gb134,0,none⟩ (.int .i64 ((rd_T73 l0_7 x48_5).f0))).setCell ⟨gb134,1,none⟩ (.int .i64 ((rd_T73 l0_7 x48_5).f1))).heap[gb124]?=some (.cells #[.int .i64 a0_0,.int .i64 a0_1,.int .i64 a0_2,.int .i64 a0_3,.bool a0_4,.bool a0_5,.bool a0_6,.slice (some ad133) l0_7.length c0_7] 24 (0,0))):=⟨by(with_reducible repeat(first|refine kN ?_ _|refine kD ?_|refine kA ?_ _));refine kW ?_ NB124_134.out _;(with_reducible repeat(first|refine kN ?_ _|refine kD ?_|refine kA ?_ _));refine kW ?_ NB124_134.out _;(with_reducible repeat(first|refine kN ?_ _|refine kD ?_|refine kA ?_ _));exact BK124.out⟩
                  have n1_:Aside0 (((w50.setCell ⟨gb134,0,none⟩ (.int .i64 ((rd_T73 l0_7 x48_5).f0))).setCell ⟨gb134,1,none⟩ (.int .i64 ((rd_T73 l0_7 x48_5).f1))).heap[gb134]?=some (.cells #[.int .i64 ((rd_T73 l0_7 x48_5).f0),.int .i64 ((rd_T73 l0_7 x48_5).f1)] 73 (0,0))):=⟨by(with_reducible repeat(first|refine kN ?_ _|refine kD ?_|refine kA ?_ _));refine kP (cs:=#[.int .i64 ((rd_T73 l0_7 x48_5).f0),.int .i64 0]) ?_ 1 _ rfl;refine kP (cs:=#[.int .i64 0,.int .i64 0]) ?_ 0 _ rfl;(with_reducible repeat(first|refine kN ?_ _|refine kD ?_|refine kA ?_ _));exact BK134.out⟩
                  have n2_:Aside0 (Below w.heap.size w ((w50.setCell ⟨gb134,0,none⟩ (.int .i64 ((rd_T73 l0_7 x48_5).f0))).setCell ⟨gb134,1,none⟩ (.int .i64 ((rd_T73 l0_7 x48_5).f1)))):=⟨by repeat(first|(with_reducible first|exact HB.out|apply bA|apply bN|apply bD|refine bS ?_ GE124.out|refine bS ?_ GE134.out)|exact HB.out)⟩
                  (try clear BK124)
                  (try clear BK134)
                  (try clear HB)
                  generalize ((w50.setCell ⟨gb134,0,none⟩ (.int .i64 ((rd_T73 l0_7 x48_5).f0))).setCell ⟨gb134,1,none⟩ (.int .i64 ((rd_T73 l0_7 x48_5).f1)))=w53 at n0_ n1_ n2_ ⊢
                  have BK124:=n0_
                  have BK134:=n1_
                  have HB:=n2_
                  clear n0_ n1_ n2_
                  have n0_:=mkA (kD BK124.out)
                  have n1_:=mkA (kD BK134.out)
                  have n2_:=mkA (bD HB.out)
                  clear BK124
                  clear BK134
                  clear HB
                  have BK124:=n0_
                  have BK134:=n1_
                  have HB:=n2_
                  clear n0_ n1_ n2_
                  refine start_ (n:=10) (S:=fun w'=>w'.cell? ⟨gb134,0,none⟩=some (.int .i64 ((rd_T73 l0_7 x48_5).f0))∧w'.cell? ⟨gb134,1,none⟩=some (.int .i64 ((rd_T73 l0_7 x48_5).f1))) (ds:=[]) #[false,false,false,false,false,false,false,false,false,false] (by kernel_rfl) rfl rfl ⟨(kC BK134.out 0).trans rfl,(kC BK134.out 1).trans rfl⟩ (fun hHeld=>?_);refine with_tabW opts_text.tab15 opts_text.bits15 (fun HT_ HW_=>?_)
                  generalize w53.drew=w54 at BK124 BK134 HB hHeld ⊢
                  refine pure_ (i:=0) (N:=some 52) (v:=?_) (a':=?_) #[true,false,false,false,false,false,false,false,false,false] rfl rfl (any_of HT_.out (by kernel_rfl)) (fun _ _ _ h=>h) (Or.inl ⟨by rfl,?_⟩) ?_ ?_
                  rotate_left
                  ·intro w'
                   go_simp
                   with_reducible rfl
                  rotate_left
                  ·simp only[puts,i64_w,i32_w]
                   rfl
                  refine pure_ (i:=1) (N:=some 53) (v:=?_) (a':=?_) #[true,true,false,false,false,false,false,false,false,false] rfl rfl (any_of HT_.out (by kernel_rfl)) (fun _ _ _ h=>h) (Or.inl ⟨by rfl,?_⟩) ?_ ?_
                  rotate_left
                  ·intro w'
                   go_simp
                   with_reducible rfl
                  rotate_left
                  ·simp only[puts,i64_w,i32_w]
                   rfl
                  refine pure_ (i:=4) (N:=some 56) (v:=?_) (a':=?_) #[true,true,false,false,true,false,false,false,false,false] rfl rfl (any_of HT_.out (by kernel_rfl)) (fun _ _ _ h=>h) (Or.inl ⟨by rfl,?_⟩) ?_ ?_
                  rotate_left
                  ·intro w'
                   go_simp
                   with_reducible rfl
                  rotate_left
                  ·simp only[puts,i64_w,i32_w]
                   rfl
                  refine take_ (i:=2) (N:=some 54) (v:=?_) (a':=?_) #[true,true,true,false,true,false,false,false,false,false] rfl rfl (take_ofW HT_.out HW_.out (by kernel_rfl)) (fun _ _ _ h=>h) (Or.inl ⟨by rfl,?_⟩) hHeld ?_ ?_
                  rotate_left
                  ·rintro w' ⟨s0,s1⟩
                   go_simp
                   with_reducible rfl
                  rotate_left
                  ·simp only[puts,i64_w,i32_w]
                   rfl
                  refine take_ (i:=5) (N:=some 57) (v:=?_) (a':=?_) #[true,true,true,false,true,true,false,false,false,false] rfl rfl (take_ofW HT_.out HW_.out (by kernel_rfl)) (fun _ _ _ h=>h) (Or.inl ⟨by rfl,?_⟩) hHeld ?_ ?_
                  rotate_left
                  ·rintro w' ⟨s0,s1⟩
                   go_simp
                   with_reducible rfl
                  rotate_left
                  ·simp only[puts,i64_w,i32_w]
                   rfl
                  refine one_ (i:=3) (N:=some 55) #[true,true,true,true,true,true,false,false,false,false] rfl rfl (one_of HT_.out (by kernel_rfl)) (by decide) (fun K hK=>?_)
                  refine goes_ Try.func63 (by kernel_rfl) rfl #[.int .i64 ((rd_T73 l0_7 x48_5).f0),.int .i64 4] (by rfl) rfl rfl (by(try simp only[List.map_toArray,List.map_cons,List.map_nil]);first|done|rfl|(simp only[List.length_drop,List.length_take];rfl)) ?_
                  with_reducible refine(opts_num.calls k5 ((rd_T73 l0_7 x48_5).f0) 4 t135 _ A46.out).mono ?_
                  rintro e w55 ⟨rfl,hb⟩
                  refine⟨_,rfl,?_⟩
                  have n0_:=mkA (kB (g:=gb124) (by(with_reducible repeat(first|apply kN|apply kD|apply kA));exact BK124.out) hb)
                  have n1_:=mkA (kB (g:=gb134) (by(with_reducible repeat(first|apply kN|apply kD|apply kA));exact BK134.out) hb)
                  have n2_:=mkA (bT (by repeat(first|(with_reducible first|exact HB.out|apply bA|apply bN|apply bD|refine bS ?_ GE124.out|refine bS ?_ GE134.out)|exact HB.out)) hb)
                  clear BK124
                  clear BK134
                  clear HB
                  have BK124:=n0_
                  have BK134:=n1_
                  have HB:=n2_
                  clear n0_ n1_ n2_
                  (try clear hb)
                  (try clear hb2)
                  (try clear hk)
                  (try clear hi)
                  refine hK.out _ _ ⟨(kC BK134.out 0).trans rfl,(kC BK134.out 1).trans rfl⟩ (fun hHeld=>?_)
                  clear hK K
                  refine norm_ (a':=?_) ?_ ?_
                  rotate_left
                  ·show Act.put _ (some 55) _=_
                   simp only[puts,i64_w,i32_w]
                   rfl
                  refine one_ (i:=6) (N:=some 58) #[true,true,true,true,true,true,true,false,false,false] rfl rfl (one_of HT_.out (by kernel_rfl)) (by decide) (fun K hK=>?_)
                  refine goes_ Try.func63 (by kernel_rfl) rfl #[.int .i64 ((rd_T73 l0_7 x48_5).f1),.int .i64 4] (by rfl) rfl rfl (by(try simp only[List.map_toArray,List.map_cons,List.map_nil]);first|done|rfl|(simp only[List.length_drop,List.length_take];rfl)) ?_
                  with_reducible refine(opts_num.calls k5 ((rd_T73 l0_7 x48_5).f1) 4 t136 _ A47.out).mono ?_
                  rintro e w56 ⟨rfl,hb⟩
                  refine⟨_,rfl,?_⟩
                  have n0_:=mkA (kB (g:=gb124) (by(with_reducible repeat(first|apply kN|apply kD|apply kA));exact BK124.out) hb)
                  have n1_:=mkA (kB (g:=gb134) (by(with_reducible repeat(first|apply kN|apply kD|apply kA));exact BK134.out) hb)
                  have n2_:=mkA (bT (by repeat(first|(with_reducible first|exact HB.out|apply bA|apply bN|apply bD|refine bS ?_ GE124.out|refine bS ?_ GE134.out)|exact HB.out)) hb)
                  clear BK124
                  clear BK134
                  clear HB
                  have BK124:=n0_
                  have BK134:=n1_
                  have HB:=n2_
                  clear n0_ n1_ n2_
                  (try clear hb)
                  (try clear hb2)
                  (try clear hk)
                  (try clear hi)
                  refine hK.out _ _ ⟨(kC BK134.out 0).trans rfl,(kC BK134.out 1).trans rfl⟩ (fun hHeld=>?_)
                  clear hK K
                  refine norm_ (a':=?_) ?_ ?_
                  rotate_left
                  ·show Act.put _ (some 58) _=_
                   simp only[puts,i64_w,i32_w]
                   rfl
                  refine pure_ (i:=7) (N:=some 59) (v:=?_) (a':=?_) #[true,true,true,true,true,true,true,true,false,false] rfl rfl (any_of HT_.out (by kernel_rfl)) (fun _ _ _ h=>h) (Or.inl ⟨by rfl,?_⟩) ?_ ?_
                  rotate_left
                  ·intro w'
                   go_simp
                   first|(with_reducible rfl)|((repeat(first|rw[if_pos (by simp only[ByteArray.size_extract,ByteArray.size_append,eq_iff_iff,iff_true,iff_false,Nat.not_lt] at *;first|omega|(simp only[ByteArray.size,List.size_toArray,List.length_cons,List.length_nil] at *;omega))]|rw[if_neg (by simp only[ByteArray.size_extract,ByteArray.size_append,eq_iff_iff,iff_true,iff_false,Nat.not_lt] at *;first|omega|(simp only[ByteArray.size,List.size_toArray,List.length_cons,List.length_nil] at *;omega))]));try with_reducible rfl)
                  rotate_left
                  ·simp only[puts,i64_w,i32_w]
                   rfl
                  refine pure_ (i:=8) (N:=some 60) (v:=?_) (a':=?_) #[true,true,true,true,true,true,true,true,true,false] rfl rfl (any_of HT_.out (by kernel_rfl)) (fun _ _ _ h=>h) (Or.inl ⟨by rfl,?_⟩) ?_ ?_
                  rotate_left
                  ·intro w'
                   go_simp
                   first|(with_reducible rfl)|((repeat(first|rw[if_pos (by simp only[ByteArray.size_extract,ByteArray.size_append,eq_iff_iff,iff_true,iff_false,Nat.not_lt] at *;first|omega|(simp only[ByteArray.size,List.size_toArray,List.length_cons,List.length_nil] at *;omega))]|rw[if_neg (by simp only[ByteArray.size_extract,ByteArray.size_append,eq_iff_iff,iff_true,iff_false,Nat.not_lt] at *;first|omega|(simp only[ByteArray.size,List.size_toArray,List.length_cons,List.length_nil] at *;omega))]));try with_reducible rfl)
                  rotate_left
                  ·simp only[puts,i64_w,i32_w]
                   rfl
                  refine pure_ (i:=9) (N:=some 4) (v:=?_) (a':=?_) #[true,true,true,true,true,true,true,true,true,true] rfl rfl (any_of HT_.out (by kernel_rfl)) (fun _ _ _ h=>h) (Or.inl ⟨by rfl,?_⟩) ?_ ?_
                  rotate_left
                  ·intro w'
                   go_simp
                   with_reducible rfl
                  rotate_left
                  ·simp only[puts,i64_w,i32_w]
                   rfl
                  refine done_ (done_of HT_.out (by kernel_rfl)) ?_
                  try go_wp2
                  go_roundg k5
                  case measure=>have:=HJ1.out;have:=HJ11.out;have:=HJ20.out;have:=HJ26.out;have:=HK5.out;omega
                  case rel=>exact⟨(x4_5++(t135++t136)),(wrap64 (x48_5+1)),(by first|rfl|(simp;done)|(simp[*];done)),(by first|rfl|(simp;done)|(simp[*];done)),H',⟨by have:=HJ1.out;have:=HJ11.out;have:=HJ20.out;have:=HJ26.out;have:=HK5.out;omega⟩,⟨by(with_reducible repeat(first|refine kN ?_ _|refine kD ?_|refine kA ?_ _));exact BK124.out⟩,⟨by repeat(first|(with_reducible first|exact HB.out|apply bA|apply bN|apply bD|refine bS ?_ GE124.out|refine bS ?_ GE134.out)|exact HB.out)⟩⟩
                 ·rw[if_neg c49] at H
                  exact absurd H (by simp)
                ·rw[if_neg c48] at H
                 exact absurd H (by simp)
               ·rw[if_neg c45] at H
                exact absurd H (by simp)
              ·rw[if_neg c44] at H
               exact absurd H (by simp)
             ·rw[if_neg c43] at H
              have c43b0:decide (x48_5 < (l0_7.length:Int))=false:=decide_eq_false c43
              clear c43
              replace H:=Option.bind_eq_some_iff.mp H
              obtain⟨t137,A570,H⟩:=H
              replace H:(if x3_26.size+t137.size≤9223372036854775807 then (opts_text.j5 k5 (x3_26++t137)) else (none))=some r:=H
              have A57:=mkA A570
              clear A570
              by_cases c58:x3_26.size+t137.size≤9223372036854775807
              ·rw[if_pos c58] at H
               have c58b0:=eq_true c58
               have c58b1:decide (x3_26.size+t137.size≤9223372036854775807)=true:=decide_eq_true c58
               try have c58b2:(9223372036854775807 < x3_26.size+t137.size)=False:=eq_false (Nat.not_lt.2 c58)
               have H':=mkA H
               clear H
               go_wp2_with (first|((with_reducible refine gate_callee (f:=62) rfl ?_);refine goesL_ (some 64) rfl rfl Try.func62 (by kernel_rfl) rfl #[.int .i64 5,.string x4_5] rfl (by(try simp only[List.map_toArray,List.map_cons,List.map_nil]);first|done|rfl|(simp only[List.length_drop,List.length_take];rfl)) ?_;(with_reducible refine(opts_option.calls 5 x4_5 t137 _ A57.out).mono ?_);rintro e w59 ⟨rfl,hb⟩;refine⟨_,rfl,?_⟩;have n0_:=mkA (kB (g:=gb124) (by(with_reducible repeat(first|apply kN|apply kD|apply kA));exact BK124.out) hb);have n1_:=mkA (bT (by repeat(first|(with_reducible first|exact HB.out|apply bA|apply bN|apply bD|refine bS ?_ GE124.out)|exact HB.out)) hb);clear BK124;clear HB;have BK124:=n0_;have HB:=n1_;clear n0_ n1_;(try clear hb);(try clear hb2);(try clear hk);(try clear hi)))
               go_meet
               case rel=>exact⟨_,(x3_26++t137),(by first|rfl|(simp;done)|(simp[*];done)),H',⟨by have:=HJ1.out;have:=HJ11.out;have:=HJ20.out;have:=HJ26.out;have:=HK5.out;first|omega|exact Nat.le_refl _⟩,⟨by(with_reducible repeat(first|refine kN ?_ _|refine kD ?_|refine kA ?_ _));exact BK124.out⟩,⟨by repeat(first|(with_reducible first|exact HB.out|apply bA|apply bN|apply bD|refine bS ?_ GE124.out)|exact HB.out)⟩⟩
              ·rw[if_neg c58] at H
               exact absurd H (by simp)
          ·rw[if_neg c41] at H
           have c41b0:decide (0 < (l0_7.length:Int))=false:=decide_eq_false c41
           have c41b1:decide (0 < l0_7.length)=false:=decide_eq_false (by omega)
           clear c41
           (first|rw[c41b0]|(simp only[i64_w,i32_w];rw[c41b0])|rw[c41b1]|skip)
           have H':=mkA H
           clear H
           go_wp2
           go_meet
           case rel=>exact⟨_,(x3_26),(by first|rfl|(simp;done)|(simp[*];done)),H',⟨by have:=HJ1.out;have:=HJ11.out;have:=HJ20.out;have:=HJ26.out;first|omega|exact Nat.le_refl _⟩,⟨by(with_reducible repeat(first|refine kN ?_ _|refine kD ?_|refine kA ?_ _));exact BK124.out⟩,⟨by repeat(first|(with_reducible first|exact HB.out|apply bA|apply bN|apply bD|refine bS ?_ GE124.out)|exact HB.out)⟩⟩
         case rest =>
          clear HC39
          try clear c1;try clear p1;try clear q1;try clear hx1;try clear c2;try clear p2;try clear c3;try clear c4;try clear c5;try clear c5b0;try clear c5b1;try clear c6;try clear p6;try clear c8;try clear c8b0;try clear c8b1;try clear c8b2;try clear p13;try clear q13;try clear hx13;try clear c14;try clear c17;try clear c17b0;try clear c17b1;try clear c17b2;try clear c23;try clear c25;try clear c25b0;try clear c25b1;try clear c25b2;try clear c29;try clear c32;try clear c32b0;try clear c32b1;try clear c32b2;try clear c34;try clear c34b0;try clear c34b1;try clear c34b2;try clear c41;try clear c41b0;try clear c41b1;try clear c43;try clear c43b0;try clear c44;try clear c44b0;try clear c45;try clear c45b0;try clear c48;try clear c48b0;try clear c48b1;try clear c48b2;try clear c49;try clear c49b0;try clear c49b1;try clear c49b2;try clear c51;try clear c58;try clear c58b0;try clear c58b1;try clear c58b2;try clear hcz13_0 hcz13_1 hcz13_2 hcz13_3 hcz13_4 hcz13_5 hcz13_6 hcz13_7;try clear hcz18_0 hcz18_1 hcz18_2 hcz18_3 hcz18_4 hcz18_5 hcz18_6 hcz18_7;try clear hcz22_0 hcz22_1 hcz22_2 hcz22_3 hcz22_4 hcz22_5 hcz22_6 hcz22_7;try clear hcz28_0 hcz28_1 hcz28_2 hcz28_3 hcz28_4 hcz28_5 hcz28_6 hcz28_7;try clear hcz40_0 hcz40_1 hcz40_2 hcz40_3 hcz40_4 hcz40_5 hcz40_6 hcz40_7;try clear hcz42_0 hcz42_1 hcz42_2 hcz42_3 hcz42_4 hcz42_5 hcz42_6 hcz42_7;try clear hcz4_0 hcz4_1 hcz4_2 hcz4_3 hcz4_4 hcz4_5 hcz4_6 hcz4_7;try clear hcz52_0 hcz52_1;try clear hcz9_0 hcz9_1 hcz9_2 hcz9_3 hcz9_4 hcz9_5 hcz9_6 hcz9_7;try clear hfz13_0 hfz13_1 hfz13_2 hfz13_3 hfz13_4 hfz13_5 hfz13_6 hfz13_7;try clear hfz18_0 hfz18_1 hfz18_2 hfz18_3 hfz18_4 hfz18_5 hfz18_6 hfz18_7;try clear hfz22_0 hfz22_1 hfz22_2 hfz22_3 hfz22_4 hfz22_5 hfz22_6 hfz22_7;try clear hfz28_0 hfz28_1 hfz28_2 hfz28_3 hfz28_4 hfz28_5 hfz28_6 hfz28_7;try clear hfz40_0 hfz40_1 hfz40_2 hfz40_3 hfz40_4 hfz40_5 hfz40_6 hfz40_7;try clear hfz42_0 hfz42_1 hfz42_2 hfz42_3 hfz42_4 hfz42_5 hfz42_6 hfz42_7;try clear hfz4_0 hfz4_1 hfz4_2 hfz4_3 hfz4_4 hfz4_5 hfz4_6 hfz4_7;try clear hfz52_0 hfz52_1;try clear hfz9_0 hfz9_1 hfz9_2 hfz9_3 hfz9_4 hfz9_5 hfz9_6 hfz9_7;try clear hx133_0;try clear hx133_1;try clear p133;try clear p2;try clear q133
          obtain⟨kq,x3_38,rfl,HA,HJ38,BK124,HB⟩:=hcut
          cases kq with
          | zero=>exact absurd HA.out (by simp[opts_text.j5])
          | succ kj38 =>
           have H:=HA.out
           clear HA
           simp only[opts_text.j5] at H
           replace H:=Option.bind_eq_some_iff.mp H
           obtain⟨t138,A600,H⟩:=H
           replace H:(if x3_38.size+t138.size≤9223372036854775807 then (some (x3_38++t138)) else (none))=some r:=H
           have A60:=mkA A600
           clear A600
           by_cases c61:x3_38.size+t138.size≤9223372036854775807
           ·rw[if_pos c61] at H
            have c61b0:=eq_true c61
            have c61b1:decide (x3_38.size+t138.size≤9223372036854775807)=true:=decide_eq_true c61
            try have c61b2:(9223372036854775807 < x3_38.size+t138.size)=False:=eq_false (Nat.not_lt.2 c61)
            obtain rfl:=Option.some.inj H
            go_wp2_with (first|((with_reducible refine gate_callee (f:=64) rfl ?_);refine goesL_ (some 71) rfl rfl Try.func64 (by kernel_rfl) rfl #[.string (⟨#[0]⟩:ByteArray),.int .i64 (Go.bits .and .i64 (-(x3_38.size:Int)) 3)] rfl (by(try simp only[List.map_toArray,List.map_cons,List.map_nil]);first|done|rfl|(simp only[List.length_drop,List.length_take];rfl)) ?_;(with_reducible refine(strings_Repeat.calls (⟨#[0]⟩:ByteArray) (Go.bits .and .i64 (-(x3_38.size:Int)) 3) t138 _ A60.out).mono ?_);rintro e w62 ⟨rfl,hb⟩;refine⟨_,rfl,?_⟩;have n0_:=mkA (kB (g:=gb124) (by(with_reducible repeat(first|apply kN|apply kD|apply kA));exact BK124.out) hb);have n1_:=mkA (bT (by repeat(first|(with_reducible first|exact HB.out|apply bA|apply bN|apply bD|refine bS ?_ GE124.out)|exact HB.out)) hb);clear BK124;clear HB;have BK124:=n0_;have HB:=n1_;clear n0_ n1_;(try clear hb);(try clear hb2);(try clear hk);(try clear hi)))
            go_ret
            exact⟨by first|rfl|(simp[errW_none,errW_some] <;> rfl)|(simp[*,errW_none,errW_some] <;> rfl),by repeat(first|(with_reducible first|exact HB.out|apply bA|apply bN|apply bD|refine bS ?_ GE124.out)|exact HB.out)⟩
           ·rw[if_neg c61] at H
            exact absurd H (by simp)

end Go.Proofs.Ytakajeoeijnmhaa.PSegReads

-- Laid by this claim's own program over the print's words.
import Derived.Test.YtakajeoeijnmhaaPSegReadsx0
import Derived.Test.YtakajeoeijnmhaaPSegReadsx11
namespace Go.Proofs.Ytakajeoeijnmhaa.PSegReads
open Go.RowKit Go.Proofs.YtakajeoeijnmhaaW.PrintWords Go.Proofs.YtakajeoeijnmhaaW.PrintLast Go.Proofs.YtakajeoeijnmhaaW.PrintMore
attribute [local go_sem] max2_int min2_int max_two min_two max_three min_three max_four min_four max_five min_five extract_cut tmod_nat_lit   -- for this text's walks alone
set_option linter.unusedVariables false
set_option linter.unusedSimpArgs false

/-! ### sternpostref07_bare: function 65 -/
mutual
def sternpostref07_bare.j0:Nat→ByteArray→Int→Int→Int→Int→Bool→Bool→Bool→List (S73)→Option (ByteArray)
 | 0,_,_,_,_,_,_,_,_,_=>none
 | k+1,x3,x206000,x206001,x206002,x206003,x206004,x206005,x206006,x206007=>if x206004=true then ((sternpostref02_Text.f k x206001 1).bind fun t207=>(if 2+t207.size≤9223372036854775807 then (if x3.size+((⟨#[3,3]⟩:ByteArray)++t207).size≤9223372036854775807 then (sternpostref07_bare.j1 k (x3++((⟨#[3,3]⟩:ByteArray)++t207)) x206000 x206001 x206002 x206003 x206004 x206005 x206006 x206007) else (none)) else (none))) else (sternpostref07_bare.j1 k x3 x206000 x206001 x206002 x206003 x206004 x206005 x206006 x206007)
def sternpostref07_bare.j1:Nat→ByteArray→Int→Int→Int→Int→Bool→Bool→Bool→List (S73)→Option (ByteArray)
 | 0,_,_,_,_,_,_,_,_,_=>none
 | k+1,x3,x206000,x206001,x206002,x206003,x206004,x206005,x206006,x206007=>if x206005=true then (if x3.size+2≤9223372036854775807 then (sternpostref07_bare.j2 k (x3++(⟨#[4,2]⟩:ByteArray)) x206000 x206001 x206002 x206003 x206004 x206005 x206006 x206007) else (none)) else (sternpostref07_bare.j2 k x3 x206000 x206001 x206002 x206003 x206004 x206005 x206006 x206007)
def sternpostref07_bare.j2:Nat→ByteArray→Int→Int→Int→Int→Bool→Bool→Bool→List (S73)→Option (ByteArray)
 | 0,_,_,_,_,_,_,_,_,_=>none
 | k+1,x3,x206000,x206001,x206002,x206003,x206004,x206005,x206006,x206007=>if x206006=true then ((sternpostref02_Text.f k x206002 4).bind fun t208=>(if 2+t208.size≤9223372036854775807 then ((sternpostref02_Text.f k x206003 4).bind fun t209=>(if ((⟨#[8,10]⟩:ByteArray)++t208).size+t209.size≤9223372036854775807 then (if x3.size+(((⟨#[8,10]⟩:ByteArray)++t208)++t209).size≤9223372036854775807 then (sternpostref07_bare.j3 k (x3++(((⟨#[8,10]⟩:ByteArray)++t208)++t209)) x206000 x206001 x206002 x206003 x206004 x206005 x206006 x206007) else (none)) else (none))) else (none))) else (sternpostref07_bare.j3 k x3 x206000 x206001 x206002 x206003 x206004 x206005 x206006 x206007)
def sternpostref07_bare.j3:Nat→ByteArray→Int→Int→Int→Int→Bool→Bool→Bool→List (S73)→Option (ByteArray)
 | 0,_,_,_,_,_,_,_,_,_=>none
 | k+1,x3,x206000,x206001,x206002,x206003,x206004,x206005,x206006,x206007=>if (x206007.length:Int) > 0 then ((sternpostref02_Text.f k (wrap64 (2+(wrap64 (8 * (x206007.length:Int))))) 1).bind fun t210=>(if 1+t210.size≤9223372036854775807 then (if x3.size+((⟨#[5]⟩:ByteArray)++t210).size≤9223372036854775807 then (sternpostref07_bare.j4 k (x3++((⟨#[5]⟩:ByteArray)++t210)) x206000 x206001 x206002 x206003 x206004 x206005 x206006 x206007) else (none)) else (none))) else (sternpostref07_bare.j4 k x3 x206000 x206001 x206002 x206003 x206004 x206005 x206006 x206007)
def sternpostref07_bare.j4:Nat→ByteArray→Int→Int→Int→Int→Bool→Bool→Bool→List (S73)→Option (ByteArray)
 | 0,_,_,_,_,_,_,_,_,_=>none
 | k+1,x3,x206000,x206001,x206002,x206003,x206004,x206005,x206006,x206007=>sternpostref07_bare.l0 k x3 0 x206000 x206001 x206002 x206003 x206004 x206005 x206006 x206007
def sternpostref07_bare.l0:Nat→ByteArray→Int→Int→Int→Int→Int→Bool→Bool→Bool→List (S73)→Option (ByteArray)
 | 0,_,_,_,_,_,_,_,_,_,_=>none
 | k+1,x3,x4,x206000,x206001,x206002,x206003,x206004,x206005,x206006,x206007=>if x4 < (x206007.length:Int) then (if 0≤x4 then ((sternpostref02_Text.f k ((rd_T73 x206007 x4).f0) 4).bind fun t212=>((sternpostref02_Text.f k ((rd_T73 x206007 x4).f1) 4).bind fun t214=>(if t212.size+t214.size≤9223372036854775807 then (if x3.size+(t212++t214).size≤9223372036854775807 then (sternpostref07_bare.l0 k (x3++(t212++t214)) (wrap64 (x4+1)) x206000 x206001 x206002 x206003 x206004 x206005 x206006 x206007) else (none)) else (none)))) else (none)) else (some x3)
end
def sternpostref07_bare.f (k:Nat) (a0_0:Int) (a0_1:Int) (a0_2:Int) (a0_3:Int) (a0_4:Bool) (a0_5:Bool) (a0_6:Bool) (l0_7:List (S73)):Option (ByteArray):=if a0_0=0 then (sternpostref07_bare.j0 k (⟨#[]⟩:ByteArray) a0_0 a0_1 a0_2 a0_3 a0_4 a0_5 a0_6 l0_7) else ((sternpostref02_Text.f k a0_0 2).bind fun t206=>(if 2+t206.size≤9223372036854775807 then (if 0+((⟨#[2,4]⟩:ByteArray)++t206).size≤9223372036854775807 then (sternpostref07_bare.j0 k ((⟨#[]⟩:ByteArray)++((⟨#[2,4]⟩:ByteArray)++t206)) a0_0 a0_1 a0_2 a0_3 a0_4 a0_5 a0_6 l0_7) else (none)) else (none)))
theorem sternpostref07_bare.mono_l:∀ k,(∀ y0 y1 y2 y3 y4 y5 y6 y7 y8,LeO (sternpostref07_bare.j0 k y0 y1 y2 y3 y4 y5 y6 y7 y8) (sternpostref07_bare.j0 (k+1) y0 y1 y2 y3 y4 y5 y6 y7 y8))∧(∀ y0 y1 y2 y3 y4 y5 y6 y7 y8,LeO (sternpostref07_bare.j1 k y0 y1 y2 y3 y4 y5 y6 y7 y8) (sternpostref07_bare.j1 (k+1) y0 y1 y2 y3 y4 y5 y6 y7 y8))∧(∀ y0 y1 y2 y3 y4 y5 y6 y7 y8,LeO (sternpostref07_bare.j2 k y0 y1 y2 y3 y4 y5 y6 y7 y8) (sternpostref07_bare.j2 (k+1) y0 y1 y2 y3 y4 y5 y6 y7 y8))∧(∀ y0 y1 y2 y3 y4 y5 y6 y7 y8,LeO (sternpostref07_bare.j3 k y0 y1 y2 y3 y4 y5 y6 y7 y8) (sternpostref07_bare.j3 (k+1) y0 y1 y2 y3 y4 y5 y6 y7 y8))∧(∀ y0 y1 y2 y3 y4 y5 y6 y7 y8,LeO (sternpostref07_bare.j4 k y0 y1 y2 y3 y4 y5 y6 y7 y8) (sternpostref07_bare.j4 (k+1) y0 y1 y2 y3 y4 y5 y6 y7 y8))∧(∀ y0 y1 y2 y3 y4 y5 y6 y7 y8 y9,LeO (sternpostref07_bare.l0 k y0 y1 y2 y3 y4 y5 y6 y7 y8 y9) (sternpostref07_bare.l0 (k+1) y0 y1 y2 y3 y4 y5 y6 y7 y8 y9))
 | 0=>⟨fun _ _ _ _ _ _ _ _ _ r h=>by simp[sternpostref07_bare.j0] at h,fun _ _ _ _ _ _ _ _ _ r h=>by simp[sternpostref07_bare.j1] at h,fun _ _ _ _ _ _ _ _ _ r h=>by simp[sternpostref07_bare.j2] at h,fun _ _ _ _ _ _ _ _ _ r h=>by simp[sternpostref07_bare.j3] at h,fun _ _ _ _ _ _ _ _ _ r h=>by simp[sternpostref07_bare.j4] at h,fun _ _ _ _ _ _ _ _ _ _ r h=>by simp[sternpostref07_bare.l0] at h⟩
 | k+1=>by
  obtain⟨ih0,ih1,ih2,ih3,ih4,ih5⟩:=sternpostref07_bare.mono_l k
  refine⟨?_,?_,?_,?_,?_,?_⟩
  ·intro y0 y1 y2 y3 y4 y5 y6 y7 y8
   unfold sternpostref07_bare.j0
   repeat' first
   | (with_reducible exact ih0 _ _ _ _ _ _ _ _ _)
   | (with_reducible exact ih1 _ _ _ _ _ _ _ _ _)
   | (with_reducible exact ih2 _ _ _ _ _ _ _ _ _)
   | (with_reducible exact ih3 _ _ _ _ _ _ _ _ _)
   | (with_reducible exact ih4 _ _ _ _ _ _ _ _ _)
   | (with_reducible exact ih5 _ _ _ _ _ _ _ _ _ _)
   | (with_reducible exact sternpostref02_Text.mono _ _ _)
   | (with_reducible exact LeO.refl _)
   | (with_reducible exact LeO.none _)
   | (with_reducible refine LeO.ite ?_ ?_)
   | (with_reducible refine LeO.bind ?_ (fun _=>?_))
   | exact ih0 _ _ _ _ _ _ _ _ _
   | exact ih1 _ _ _ _ _ _ _ _ _
   | exact ih2 _ _ _ _ _ _ _ _ _
   | exact ih3 _ _ _ _ _ _ _ _ _
   | exact ih4 _ _ _ _ _ _ _ _ _
   | exact ih5 _ _ _ _ _ _ _ _ _ _
   | exact sternpostref02_Text.mono _ _ _
   | exact LeO.none _
   | refine LeO.ite ?_ ?_
   | refine LeO.bind ?_ (fun _=>?_)
  ·intro y0 y1 y2 y3 y4 y5 y6 y7 y8
   unfold sternpostref07_bare.j1
   repeat' first
   | (with_reducible exact ih0 _ _ _ _ _ _ _ _ _)
   | (with_reducible exact ih1 _ _ _ _ _ _ _ _ _)
   | (with_reducible exact ih2 _ _ _ _ _ _ _ _ _)
   | (with_reducible exact ih3 _ _ _ _ _ _ _ _ _)
   | (with_reducible exact ih4 _ _ _ _ _ _ _ _ _)
   | (with_reducible exact ih5 _ _ _ _ _ _ _ _ _ _)
   | (with_reducible exact sternpostref02_Text.mono _ _ _)
   | (with_reducible exact LeO.refl _)
   | (with_reducible exact LeO.none _)
   | (with_reducible refine LeO.ite ?_ ?_)
   | (with_reducible refine LeO.bind ?_ (fun _=>?_))
   | exact ih0 _ _ _ _ _ _ _ _ _
   | exact ih1 _ _ _ _ _ _ _ _ _
   | exact ih2 _ _ _ _ _ _ _ _ _
   | exact ih3 _ _ _ _ _ _ _ _ _
   | exact ih4 _ _ _ _ _ _ _ _ _
   | exact ih5 _ _ _ _ _ _ _ _ _ _
   | exact sternpostref02_Text.mono _ _ _
   | exact LeO.none _
   | refine LeO.ite ?_ ?_
   | refine LeO.bind ?_ (fun _=>?_)
  ·intro y0 y1 y2 y3 y4 y5 y6 y7 y8
   unfold sternpostref07_bare.j2
   repeat' first
   | (with_reducible exact ih0 _ _ _ _ _ _ _ _ _)
   | (with_reducible exact ih1 _ _ _ _ _ _ _ _ _)
   | (with_reducible exact ih2 _ _ _ _ _ _ _ _ _)
   | (with_reducible exact ih3 _ _ _ _ _ _ _ _ _)
   | (with_reducible exact ih4 _ _ _ _ _ _ _ _ _)
   | (with_reducible exact ih5 _ _ _ _ _ _ _ _ _ _)
   | (with_reducible exact sternpostref02_Text.mono _ _ _)
   | (with_reducible exact LeO.refl _)
   | (with_reducible exact LeO.none _)
   | (with_reducible refine LeO.ite ?_ ?_)
   | (with_reducible refine LeO.bind ?_ (fun _=>?_))
   | exact ih0 _ _ _ _ _ _ _ _ _
   | exact ih1 _ _ _ _ _ _ _ _ _
   | exact ih2 _ _ _ _ _ _ _ _ _
   | exact ih3 _ _ _ _ _ _ _ _ _
   | exact ih4 _ _ _ _ _ _ _ _ _
   | exact ih5 _ _ _ _ _ _ _ _ _ _
   | exact sternpostref02_Text.mono _ _ _
   | exact LeO.none _
   | refine LeO.ite ?_ ?_
   | refine LeO.bind ?_ (fun _=>?_)
  ·intro y0 y1 y2 y3 y4 y5 y6 y7 y8
   unfold sternpostref07_bare.j3
   repeat' first
   | (with_reducible exact ih0 _ _ _ _ _ _ _ _ _)
   | (with_reducible exact ih1 _ _ _ _ _ _ _ _ _)
   | (with_reducible exact ih2 _ _ _ _ _ _ _ _ _)
   | (with_reducible exact ih3 _ _ _ _ _ _ _ _ _)
   | (with_reducible exact ih4 _ _ _ _ _ _ _ _ _)
   | (with_reducible exact ih5 _ _ _ _ _ _ _ _ _ _)
   | (with_reducible exact sternpostref02_Text.mono _ _ _)
   | (with_reducible exact LeO.refl _)
   | (with_reducible exact LeO.none _)
   | (with_reducible refine LeO.ite ?_ ?_)
   | (with_reducible refine LeO.bind ?_ (fun _=>?_))
   | exact ih0 _ _ _ _ _ _ _ _ _
   | exact ih1 _ _ _ _ _ _ _ _ _
   | exact ih2 _ _ _ _ _ _ _ _ _
   | exact ih3 _ _ _ _ _ _ _ _ _
   | exact ih4 _ _ _ _ _ _ _ _ _
   | exact ih5 _ _ _ _ _ _ _ _ _ _
   | exact sternpostref02_Text.mono _ _ _
   | exact LeO.none _
   | refine LeO.ite ?_ ?_
   | refine LeO.bind ?_ (fun _=>?_)
  ·intro y0 y1 y2 y3 y4 y5 y6 y7 y8
   unfold sternpostref07_bare.j4
   repeat' first
   | (with_reducible exact ih0 _ _ _ _ _ _ _ _ _)
   | (with_reducible exact ih1 _ _ _ _ _ _ _ _ _)
   | (with_reducible exact ih2 _ _ _ _ _ _ _ _ _)
   | (with_reducible exact ih3 _ _ _ _ _ _ _ _ _)
   | (with_reducible exact ih4 _ _ _ _ _ _ _ _ _)
   | (with_reducible exact ih5 _ _ _ _ _ _ _ _ _ _)
   | (with_reducible exact sternpostref02_Text.mono _ _ _)
   | (with_reducible exact LeO.refl _)
   | (with_reducible exact LeO.none _)
   | (with_reducible refine LeO.ite ?_ ?_)
   | (with_reducible refine LeO.bind ?_ (fun _=>?_))
   | exact ih0 _ _ _ _ _ _ _ _ _
   | exact ih1 _ _ _ _ _ _ _ _ _
   | exact ih2 _ _ _ _ _ _ _ _ _
   | exact ih3 _ _ _ _ _ _ _ _ _
   | exact ih4 _ _ _ _ _ _ _ _ _
   | exact ih5 _ _ _ _ _ _ _ _ _ _
   | exact sternpostref02_Text.mono _ _ _
   | exact LeO.none _
   | refine LeO.ite ?_ ?_
   | refine LeO.bind ?_ (fun _=>?_)
  ·intro y0 y1 y2 y3 y4 y5 y6 y7 y8 y9
   unfold sternpostref07_bare.l0
   repeat' first
   | (with_reducible exact ih0 _ _ _ _ _ _ _ _ _)
   | (with_reducible exact ih1 _ _ _ _ _ _ _ _ _)
   | (with_reducible exact ih2 _ _ _ _ _ _ _ _ _)
   | (with_reducible exact ih3 _ _ _ _ _ _ _ _ _)
   | (with_reducible exact ih4 _ _ _ _ _ _ _ _ _)
   | (with_reducible exact ih5 _ _ _ _ _ _ _ _ _ _)
   | (with_reducible exact sternpostref02_Text.mono _ _ _)
   | (with_reducible exact LeO.refl _)
   | (with_reducible exact LeO.none _)
   | (with_reducible refine LeO.ite ?_ ?_)
   | (with_reducible refine LeO.bind ?_ (fun _=>?_))
   | exact ih0 _ _ _ _ _ _ _ _ _
   | exact ih1 _ _ _ _ _ _ _ _ _
   | exact ih2 _ _ _ _ _ _ _ _ _
   | exact ih3 _ _ _ _ _ _ _ _ _
   | exact ih4 _ _ _ _ _ _ _ _ _
   | exact ih5 _ _ _ _ _ _ _ _ _ _
   | exact sternpostref02_Text.mono _ _ _
   | exact LeO.none _
   | refine LeO.ite ?_ ?_
   | refine LeO.bind ?_ (fun _=>?_)
theorem sternpostref07_bare.mono:∀ a0 a1 a2 a3 a4 a5 a6 a7 k,LeO (sternpostref07_bare.f k a0 a1 a2 a3 a4 a5 a6 a7) (sternpostref07_bare.f (k+1) a0 a1 a2 a3 a4 a5 a6 a7):=by
 intro a0 a1 a2 a3 a4 a5 a6 a7 k
 obtain⟨ih0,ih1,ih2,ih3,ih4,ih5⟩:=sternpostref07_bare.mono_l k
 unfold sternpostref07_bare.f
 repeat' first
   | (with_reducible exact ih0 _ _ _ _ _ _ _ _ _)
   | (with_reducible exact ih1 _ _ _ _ _ _ _ _ _)
   | (with_reducible exact ih2 _ _ _ _ _ _ _ _ _)
   | (with_reducible exact ih3 _ _ _ _ _ _ _ _ _)
   | (with_reducible exact ih4 _ _ _ _ _ _ _ _ _)
   | (with_reducible exact ih5 _ _ _ _ _ _ _ _ _ _)
   | (with_reducible exact sternpostref02_Text.mono _ _ _)
   | (with_reducible exact LeO.refl _)
   | (with_reducible exact LeO.none _)
   | (with_reducible refine LeO.ite ?_ ?_)
   | (with_reducible refine LeO.bind ?_ (fun _=>?_))
   | exact ih0 _ _ _ _ _ _ _ _ _
   | exact ih1 _ _ _ _ _ _ _ _ _
   | exact ih2 _ _ _ _ _ _ _ _ _
   | exact ih3 _ _ _ _ _ _ _ _ _
   | exact ih4 _ _ _ _ _ _ _ _ _
   | exact ih5 _ _ _ _ _ _ _ _ _ _
   | exact sternpostref02_Text.mono _ _ _
   | exact LeO.none _
   | refine LeO.ite ?_ ?_
   | refine LeO.bind ?_ (fun _=>?_)
def sternpostref07_bare.T9:Bool × List (List Nat × List Nat):=(true,[([],[]),([],[]),([1],[1]),([2],[2]),([3],[3]),([],[]),([5],[5]),([6,3],[6]),([4,7],[4,7]),([0,8],[0,8]),([9,7,0,1,2,3,4,5,6,7,8,9],[0,9])])
def sternpostref07_bare.B9:List Nat:=[0,0,2,6,14,0,32,110,254,511,1023]
theorem sternpostref07_bare.tab9:rtab .any (opsOf Try.f65 9)=sternpostref07_bare.T9:=by kernel_rfl
theorem sternpostref07_bare.bits9:waitsOk sternpostref07_bare.T9.2 sternpostref07_bare.B9=true:=by kernel_rfl
def sternpostref07_bare.T15:Bool × List (List Nat × List Nat):=(true,[([],[]),([],[]),([1],[1]),([],[]),([2,3],[2,3]),([4],[4]),([5],[5]),([6],[6]),([],[]),([8],[8]),([],[]),([9,10],[9,10]),([11],[11]),([12],[12]),([13,7],[13]),([7,14],[7,14]),([0,15],[0,15]),([16,14,0,1,2,3,4,5,6,7,8,9,10,11,12,13,14,15,16],[0,16])])
def sternpostref07_bare.B15:List Nat:=[0,0,2,0,14,30,62,126,0,256,0,1792,3840,7936,16382,32766,65535,131071]
theorem sternpostref07_bare.tab15:rtab .any (opsOf Try.f65 15)=sternpostref07_bare.T15:=by kernel_rfl
theorem sternpostref07_bare.bits15:waitsOk sternpostref07_bare.T15.2 sternpostref07_bare.B15=true:=by kernel_rfl
set_option maxHeartbeats 8000000 in
set_option maxRecDepth 100000 in
theorem sternpostref07_bare.calls (k:Nat) (a0_0:Int) (a0_1:Int) (a0_2:Int) (a0_3:Int) (a0_4:Bool) (a0_5:Bool) (a0_6:Bool) (A0_7:Option Addr) (c0_7:Nat) (l0_7:List (S73)) (r:ByteArray) (w:World) (hr0_7:Kd.C k73 w A0_7 l0_7.length l0_7) (hc0_7:l0_7.length≤c0_7) (h:sternpostref07_bare.f k a0_0 a0_1 a0_2 a0_3 a0_4 a0_5 a0_6 l0_7=some r) :
  Calls Try.prog 65 #[.agg #[.int .i64 a0_0,.int .i64 a0_1,.int .i64 a0_2,.int .i64 a0_3,.bool a0_4,.bool a0_5,.bool a0_6,.slice A0_7 l0_7.length c0_7]] w fun e w'=>e=.returned (.string r)∧Below w.heap.size w w':=by
 have hu24:=Try.underlying24
 have HR0_7:=mkA hr0_7
 have HC0_7:=mkA hc0_7
 clear hr0_7 hc0_7
 have HB:=mkA (Below.refl w.heap.size w)
 have H:(if a0_0=0 then (sternpostref07_bare.j0 k (⟨#[]⟩:ByteArray) a0_0 a0_1 a0_2 a0_3 a0_4 a0_5 a0_6 l0_7) else ((sternpostref02_Text.f k a0_0 2).bind fun t206=>(if 2+t206.size≤9223372036854775807 then (if 0+((⟨#[2,4]⟩:ByteArray)++t206).size≤9223372036854775807 then (sternpostref07_bare.j0 k ((⟨#[]⟩:ByteArray)++((⟨#[2,4]⟩:ByteArray)++t206)) a0_0 a0_1 a0_2 a0_3 a0_4 a0_5 a0_6 l0_7) else (none)) else (none))))=some r:=h
 clear h
 have HC2:=mkA H
 clear H
 go_enter Try.func65,Try.ntmps65
 go_upto_if 7 with (first|((with_reducible refine gate_dst (N:=1) rfl ?_);refine box_event ?hg (N:=1) ?hd (cs:=#[.int .i64 a0_0,.int .i64 a0_1,.int .i64 a0_2,.int .i64 a0_3,.bool a0_4,.bool a0_5,.bool a0_6,.slice A0_7 l0_7.length c0_7]) (t:=24) ?hr ?_;(case hd=>rfl);(case hg=>rfl);(case hr=>first|(go_simp;done)|(go_simp;rfl));intro gb205 hg w3 hbox hb;have n0_:=mkA (bT (by repeat(first|(with_reducible first|exact HB.out|apply bA|apply bN|apply bD)|exact HB.out)) hb);have n1_:=mkA (hbox);have n2_:=mkA ((by rw[hg];exact(bZ (by repeat(first|(with_reducible first|exact HB.out|apply bA|apply bN|apply bD)|exact HB.out))):w.heap.size≤gb205));have n3_:=mkA ((by rw[hg];exact(bZ (by repeat(first|(with_reducible first|exact HB.out|apply bA|apply bN|apply bD)|exact HB.out))):w.heap.size≤gb205));clear HB;have HB:=n0_;have BK205:=n1_;have GW205:=n2_;have GE205:=n3_;clear n0_ n1_ n2_ n3_;clear hb hbox hg;obtain⟨hcz4_0,hcz4_1,hcz4_2,hcz4_3,hcz4_4,hcz4_5,hcz4_6,hcz4_7⟩:=blk_cells8 BK205.out;obtain⟨hfz4_0,hfz4_1,hfz4_2,hfz4_3,hfz4_4,hfz4_5,hfz4_6,hfz4_7⟩:=blk_frozens8 BK205.out))
 (try simp only[puts])
 go_cut [3] (fun v3 wc=>∃ (kq:Nat) (x3_1:ByteArray),v3=.string x3_1∧Aside0 (sternpostref07_bare.j0 kq x3_1 a0_0 a0_1 a0_2 a0_3 a0_4 a0_5 a0_6 l0_7=some r)∧Aside0 (kq≤k)∧Aside0 (wc.heap[gb205]?=some (.cells #[.int .i64 a0_0,.int .i64 a0_1,.int .i64 a0_2,.int .i64 a0_3,.bool a0_4,.bool a0_5,.bool a0_6,(.slice A0_7 l0_7.length c0_7)] 24 (0,0)))∧Aside0 (Below w.heap.size w wc))
 case first =>
  have H:=HC2.out
  clear HC2
  by_cases c5:a0_0=0
  ·rw[if_pos c5] at H
   have c5b0:(a0_0 == 0)=true:=beq_iff_eq.mpr c5
   have c5b1:(a0_0 != 0)=false:=bne_eq_false_iff_eq.mpr c5
   clear c5
   (first|rw[c5b0]|(simp only[i64_w,i32_w];rw[c5b0])|rw[c5b1]|skip)
   have H':=mkA H
   clear H
   go_wp2
   go_meet
   case rel=>exact⟨_,((⟨#[]⟩:ByteArray)),(by first|rfl|(simp;done)|(simp[*];done)),H',⟨by first|omega|exact Nat.le_refl _⟩,⟨by(with_reducible repeat(first|refine kN ?_ _|refine kD ?_|refine kA ?_ _));exact BK205.out⟩,⟨by repeat(first|(with_reducible first|exact HB.out|apply bA|apply bN|apply bD|refine bS ?_ GE205.out)|exact HB.out)⟩⟩
  ·rw[if_neg c5] at H
   have c5b0:(a0_0 == 0)=false:=beq_eq_false_iff_ne.mpr c5
   have c5b1:(a0_0 != 0)=true:=bne_iff_ne.mpr c5
   (first|rw[c5b0]|(simp only[i64_w,i32_w];rw[c5b0])|rw[c5b1]|skip)
   replace H:=Option.bind_eq_some_iff.mp H
   obtain⟨t206,A60,H⟩:=H
   replace H:(if 2+t206.size≤9223372036854775807 then (if 0+((⟨#[2,4]⟩:ByteArray)++t206).size≤9223372036854775807 then (sternpostref07_bare.j0 k ((⟨#[]⟩:ByteArray)++((⟨#[2,4]⟩:ByteArray)++t206)) a0_0 a0_1 a0_2 a0_3 a0_4 a0_5 a0_6 l0_7) else (none)) else (none))=some r:=H
   have A6:=mkA A60
   clear A60
   by_cases c7:2+t206.size≤9223372036854775807
   ·rw[if_pos c7] at H
    have c7b0:=eq_true c7
    have c7b1:decide (2+t206.size≤9223372036854775807)=true:=decide_eq_true c7
    try have c7b2:(9223372036854775807 < 2+t206.size)=False:=eq_false (Nat.not_lt.2 c7)
    by_cases c8:0+((⟨#[2,4]⟩:ByteArray)++t206).size≤9223372036854775807
    ·rw[if_pos c8] at H
     have c8b0:=eq_true c8
     have c8b1:decide (0+((⟨#[2,4]⟩:ByteArray)++t206).size≤9223372036854775807)=true:=decide_eq_true c8
     try have c8b2:(9223372036854775807 < 0+((⟨#[2,4]⟩:ByteArray)++t206).size)=False:=eq_false (Nat.not_lt.2 c8)
     (try(have c8b3:=c8b2;simp only[ByteArray.size_append] at c8b3))
     have H':=mkA H
     clear H
     obtain⟨hcz9_0,hcz9_1,hcz9_2,hcz9_3,hcz9_4,hcz9_5,hcz9_6,hcz9_7⟩:=blk_cells8 BK205.out
     obtain⟨hfz9_0,hfz9_1,hfz9_2,hfz9_3,hfz9_4,hfz9_5,hfz9_6,hfz9_7⟩:=blk_frozens8 BK205.out
     go_wp2_with (first|((with_reducible refine gate_callee (f:=55) rfl ?_);refine goesL_ (some 11) rfl rfl Try.func55 (by kernel_rfl) rfl #[.int .i64 a0_0,.int .i64 2] rfl (by(try simp only[List.map_toArray,List.map_cons,List.map_nil]);first|done|rfl|(simp only[List.length_drop,List.length_take];rfl)) ?_;(with_reducible refine(sternpostref02_Text.calls k a0_0 2 t206 _ A6.out).mono ?_);rintro e w10 ⟨rfl,hb⟩;refine⟨_,rfl,?_⟩;have n0_:=mkA (kB (g:=gb205) (by(with_reducible repeat(first|apply kN|apply kD|apply kA));exact BK205.out) hb);have n1_:=mkA (bT (by repeat(first|(with_reducible first|exact HB.out|apply bA|apply bN|apply bD|refine bS ?_ GE205.out)|exact HB.out)) hb);clear BK205;clear HB;have BK205:=n0_;have HB:=n1_;clear n0_ n1_;(try clear hb);(try clear hb2);(try clear hk);(try clear hi)))
     go_meet
     case rel=>exact⟨_,((⟨#[]⟩:ByteArray)++((⟨#[2,4]⟩:ByteArray)++t206)),(by first|rfl|(simp;done)|(simp[*];done)),H',⟨by first|omega|exact Nat.le_refl _⟩,⟨by(with_reducible repeat(first|refine kN ?_ _|refine kD ?_|refine kA ?_ _));exact BK205.out⟩,⟨by repeat(first|(with_reducible first|exact HB.out|apply bA|apply bN|apply bD|refine bS ?_ GE205.out)|exact HB.out)⟩⟩
    ·rw[if_neg c8] at H
     exact absurd H (by simp)
   ·rw[if_neg c7] at H
    exact absurd H (by simp)
 case rest =>
  clear HC2
  try clear p2;try clear c5;try clear c5b0;try clear c5b1;try clear c6;try clear c7;try clear c7b0;try clear c7b1;try clear c7b2;try clear c8;try clear c8b0;try clear c8b1;try clear c8b2;try clear hcz4_0 hcz4_1 hcz4_2 hcz4_3 hcz4_4 hcz4_5 hcz4_6 hcz4_7;try clear hcz9_0 hcz9_1 hcz9_2 hcz9_3 hcz9_4 hcz9_5 hcz9_6 hcz9_7;try clear hfz4_0 hfz4_1 hfz4_2 hfz4_3 hfz4_4 hfz4_5 hfz4_6 hfz4_7;try clear hfz9_0 hfz9_1 hfz9_2 hfz9_3 hfz9_4 hfz9_5 hfz9_6 hfz9_7
  obtain⟨kq,x3_1,rfl,HA,HJ1,BK205,HB⟩:=hcut
  cases kq with
  | zero=>exact absurd HA.out (by simp[sternpostref07_bare.j0])
  | succ kj1 =>
   have H:=HA.out
   clear HA
   simp only[sternpostref07_bare.j0] at H
   have HC11:=mkA H
   clear H
   obtain⟨hcz12_0,hcz12_1,hcz12_2,hcz12_3,hcz12_4,hcz12_5,hcz12_6,hcz12_7⟩:=blk_cells8 BK205.out
   obtain⟨hfz12_0,hfz12_1,hfz12_2,hfz12_3,hfz12_4,hfz12_5,hfz12_6,hfz12_7⟩:=blk_frozens8 BK205.out
   go_upto_if 15 with (fail)
   go_cut [3] (fun v3 wc=>∃ (kq:Nat) (x3_10:ByteArray),v3=.string x3_10∧Aside0 (sternpostref07_bare.j1 kq x3_10 a0_0 a0_1 a0_2 a0_3 a0_4 a0_5 a0_6 l0_7=some r)∧Aside0 (kq≤kj1)∧Aside0 (wc.heap[gb205]?=some (.cells #[.int .i64 a0_0,.int .i64 a0_1,.int .i64 a0_2,.int .i64 a0_3,.bool a0_4,.bool a0_5,.bool a0_6,(.slice A0_7 l0_7.length c0_7)] 24 (0,0)))∧Aside0 (Below w.heap.size w wc))
   case first =>
    have H:=HC11.out
    clear HC11
    by_cases c13:a0_4=true
    ·subst c13
     have H1:((sternpostref02_Text.f kj1 a0_1 1).bind fun t207=>(if 2+t207.size≤9223372036854775807 then (if x3_1.size+((⟨#[3,3]⟩:ByteArray)++t207).size≤9223372036854775807 then (sternpostref07_bare.j1 kj1 (x3_1++((⟨#[3,3]⟩:ByteArray)++t207)) a0_0 a0_1 a0_2 a0_3 true a0_5 a0_6 l0_7) else (none)) else (none)))=some r:=by rw[if_pos rfl] at H;exact H
     clear H
     have H:=H1
     clear H1
     replace H:=Option.bind_eq_some_iff.mp H
     obtain⟨t207,A140,H⟩:=H
     replace H:(if 2+t207.size≤9223372036854775807 then (if x3_1.size+((⟨#[3,3]⟩:ByteArray)++t207).size≤9223372036854775807 then (sternpostref07_bare.j1 kj1 (x3_1++((⟨#[3,3]⟩:ByteArray)++t207)) a0_0 a0_1 a0_2 a0_3 true a0_5 a0_6 l0_7) else (none)) else (none))=some r:=H
     have A14:=mkA A140
     clear A140
     by_cases c15:2+t207.size≤9223372036854775807
     ·rw[if_pos c15] at H
      have c15b0:=eq_true c15
      have c15b1:decide (2+t207.size≤9223372036854775807)=true:=decide_eq_true c15
      try have c15b2:(9223372036854775807 < 2+t207.size)=False:=eq_false (Nat.not_lt.2 c15)
      by_cases c16:x3_1.size+((⟨#[3,3]⟩:ByteArray)++t207).size≤9223372036854775807
      ·rw[if_pos c16] at H
       have c16b0:=eq_true c16
       have c16b1:decide (x3_1.size+((⟨#[3,3]⟩:ByteArray)++t207).size≤9223372036854775807)=true:=decide_eq_true c16
       try have c16b2:(9223372036854775807 < x3_1.size+((⟨#[3,3]⟩:ByteArray)++t207).size)=False:=eq_false (Nat.not_lt.2 c16)
       (try(have c16b3:=c16b2;simp only[ByteArray.size_append] at c16b3))
       have H':=mkA H
       clear H
       obtain⟨hcz17_0,hcz17_1,hcz17_2,hcz17_3,hcz17_4,hcz17_5,hcz17_6,hcz17_7⟩:=blk_cells8 BK205.out
       obtain⟨hfz17_0,hfz17_1,hfz17_2,hfz17_3,hfz17_4,hfz17_5,hfz17_6,hfz17_7⟩:=blk_frozens8 BK205.out
       go_wp2_with (first|((with_reducible refine gate_callee (f:=55) rfl ?_);refine goesL_ (some 19) rfl rfl Try.func55 (by kernel_rfl) rfl #[.int .i64 a0_1,.int .i64 1] rfl (by(try simp only[List.map_toArray,List.map_cons,List.map_nil]);first|done|rfl|(simp only[List.length_drop,List.length_take];rfl)) ?_;(with_reducible refine(sternpostref02_Text.calls kj1 a0_1 1 t207 _ A14.out).mono ?_);rintro e w18 ⟨rfl,hb⟩;refine⟨_,rfl,?_⟩;have n0_:=mkA (kB (g:=gb205) (by(with_reducible repeat(first|apply kN|apply kD|apply kA));exact BK205.out) hb);have n1_:=mkA (bT (by repeat(first|(with_reducible first|exact HB.out|apply bA|apply bN|apply bD|refine bS ?_ GE205.out)|exact HB.out)) hb);clear BK205;clear HB;have BK205:=n0_;have HB:=n1_;clear n0_ n1_;(try clear hb);(try clear hb2);(try clear hk);(try clear hi)))
       go_meet
       case rel=>exact⟨_,(x3_1++((⟨#[3,3]⟩:ByteArray)++t207)),(by first|rfl|(simp;done)|(simp[*];done)),H',⟨by have:=HJ1.out;first|omega|exact Nat.le_refl _⟩,⟨by(with_reducible repeat(first|refine kN ?_ _|refine kD ?_|refine kA ?_ _));exact BK205.out⟩,⟨by repeat(first|(with_reducible first|exact HB.out|apply bA|apply bN|apply bD|refine bS ?_ GE205.out)|exact HB.out)⟩⟩
      ·rw[if_neg c16] at H
       exact absurd H (by simp)
     ·rw[if_neg c15] at H
      exact absurd H (by simp)
    ·replace c13:=Bool.eq_false_iff.mpr c13
     subst c13
     have H1:(sternpostref07_bare.j1 kj1 x3_1 a0_0 a0_1 a0_2 a0_3 false a0_5 a0_6 l0_7)=some r:=by rw[if_neg (show ¬ (false=true) by decide)] at H;exact H
     clear H
     have H:=H1
     clear H1
     have H':=mkA H
     clear H
     go_wp2
     go_meet
     case rel=>exact⟨_,(x3_1),(by first|rfl|(simp;done)|(simp[*];done)),H',⟨by have:=HJ1.out;first|omega|exact Nat.le_refl _⟩,⟨by(with_reducible repeat(first|refine kN ?_ _|refine kD ?_|refine kA ?_ _));exact BK205.out⟩,⟨by repeat(first|(with_reducible first|exact HB.out|apply bA|apply bN|apply bD|refine bS ?_ GE205.out)|exact HB.out)⟩⟩
   case rest =>
    clear HC11
    try clear c1;try clear p2;try clear c5;try clear c5b0;try clear c5b1;try clear c6;try clear c7;try clear c7b0;try clear c7b1;try clear c7b2;try clear c8;try clear c8b0;try clear c8b1;try clear c8b2;try clear c13;try clear c15;try clear c15b0;try clear c15b1;try clear c15b2;try clear c16;try clear c16b0;try clear c16b1;try clear c16b2;try clear hcz12_0 hcz12_1 hcz12_2 hcz12_3 hcz12_4 hcz12_5 hcz12_6 hcz12_7;try clear hcz17_0 hcz17_1 hcz17_2 hcz17_3 hcz17_4 hcz17_5 hcz17_6 hcz17_7;try clear hcz4_0 hcz4_1 hcz4_2 hcz4_3 hcz4_4 hcz4_5 hcz4_6 hcz4_7;try clear hcz9_0 hcz9_1 hcz9_2 hcz9_3 hcz9_4 hcz9_5 hcz9_6 hcz9_7;try clear hfz12_0 hfz12_1 hfz12_2 hfz12_3 hfz12_4 hfz12_5 hfz12_6 hfz12_7;try clear hfz17_0 hfz17_1 hfz17_2 hfz17_3 hfz17_4 hfz17_5 hfz17_6 hfz17_7;try clear hfz4_0 hfz4_1 hfz4_2 hfz4_3 hfz4_4 hfz4_5 hfz4_6 hfz4_7;try clear hfz9_0 hfz9_1 hfz9_2 hfz9_3 hfz9_4 hfz9_5 hfz9_6 hfz9_7;try clear p2
    obtain⟨kq,x3_10,rfl,HA,HJ10,BK205,HB⟩:=hcut
    cases kq with
    | zero=>exact absurd HA.out (by simp[sternpostref07_bare.j1])
    | succ kj10 =>
     have H:=HA.out
     clear HA
     simp only[sternpostref07_bare.j1] at H
     have HC19:=mkA H
     clear H
     obtain⟨hcz20_0,hcz20_1,hcz20_2,hcz20_3,hcz20_4,hcz20_5,hcz20_6,hcz20_7⟩:=blk_cells8 BK205.out
     obtain⟨hfz20_0,hfz20_1,hfz20_2,hfz20_3,hfz20_4,hfz20_5,hfz20_6,hfz20_7⟩:=blk_frozens8 BK205.out
     go_upto_if 23 with (fail)
     go_cut [3] (fun v3 wc=>∃ (kq:Nat) (x3_18:ByteArray),v3=.string x3_18∧Aside0 (sternpostref07_bare.j2 kq x3_18 a0_0 a0_1 a0_2 a0_3 a0_4 a0_5 a0_6 l0_7=some r)∧Aside0 (kq≤kj10)∧Aside0 (wc.heap[gb205]?=some (.cells #[.int .i64 a0_0,.int .i64 a0_1,.int .i64 a0_2,.int .i64 a0_3,.bool a0_4,.bool a0_5,.bool a0_6,(.slice A0_7 l0_7.length c0_7)] 24 (0,0)))∧Aside0 (Below w.heap.size w wc))
     case first =>
      have H:=HC19.out
      clear HC19
      by_cases c21:a0_5=true
      ·subst c21
       have H1:(if x3_10.size+2≤9223372036854775807 then (sternpostref07_bare.j2 kj10 (x3_10++(⟨#[4,2]⟩:ByteArray)) a0_0 a0_1 a0_2 a0_3 a0_4 true a0_6 l0_7) else (none))=some r:=by rw[if_pos rfl] at H;exact H
       clear H
       have H:=H1
       clear H1
       by_cases c22:x3_10.size+2≤9223372036854775807
       ·rw[if_pos c22] at H
        have c22b0:=eq_true c22
        have c22b1:decide (x3_10.size+2≤9223372036854775807)=true:=decide_eq_true c22
        try have c22b2:(9223372036854775807 < x3_10.size+2)=False:=eq_false (Nat.not_lt.2 c22)
        have H':=mkA H
        clear H
        go_wp2
        go_meet
        case rel=>exact⟨_,(x3_10++(⟨#[4,2]⟩:ByteArray)),(by first|rfl|(simp;done)|(simp[*];done)),H',⟨by have:=HJ1.out;have:=HJ10.out;first|omega|exact Nat.le_refl _⟩,⟨by(with_reducible repeat(first|refine kN ?_ _|refine kD ?_|refine kA ?_ _));exact BK205.out⟩,⟨by repeat(first|(with_reducible first|exact HB.out|apply bA|apply bN|apply bD|refine bS ?_ GE205.out)|exact HB.out)⟩⟩
       ·rw[if_neg c22] at H
        exact absurd H (by simp)
      ·replace c21:=Bool.eq_false_iff.mpr c21
       subst c21
       have H1:(sternpostref07_bare.j2 kj10 x3_10 a0_0 a0_1 a0_2 a0_3 a0_4 false a0_6 l0_7)=some r:=by rw[if_neg (show ¬ (false=true) by decide)] at H;exact H
       clear H
       have H:=H1
       clear H1
       have H':=mkA H
       clear H
       go_wp2
       go_meet
       case rel=>exact⟨_,(x3_10),(by first|rfl|(simp;done)|(simp[*];done)),H',⟨by have:=HJ1.out;have:=HJ10.out;first|omega|exact Nat.le_refl _⟩,⟨by(with_reducible repeat(first|refine kN ?_ _|refine kD ?_|refine kA ?_ _));exact BK205.out⟩,⟨by repeat(first|(with_reducible first|exact HB.out|apply bA|apply bN|apply bD|refine bS ?_ GE205.out)|exact HB.out)⟩⟩
     case rest =>
      clear HC19
      try clear c1;try clear c2;try clear p2;try clear c5;try clear c5b0;try clear c5b1;try clear c6;try clear c7;try clear c7b0;try clear c7b1;try clear c7b2;try clear c8;try clear c8b0;try clear c8b1;try clear c8b2;try clear c13;try clear c15;try clear c15b0;try clear c15b1;try clear c15b2;try clear c16;try clear c16b0;try clear c16b1;try clear c16b2;try clear c21;try clear c22;try clear c22b0;try clear c22b1;try clear c22b2;try clear hcz12_0 hcz12_1 hcz12_2 hcz12_3 hcz12_4 hcz12_5 hcz12_6 hcz12_7;try clear hcz17_0 hcz17_1 hcz17_2 hcz17_3 hcz17_4 hcz17_5 hcz17_6 hcz17_7;try clear hcz20_0 hcz20_1 hcz20_2 hcz20_3 hcz20_4 hcz20_5 hcz20_6 hcz20_7;try clear hcz4_0 hcz4_1 hcz4_2 hcz4_3 hcz4_4 hcz4_5 hcz4_6 hcz4_7;try clear hcz9_0 hcz9_1 hcz9_2 hcz9_3 hcz9_4 hcz9_5 hcz9_6 hcz9_7;try clear hfz12_0 hfz12_1 hfz12_2 hfz12_3 hfz12_4 hfz12_5 hfz12_6 hfz12_7;try clear hfz17_0 hfz17_1 hfz17_2 hfz17_3 hfz17_4 hfz17_5 hfz17_6 hfz17_7;try clear hfz20_0 hfz20_1 hfz20_2 hfz20_3 hfz20_4 hfz20_5 hfz20_6 hfz20_7;try clear hfz4_0 hfz4_1 hfz4_2 hfz4_3 hfz4_4 hfz4_5 hfz4_6 hfz4_7;try clear hfz9_0 hfz9_1 hfz9_2 hfz9_3 hfz9_4 hfz9_5 hfz9_6 hfz9_7;try clear p2
      obtain⟨kq,x3_18,rfl,HA,HJ18,BK205,HB⟩:=hcut
      cases kq with
      | zero=>exact absurd HA.out (by simp[sternpostref07_bare.j2])
      | succ kj18 =>
       have H:=HA.out
       clear HA
       simp only[sternpostref07_bare.j2] at H
       have HC23:=mkA H
       clear H
       obtain⟨hcz24_0,hcz24_1,hcz24_2,hcz24_3,hcz24_4,hcz24_5,hcz24_6,hcz24_7⟩:=blk_cells8 BK205.out
       obtain⟨hfz24_0,hfz24_1,hfz24_2,hfz24_3,hfz24_4,hfz24_5,hfz24_6,hfz24_7⟩:=blk_frozens8 BK205.out
       go_upto_if 27 with (fail)
       go_cut [3] (fun v3 wc=>∃ (kq:Nat) (x3_22:ByteArray),v3=.string x3_22∧Aside0 (sternpostref07_bare.j3 kq x3_22 a0_0 a0_1 a0_2 a0_3 a0_4 a0_5 a0_6 l0_7=some r)∧Aside0 (kq≤kj18)∧Aside0 (wc.heap[gb205]?=some (.cells #[.int .i64 a0_0,.int .i64 a0_1,.int .i64 a0_2,.int .i64 a0_3,.bool a0_4,.bool a0_5,.bool a0_6,(.slice A0_7 l0_7.length c0_7)] 24 (0,0)))∧Aside0 (Below w.heap.size w wc))
       case first =>
        have H:=HC23.out
        clear HC23
        by_cases c25:a0_6=true
        ·subst c25
         have H1:((sternpostref02_Text.f kj18 a0_2 4).bind fun t208=>(if 2+t208.size≤9223372036854775807 then ((sternpostref02_Text.f kj18 a0_3 4).bind fun t209=>(if ((⟨#[8,10]⟩:ByteArray)++t208).size+t209.size≤9223372036854775807 then (if x3_18.size+(((⟨#[8,10]⟩:ByteArray)++t208)++t209).size≤9223372036854775807 then (sternpostref07_bare.j3 kj18 (x3_18++(((⟨#[8,10]⟩:ByteArray)++t208)++t209)) a0_0 a0_1 a0_2 a0_3 a0_4 a0_5 true l0_7) else (none)) else (none))) else (none)))=some r:=by rw[if_pos rfl] at H;exact H
         clear H
         have H:=H1
         clear H1
         replace H:=Option.bind_eq_some_iff.mp H
         obtain⟨t208,A260,H⟩:=H
         replace H:(if 2+t208.size≤9223372036854775807 then ((sternpostref02_Text.f kj18 a0_3 4).bind fun t209=>(if ((⟨#[8,10]⟩:ByteArray)++t208).size+t209.size≤9223372036854775807 then (if x3_18.size+(((⟨#[8,10]⟩:ByteArray)++t208)++t209).size≤9223372036854775807 then (sternpostref07_bare.j3 kj18 (x3_18++(((⟨#[8,10]⟩:ByteArray)++t208)++t209)) a0_0 a0_1 a0_2 a0_3 a0_4 a0_5 true l0_7) else (none)) else (none))) else (none))=some r:=H
         have A26:=mkA A260
         clear A260
         by_cases c27:2+t208.size≤9223372036854775807
         ·rw[if_pos c27] at H
          have c27b0:=eq_true c27
          have c27b1:decide (2+t208.size≤9223372036854775807)=true:=decide_eq_true c27
          try have c27b2:(9223372036854775807 < 2+t208.size)=False:=eq_false (Nat.not_lt.2 c27)
          replace H:=Option.bind_eq_some_iff.mp H
          obtain⟨t209,A280,H⟩:=H
          replace H:(if ((⟨#[8,10]⟩:ByteArray)++t208).size+t209.size≤9223372036854775807 then (if x3_18.size+(((⟨#[8,10]⟩:ByteArray)++t208)++t209).size≤9223372036854775807 then (sternpostref07_bare.j3 kj18 (x3_18++(((⟨#[8,10]⟩:ByteArray)++t208)++t209)) a0_0 a0_1 a0_2 a0_3 a0_4 a0_5 true l0_7) else (none)) else (none))=some r:=H
          have A28:=mkA A280
          clear A280
          by_cases c29:((⟨#[8,10]⟩:ByteArray)++t208).size+t209.size≤9223372036854775807
          ·rw[if_pos c29] at H
           have c29b0:=eq_true c29
           have c29b1:decide (((⟨#[8,10]⟩:ByteArray)++t208).size+t209.size≤9223372036854775807)=true:=decide_eq_true c29
           try have c29b2:(9223372036854775807 < ((⟨#[8,10]⟩:ByteArray)++t208).size+t209.size)=False:=eq_false (Nat.not_lt.2 c29)
           (try(have c29b3:=c29b2;simp only[ByteArray.size_append] at c29b3))
           by_cases c30:x3_18.size+(((⟨#[8,10]⟩:ByteArray)++t208)++t209).size≤9223372036854775807
           ·rw[if_pos c30] at H
            have c30b0:=eq_true c30
            have c30b1:decide (x3_18.size+(((⟨#[8,10]⟩:ByteArray)++t208)++t209).size≤9223372036854775807)=true:=decide_eq_true c30
            try have c30b2:(9223372036854775807 < x3_18.size+(((⟨#[8,10]⟩:ByteArray)++t208)++t209).size)=False:=eq_false (Nat.not_lt.2 c30)
            (try(have c30b3:=c30b2;simp only[ByteArray.size_append] at c30b3))
            have H':=mkA H
            clear H
            try go_wp2
            have n0_:=mkA (kD BK205.out)
            have n1_:=mkA (bD HB.out)
            clear BK205
            clear HB
            have BK205:=n0_
            have HB:=n1_
            clear n0_ n1_
            refine start_ (n:=11) (S:=fun w'=>w'.cell? ⟨gb205,0,none⟩=some (.int .i64 a0_0)∧w'.cell? ⟨gb205,1,none⟩=some (.int .i64 a0_1)∧w'.cell? ⟨gb205,2,none⟩=some (.int .i64 a0_2)∧w'.cell? ⟨gb205,3,none⟩=some (.int .i64 a0_3)∧w'.cell? ⟨gb205,4,none⟩=some (.bool a0_4)∧w'.cell? ⟨gb205,5,none⟩=some (.bool a0_5)∧w'.cell? ⟨gb205,6,none⟩=some (.bool true)∧w'.cell? ⟨gb205,7,none⟩=some (.slice A0_7 l0_7.length c0_7)) (ds:=[]) #[false,false,false,false,false,false,false,false,false,false,false] (by kernel_rfl) rfl rfl ⟨(kC BK205.out 0).trans rfl,(kC BK205.out 1).trans rfl,(kC BK205.out 2).trans rfl,(kC BK205.out 3).trans rfl,(kC BK205.out 4).trans rfl,(kC BK205.out 5).trans rfl,(kC BK205.out 6).trans rfl,(kC BK205.out 7).trans rfl⟩ (fun hHeld=>?_);refine with_tabW sternpostref07_bare.tab9 sternpostref07_bare.bits9 (fun HT_ HW_=>?_)
            generalize wc.drew=w31 at BK205 HB hHeld ⊢
            refine pure_ (i:=0) (N:=some 28) (v:=?_) (a':=?_) #[true,false,false,false,false,false,false,false,false,false,false] rfl rfl (any_of HT_.out (by kernel_rfl)) (fun _ _ _ h=>h) (Or.inl ⟨by rfl,?_⟩) ?_ ?_
            rotate_left
            ·intro w'
             go_simp
             with_reducible rfl
            rotate_left
            ·simp only[puts,i64_w,i32_w]
             rfl
            refine pure_ (i:=1) (N:=some 29) (v:=?_) (a':=?_) #[true,true,false,false,false,false,false,false,false,false,false] rfl rfl (any_of HT_.out (by kernel_rfl)) (fun _ _ _ h=>h) (Or.inl ⟨by rfl,?_⟩) ?_ ?_
            rotate_left
            ·intro w'
             go_simp
             with_reducible rfl
            rotate_left
            ·simp only[puts,i64_w,i32_w]
             rfl
            refine pure_ (i:=5) (N:=some 33) (v:=?_) (a':=?_) #[true,true,false,false,false,true,false,false,false,false,false] rfl rfl (any_of HT_.out (by kernel_rfl)) (fun _ _ _ h=>h) (Or.inl ⟨by rfl,?_⟩) ?_ ?_
            rotate_left
            ·intro w'
             go_simp
             with_reducible rfl
            rotate_left
            ·simp only[puts,i64_w,i32_w]
             rfl
            refine take_ (i:=2) (N:=some 30) (v:=?_) (a':=?_) #[true,true,true,false,false,true,false,false,false,false,false] rfl rfl (take_ofW HT_.out HW_.out (by kernel_rfl)) (fun _ _ _ h=>h) (Or.inl ⟨by rfl,?_⟩) hHeld ?_ ?_
            rotate_left
            ·rintro w' ⟨s0,s1,s2,s3,s4,s5,s6,s7⟩
             go_simp
             with_reducible rfl
            rotate_left
            ·simp only[puts,i64_w,i32_w]
             rfl
            refine take_ (i:=6) (N:=some 34) (v:=?_) (a':=?_) #[true,true,true,false,false,true,true,false,false,false,false] rfl rfl (take_ofW HT_.out HW_.out (by kernel_rfl)) (fun _ _ _ h=>h) (Or.inl ⟨by rfl,?_⟩) hHeld ?_ ?_
            rotate_left
            ·rintro w' ⟨s0,s1,s2,s3,s4,s5,s6,s7⟩
             go_simp
             with_reducible rfl
            rotate_left
            ·simp only[puts,i64_w,i32_w]
             rfl
            refine one_ (i:=3) (N:=some 31) #[true,true,true,true,false,true,true,false,false,false,false] rfl rfl (one_of HT_.out (by kernel_rfl)) (by decide) (fun K hK=>?_)
            refine goes_ Try.func55 (by kernel_rfl) rfl #[.int .i64 a0_2,.int .i64 4] (by rfl) rfl rfl (by(try simp only[List.map_toArray,List.map_cons,List.map_nil]);first|done|rfl|(simp only[List.length_drop,List.length_take];rfl)) ?_
            with_reducible refine(sternpostref02_Text.calls kj18 a0_2 4 t208 _ A26.out).mono ?_
            rintro e w32 ⟨rfl,hb⟩
            refine⟨_,rfl,?_⟩
            have n0_:=mkA (kB (g:=gb205) (by(with_reducible repeat(first|apply kN|apply kD|apply kA));exact BK205.out) hb)
            have n1_:=mkA (bT (by repeat(first|(with_reducible first|exact HB.out|apply bA|apply bN|apply bD|refine bS ?_ GE205.out)|exact HB.out)) hb)
            clear BK205
            clear HB
            have BK205:=n0_
            have HB:=n1_
            clear n0_ n1_
            (try clear hb)
            (try clear hb2)
            (try clear hk)
            (try clear hi)
            refine hK.out _ _ ⟨(kC BK205.out 0).trans rfl,(kC BK205.out 1).trans rfl,(kC BK205.out 2).trans rfl,(kC BK205.out 3).trans rfl,(kC BK205.out 4).trans rfl,(kC BK205.out 5).trans rfl,(kC BK205.out 6).trans rfl,(kC BK205.out 7).trans rfl⟩ (fun hHeld=>?_)
            clear hK K
            refine norm_ (a':=?_) ?_ ?_
            rotate_left
            ·show Act.put _ (some 31) _=_
             simp only[puts,i64_w,i32_w]
             rfl
            refine pure_ (i:=4) (N:=some 32) (v:=?_) (a':=?_) #[true,true,true,true,true,true,true,false,false,false,false] rfl rfl (any_of HT_.out (by kernel_rfl)) (fun _ _ _ h=>h) (Or.inl ⟨by rfl,?_⟩) ?_ ?_
            rotate_left
            ·intro w'
             go_simp
             first|(with_reducible rfl)|((repeat(first|rw[if_pos (by simp only[ByteArray.size_extract,ByteArray.size_append,eq_iff_iff,iff_true,iff_false,Nat.not_lt] at *;first|omega|(simp only[ByteArray.size,List.size_toArray,List.length_cons,List.length_nil] at *;omega))]|rw[if_neg (by simp only[ByteArray.size_extract,ByteArray.size_append,eq_iff_iff,iff_true,iff_false,Nat.not_lt] at *;first|omega|(simp only[ByteArray.size,List.size_toArray,List.length_cons,List.length_nil] at *;omega))]));try with_reducible rfl)
            rotate_left
            ·simp only[puts,i64_w,i32_w]
             rfl
            refine one_ (i:=7) (N:=some 35) #[true,true,true,true,true,true,true,true,false,false,false] rfl rfl (one_of HT_.out (by kernel_rfl)) (by decide) (fun K hK=>?_)
            refine goes_ Try.func55 (by kernel_rfl) rfl #[.int .i64 a0_3,.int .i64 4] (by rfl) rfl rfl (by(try simp only[List.map_toArray,List.map_cons,List.map_nil]);first|done|rfl|(simp only[List.length_drop,List.length_take];rfl)) ?_
            with_reducible refine(sternpostref02_Text.calls kj18 a0_3 4 t209 _ A28.out).mono ?_
            rintro e w33 ⟨rfl,hb⟩
            refine⟨_,rfl,?_⟩
            have n0_:=mkA (kB (g:=gb205) (by(with_reducible repeat(first|apply kN|apply kD|apply kA));exact BK205.out) hb)
            have n1_:=mkA (bT (by repeat(first|(with_reducible first|exact HB.out|apply bA|apply bN|apply bD|refine bS ?_ GE205.out)|exact HB.out)) hb)
            clear BK205
            clear HB
            have BK205:=n0_
            have HB:=n1_
            clear n0_ n1_
            (try clear hb)
            (try clear hb2)
            (try clear hk)
            (try clear hi)
            refine hK.out _ _ ⟨(kC BK205.out 0).trans rfl,(kC BK205.out 1).trans rfl,(kC BK205.out 2).trans rfl,(kC BK205.out 3).trans rfl,(kC BK205.out 4).trans rfl,(kC BK205.out 5).trans rfl,(kC BK205.out 6).trans rfl,(kC BK205.out 7).trans rfl⟩ (fun hHeld=>?_)
            clear hK K
            refine norm_ (a':=?_) ?_ ?_
            rotate_left
            ·show Act.put _ (some 35) _=_
             simp only[puts,i64_w,i32_w]
             rfl
            refine pure_ (i:=8) (N:=some 36) (v:=?_) (a':=?_) #[true,true,true,true,true,true,true,true,true,false,false] rfl rfl (any_of HT_.out (by kernel_rfl)) (fun _ _ _ h=>h) (Or.inl ⟨by rfl,?_⟩) ?_ ?_
            rotate_left
            ·intro w'
             go_simp
             first|(with_reducible rfl)|((repeat(first|rw[if_pos (by simp only[ByteArray.size_extract,ByteArray.size_append,eq_iff_iff,iff_true,iff_false,Nat.not_lt] at *;first|omega|(simp only[ByteArray.size,List.size_toArray,List.length_cons,List.length_nil] at *;omega))]|rw[if_neg (by simp only[ByteArray.size_extract,ByteArray.size_append,eq_iff_iff,iff_true,iff_false,Nat.not_lt] at *;first|omega|(simp only[ByteArray.size,List.size_toArray,List.length_cons,List.length_nil] at *;omega))]));try with_reducible rfl)
            rotate_left
            ·simp only[puts,i64_w,i32_w]
             rfl
            refine pure_ (i:=9) (N:=some 37) (v:=?_) (a':=?_) #[true,true,true,true,true,true,true,true,true,true,false] rfl rfl (any_of HT_.out (by kernel_rfl)) (fun _ _ _ h=>h) (Or.inl ⟨by rfl,?_⟩) ?_ ?_
            rotate_left
            ·intro w'
             go_simp
             first|(with_reducible rfl)|((repeat(first|rw[if_pos (by simp only[ByteArray.size_extract,ByteArray.size_append,eq_iff_iff,iff_true,iff_false,Nat.not_lt] at *;first|omega|(simp only[ByteArray.size,List.size_toArray,List.length_cons,List.length_nil] at *;omega))]|rw[if_neg (by simp only[ByteArray.size_extract,ByteArray.size_append,eq_iff_iff,iff_true,iff_false,Nat.not_lt] at *;first|omega|(simp only[ByteArray.size,List.size_toArray,List.length_cons,List.length_nil] at *;omega))]));try with_reducible rfl)
            rotate_left
            ·simp only[puts,i64_w,i32_w]
             rfl
            refine pure_ (i:=10) (N:=some 3) (v:=?_) (a':=?_) #[true,true,true,true,true,true,true,true,true,true,true] rfl rfl (any_of HT_.out (by kernel_rfl)) (fun _ _ _ h=>h) (Or.inl ⟨by rfl,?_⟩) ?_ ?_
            rotate_left
            ·intro w'
             go_simp
             with_reducible rfl
            rotate_left
            ·simp only[puts,i64_w,i32_w]
             rfl
            refine done_ (done_of HT_.out (by kernel_rfl)) ?_
            try go_wp2
            go_meet
            case rel=>exact⟨_,(x3_18++(((⟨#[8,10]⟩:ByteArray)++t208)++t209)),(by first|rfl|(simp;done)|(simp[*];done)),H',⟨by have:=HJ1.out;have:=HJ10.out;have:=HJ18.out;first|omega|exact Nat.le_refl _⟩,⟨by(with_reducible repeat(first|refine kN ?_ _|refine kD ?_|refine kA ?_ _));exact BK205.out⟩,⟨by repeat(first|(with_reducible first|exact HB.out|apply bA|apply bN|apply bD|refine bS ?_ GE205.out)|exact HB.out)⟩⟩
           ·rw[if_neg c30] at H
            exact absurd H (by simp)
          ·rw[if_neg c29] at H
           exact absurd H (by simp)
         ·rw[if_neg c27] at H
          exact absurd H (by simp)
        ·replace c25:=Bool.eq_false_iff.mpr c25
         subst c25
         have H1:(sternpostref07_bare.j3 kj18 x3_18 a0_0 a0_1 a0_2 a0_3 a0_4 a0_5 false l0_7)=some r:=by rw[if_neg (show ¬ (false=true) by decide)] at H;exact H
         clear H
         have H:=H1
         clear H1
         have H':=mkA H
         clear H
         go_wp2
         go_meet
         case rel=>exact⟨_,(x3_18),(by first|rfl|(simp;done)|(simp[*];done)),H',⟨by have:=HJ1.out;have:=HJ10.out;have:=HJ18.out;first|omega|exact Nat.le_refl _⟩,⟨by(with_reducible repeat(first|refine kN ?_ _|refine kD ?_|refine kA ?_ _));exact BK205.out⟩,⟨by repeat(first|(with_reducible first|exact HB.out|apply bA|apply bN|apply bD|refine bS ?_ GE205.out)|exact HB.out)⟩⟩
       case rest =>
        clear HC23
        try clear c1;try clear c2;try clear p2;try clear c3;try clear c5;try clear c5b0;try clear c5b1;try clear c6;try clear c7;try clear c7b0;try clear c7b1;try clear c7b2;try clear c8;try clear c8b0;try clear c8b1;try clear c8b2;try clear c13;try clear c15;try clear c15b0;try clear c15b1;try clear c15b2;try clear c16;try clear c16b0;try clear c16b1;try clear c16b2;try clear c21;try clear c22;try clear c22b0;try clear c22b1;try clear c22b2;try clear c25;try clear c27;try clear c27b0;try clear c27b1;try clear c27b2;try clear c29;try clear c29b0;try clear c29b1;try clear c29b2;try clear c30;try clear c30b0;try clear c30b1;try clear c30b2;try clear hcz12_0 hcz12_1 hcz12_2 hcz12_3 hcz12_4 hcz12_5 hcz12_6 hcz12_7;try clear hcz17_0 hcz17_1 hcz17_2 hcz17_3 hcz17_4 hcz17_5 hcz17_6 hcz17_7;try clear hcz20_0 hcz20_1 hcz20_2 hcz20_3 hcz20_4 hcz20_5 hcz20_6 hcz20_7;try clear hcz24_0 hcz24_1 hcz24_2 hcz24_3 hcz24_4 hcz24_5 hcz24_6 hcz24_7;try clear hcz4_0 hcz4_1 hcz4_2 hcz4_3 hcz4_4 hcz4_5 hcz4_6 hcz4_7;try clear hcz9_0 hcz9_1 hcz9_2 hcz9_3 hcz9_4 hcz9_5 hcz9_6 hcz9_7;try clear hfz12_0 hfz12_1 hfz12_2 hfz12_3 hfz12_4 hfz12_5 hfz12_6 hfz12_7;try clear hfz17_0 hfz17_1 hfz17_2 hfz17_3 hfz17_4 hfz17_5 hfz17_6 hfz17_7;try clear hfz20_0 hfz20_1 hfz20_2 hfz20_3 hfz20_4 hfz20_5 hfz20_6 hfz20_7;try clear hfz24_0 hfz24_1 hfz24_2 hfz24_3 hfz24_4 hfz24_5 hfz24_6 hfz24_7;try clear hfz4_0 hfz4_1 hfz4_2 hfz4_3 hfz4_4 hfz4_5 hfz4_6 hfz4_7;try clear hfz9_0 hfz9_1 hfz9_2 hfz9_3 hfz9_4 hfz9_5 hfz9_6 hfz9_7;try clear p2
        obtain⟨kq,x3_22,rfl,HA,HJ22,BK205,HB⟩:=hcut
        cases kq with
        | zero=>exact absurd HA.out (by simp[sternpostref07_bare.j3])
        | succ kj22 =>
         have H:=HA.out
         clear HA
         simp only[sternpostref07_bare.j3] at H
         have HC34:=mkA H
         clear H
         obtain⟨hcz35_0,hcz35_1,hcz35_2,hcz35_3,hcz35_4,hcz35_5,hcz35_6,hcz35_7⟩:=blk_cells8 BK205.out
         obtain⟨hfz35_0,hfz35_1,hfz35_2,hfz35_3,hfz35_4,hfz35_5,hfz35_6,hfz35_7⟩:=blk_frozens8 BK205.out
         go_upto_if 41 with (fail)
         go_cut [3] (fun v3 wc=>∃ (kq:Nat) (x3_33:ByteArray),v3=.string x3_33∧Aside0 (sternpostref07_bare.j4 kq x3_33 a0_0 a0_1 a0_2 a0_3 a0_4 a0_5 a0_6 l0_7=some r)∧Aside0 (kq≤kj22)∧Aside0 (wc.heap[gb205]?=some (.cells #[.int .i64 a0_0,.int .i64 a0_1,.int .i64 a0_2,.int .i64 a0_3,.bool a0_4,.bool a0_5,.bool a0_6,(.slice A0_7 l0_7.length c0_7)] 24 (0,0)))∧Aside0 (Below w.heap.size w wc))
         case first =>
          have H:=HC34.out
          clear HC34
          by_cases c36:(l0_7.length:Int) > 0
          ·rw[if_pos c36] at H
           have c36b0:decide (0 < (l0_7.length:Int))=true:=decide_eq_true c36
           have c36b1:decide (0 < l0_7.length)=true:=decide_eq_true (by omega)
           clear c36
           (first|rw[c36b0]|(simp only[i64_w,i32_w];rw[c36b0])|rw[c36b1]|skip)
           replace H:=Option.bind_eq_some_iff.mp H
           obtain⟨t210,A370,H⟩:=H
           replace H:(if 1+t210.size≤9223372036854775807 then (if x3_22.size+((⟨#[5]⟩:ByteArray)++t210).size≤9223372036854775807 then (sternpostref07_bare.j4 kj22 (x3_22++((⟨#[5]⟩:ByteArray)++t210)) a0_0 a0_1 a0_2 a0_3 a0_4 a0_5 a0_6 l0_7) else (none)) else (none))=some r:=H
           have A37:=mkA A370
           clear A370
           by_cases c38:1+t210.size≤9223372036854775807
           ·rw[if_pos c38] at H
            have c38b0:=eq_true c38
            have c38b1:decide (1+t210.size≤9223372036854775807)=true:=decide_eq_true c38
            try have c38b2:(9223372036854775807 < 1+t210.size)=False:=eq_false (Nat.not_lt.2 c38)
            by_cases c39:x3_22.size+((⟨#[5]⟩:ByteArray)++t210).size≤9223372036854775807
            ·rw[if_pos c39] at H
             have c39b0:=eq_true c39
             have c39b1:decide (x3_22.size+((⟨#[5]⟩:ByteArray)++t210).size≤9223372036854775807)=true:=decide_eq_true c39
             try have c39b2:(9223372036854775807 < x3_22.size+((⟨#[5]⟩:ByteArray)++t210).size)=False:=eq_false (Nat.not_lt.2 c39)
             (try(have c39b3:=c39b2;simp only[ByteArray.size_append] at c39b3))
             have H':=mkA H
             clear H
             obtain⟨hcz40_0,hcz40_1,hcz40_2,hcz40_3,hcz40_4,hcz40_5,hcz40_6,hcz40_7⟩:=blk_cells8 BK205.out
             obtain⟨hfz40_0,hfz40_1,hfz40_2,hfz40_3,hfz40_4,hfz40_5,hfz40_6,hfz40_7⟩:=blk_frozens8 BK205.out
             go_wp2_with (first|((with_reducible refine gate_callee (f:=55) rfl ?_);refine goesL_ (some 48) rfl rfl Try.func55 (by kernel_rfl) rfl #[.int .i64 (wrap64 (2+(wrap64 (8 * (l0_7.length:Int))))),.int .i64 1] rfl (by(try simp only[List.map_toArray,List.map_cons,List.map_nil]);first|done|rfl|(simp only[List.length_drop,List.length_take];rfl)) ?_;(with_reducible refine(sternpostref02_Text.calls kj22 (wrap64 (2+(wrap64 (8 * (l0_7.length:Int))))) 1 t210 _ A37.out).mono ?_);rintro e w41 ⟨rfl,hb⟩;refine⟨_,rfl,?_⟩;have n0_:=mkA (kB (g:=gb205) (by(with_reducible repeat(first|apply kN|apply kD|apply kA));exact BK205.out) hb);have n1_:=mkA (bT (by repeat(first|(with_reducible first|exact HB.out|apply bA|apply bN|apply bD|refine bS ?_ GE205.out)|exact HB.out)) hb);clear BK205;clear HB;have BK205:=n0_;have HB:=n1_;clear n0_ n1_;(try clear hb);(try clear hb2);(try clear hk);(try clear hi)))
             go_meet
             case rel=>exact⟨_,(x3_22++((⟨#[5]⟩:ByteArray)++t210)),(by first|rfl|(simp;done)|(simp[*];done)),H',⟨by have:=HJ1.out;have:=HJ10.out;have:=HJ18.out;have:=HJ22.out;first|omega|exact Nat.le_refl _⟩,⟨by(with_reducible repeat(first|refine kN ?_ _|refine kD ?_|refine kA ?_ _));exact BK205.out⟩,⟨by repeat(first|(with_reducible first|exact HB.out|apply bA|apply bN|apply bD|refine bS ?_ GE205.out)|exact HB.out)⟩⟩
            ·rw[if_neg c39] at H
             exact absurd H (by simp)
           ·rw[if_neg c38] at H
            exact absurd H (by simp)
          ·rw[if_neg c36] at H
           have c36b0:decide (0 < (l0_7.length:Int))=false:=decide_eq_false c36
           have c36b1:decide (0 < l0_7.length)=false:=decide_eq_false (by omega)
           clear c36
           (first|rw[c36b0]|(simp only[i64_w,i32_w];rw[c36b0])|rw[c36b1]|skip)
           have H':=mkA H
           clear H
           go_wp2
           go_meet
           case rel=>exact⟨_,(x3_22),(by first|rfl|(simp;done)|(simp[*];done)),H',⟨by have:=HJ1.out;have:=HJ10.out;have:=HJ18.out;have:=HJ22.out;first|omega|exact Nat.le_refl _⟩,⟨by(with_reducible repeat(first|refine kN ?_ _|refine kD ?_|refine kA ?_ _));exact BK205.out⟩,⟨by repeat(first|(with_reducible first|exact HB.out|apply bA|apply bN|apply bD|refine bS ?_ GE205.out)|exact HB.out)⟩⟩
         case rest =>
          clear HC34
          try clear c1;try clear c2;try clear p2;try clear c3;try clear c5;try clear c5b0;try clear c5b1;try clear c6;try clear p6;try clear c7;try clear c7b0;try clear c7b1;try clear c7b2;try clear c8;try clear c8b0;try clear c8b1;try clear c8b2;try clear c13;try clear c15;try clear c15b0;try clear c15b1;try clear c15b2;try clear c16;try clear c16b0;try clear c16b1;try clear c16b2;try clear c21;try clear c22;try clear c22b0;try clear c22b1;try clear c22b2;try clear c25;try clear c27;try clear c27b0;try clear c27b1;try clear c27b2;try clear c29;try clear c29b0;try clear c29b1;try clear c29b2;try clear c30;try clear c30b0;try clear c30b1;try clear c30b2;try clear c36;try clear c36b0;try clear c36b1;try clear c38;try clear c38b0;try clear c38b1;try clear c38b2;try clear c39;try clear c39b0;try clear c39b1;try clear c39b2;try clear hcz12_0 hcz12_1 hcz12_2 hcz12_3 hcz12_4 hcz12_5 hcz12_6 hcz12_7;try clear hcz17_0 hcz17_1 hcz17_2 hcz17_3 hcz17_4 hcz17_5 hcz17_6 hcz17_7;try clear hcz20_0 hcz20_1 hcz20_2 hcz20_3 hcz20_4 hcz20_5 hcz20_6 hcz20_7;try clear hcz24_0 hcz24_1 hcz24_2 hcz24_3 hcz24_4 hcz24_5 hcz24_6 hcz24_7;try clear hcz35_0 hcz35_1 hcz35_2 hcz35_3 hcz35_4 hcz35_5 hcz35_6 hcz35_7;try clear hcz40_0 hcz40_1 hcz40_2 hcz40_3 hcz40_4 hcz40_5 hcz40_6 hcz40_7;try clear hcz4_0 hcz4_1 hcz4_2 hcz4_3 hcz4_4 hcz4_5 hcz4_6 hcz4_7;try clear hcz9_0 hcz9_1 hcz9_2 hcz9_3 hcz9_4 hcz9_5 hcz9_6 hcz9_7;try clear hfz12_0 hfz12_1 hfz12_2 hfz12_3 hfz12_4 hfz12_5 hfz12_6 hfz12_7;try clear hfz17_0 hfz17_1 hfz17_2 hfz17_3 hfz17_4 hfz17_5 hfz17_6 hfz17_7;try clear hfz20_0 hfz20_1 hfz20_2 hfz20_3 hfz20_4 hfz20_5 hfz20_6 hfz20_7;try clear hfz24_0 hfz24_1 hfz24_2 hfz24_3 hfz24_4 hfz24_5 hfz24_6 hfz24_7;try clear hfz35_0 hfz35_1 hfz35_2 hfz35_3 hfz35_4 hfz35_5 hfz35_6 hfz35_7;try clear hfz40_0 hfz40_1 hfz40_2 hfz40_3 hfz40_4 hfz40_5 hfz40_6 hfz40_7;try clear hfz4_0 hfz4_1 hfz4_2 hfz4_3 hfz4_4 hfz4_5 hfz4_6 hfz4_7;try clear hfz9_0 hfz9_1 hfz9_2 hfz9_3 hfz9_4 hfz9_5 hfz9_6 hfz9_7;try clear p2
          obtain⟨kq,x3_33,rfl,HA,HJ33,BK205,HB⟩:=hcut
          cases kq with
          | zero=>exact absurd HA.out (by simp[sternpostref07_bare.j4])
          | succ kj33 =>
           have H:=HA.out
           clear HA
           simp only[sternpostref07_bare.j4] at H
           have H':=mkA H
           clear H
           go_wp2
           go_loopg [3,4] kj33 (fun kq v3 v4 w'=>∃ (x3_6:ByteArray) (x4_6:Int),v3=.string x3_6∧v4=.int .i64 x4_6∧Aside0 (sternpostref07_bare.l0 kq x3_6 x4_6 a0_0 a0_1 a0_2 a0_3 a0_4 a0_5 a0_6 l0_7=some r)∧Aside0 (kq≤kj33)∧Aside0 (w'.heap[gb205]?=some (.cells #[.int .i64 a0_0,.int .i64 a0_1,.int .i64 a0_2,.int .i64 a0_3,.bool a0_4,.bool a0_5,.bool a0_6,(.slice A0_7 l0_7.length c0_7)] 24 (0,0)))∧Aside0 (Below w.heap.size w w'))
           case atStart=>exact⟨(x3_33),(0),(by first|rfl|(simp;done)|(simp[*];done)),(by first|rfl|(simp;done)|(simp[*];done)),H',⟨Nat.le_refl _⟩,⟨by(with_reducible repeat(first|refine kN ?_ _|refine kD ?_|refine kA ?_ _));exact BK205.out⟩,⟨by repeat(first|(with_reducible first|exact HB.out|apply bA|apply bN|apply bD|refine bS ?_ GE205.out)|exact HB.out)⟩⟩
           case round =>
            clear H'
            try clear c1;try clear c2;try clear p2;try clear c3;try clear c5;try clear c5b0;try clear c5b1;try clear c6;try clear p6;try clear c7;try clear c7b0;try clear c7b1;try clear c7b2;try clear c8;try clear c8b0;try clear c8b1;try clear c8b2;try clear c13;try clear c15;try clear c15b0;try clear c15b1;try clear c15b2;try clear c16;try clear c16b0;try clear c16b1;try clear c16b2;try clear c21;try clear c22;try clear c22b0;try clear c22b1;try clear c22b2;try clear c25;try clear c27;try clear c27b0;try clear c27b1;try clear c27b2;try clear c29;try clear c29b0;try clear c29b1;try clear c29b2;try clear c30;try clear c30b0;try clear c30b1;try clear c30b2;try clear c36;try clear c36b0;try clear c36b1;try clear c38;try clear c38b0;try clear c38b1;try clear c38b2;try clear c39;try clear c39b0;try clear c39b1;try clear c39b2;try clear hcz12_0 hcz12_1 hcz12_2 hcz12_3 hcz12_4 hcz12_5 hcz12_6 hcz12_7;try clear hcz17_0 hcz17_1 hcz17_2 hcz17_3 hcz17_4 hcz17_5 hcz17_6 hcz17_7;try clear hcz20_0 hcz20_1 hcz20_2 hcz20_3 hcz20_4 hcz20_5 hcz20_6 hcz20_7;try clear hcz24_0 hcz24_1 hcz24_2 hcz24_3 hcz24_4 hcz24_5 hcz24_6 hcz24_7;try clear hcz35_0 hcz35_1 hcz35_2 hcz35_3 hcz35_4 hcz35_5 hcz35_6 hcz35_7;try clear hcz40_0 hcz40_1 hcz40_2 hcz40_3 hcz40_4 hcz40_5 hcz40_6 hcz40_7;try clear hcz4_0 hcz4_1 hcz4_2 hcz4_3 hcz4_4 hcz4_5 hcz4_6 hcz4_7;try clear hcz9_0 hcz9_1 hcz9_2 hcz9_3 hcz9_4 hcz9_5 hcz9_6 hcz9_7;try clear hfz12_0 hfz12_1 hfz12_2 hfz12_3 hfz12_4 hfz12_5 hfz12_6 hfz12_7;try clear hfz17_0 hfz17_1 hfz17_2 hfz17_3 hfz17_4 hfz17_5 hfz17_6 hfz17_7;try clear hfz20_0 hfz20_1 hfz20_2 hfz20_3 hfz20_4 hfz20_5 hfz20_6 hfz20_7;try clear hfz24_0 hfz24_1 hfz24_2 hfz24_3 hfz24_4 hfz24_5 hfz24_6 hfz24_7;try clear hfz35_0 hfz35_1 hfz35_2 hfz35_3 hfz35_4 hfz35_5 hfz35_6 hfz35_7;try clear hfz40_0 hfz40_1 hfz40_2 hfz40_3 hfz40_4 hfz40_5 hfz40_6 hfz40_7;try clear hfz4_0 hfz4_1 hfz4_2 hfz4_3 hfz4_4 hfz4_5 hfz4_6 hfz4_7;try clear hfz9_0 hfz9_1 hfz9_2 hfz9_3 hfz9_4 hfz9_5 hfz9_6 hfz9_7;try clear p2;try clear p6
            obtain⟨x3_6,x4_6,rfl,rfl,HA,HK6,BK205,HB⟩:=hrel
            cases gk with
            | zero=>exact absurd HA.out (by simp[sternpostref07_bare.l0])
            | succ k6 =>
             have H:=HA.out
             clear HA
             simp only[sternpostref07_bare.l0] at H
             by_cases c42:x4_6 < (l0_7.length:Int)
             ·rw[if_pos c42] at H
              have c42b0:decide (x4_6 < (l0_7.length:Int))=true:=decide_eq_true c42
              clear c42
              by_cases c43:0≤x4_6
              ·rw[if_pos c43] at H
               have c43b0:decide (0≤x4_6)=true:=decide_eq_true c43
               clear c43
               replace H:=Option.bind_eq_some_iff.mp H
               obtain⟨t212,A440,H⟩:=H
               replace H:((sternpostref02_Text.f k6 ((rd_T73 l0_7 x4_6).f1) 4).bind fun t214=>(if t212.size+t214.size≤9223372036854775807 then (if x3_6.size+(t212++t214).size≤9223372036854775807 then (sternpostref07_bare.l0 k6 (x3_6++(t212++t214)) (wrap64 (x4_6+1)) a0_0 a0_1 a0_2 a0_3 a0_4 a0_5 a0_6 l0_7) else (none)) else (none)))=some r:=H
               have A44:=mkA A440
               clear A440
               replace H:=Option.bind_eq_some_iff.mp H
               obtain⟨t214,A450,H⟩:=H
               replace H:(if t212.size+t214.size≤9223372036854775807 then (if x3_6.size+(t212++t214).size≤9223372036854775807 then (sternpostref07_bare.l0 k6 (x3_6++(t212++t214)) (wrap64 (x4_6+1)) a0_0 a0_1 a0_2 a0_3 a0_4 a0_5 a0_6 l0_7) else (none)) else (none))=some r:=H
               have A45:=mkA A450
               clear A450
               by_cases c46:t212.size+t214.size≤9223372036854775807
               ·rw[if_pos c46] at H
                have c46b0:=eq_true c46
                have c46b1:decide (t212.size+t214.size≤9223372036854775807)=true:=decide_eq_true c46
                try have c46b2:(9223372036854775807 < t212.size+t214.size)=False:=eq_false (Nat.not_lt.2 c46)
                by_cases c47:x3_6.size+(t212++t214).size≤9223372036854775807
                ·rw[if_pos c47] at H
                 have c47b0:=eq_true c47
                 have c47b1:decide (x3_6.size+(t212++t214).size≤9223372036854775807)=true:=decide_eq_true c47
                 try have c47b2:(9223372036854775807 < x3_6.size+(t212++t214).size)=False:=eq_false (Nat.not_lt.2 c47)
                 (try(have c47b3:=c47b2;simp only[ByteArray.size_append] at c47b3))
                 have H':=mkA H
                 clear H
                 obtain⟨hcz48_0,hcz48_1,hcz48_2,hcz48_3,hcz48_4,hcz48_5,hcz48_6,hcz48_7⟩:=blk_cells8 BK205.out
                 obtain⟨hfz48_0,hfz48_1,hfz48_2,hfz48_3,hfz48_4,hfz48_5,hfz48_6,hfz48_7⟩:=blk_frozens8 BK205.out
                 try go_wp2
                 have n0_:=mkA (kD BK205.out)
                 have n1_:=mkA (bD HB.out)
                 clear BK205
                 clear HB
                 have BK205:=n0_
                 have HB:=n1_
                 clear n0_ n1_
                 have p211:0≤(x4_6:Int):=of_decide_eq_true (by first|(with_reducible assumption)|assumption)
                 have q211:x4_6 < (l0_7.length:Int):=of_decide_eq_true (by first|(with_reducible assumption)|assumption)
                 obtain⟨ad211,e211,hx211_0,hx211_1⟩:=at_T73 HR0_7.out x4_6 p211 q211
                 have hw211_1:=hx211_1
                 have hw211_0:=hx211_0
                 cases e211
                 replace hx211_0:=(HB.out.cell (World.block_lt_of_cell? w _ hx211_0)).trans hx211_0
                 replace hx211_1:=(HB.out.cell (World.block_lt_of_cell? w _ hx211_1)).trans hx211_1
                 replace p211:=eq_true p211
                 replace q211:=eq_true q211
                 have p213:0≤(x4_6:Int):=of_decide_eq_true (by first|(with_reducible assumption)|assumption)
                 have q213:x4_6 < (l0_7.length:Int):=of_decide_eq_true (by first|(with_reducible assumption)|assumption)
                 obtain⟨ad213,e213,hx213_0,hx213_1⟩:=at_T73 HR0_7.out x4_6 p213 q213
                 have hw213_1:=hx213_1
                 have hw213_0:=hx213_0
                 obtain rfl:ad211=ad213:=(by injection e213)
                 replace hx213_0:=(HB.out.cell (World.block_lt_of_cell? w _ hx213_0)).trans hx213_0
                 replace hx213_1:=(HB.out.cell (World.block_lt_of_cell? w _ hx213_1)).trans hx213_1
                 replace p213:=eq_true p213
                 replace q213:=eq_true q213
                 refine start_ (n:=18) (S:=fun w'=>w'.cell? ⟨gb205,0,none⟩=some (.int .i64 a0_0)∧w'.cell? ⟨gb205,1,none⟩=some (.int .i64 a0_1)∧w'.cell? ⟨gb205,2,none⟩=some (.int .i64 a0_2)∧w'.cell? ⟨gb205,3,none⟩=some (.int .i64 a0_3)∧w'.cell? ⟨gb205,4,none⟩=some (.bool a0_4)∧w'.cell? ⟨gb205,5,none⟩=some (.bool a0_5)∧w'.cell? ⟨gb205,6,none⟩=some (.bool a0_6)∧w'.cell? ⟨gb205,7,none⟩=some (.slice (some ad211) l0_7.length c0_7)∧w'.cell? (ad211.add ((x4_6).toNat * 2))=some (.int .i64 ((rd_T73 l0_7 x4_6).f0))∧w'.cell? ⟨(ad211.add ((x4_6).toNat * 2)).block,(ad211.add ((x4_6).toNat * 2)).off+1,none⟩=some (.int .i64 ((rd_T73 l0_7 x4_6).f1))∧w'.cell? (ad211.add ((x4_6).toNat * 2))=some (.int .i64 ((rd_T73 l0_7 x4_6).f0))∧w'.cell? ⟨(ad211.add ((x4_6).toNat * 2)).block,(ad211.add ((x4_6).toNat * 2)).off+1,none⟩=some (.int .i64 ((rd_T73 l0_7 x4_6).f1))) (ds:=[]) #[false,false,false,false,false,false,false,false,false,false,false,false,false,false,false,false,false,false] (by kernel_rfl) rfl rfl ⟨(kC BK205.out 0).trans rfl,(kC BK205.out 1).trans rfl,(kC BK205.out 2).trans rfl,(kC BK205.out 3).trans rfl,(kC BK205.out 4).trans rfl,(kC BK205.out 5).trans rfl,(kC BK205.out 6).trans rfl,(kC BK205.out 7).trans rfl,((HB.out.cell (World.block_lt_of_cell? w _ hw211_0)).trans hw211_0),((HB.out.cell (World.block_lt_of_cell? w _ hw211_1)).trans hw211_1),((HB.out.cell (World.block_lt_of_cell? w _ hw213_0)).trans hw213_0),((HB.out.cell (World.block_lt_of_cell? w _ hw213_1)).trans hw213_1)⟩ (fun hHeld=>?_);refine with_tabW sternpostref07_bare.tab15 sternpostref07_bare.bits15 (fun HT_ HW_=>?_)
                 generalize wr.drew=w49 at BK205 HB hx211_0 hx211_1 hx213_0 hx213_1 hHeld ⊢
                 refine pure_ (i:=0) (N:=some 58) (v:=?_) (a':=?_) #[true,false,false,false,false,false,false,false,false,false,false,false,false,false,false,false,false,false] rfl rfl (any_of HT_.out (by kernel_rfl)) (fun _ _ _ h=>h) (Or.inl ⟨by rfl,?_⟩) ?_ ?_
                 rotate_left
                 ·intro w'
                  go_simp
                  with_reducible rfl
                 rotate_left
                 ·simp only[puts,i64_w,i32_w]
                  rfl
                 refine pure_ (i:=1) (N:=some 59) (v:=?_) (a':=?_) #[true,true,false,false,false,false,false,false,false,false,false,false,false,false,false,false,false,false] rfl rfl (any_of HT_.out (by kernel_rfl)) (fun _ _ _ h=>h) (Or.inl ⟨by rfl,?_⟩) ?_ ?_
                 rotate_left
                 ·intro w'
                  go_simp
                  with_reducible rfl
                 rotate_left
                 ·simp only[puts,i64_w,i32_w]
                  rfl
                 refine pure_ (i:=3) (N:=some 61) (v:=?_) (a':=?_) #[true,true,false,true,false,false,false,false,false,false,false,false,false,false,false,false,false,false] rfl rfl (any_of HT_.out (by kernel_rfl)) (fun _ _ _ h=>h) (Or.inl ⟨by rfl,?_⟩) ?_ ?_
                 rotate_left
                 ·intro w'
                  go_simp
                  with_reducible rfl
                 rotate_left
                 ·simp only[puts,i64_w,i32_w]
                  rfl
                 refine pure_ (i:=8) (N:=some 66) (v:=?_) (a':=?_) #[true,true,false,true,false,false,false,false,true,false,false,false,false,false,false,false,false,false] rfl rfl (any_of HT_.out (by kernel_rfl)) (fun _ _ _ h=>h) (Or.inl ⟨by rfl,?_⟩) ?_ ?_
                 rotate_left
                 ·intro w'
                  go_simp
                  with_reducible rfl
                 rotate_left
                 ·simp only[puts,i64_w,i32_w]
                  rfl
                 refine pure_ (i:=10) (N:=some 68) (v:=?_) (a':=?_) #[true,true,false,true,false,false,false,false,true,false,true,false,false,false,false,false,false,false] rfl rfl (any_of HT_.out (by kernel_rfl)) (fun _ _ _ h=>h) (Or.inl ⟨by rfl,?_⟩) ?_ ?_
                 rotate_left
                 ·intro w'
                  go_simp
                  with_reducible rfl
                 rotate_left
                 ·simp only[puts,i64_w,i32_w]
                  rfl
                 refine take_ (i:=2) (N:=some 60) (v:=?_) (a':=?_) #[true,true,true,true,false,false,false,false,true,false,true,false,false,false,false,false,false,false] rfl rfl (take_ofW HT_.out HW_.out (by kernel_rfl)) (fun _ _ _ h=>h) (Or.inl ⟨by rfl,?_⟩) hHeld ?_ ?_
                 rotate_left
                 ·rintro w' ⟨s0,s1,s2,s3,s4,s5,s6,s7,s8,s9,s10,s11⟩
                  go_simp
                  with_reducible rfl
                 rotate_left
                 ·simp only[puts,i64_w,i32_w]
                  rfl
                 refine pure_ (i:=4) (N:=some 62) (v:=?_) (a':=?_) #[true,true,true,true,true,false,false,false,true,false,true,false,false,false,false,false,false,false] rfl rfl (any_of HT_.out (by kernel_rfl)) (fun _ _ _ h=>h) (Or.inl ⟨by rfl,?_⟩) ?_ ?_
                 rotate_left
                 ·intro w'
                  go_simp
                  with_reducible rfl
                 rotate_left
                 ·simp only[puts,i64_w,i32_w]
                  rfl
                 refine pure_ (i:=5) (N:=some 63) (v:=?_) (a':=?_) #[true,true,true,true,true,true,false,false,true,false,true,false,false,false,false,false,false,false] rfl rfl (any_of HT_.out (by kernel_rfl)) (fun _ _ _ h=>h) (Or.inl ⟨by rfl,?_⟩) ?_ ?_
                 rotate_left
                 ·intro w'
                  go_simp
                  with_reducible rfl
                 rotate_left
                 ·simp only[puts,i64_w,i32_w]
                  rfl
                 refine take_ (i:=6) (N:=some 64) (v:=?_) (a':=?_) #[true,true,true,true,true,true,true,false,true,false,true,false,false,false,false,false,false,false] rfl rfl (take_ofW HT_.out HW_.out (by kernel_rfl)) (fun _ _ _ h=>h) (Or.inl ⟨by rfl,?_⟩) hHeld ?_ ?_
                 rotate_left
                 ·rintro w' ⟨s0,s1,s2,s3,s4,s5,s6,s7,s8,s9,s10,s11⟩
                  go_simp
                  with_reducible rfl
                 rotate_left
                 ·simp only[puts,i64_w,i32_w]
                  rfl
                 refine take_ (i:=9) (N:=some 67) (v:=?_) (a':=?_) #[true,true,true,true,true,true,true,false,true,true,true,false,false,false,false,false,false,false] rfl rfl (take_ofW HT_.out HW_.out (by kernel_rfl)) (fun _ _ _ h=>h) (Or.inl ⟨by rfl,?_⟩) hHeld ?_ ?_
                 rotate_left
                 ·rintro w' ⟨s0,s1,s2,s3,s4,s5,s6,s7,s8,s9,s10,s11⟩
                  go_simp
                  with_reducible rfl
                 rotate_left
                 ·simp only[puts,i64_w,i32_w]
                  rfl
                 refine pure_ (i:=11) (N:=some 69) (v:=?_) (a':=?_) #[true,true,true,true,true,true,true,false,true,true,true,true,false,false,false,false,false,false] rfl rfl (any_of HT_.out (by kernel_rfl)) (fun _ _ _ h=>h) (Or.inl ⟨by rfl,?_⟩) ?_ ?_
                 rotate_left
                 ·intro w'
                  go_simp
                  with_reducible rfl
                 rotate_left
                 ·simp only[puts,i64_w,i32_w]
                  rfl
                 refine pure_ (i:=12) (N:=some 70) (v:=?_) (a':=?_) #[true,true,true,true,true,true,true,false,true,true,true,true,true,false,false,false,false,false] rfl rfl (any_of HT_.out (by kernel_rfl)) (fun _ _ _ h=>h) (Or.inl ⟨by rfl,?_⟩) ?_ ?_
                 rotate_left
                 ·intro w'
                  go_simp
                  with_reducible rfl
                 rotate_left
                 ·simp only[puts,i64_w,i32_w]
                  rfl
                 refine take_ (i:=13) (N:=some 71) (v:=?_) (a':=?_) #[true,true,true,true,true,true,true,false,true,true,true,true,true,true,false,false,false,false] rfl rfl (take_ofW HT_.out HW_.out (by kernel_rfl)) (fun _ _ _ h=>h) (Or.inl ⟨by rfl,?_⟩) hHeld ?_ ?_
                 rotate_left
                 ·rintro w' ⟨s0,s1,s2,s3,s4,s5,s6,s7,s8,s9,s10,s11⟩
                  go_simp
                  with_reducible rfl
                 rotate_left
                 ·simp only[puts,i64_w,i32_w]
                  rfl
                 refine one_ (i:=7) (N:=some 65) #[true,true,true,true,true,true,true,true,true,true,true,true,true,true,false,false,false,false] rfl rfl (one_of HT_.out (by kernel_rfl)) (by decide) (fun K hK=>?_)
                 refine goes_ Try.func55 (by kernel_rfl) rfl #[.int .i64 ((rd_T73 l0_7 x4_6).f0),.int .i64 4] (by rfl) rfl rfl (by(try simp only[List.map_toArray,List.map_cons,List.map_nil]);first|done|rfl|(simp only[List.length_drop,List.length_take];rfl)) ?_
                 with_reducible refine(sternpostref02_Text.calls k6 ((rd_T73 l0_7 x4_6).f0) 4 t212 _ A44.out).mono ?_
                 rintro e w50 ⟨rfl,hb⟩
                 refine⟨_,rfl,?_⟩
                 have n0_:=mkA (kB (g:=gb205) (by(with_reducible repeat(first|apply kN|apply kD|apply kA));exact BK205.out) hb)
                 have n1_:=mkA (bT (by repeat(first|(with_reducible first|exact HB.out|apply bA|apply bN|apply bD|refine bS ?_ GE205.out)|exact HB.out)) hb)
                 clear BK205
                 clear HB
                 have BK205:=n0_
                 have HB:=n1_
                 clear n0_ n1_
                 (try clear hb)
                 (try clear hb2)
                 (try clear hk)
                 (try clear hi)
                 refine hK.out _ _ ⟨(kC BK205.out 0).trans rfl,(kC BK205.out 1).trans rfl,(kC BK205.out 2).trans rfl,(kC BK205.out 3).trans rfl,(kC BK205.out 4).trans rfl,(kC BK205.out 5).trans rfl,(kC BK205.out 6).trans rfl,(kC BK205.out 7).trans rfl,((HB.out.cell (World.block_lt_of_cell? w _ hw211_0)).trans hw211_0),((HB.out.cell (World.block_lt_of_cell? w _ hw211_1)).trans hw211_1),((HB.out.cell (World.block_lt_of_cell? w _ hw213_0)).trans hw213_0),((HB.out.cell (World.block_lt_of_cell? w _ hw213_1)).trans hw213_1)⟩ (fun hHeld=>?_)
                 clear hK K
                 refine norm_ (a':=?_) ?_ ?_
                 rotate_left
                 ·show Act.put _ (some 65) _=_
                  simp only[puts,i64_w,i32_w]
                  rfl
                 refine one_ (i:=14) (N:=some 72) #[true,true,true,true,true,true,true,true,true,true,true,true,true,true,true,false,false,false] rfl rfl (one_of HT_.out (by kernel_rfl)) (by decide) (fun K hK=>?_)
                 refine goes_ Try.func55 (by kernel_rfl) rfl #[.int .i64 ((rd_T73 l0_7 x4_6).f1),.int .i64 4] (by rfl) rfl rfl (by(try simp only[List.map_toArray,List.map_cons,List.map_nil]);first|done|rfl|(simp only[List.length_drop,List.length_take];rfl)) ?_
                 with_reducible refine(sternpostref02_Text.calls k6 ((rd_T73 l0_7 x4_6).f1) 4 t214 _ A45.out).mono ?_
                 rintro e w51 ⟨rfl,hb⟩
                 refine⟨_,rfl,?_⟩
                 have n0_:=mkA (kB (g:=gb205) (by(with_reducible repeat(first|apply kN|apply kD|apply kA));exact BK205.out) hb)
                 have n1_:=mkA (bT (by repeat(first|(with_reducible first|exact HB.out|apply bA|apply bN|apply bD|refine bS ?_ GE205.out)|exact HB.out)) hb)
                 clear BK205
                 clear HB
                 have BK205:=n0_
                 have HB:=n1_
                 clear n0_ n1_
                 (try clear hb)
                 (try clear hb2)
                 (try clear hk)
                 (try clear hi)
                 refine hK.out _ _ ⟨(kC BK205.out 0).trans rfl,(kC BK205.out 1).trans rfl,(kC BK205.out 2).trans rfl,(kC BK205.out 3).trans rfl,(kC BK205.out 4).trans rfl,(kC BK205.out 5).trans rfl,(kC BK205.out 6).trans rfl,(kC BK205.out 7).trans rfl,((HB.out.cell (World.block_lt_of_cell? w _ hw211_0)).trans hw211_0),((HB.out.cell (World.block_lt_of_cell? w _ hw211_1)).trans hw211_1),((HB.out.cell (World.block_lt_of_cell? w _ hw213_0)).trans hw213_0),((HB.out.cell (World.block_lt_of_cell? w _ hw213_1)).trans hw213_1)⟩ (fun hHeld=>?_)
                 clear hK K
                 refine norm_ (a':=?_) ?_ ?_
                 rotate_left
                 ·show Act.put _ (some 72) _=_
                  simp only[puts,i64_w,i32_w]
                  rfl
                 refine pure_ (i:=15) (N:=some 73) (v:=?_) (a':=?_) #[true,true,true,true,true,true,true,true,true,true,true,true,true,true,true,true,false,false] rfl rfl (any_of HT_.out (by kernel_rfl)) (fun _ _ _ h=>h) (Or.inl ⟨by rfl,?_⟩) ?_ ?_
                 rotate_left
                 ·intro w'
                  go_simp
                  first|(with_reducible rfl)|((repeat(first|rw[if_pos (by simp only[ByteArray.size_extract,ByteArray.size_append,eq_iff_iff,iff_true,iff_false,Nat.not_lt] at *;first|omega|(simp only[ByteArray.size,List.size_toArray,List.length_cons,List.length_nil] at *;omega))]|rw[if_neg (by simp only[ByteArray.size_extract,ByteArray.size_append,eq_iff_iff,iff_true,iff_false,Nat.not_lt] at *;first|omega|(simp only[ByteArray.size,List.size_toArray,List.length_cons,List.length_nil] at *;omega))]));try with_reducible rfl)
                 rotate_left
                 ·simp only[puts,i64_w,i32_w]
                  rfl
                 refine pure_ (i:=16) (N:=some 74) (v:=?_) (a':=?_) #[true,true,true,true,true,true,true,true,true,true,true,true,true,true,true,true,true,false] rfl rfl (any_of HT_.out (by kernel_rfl)) (fun _ _ _ h=>h) (Or.inl ⟨by rfl,?_⟩) ?_ ?_
                 rotate_left
                 ·intro w'
                  go_simp
                  first|(with_reducible rfl)|((repeat(first|rw[if_pos (by simp only[ByteArray.size_extract,ByteArray.size_append,eq_iff_iff,iff_true,iff_false,Nat.not_lt] at *;first|omega|(simp only[ByteArray.size,List.size_toArray,List.length_cons,List.length_nil] at *;omega))]|rw[if_neg (by simp only[ByteArray.size_extract,ByteArray.size_append,eq_iff_iff,iff_true,iff_false,Nat.not_lt] at *;first|omega|(simp only[ByteArray.size,List.size_toArray,List.length_cons,List.length_nil] at *;omega))]));try with_reducible rfl)
                 rotate_left
                 ·simp only[puts,i64_w,i32_w]
                  rfl
                 refine pure_ (i:=17) (N:=some 3) (v:=?_) (a':=?_) #[true,true,true,true,true,true,true,true,true,true,true,true,true,true,true,true,true,true] rfl rfl (any_of HT_.out (by kernel_rfl)) (fun _ _ _ h=>h) (Or.inl ⟨by rfl,?_⟩) ?_ ?_
                 rotate_left
                 ·intro w'
                  go_simp
                  with_reducible rfl
                 rotate_left
                 ·simp only[puts,i64_w,i32_w]
                  rfl
                 refine done_ (done_of HT_.out (by kernel_rfl)) ?_
                 try go_wp2
                 go_roundg k6
                 case measure=>have:=HJ1.out;have:=HJ10.out;have:=HJ18.out;have:=HJ22.out;have:=HJ33.out;have:=HK6.out;omega
                 case rel=>exact⟨(x3_6++(t212++t214)),(wrap64 (x4_6+1)),(by first|rfl|(simp;done)|(simp[*];done)),(by first|rfl|(simp;done)|(simp[*];done)),H',⟨by have:=HJ1.out;have:=HJ10.out;have:=HJ18.out;have:=HJ22.out;have:=HJ33.out;have:=HK6.out;omega⟩,⟨by(with_reducible repeat(first|refine kN ?_ _|refine kD ?_|refine kA ?_ _));exact BK205.out⟩,⟨by repeat(first|(with_reducible first|exact HB.out|apply bA|apply bN|apply bD|refine bS ?_ GE205.out)|exact HB.out)⟩⟩
                ·rw[if_neg c47] at H
                 exact absurd H (by simp)
               ·rw[if_neg c46] at H
                exact absurd H (by simp)
              ·rw[if_neg c43] at H
               exact absurd H (by simp)
             ·rw[if_neg c42] at H
              have c42b0:decide (x4_6 < (l0_7.length:Int))=false:=decide_eq_false c42
              clear c42
              obtain rfl:=Option.some.inj H
              obtain⟨hcz52_0,hcz52_1,hcz52_2,hcz52_3,hcz52_4,hcz52_5,hcz52_6,hcz52_7⟩:=blk_cells8 BK205.out
              obtain⟨hfz52_0,hfz52_1,hfz52_2,hfz52_3,hfz52_4,hfz52_5,hfz52_6,hfz52_7⟩:=blk_frozens8 BK205.out
              go_wp2
              go_ret
              exact⟨by first|rfl|(simp[errW_none,errW_some] <;> rfl)|(simp[*,errW_none,errW_some] <;> rfl),by repeat(first|(with_reducible first|exact HB.out|apply bA|apply bN|apply bD|refine bS ?_ GE205.out)|exact HB.out)⟩

end Go.Proofs.Ytakajeoeijnmhaa.PSegReads

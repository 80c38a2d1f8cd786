-- Laid by this claim's own program over the print's words.
import Derived.Test.YtakajeoeijnmhaaPSegReadsx0
import Derived.Test.YtakajeoeijnmhaaPSegReadsx11
import Derived.Test.YtakajeoeijnmhaaPSegReadsx13
namespace Go.Proofs.Ytakajeoeijnmhaa.PSegReads
open Go.RowKit Go.Proofs.YtakajeoeijnmhaaW.PrintWords Go.Proofs.YtakajeoeijnmhaaW.PrintLast Go.Proofs.YtakajeoeijnmhaaW.PrintMore
attribute [local go_sem] max2_int min2_int max_two min_two max_three min_three max_four min_four max_five min_five extract_cut tmod_nat_lit   -- for this text's walks alone
set_option linter.unusedVariables false
set_option linter.unusedSimpArgs false

/-! ### sternpostref07_Check: function 39 -/
mutual
def sternpostref07_Check.j0:Nat→Bool→Int→Int→Int→Int→Bool→Bool→Bool→List (S73)→Option (Int)
 | 0,_,_,_,_,_,_,_,_,_=>none
 | k+1,x65,x218000,x218001,x218002,x218003,x218004,x218005,x218006,x218007=>if x65=true then (some 70) else (sternpostref07_Check.l0 k 0 x218000 x218001 x218002 x218003 x218004 x218005 x218006 x218007)
def sternpostref07_Check.l0:Nat→Int→Int→Int→Int→Int→Bool→Bool→Bool→List (S73)→Option (Int)
 | 0,_,_,_,_,_,_,_,_,_=>none
 | k+1,x3,x218000,x218001,x218002,x218003,x218004,x218005,x218006,x218007=>if x3 < (x218007.length:Int) then (if 0≤x3 then ((sternpostref01_Check.f ((rd_T73 x218007 x3).f0)).bind fun t224=>(if t224=0 then ((sternpostref01_Check.f ((rd_T73 x218007 x3).f1)).bind fun t225=>(if t225=0 then (sternpostref07_Check.j2 k x3 (((rd_T73 x218007 x3).f0) == ((rd_T73 x218007 x3).f1)) x218000 x218001 x218002 x218003 x218004 x218005 x218006 x218007) else (sternpostref07_Check.j2 k x3 true x218000 x218001 x218002 x218003 x218004 x218005 x218006 x218007))) else (sternpostref07_Check.j2 k x3 true x218000 x218001 x218002 x218003 x218004 x218005 x218006 x218007))) else (none)) else ((sternpostref07_Bytes.f k x218000 x218001 x218002 x218003 x218004 x218005 x218006 x218007).bind fun t226=>(if (t226.size:Int) > 40 then (some 70) else (some 0)))
def sternpostref07_Check.j2:Nat→Int→Bool→Int→Int→Int→Int→Bool→Bool→Bool→List (S73)→Option (Int)
 | 0,_,_,_,_,_,_,_,_,_,_=>none
 | k+1,x3,x94,x218000,x218001,x218002,x218003,x218004,x218005,x218006,x218007=>if x94=true then (some 70) else (sternpostref07_Check.l0 k (wrap64 (x3+1)) x218000 x218001 x218002 x218003 x218004 x218005 x218006 x218007)
end
def sternpostref07_Check.f (k:Nat) (a0_0:Int) (a0_1:Int) (a0_2:Int) (a0_3:Int) (a0_4:Bool) (a0_5:Bool) (a0_6:Bool) (l0_7:List (S73)):Option (Int):=if a0_0 < 0 then (sternpostref07_Check.j0 k true a0_0 a0_1 a0_2 a0_3 a0_4 a0_5 a0_6 l0_7) else (if a0_0 > 65535 then (sternpostref07_Check.j0 k true a0_0 a0_1 a0_2 a0_3 a0_4 a0_5 a0_6 l0_7) else (if a0_1 < 0 then (sternpostref07_Check.j0 k true a0_0 a0_1 a0_2 a0_3 a0_4 a0_5 a0_6 l0_7) else (if a0_1 > 14 then (sternpostref07_Check.j0 k true a0_0 a0_1 a0_2 a0_3 a0_4 a0_5 a0_6 l0_7) else (if a0_4=true then ((sternpostref01_Check.f a0_2).bind fun t218=>(if t218=0 then ((sternpostref01_Check.f a0_3).bind fun t219=>(if t219=0 then (if a0_6=true then (sternpostref07_Check.j0 k (decide ((l0_7.length:Int) > 4)) a0_0 a0_1 a0_2 a0_3 a0_4 a0_5 a0_6 l0_7) else (if a0_2=0 then (if a0_3=0 then (sternpostref07_Check.j0 k (decide ((l0_7.length:Int) > 4)) a0_0 a0_1 a0_2 a0_3 a0_4 a0_5 a0_6 l0_7) else (sternpostref07_Check.j0 k true a0_0 a0_1 a0_2 a0_3 a0_4 a0_5 a0_6 l0_7)) else (sternpostref07_Check.j0 k true a0_0 a0_1 a0_2 a0_3 a0_4 a0_5 a0_6 l0_7))) else (sternpostref07_Check.j0 k true a0_0 a0_1 a0_2 a0_3 a0_4 a0_5 a0_6 l0_7))) else (sternpostref07_Check.j0 k true a0_0 a0_1 a0_2 a0_3 a0_4 a0_5 a0_6 l0_7))) else (if a0_1=0 then ((sternpostref01_Check.f a0_2).bind fun t220=>(if t220=0 then ((sternpostref01_Check.f a0_3).bind fun t221=>(if t221=0 then (if a0_6=true then (sternpostref07_Check.j0 k (decide ((l0_7.length:Int) > 4)) a0_0 a0_1 a0_2 a0_3 a0_4 a0_5 a0_6 l0_7) else (if a0_2=0 then (if a0_3=0 then (sternpostref07_Check.j0 k (decide ((l0_7.length:Int) > 4)) a0_0 a0_1 a0_2 a0_3 a0_4 a0_5 a0_6 l0_7) else (sternpostref07_Check.j0 k true a0_0 a0_1 a0_2 a0_3 a0_4 a0_5 a0_6 l0_7)) else (sternpostref07_Check.j0 k true a0_0 a0_1 a0_2 a0_3 a0_4 a0_5 a0_6 l0_7))) else (sternpostref07_Check.j0 k true a0_0 a0_1 a0_2 a0_3 a0_4 a0_5 a0_6 l0_7))) else (sternpostref07_Check.j0 k true a0_0 a0_1 a0_2 a0_3 a0_4 a0_5 a0_6 l0_7))) else (sternpostref07_Check.j0 k true a0_0 a0_1 a0_2 a0_3 a0_4 a0_5 a0_6 l0_7))))))
theorem sternpostref07_Check.mono_l:∀ k,(∀ y0 y1 y2 y3 y4 y5 y6 y7 y8,LeO (sternpostref07_Check.j0 k y0 y1 y2 y3 y4 y5 y6 y7 y8) (sternpostref07_Check.j0 (k+1) y0 y1 y2 y3 y4 y5 y6 y7 y8))∧(∀ y0 y1 y2 y3 y4 y5 y6 y7 y8,LeO (sternpostref07_Check.l0 k y0 y1 y2 y3 y4 y5 y6 y7 y8) (sternpostref07_Check.l0 (k+1) y0 y1 y2 y3 y4 y5 y6 y7 y8))∧(∀ y0 y1 y2 y3 y4 y5 y6 y7 y8 y9,LeO (sternpostref07_Check.j2 k y0 y1 y2 y3 y4 y5 y6 y7 y8 y9) (sternpostref07_Check.j2 (k+1) y0 y1 y2 y3 y4 y5 y6 y7 y8 y9))
 | 0=>⟨fun _ _ _ _ _ _ _ _ _ r h=>by simp[sternpostref07_Check.j0] at h,fun _ _ _ _ _ _ _ _ _ r h=>by simp[sternpostref07_Check.l0] at h,fun _ _ _ _ _ _ _ _ _ _ r h=>by simp[sternpostref07_Check.j2] at h⟩
 | k+1=>by
  obtain⟨ih0,ih1,ih2⟩:=sternpostref07_Check.mono_l k
  refine⟨?_,?_,?_⟩
  ·intro y0 y1 y2 y3 y4 y5 y6 y7 y8
   unfold sternpostref07_Check.j0
   repeat' first
   | (with_reducible exact ih0 _ _ _ _ _ _ _ _ _)
   | (with_reducible exact ih1 _ _ _ _ _ _ _ _ _)
   | (with_reducible exact ih2 _ _ _ _ _ _ _ _ _ _)
   | (with_reducible exact sternpostref07_Bytes.mono _ _ _ _ _ _ _ _ _)
   | (with_reducible exact LeO.refl _)
   | (with_reducible exact LeO.none _)
   | (with_reducible refine LeO.ite ?_ ?_)
   | (with_reducible refine LeO.bind ?_ (fun _=>?_))
   | exact ih0 _ _ _ _ _ _ _ _ _
   | exact ih1 _ _ _ _ _ _ _ _ _
   | exact ih2 _ _ _ _ _ _ _ _ _ _
   | exact sternpostref07_Bytes.mono _ _ _ _ _ _ _ _ _
   | exact LeO.none _
   | refine LeO.ite ?_ ?_
   | refine LeO.bind ?_ (fun _=>?_)
  ·intro y0 y1 y2 y3 y4 y5 y6 y7 y8
   unfold sternpostref07_Check.l0
   repeat' first
   | (with_reducible exact ih0 _ _ _ _ _ _ _ _ _)
   | (with_reducible exact ih1 _ _ _ _ _ _ _ _ _)
   | (with_reducible exact ih2 _ _ _ _ _ _ _ _ _ _)
   | (with_reducible exact sternpostref07_Bytes.mono _ _ _ _ _ _ _ _ _)
   | (with_reducible exact LeO.refl _)
   | (with_reducible exact LeO.none _)
   | (with_reducible refine LeO.ite ?_ ?_)
   | (with_reducible refine LeO.bind ?_ (fun _=>?_))
   | exact ih0 _ _ _ _ _ _ _ _ _
   | exact ih1 _ _ _ _ _ _ _ _ _
   | exact ih2 _ _ _ _ _ _ _ _ _ _
   | exact sternpostref07_Bytes.mono _ _ _ _ _ _ _ _ _
   | exact LeO.none _
   | refine LeO.ite ?_ ?_
   | refine LeO.bind ?_ (fun _=>?_)
  ·intro y0 y1 y2 y3 y4 y5 y6 y7 y8 y9
   unfold sternpostref07_Check.j2
   repeat' first
   | (with_reducible exact ih0 _ _ _ _ _ _ _ _ _)
   | (with_reducible exact ih1 _ _ _ _ _ _ _ _ _)
   | (with_reducible exact ih2 _ _ _ _ _ _ _ _ _ _)
   | (with_reducible exact sternpostref07_Bytes.mono _ _ _ _ _ _ _ _ _)
   | (with_reducible exact LeO.refl _)
   | (with_reducible exact LeO.none _)
   | (with_reducible refine LeO.ite ?_ ?_)
   | (with_reducible refine LeO.bind ?_ (fun _=>?_))
   | exact ih0 _ _ _ _ _ _ _ _ _
   | exact ih1 _ _ _ _ _ _ _ _ _
   | exact ih2 _ _ _ _ _ _ _ _ _ _
   | exact sternpostref07_Bytes.mono _ _ _ _ _ _ _ _ _
   | exact LeO.none _
   | refine LeO.ite ?_ ?_
   | refine LeO.bind ?_ (fun _=>?_)
theorem sternpostref07_Check.mono:∀ a0 a1 a2 a3 a4 a5 a6 a7 k,LeO (sternpostref07_Check.f k a0 a1 a2 a3 a4 a5 a6 a7) (sternpostref07_Check.f (k+1) a0 a1 a2 a3 a4 a5 a6 a7):=by
 intro a0 a1 a2 a3 a4 a5 a6 a7 k
 obtain⟨ih0,ih1,ih2⟩:=sternpostref07_Check.mono_l k
 unfold sternpostref07_Check.f
 repeat' first
   | (with_reducible exact ih0 _ _ _ _ _ _ _ _ _)
   | (with_reducible exact ih1 _ _ _ _ _ _ _ _ _)
   | (with_reducible exact ih2 _ _ _ _ _ _ _ _ _ _)
   | (with_reducible exact sternpostref07_Bytes.mono _ _ _ _ _ _ _ _ _)
   | (with_reducible exact LeO.refl _)
   | (with_reducible exact LeO.none _)
   | (with_reducible refine LeO.ite ?_ ?_)
   | (with_reducible refine LeO.bind ?_ (fun _=>?_))
   | exact ih0 _ _ _ _ _ _ _ _ _
   | exact ih1 _ _ _ _ _ _ _ _ _
   | exact ih2 _ _ _ _ _ _ _ _ _ _
   | exact sternpostref07_Bytes.mono _ _ _ _ _ _ _ _ _
   | exact LeO.none _
   | refine LeO.ite ?_ ?_
   | refine LeO.bind ?_ (fun _=>?_)
set_option maxHeartbeats 8000000 in
set_option maxRecDepth 100000 in
theorem sternpostref07_Check.calls (k:Nat) (a0_0:Int) (a0_1:Int) (a0_2:Int) (a0_3:Int) (a0_4:Bool) (a0_5:Bool) (a0_6:Bool) (A0_7:Option Addr) (c0_7:Nat) (l0_7:List (S73)) (r:Int) (w:World) (hr0_7:Kd.C k73 w A0_7 l0_7.length l0_7) (hc0_7:l0_7.length≤c0_7) (h:sternpostref07_Check.f k a0_0 a0_1 a0_2 a0_3 a0_4 a0_5 a0_6 l0_7=some r) :
  Calls Try.prog 39 #[.agg #[.int .i64 a0_0,.int .i64 a0_1,.int .i64 a0_2,.int .i64 a0_3,.bool a0_4,.bool a0_5,.bool a0_6,.slice A0_7 l0_7.length c0_7]] w fun e w'=>e=.returned (.int .i64 r)∧Below w.heap.size w w':=by
 have hu24:=Try.underlying24
 have hu73:=Try.underlying73
 have HR0_7:=mkA hr0_7
 have HC0_7:=mkA hc0_7
 clear hr0_7 hc0_7
 have HB:=mkA (Below.refl w.heap.size w)
 have H:(if a0_0 < 0 then (sternpostref07_Check.j0 k true a0_0 a0_1 a0_2 a0_3 a0_4 a0_5 a0_6 l0_7) else (if a0_0 > 65535 then (sternpostref07_Check.j0 k true a0_0 a0_1 a0_2 a0_3 a0_4 a0_5 a0_6 l0_7) else (if a0_1 < 0 then (sternpostref07_Check.j0 k true a0_0 a0_1 a0_2 a0_3 a0_4 a0_5 a0_6 l0_7) else (if a0_1 > 14 then (sternpostref07_Check.j0 k true a0_0 a0_1 a0_2 a0_3 a0_4 a0_5 a0_6 l0_7) else (if a0_4=true then ((sternpostref01_Check.f a0_2).bind fun t218=>(if t218=0 then ((sternpostref01_Check.f a0_3).bind fun t219=>(if t219=0 then (if a0_6=true then (sternpostref07_Check.j0 k (decide ((l0_7.length:Int) > 4)) a0_0 a0_1 a0_2 a0_3 a0_4 a0_5 a0_6 l0_7) else (if a0_2=0 then (if a0_3=0 then (sternpostref07_Check.j0 k (decide ((l0_7.length:Int) > 4)) a0_0 a0_1 a0_2 a0_3 a0_4 a0_5 a0_6 l0_7) else (sternpostref07_Check.j0 k true a0_0 a0_1 a0_2 a0_3 a0_4 a0_5 a0_6 l0_7)) else (sternpostref07_Check.j0 k true a0_0 a0_1 a0_2 a0_3 a0_4 a0_5 a0_6 l0_7))) else (sternpostref07_Check.j0 k true a0_0 a0_1 a0_2 a0_3 a0_4 a0_5 a0_6 l0_7))) else (sternpostref07_Check.j0 k true a0_0 a0_1 a0_2 a0_3 a0_4 a0_5 a0_6 l0_7))) else (if a0_1=0 then ((sternpostref01_Check.f a0_2).bind fun t220=>(if t220=0 then ((sternpostref01_Check.f a0_3).bind fun t221=>(if t221=0 then (if a0_6=true then (sternpostref07_Check.j0 k (decide ((l0_7.length:Int) > 4)) a0_0 a0_1 a0_2 a0_3 a0_4 a0_5 a0_6 l0_7) else (if a0_2=0 then (if a0_3=0 then (sternpostref07_Check.j0 k (decide ((l0_7.length:Int) > 4)) a0_0 a0_1 a0_2 a0_3 a0_4 a0_5 a0_6 l0_7) else (sternpostref07_Check.j0 k true a0_0 a0_1 a0_2 a0_3 a0_4 a0_5 a0_6 l0_7)) else (sternpostref07_Check.j0 k true a0_0 a0_1 a0_2 a0_3 a0_4 a0_5 a0_6 l0_7))) else (sternpostref07_Check.j0 k true a0_0 a0_1 a0_2 a0_3 a0_4 a0_5 a0_6 l0_7))) else (sternpostref07_Check.j0 k true a0_0 a0_1 a0_2 a0_3 a0_4 a0_5 a0_6 l0_7))) else (sternpostref07_Check.j0 k true a0_0 a0_1 a0_2 a0_3 a0_4 a0_5 a0_6 l0_7)))))))=some r:=h
 clear h
 have HC2:=mkA H
 clear H
 go_enter Try.func39,Try.ntmps39
 go_upto_region 1 with (first|((with_reducible refine gate_dst (N:=1) rfl ?_);(try(refine gate_guard (by rfl) ?_;dsimp only));refine box_event ?hg (N:=1) ?hd (cs:=#[.int .i64 a0_0,.int .i64 a0_1,.int .i64 a0_2,.int .i64 a0_3,.bool a0_4,.bool a0_5,.bool a0_6,.slice A0_7 l0_7.length c0_7]) (t:=24) ?hr ?_;(case hd=>rfl);(case hg=>rfl);(case hr=>first|(go_simp;done)|(go_simp;rfl));intro gb217 hg w3 hbox hb;have n0_:=mkA (bT (by repeat(first|(with_reducible first|exact HB.out|apply bA|apply bN|apply bD)|exact HB.out)) hb);have n1_:=mkA (hbox);have n2_:=mkA ((by rw[hg];exact(bZ (by repeat(first|(with_reducible first|exact HB.out|apply bA|apply bN|apply bD)|exact HB.out))):w.heap.size≤gb217));have n3_:=mkA ((by rw[hg];exact(bZ (by repeat(first|(with_reducible first|exact HB.out|apply bA|apply bN|apply bD)|exact HB.out))):w.heap.size≤gb217));clear HB;have HB:=n0_;have BK217:=n1_;have GW217:=n2_;have GE217:=n3_;clear n0_ n1_ n2_ n3_;clear hb hbox hg))
 (try simp only[puts])
 go_cut [65] (fun v65 wc=>∃ (kq:Nat) (x65_1:Bool),v65=.bool x65_1∧Aside0 (sternpostref07_Check.j0 kq x65_1 a0_0 a0_1 a0_2 a0_3 a0_4 a0_5 a0_6 l0_7=some r)∧Aside0 (kq≤k)∧Aside0 (wc.heap[gb217]?=some (.cells #[.int .i64 a0_0,.int .i64 a0_1,.int .i64 a0_2,.int .i64 a0_3,.bool a0_4,.bool a0_5,.bool a0_6,(.slice A0_7 l0_7.length c0_7)] 24 (0,0)))∧Aside0 (Below w.heap.size w wc))
 case first =>
  have H:=HC2.out
  clear HC2
  by_cases c4:a0_0 < 0
  ·rw[if_pos c4] at H
   have c4b0:decide (a0_0 < 0)=true:=decide_eq_true c4
   clear c4
   (first|rw[c4b0]|(simp only[i64_w,i32_w];rw[c4b0])|rw[c4b1]|skip)
   have H':=mkA H
   clear H
   obtain⟨hcz5_0,hcz5_1,hcz5_2,hcz5_3,hcz5_4,hcz5_5,hcz5_6,hcz5_7⟩:=blk_cells8 BK217.out
   obtain⟨hfz5_0,hfz5_1,hfz5_2,hfz5_3,hfz5_4,hfz5_5,hfz5_6,hfz5_7⟩:=blk_frozens8 BK217.out
   go_wp2
   go_meet
   case rel=>exact⟨_,(true),(by first|rfl|(simp;done)|(simp[*];done)),H',⟨by first|omega|exact Nat.le_refl _⟩,⟨by(with_reducible repeat(first|refine kN ?_ _|refine kD ?_|refine kA ?_ _));exact BK217.out⟩,⟨by repeat(first|(with_reducible first|exact HB.out|apply bA|apply bN|apply bD|refine bS ?_ GE217.out)|exact HB.out)⟩⟩
  ·rw[if_neg c4] at H
   have c4b0:decide (a0_0 < 0)=false:=decide_eq_false c4
   clear c4
   (first|rw[c4b0]|(simp only[i64_w,i32_w];rw[c4b0])|rw[c4b1]|skip)
   by_cases c6:a0_0 > 65535
   ·rw[if_pos c6] at H
    have c6b0:decide (65535 < a0_0)=true:=decide_eq_true c6
    clear c6
    have H':=mkA H
    clear H
    obtain⟨hcz7_0,hcz7_1,hcz7_2,hcz7_3,hcz7_4,hcz7_5,hcz7_6,hcz7_7⟩:=blk_cells8 BK217.out
    obtain⟨hfz7_0,hfz7_1,hfz7_2,hfz7_3,hfz7_4,hfz7_5,hfz7_6,hfz7_7⟩:=blk_frozens8 BK217.out
    go_wp2
    go_meet
    case rel=>exact⟨_,(true),(by first|rfl|(simp;done)|(simp[*];done)),H',⟨by first|omega|exact Nat.le_refl _⟩,⟨by(with_reducible repeat(first|refine kN ?_ _|refine kD ?_|refine kA ?_ _));exact BK217.out⟩,⟨by repeat(first|(with_reducible first|exact HB.out|apply bA|apply bN|apply bD|refine bS ?_ GE217.out)|exact HB.out)⟩⟩
   ·rw[if_neg c6] at H
    have c6b0:decide (65535 < a0_0)=false:=decide_eq_false c6
    clear c6
    by_cases c8:a0_1 < 0
    ·rw[if_pos c8] at H
     have c8b0:decide (a0_1 < 0)=true:=decide_eq_true c8
     clear c8
     have H':=mkA H
     clear H
     obtain⟨hcz9_0,hcz9_1,hcz9_2,hcz9_3,hcz9_4,hcz9_5,hcz9_6,hcz9_7⟩:=blk_cells8 BK217.out
     obtain⟨hfz9_0,hfz9_1,hfz9_2,hfz9_3,hfz9_4,hfz9_5,hfz9_6,hfz9_7⟩:=blk_frozens8 BK217.out
     go_wp2
     go_meet
     case rel=>exact⟨_,(true),(by first|rfl|(simp;done)|(simp[*];done)),H',⟨by first|omega|exact Nat.le_refl _⟩,⟨by(with_reducible repeat(first|refine kN ?_ _|refine kD ?_|refine kA ?_ _));exact BK217.out⟩,⟨by repeat(first|(with_reducible first|exact HB.out|apply bA|apply bN|apply bD|refine bS ?_ GE217.out)|exact HB.out)⟩⟩
    ·rw[if_neg c8] at H
     have c8b0:decide (a0_1 < 0)=false:=decide_eq_false c8
     clear c8
     by_cases c10:a0_1 > 14
     ·rw[if_pos c10] at H
      have c10b0:decide (14 < a0_1)=true:=decide_eq_true c10
      clear c10
      have H':=mkA H
      clear H
      obtain⟨hcz11_0,hcz11_1,hcz11_2,hcz11_3,hcz11_4,hcz11_5,hcz11_6,hcz11_7⟩:=blk_cells8 BK217.out
      obtain⟨hfz11_0,hfz11_1,hfz11_2,hfz11_3,hfz11_4,hfz11_5,hfz11_6,hfz11_7⟩:=blk_frozens8 BK217.out
      go_wp2
      go_meet
      case rel=>exact⟨_,(true),(by first|rfl|(simp;done)|(simp[*];done)),H',⟨by first|omega|exact Nat.le_refl _⟩,⟨by(with_reducible repeat(first|refine kN ?_ _|refine kD ?_|refine kA ?_ _));exact BK217.out⟩,⟨by repeat(first|(with_reducible first|exact HB.out|apply bA|apply bN|apply bD|refine bS ?_ GE217.out)|exact HB.out)⟩⟩
     ·rw[if_neg c10] at H
      have c10b0:decide (14 < a0_1)=false:=decide_eq_false c10
      clear c10
      by_cases c12:a0_4=true
      ·subst c12
       have H1:((sternpostref01_Check.f a0_2).bind fun t218=>(if t218=0 then ((sternpostref01_Check.f a0_3).bind fun t219=>(if t219=0 then (if a0_6=true then (sternpostref07_Check.j0 k (decide ((l0_7.length:Int) > 4)) a0_0 a0_1 a0_2 a0_3 true a0_5 a0_6 l0_7) else (if a0_2=0 then (if a0_3=0 then (sternpostref07_Check.j0 k (decide ((l0_7.length:Int) > 4)) a0_0 a0_1 a0_2 a0_3 true a0_5 a0_6 l0_7) else (sternpostref07_Check.j0 k true a0_0 a0_1 a0_2 a0_3 true a0_5 a0_6 l0_7)) else (sternpostref07_Check.j0 k true a0_0 a0_1 a0_2 a0_3 true a0_5 a0_6 l0_7))) else (sternpostref07_Check.j0 k true a0_0 a0_1 a0_2 a0_3 true a0_5 a0_6 l0_7))) else (sternpostref07_Check.j0 k true a0_0 a0_1 a0_2 a0_3 true a0_5 a0_6 l0_7)))=some r:=by rw[if_pos rfl] at H;exact H
       clear H
       have H:=H1
       clear H1
       replace H:=Option.bind_eq_some_iff.mp H
       obtain⟨t218,A130,H⟩:=H
       replace H:(if t218=0 then ((sternpostref01_Check.f a0_3).bind fun t219=>(if t219=0 then (if a0_6=true then (sternpostref07_Check.j0 k (decide ((l0_7.length:Int) > 4)) a0_0 a0_1 a0_2 a0_3 true a0_5 a0_6 l0_7) else (if a0_2=0 then (if a0_3=0 then (sternpostref07_Check.j0 k (decide ((l0_7.length:Int) > 4)) a0_0 a0_1 a0_2 a0_3 true a0_5 a0_6 l0_7) else (sternpostref07_Check.j0 k true a0_0 a0_1 a0_2 a0_3 true a0_5 a0_6 l0_7)) else (sternpostref07_Check.j0 k true a0_0 a0_1 a0_2 a0_3 true a0_5 a0_6 l0_7))) else (sternpostref07_Check.j0 k true a0_0 a0_1 a0_2 a0_3 true a0_5 a0_6 l0_7))) else (sternpostref07_Check.j0 k true a0_0 a0_1 a0_2 a0_3 true a0_5 a0_6 l0_7))=some r:=H
       have A13:=mkA A130
       clear A130
       by_cases c14:t218=0
       ·rw[if_pos c14] at H
        have c14b0:(t218 == 0)=true:=beq_iff_eq.mpr c14
        have c14b1:(t218 != 0)=false:=bne_eq_false_iff_eq.mpr c14
        clear c14
        replace H:=Option.bind_eq_some_iff.mp H
        obtain⟨t219,A150,H⟩:=H
        replace H:(if t219=0 then (if a0_6=true then (sternpostref07_Check.j0 k (decide ((l0_7.length:Int) > 4)) a0_0 a0_1 a0_2 a0_3 true a0_5 a0_6 l0_7) else (if a0_2=0 then (if a0_3=0 then (sternpostref07_Check.j0 k (decide ((l0_7.length:Int) > 4)) a0_0 a0_1 a0_2 a0_3 true a0_5 a0_6 l0_7) else (sternpostref07_Check.j0 k true a0_0 a0_1 a0_2 a0_3 true a0_5 a0_6 l0_7)) else (sternpostref07_Check.j0 k true a0_0 a0_1 a0_2 a0_3 true a0_5 a0_6 l0_7))) else (sternpostref07_Check.j0 k true a0_0 a0_1 a0_2 a0_3 true a0_5 a0_6 l0_7))=some r:=H
        have A15:=mkA A150
        clear A150
        by_cases c16:t219=0
        ·rw[if_pos c16] at H
         have c16b0:(t219 == 0)=true:=beq_iff_eq.mpr c16
         have c16b1:(t219 != 0)=false:=bne_eq_false_iff_eq.mpr c16
         clear c16
         by_cases c17:a0_6=true
         ·subst c17
          have H1:(sternpostref07_Check.j0 k (decide ((l0_7.length:Int) > 4)) a0_0 a0_1 a0_2 a0_3 true a0_5 true l0_7)=some r:=by rw[if_pos rfl] at H;exact H
          clear H
          have H:=H1
          clear H1
          have H':=mkA H
          clear H
          obtain⟨hcz18_0,hcz18_1,hcz18_2,hcz18_3,hcz18_4,hcz18_5,hcz18_6,hcz18_7⟩:=blk_cells8 BK217.out
          obtain⟨hfz18_0,hfz18_1,hfz18_2,hfz18_3,hfz18_4,hfz18_5,hfz18_6,hfz18_7⟩:=blk_frozens8 BK217.out
          go_wp2_with (first|(go_at_call 37;(with_reducible refine(sternpostref01_Check.calls a0_2 t218 _ A13.out).mono ?_);rintro e w' ⟨rfl,⟨nd,rfl⟩⟩)|(go_at_call 37;(with_reducible refine(sternpostref01_Check.calls a0_3 t219 _ A15.out).mono ?_);rintro e w' ⟨rfl,⟨nd,rfl⟩⟩))
          go_meet
          case rel=>exact⟨_,(decide ((l0_7.length:Int) > 4)),(by first|rfl|(simp;done)|(simp[*];done)),H',⟨by first|omega|exact Nat.le_refl _⟩,⟨by(with_reducible repeat(first|refine kN ?_ _|refine kD ?_|refine kA ?_ _));exact BK217.out⟩,⟨by repeat(first|(with_reducible first|exact HB.out|apply bA|apply bN|apply bD|refine bS ?_ GE217.out)|exact HB.out)⟩⟩
         ·replace c17:=Bool.eq_false_iff.mpr c17
          subst c17
          have H1:(if a0_2=0 then (if a0_3=0 then (sternpostref07_Check.j0 k (decide ((l0_7.length:Int) > 4)) a0_0 a0_1 a0_2 a0_3 true a0_5 false l0_7) else (sternpostref07_Check.j0 k true a0_0 a0_1 a0_2 a0_3 true a0_5 false l0_7)) else (sternpostref07_Check.j0 k true a0_0 a0_1 a0_2 a0_3 true a0_5 false l0_7))=some r:=by rw[if_neg (show ¬ (false=true) by decide)] at H;exact H
          clear H
          have H:=H1
          clear H1
          by_cases c19:a0_2=0
          ·rw[if_pos c19] at H
           have c19b0:(a0_2 == 0)=true:=beq_iff_eq.mpr c19
           have c19b1:(a0_2 != 0)=false:=bne_eq_false_iff_eq.mpr c19
           clear c19
           by_cases c20:a0_3=0
           ·rw[if_pos c20] at H
            have c20b0:(a0_3 == 0)=true:=beq_iff_eq.mpr c20
            have c20b1:(a0_3 != 0)=false:=bne_eq_false_iff_eq.mpr c20
            clear c20
            have H':=mkA H
            clear H
            obtain⟨hcz21_0,hcz21_1,hcz21_2,hcz21_3,hcz21_4,hcz21_5,hcz21_6,hcz21_7⟩:=blk_cells8 BK217.out
            obtain⟨hfz21_0,hfz21_1,hfz21_2,hfz21_3,hfz21_4,hfz21_5,hfz21_6,hfz21_7⟩:=blk_frozens8 BK217.out
            go_wp2_with (first|(go_at_call 37;(with_reducible refine(sternpostref01_Check.calls a0_2 t218 _ A13.out).mono ?_);rintro e w' ⟨rfl,⟨nd,rfl⟩⟩)|(go_at_call 37;(with_reducible refine(sternpostref01_Check.calls a0_3 t219 _ A15.out).mono ?_);rintro e w' ⟨rfl,⟨nd,rfl⟩⟩))
            go_meet
            case rel=>exact⟨_,(decide ((l0_7.length:Int) > 4)),(by first|rfl|(simp;done)|(simp[*];done)),H',⟨by first|omega|exact Nat.le_refl _⟩,⟨by(with_reducible repeat(first|refine kN ?_ _|refine kD ?_|refine kA ?_ _));exact BK217.out⟩,⟨by repeat(first|(with_reducible first|exact HB.out|apply bA|apply bN|apply bD|refine bS ?_ GE217.out)|exact HB.out)⟩⟩
           ·rw[if_neg c20] at H
            have c20b0:(a0_3 == 0)=false:=beq_eq_false_iff_ne.mpr c20
            have c20b1:(a0_3 != 0)=true:=bne_iff_ne.mpr c20
            have H':=mkA H
            clear H
            obtain⟨hcz22_0,hcz22_1,hcz22_2,hcz22_3,hcz22_4,hcz22_5,hcz22_6,hcz22_7⟩:=blk_cells8 BK217.out
            obtain⟨hfz22_0,hfz22_1,hfz22_2,hfz22_3,hfz22_4,hfz22_5,hfz22_6,hfz22_7⟩:=blk_frozens8 BK217.out
            go_wp2_with (first|(go_at_call 37;(with_reducible refine(sternpostref01_Check.calls a0_2 t218 _ A13.out).mono ?_);rintro e w' ⟨rfl,⟨nd,rfl⟩⟩)|(go_at_call 37;(with_reducible refine(sternpostref01_Check.calls a0_3 t219 _ A15.out).mono ?_);rintro e w' ⟨rfl,⟨nd,rfl⟩⟩))
            go_meet
            case rel=>exact⟨_,(true),(by first|rfl|(simp;done)|(simp[*];done)),H',⟨by first|omega|exact Nat.le_refl _⟩,⟨by(with_reducible repeat(first|refine kN ?_ _|refine kD ?_|refine kA ?_ _));exact BK217.out⟩,⟨by repeat(first|(with_reducible first|exact HB.out|apply bA|apply bN|apply bD|refine bS ?_ GE217.out)|exact HB.out)⟩⟩
          ·rw[if_neg c19] at H
           have c19b0:(a0_2 == 0)=false:=beq_eq_false_iff_ne.mpr c19
           have c19b1:(a0_2 != 0)=true:=bne_iff_ne.mpr c19
           have H':=mkA H
           clear H
           obtain⟨hcz23_0,hcz23_1,hcz23_2,hcz23_3,hcz23_4,hcz23_5,hcz23_6,hcz23_7⟩:=blk_cells8 BK217.out
           obtain⟨hfz23_0,hfz23_1,hfz23_2,hfz23_3,hfz23_4,hfz23_5,hfz23_6,hfz23_7⟩:=blk_frozens8 BK217.out
           go_wp2_with (first|(go_at_call 37;(with_reducible refine(sternpostref01_Check.calls a0_2 t218 _ A13.out).mono ?_);rintro e w' ⟨rfl,⟨nd,rfl⟩⟩)|(go_at_call 37;(with_reducible refine(sternpostref01_Check.calls a0_3 t219 _ A15.out).mono ?_);rintro e w' ⟨rfl,⟨nd,rfl⟩⟩))
           go_meet
           case rel=>exact⟨_,(true),(by first|rfl|(simp;done)|(simp[*];done)),H',⟨by first|omega|exact Nat.le_refl _⟩,⟨by(with_reducible repeat(first|refine kN ?_ _|refine kD ?_|refine kA ?_ _));exact BK217.out⟩,⟨by repeat(first|(with_reducible first|exact HB.out|apply bA|apply bN|apply bD|refine bS ?_ GE217.out)|exact HB.out)⟩⟩
        ·rw[if_neg c16] at H
         have c16b0:(t219 == 0)=false:=beq_eq_false_iff_ne.mpr c16
         have c16b1:(t219 != 0)=true:=bne_iff_ne.mpr c16
         have H':=mkA H
         clear H
         obtain⟨hcz24_0,hcz24_1,hcz24_2,hcz24_3,hcz24_4,hcz24_5,hcz24_6,hcz24_7⟩:=blk_cells8 BK217.out
         obtain⟨hfz24_0,hfz24_1,hfz24_2,hfz24_3,hfz24_4,hfz24_5,hfz24_6,hfz24_7⟩:=blk_frozens8 BK217.out
         go_wp2_with (first|(go_at_call 37;(with_reducible refine(sternpostref01_Check.calls a0_2 t218 _ A13.out).mono ?_);rintro e w' ⟨rfl,⟨nd,rfl⟩⟩)|(go_at_call 37;(with_reducible refine(sternpostref01_Check.calls a0_3 t219 _ A15.out).mono ?_);rintro e w' ⟨rfl,⟨nd,rfl⟩⟩))
         go_meet
         case rel=>exact⟨_,(true),(by first|rfl|(simp;done)|(simp[*];done)),H',⟨by first|omega|exact Nat.le_refl _⟩,⟨by(with_reducible repeat(first|refine kN ?_ _|refine kD ?_|refine kA ?_ _));exact BK217.out⟩,⟨by repeat(first|(with_reducible first|exact HB.out|apply bA|apply bN|apply bD|refine bS ?_ GE217.out)|exact HB.out)⟩⟩
       ·rw[if_neg c14] at H
        have c14b0:(t218 == 0)=false:=beq_eq_false_iff_ne.mpr c14
        have c14b1:(t218 != 0)=true:=bne_iff_ne.mpr c14
        have H':=mkA H
        clear H
        obtain⟨hcz25_0,hcz25_1,hcz25_2,hcz25_3,hcz25_4,hcz25_5,hcz25_6,hcz25_7⟩:=blk_cells8 BK217.out
        obtain⟨hfz25_0,hfz25_1,hfz25_2,hfz25_3,hfz25_4,hfz25_5,hfz25_6,hfz25_7⟩:=blk_frozens8 BK217.out
        go_wp2_with (first|(go_at_call 37;(with_reducible refine(sternpostref01_Check.calls a0_2 t218 _ A13.out).mono ?_);rintro e w' ⟨rfl,⟨nd,rfl⟩⟩))
        go_meet
        case rel=>exact⟨_,(true),(by first|rfl|(simp;done)|(simp[*];done)),H',⟨by first|omega|exact Nat.le_refl _⟩,⟨by(with_reducible repeat(first|refine kN ?_ _|refine kD ?_|refine kA ?_ _));exact BK217.out⟩,⟨by repeat(first|(with_reducible first|exact HB.out|apply bA|apply bN|apply bD|refine bS ?_ GE217.out)|exact HB.out)⟩⟩
      ·replace c12:=Bool.eq_false_iff.mpr c12
       subst c12
       have H1:(if a0_1=0 then ((sternpostref01_Check.f a0_2).bind fun t220=>(if t220=0 then ((sternpostref01_Check.f a0_3).bind fun t221=>(if t221=0 then (if a0_6=true then (sternpostref07_Check.j0 k (decide ((l0_7.length:Int) > 4)) a0_0 a0_1 a0_2 a0_3 false a0_5 a0_6 l0_7) else (if a0_2=0 then (if a0_3=0 then (sternpostref07_Check.j0 k (decide ((l0_7.length:Int) > 4)) a0_0 a0_1 a0_2 a0_3 false a0_5 a0_6 l0_7) else (sternpostref07_Check.j0 k true a0_0 a0_1 a0_2 a0_3 false a0_5 a0_6 l0_7)) else (sternpostref07_Check.j0 k true a0_0 a0_1 a0_2 a0_3 false a0_5 a0_6 l0_7))) else (sternpostref07_Check.j0 k true a0_0 a0_1 a0_2 a0_3 false a0_5 a0_6 l0_7))) else (sternpostref07_Check.j0 k true a0_0 a0_1 a0_2 a0_3 false a0_5 a0_6 l0_7))) else (sternpostref07_Check.j0 k true a0_0 a0_1 a0_2 a0_3 false a0_5 a0_6 l0_7))=some r:=by rw[if_neg (show ¬ (false=true) by decide)] at H;exact H
       clear H
       have H:=H1
       clear H1
       by_cases c26:a0_1=0
       ·rw[if_pos c26] at H
        have c26b0:(a0_1 == 0)=true:=beq_iff_eq.mpr c26
        have c26b1:(a0_1 != 0)=false:=bne_eq_false_iff_eq.mpr c26
        clear c26
        replace H:=Option.bind_eq_some_iff.mp H
        obtain⟨t220,A270,H⟩:=H
        replace H:(if t220=0 then ((sternpostref01_Check.f a0_3).bind fun t221=>(if t221=0 then (if a0_6=true then (sternpostref07_Check.j0 k (decide ((l0_7.length:Int) > 4)) a0_0 a0_1 a0_2 a0_3 false a0_5 a0_6 l0_7) else (if a0_2=0 then (if a0_3=0 then (sternpostref07_Check.j0 k (decide ((l0_7.length:Int) > 4)) a0_0 a0_1 a0_2 a0_3 false a0_5 a0_6 l0_7) else (sternpostref07_Check.j0 k true a0_0 a0_1 a0_2 a0_3 false a0_5 a0_6 l0_7)) else (sternpostref07_Check.j0 k true a0_0 a0_1 a0_2 a0_3 false a0_5 a0_6 l0_7))) else (sternpostref07_Check.j0 k true a0_0 a0_1 a0_2 a0_3 false a0_5 a0_6 l0_7))) else (sternpostref07_Check.j0 k true a0_0 a0_1 a0_2 a0_3 false a0_5 a0_6 l0_7))=some r:=H
        have A27:=mkA A270
        clear A270
        by_cases c28:t220=0
        ·rw[if_pos c28] at H
         have c28b0:(t220 == 0)=true:=beq_iff_eq.mpr c28
         have c28b1:(t220 != 0)=false:=bne_eq_false_iff_eq.mpr c28
         clear c28
         replace H:=Option.bind_eq_some_iff.mp H
         obtain⟨t221,A290,H⟩:=H
         replace H:(if t221=0 then (if a0_6=true then (sternpostref07_Check.j0 k (decide ((l0_7.length:Int) > 4)) a0_0 a0_1 a0_2 a0_3 false a0_5 a0_6 l0_7) else (if a0_2=0 then (if a0_3=0 then (sternpostref07_Check.j0 k (decide ((l0_7.length:Int) > 4)) a0_0 a0_1 a0_2 a0_3 false a0_5 a0_6 l0_7) else (sternpostref07_Check.j0 k true a0_0 a0_1 a0_2 a0_3 false a0_5 a0_6 l0_7)) else (sternpostref07_Check.j0 k true a0_0 a0_1 a0_2 a0_3 false a0_5 a0_6 l0_7))) else (sternpostref07_Check.j0 k true a0_0 a0_1 a0_2 a0_3 false a0_5 a0_6 l0_7))=some r:=H
         have A29:=mkA A290
         clear A290
         by_cases c30:t221=0
         ·rw[if_pos c30] at H
          have c30b0:(t221 == 0)=true:=beq_iff_eq.mpr c30
          have c30b1:(t221 != 0)=false:=bne_eq_false_iff_eq.mpr c30
          clear c30
          by_cases c31:a0_6=true
          ·subst c31
           have H1:(sternpostref07_Check.j0 k (decide ((l0_7.length:Int) > 4)) a0_0 a0_1 a0_2 a0_3 false a0_5 true l0_7)=some r:=by rw[if_pos rfl] at H;exact H
           clear H
           have H:=H1
           clear H1
           have H':=mkA H
           clear H
           obtain⟨hcz32_0,hcz32_1,hcz32_2,hcz32_3,hcz32_4,hcz32_5,hcz32_6,hcz32_7⟩:=blk_cells8 BK217.out
           obtain⟨hfz32_0,hfz32_1,hfz32_2,hfz32_3,hfz32_4,hfz32_5,hfz32_6,hfz32_7⟩:=blk_frozens8 BK217.out
           go_wp2_with (first|(go_at_call 37;(with_reducible refine(sternpostref01_Check.calls a0_2 t220 _ A27.out).mono ?_);rintro e w' ⟨rfl,⟨nd,rfl⟩⟩)|(go_at_call 37;(with_reducible refine(sternpostref01_Check.calls a0_3 t221 _ A29.out).mono ?_);rintro e w' ⟨rfl,⟨nd,rfl⟩⟩))
           go_meet
           case rel=>exact⟨_,(decide ((l0_7.length:Int) > 4)),(by first|rfl|(simp;done)|(simp[*];done)),H',⟨by first|omega|exact Nat.le_refl _⟩,⟨by(with_reducible repeat(first|refine kN ?_ _|refine kD ?_|refine kA ?_ _));exact BK217.out⟩,⟨by repeat(first|(with_reducible first|exact HB.out|apply bA|apply bN|apply bD|refine bS ?_ GE217.out)|exact HB.out)⟩⟩
          ·replace c31:=Bool.eq_false_iff.mpr c31
           subst c31
           have H1:(if a0_2=0 then (if a0_3=0 then (sternpostref07_Check.j0 k (decide ((l0_7.length:Int) > 4)) a0_0 a0_1 a0_2 a0_3 false a0_5 false l0_7) else (sternpostref07_Check.j0 k true a0_0 a0_1 a0_2 a0_3 false a0_5 false l0_7)) else (sternpostref07_Check.j0 k true a0_0 a0_1 a0_2 a0_3 false a0_5 false l0_7))=some r:=by rw[if_neg (show ¬ (false=true) by decide)] at H;exact H
           clear H
           have H:=H1
           clear H1
           by_cases c33:a0_2=0
           ·rw[if_pos c33] at H
            have c33b0:(a0_2 == 0)=true:=beq_iff_eq.mpr c33
            have c33b1:(a0_2 != 0)=false:=bne_eq_false_iff_eq.mpr c33
            clear c33
            by_cases c34:a0_3=0
            ·rw[if_pos c34] at H
             have c34b0:(a0_3 == 0)=true:=beq_iff_eq.mpr c34
             have c34b1:(a0_3 != 0)=false:=bne_eq_false_iff_eq.mpr c34
             clear c34
             have H':=mkA H
             clear H
             obtain⟨hcz35_0,hcz35_1,hcz35_2,hcz35_3,hcz35_4,hcz35_5,hcz35_6,hcz35_7⟩:=blk_cells8 BK217.out
             obtain⟨hfz35_0,hfz35_1,hfz35_2,hfz35_3,hfz35_4,hfz35_5,hfz35_6,hfz35_7⟩:=blk_frozens8 BK217.out
             go_wp2_with (first|(go_at_call 37;(with_reducible refine(sternpostref01_Check.calls a0_2 t220 _ A27.out).mono ?_);rintro e w' ⟨rfl,⟨nd,rfl⟩⟩)|(go_at_call 37;(with_reducible refine(sternpostref01_Check.calls a0_3 t221 _ A29.out).mono ?_);rintro e w' ⟨rfl,⟨nd,rfl⟩⟩))
             go_meet
             case rel=>exact⟨_,(decide ((l0_7.length:Int) > 4)),(by first|rfl|(simp;done)|(simp[*];done)),H',⟨by first|omega|exact Nat.le_refl _⟩,⟨by(with_reducible repeat(first|refine kN ?_ _|refine kD ?_|refine kA ?_ _));exact BK217.out⟩,⟨by repeat(first|(with_reducible first|exact HB.out|apply bA|apply bN|apply bD|refine bS ?_ GE217.out)|exact HB.out)⟩⟩
            ·rw[if_neg c34] at H
             have c34b0:(a0_3 == 0)=false:=beq_eq_false_iff_ne.mpr c34
             have c34b1:(a0_3 != 0)=true:=bne_iff_ne.mpr c34
             have H':=mkA H
             clear H
             obtain⟨hcz36_0,hcz36_1,hcz36_2,hcz36_3,hcz36_4,hcz36_5,hcz36_6,hcz36_7⟩:=blk_cells8 BK217.out
             obtain⟨hfz36_0,hfz36_1,hfz36_2,hfz36_3,hfz36_4,hfz36_5,hfz36_6,hfz36_7⟩:=blk_frozens8 BK217.out
             go_wp2_with (first|(go_at_call 37;(with_reducible refine(sternpostref01_Check.calls a0_2 t220 _ A27.out).mono ?_);rintro e w' ⟨rfl,⟨nd,rfl⟩⟩)|(go_at_call 37;(with_reducible refine(sternpostref01_Check.calls a0_3 t221 _ A29.out).mono ?_);rintro e w' ⟨rfl,⟨nd,rfl⟩⟩))
             go_meet
             case rel=>exact⟨_,(true),(by first|rfl|(simp;done)|(simp[*];done)),H',⟨by first|omega|exact Nat.le_refl _⟩,⟨by(with_reducible repeat(first|refine kN ?_ _|refine kD ?_|refine kA ?_ _));exact BK217.out⟩,⟨by repeat(first|(with_reducible first|exact HB.out|apply bA|apply bN|apply bD|refine bS ?_ GE217.out)|exact HB.out)⟩⟩
           ·rw[if_neg c33] at H
            have c33b0:(a0_2 == 0)=false:=beq_eq_false_iff_ne.mpr c33
            have c33b1:(a0_2 != 0)=true:=bne_iff_ne.mpr c33
            have H':=mkA H
            clear H
            obtain⟨hcz37_0,hcz37_1,hcz37_2,hcz37_3,hcz37_4,hcz37_5,hcz37_6,hcz37_7⟩:=blk_cells8 BK217.out
            obtain⟨hfz37_0,hfz37_1,hfz37_2,hfz37_3,hfz37_4,hfz37_5,hfz37_6,hfz37_7⟩:=blk_frozens8 BK217.out
            go_wp2_with (first|(go_at_call 37;(with_reducible refine(sternpostref01_Check.calls a0_2 t220 _ A27.out).mono ?_);rintro e w' ⟨rfl,⟨nd,rfl⟩⟩)|(go_at_call 37;(with_reducible refine(sternpostref01_Check.calls a0_3 t221 _ A29.out).mono ?_);rintro e w' ⟨rfl,⟨nd,rfl⟩⟩))
            go_meet
            case rel=>exact⟨_,(true),(by first|rfl|(simp;done)|(simp[*];done)),H',⟨by first|omega|exact Nat.le_refl _⟩,⟨by(with_reducible repeat(first|refine kN ?_ _|refine kD ?_|refine kA ?_ _));exact BK217.out⟩,⟨by repeat(first|(with_reducible first|exact HB.out|apply bA|apply bN|apply bD|refine bS ?_ GE217.out)|exact HB.out)⟩⟩
         ·rw[if_neg c30] at H
          have c30b0:(t221 == 0)=false:=beq_eq_false_iff_ne.mpr c30
          have c30b1:(t221 != 0)=true:=bne_iff_ne.mpr c30
          have H':=mkA H
          clear H
          obtain⟨hcz38_0,hcz38_1,hcz38_2,hcz38_3,hcz38_4,hcz38_5,hcz38_6,hcz38_7⟩:=blk_cells8 BK217.out
          obtain⟨hfz38_0,hfz38_1,hfz38_2,hfz38_3,hfz38_4,hfz38_5,hfz38_6,hfz38_7⟩:=blk_frozens8 BK217.out
          go_wp2_with (first|(go_at_call 37;(with_reducible refine(sternpostref01_Check.calls a0_2 t220 _ A27.out).mono ?_);rintro e w' ⟨rfl,⟨nd,rfl⟩⟩)|(go_at_call 37;(with_reducible refine(sternpostref01_Check.calls a0_3 t221 _ A29.out).mono ?_);rintro e w' ⟨rfl,⟨nd,rfl⟩⟩))
          go_meet
          case rel=>exact⟨_,(true),(by first|rfl|(simp;done)|(simp[*];done)),H',⟨by first|omega|exact Nat.le_refl _⟩,⟨by(with_reducible repeat(first|refine kN ?_ _|refine kD ?_|refine kA ?_ _));exact BK217.out⟩,⟨by repeat(first|(with_reducible first|exact HB.out|apply bA|apply bN|apply bD|refine bS ?_ GE217.out)|exact HB.out)⟩⟩
        ·rw[if_neg c28] at H
         have c28b0:(t220 == 0)=false:=beq_eq_false_iff_ne.mpr c28
         have c28b1:(t220 != 0)=true:=bne_iff_ne.mpr c28
         have H':=mkA H
         clear H
         obtain⟨hcz39_0,hcz39_1,hcz39_2,hcz39_3,hcz39_4,hcz39_5,hcz39_6,hcz39_7⟩:=blk_cells8 BK217.out
         obtain⟨hfz39_0,hfz39_1,hfz39_2,hfz39_3,hfz39_4,hfz39_5,hfz39_6,hfz39_7⟩:=blk_frozens8 BK217.out
         go_wp2_with (first|(go_at_call 37;(with_reducible refine(sternpostref01_Check.calls a0_2 t220 _ A27.out).mono ?_);rintro e w' ⟨rfl,⟨nd,rfl⟩⟩))
         go_meet
         case rel=>exact⟨_,(true),(by first|rfl|(simp;done)|(simp[*];done)),H',⟨by first|omega|exact Nat.le_refl _⟩,⟨by(with_reducible repeat(first|refine kN ?_ _|refine kD ?_|refine kA ?_ _));exact BK217.out⟩,⟨by repeat(first|(with_reducible first|exact HB.out|apply bA|apply bN|apply bD|refine bS ?_ GE217.out)|exact HB.out)⟩⟩
       ·rw[if_neg c26] at H
        have c26b0:(a0_1 == 0)=false:=beq_eq_false_iff_ne.mpr c26
        have c26b1:(a0_1 != 0)=true:=bne_iff_ne.mpr c26
        have H':=mkA H
        clear H
        obtain⟨hcz40_0,hcz40_1,hcz40_2,hcz40_3,hcz40_4,hcz40_5,hcz40_6,hcz40_7⟩:=blk_cells8 BK217.out
        obtain⟨hfz40_0,hfz40_1,hfz40_2,hfz40_3,hfz40_4,hfz40_5,hfz40_6,hfz40_7⟩:=blk_frozens8 BK217.out
        go_wp2
        go_meet
        case rel=>exact⟨_,(true),(by first|rfl|(simp;done)|(simp[*];done)),H',⟨by first|omega|exact Nat.le_refl _⟩,⟨by(with_reducible repeat(first|refine kN ?_ _|refine kD ?_|refine kA ?_ _));exact BK217.out⟩,⟨by repeat(first|(with_reducible first|exact HB.out|apply bA|apply bN|apply bD|refine bS ?_ GE217.out)|exact HB.out)⟩⟩
 case rest =>
  clear HC2
  try clear c1;try clear c2;try clear p2;try clear c3;try clear c4;try clear c4b0;try clear c4b1;try clear c6;try clear c6b0;try clear c8;try clear c8b0;try clear c10;try clear c10b0;try clear c12;try clear c14;try clear c14b0;try clear c14b1;try clear c16;try clear c16b0;try clear c16b1;try clear c17;try clear c19;try clear c19b0;try clear c19b1;try clear c20;try clear c20b0;try clear c20b1;try clear c26;try clear c26b0;try clear c26b1;try clear c28;try clear c28b0;try clear c28b1;try clear c30;try clear c30b0;try clear c30b1;try clear c31;try clear c33;try clear c33b0;try clear c33b1;try clear c34;try clear c34b0;try clear c34b1;try clear c39;try clear hcz11_0 hcz11_1 hcz11_2 hcz11_3 hcz11_4 hcz11_5 hcz11_6 hcz11_7;try clear hcz18_0 hcz18_1 hcz18_2 hcz18_3 hcz18_4 hcz18_5 hcz18_6 hcz18_7;try clear hcz21_0 hcz21_1 hcz21_2 hcz21_3 hcz21_4 hcz21_5 hcz21_6 hcz21_7;try clear hcz22_0 hcz22_1 hcz22_2 hcz22_3 hcz22_4 hcz22_5 hcz22_6 hcz22_7;try clear hcz23_0 hcz23_1 hcz23_2 hcz23_3 hcz23_4 hcz23_5 hcz23_6 hcz23_7;try clear hcz24_0 hcz24_1 hcz24_2 hcz24_3 hcz24_4 hcz24_5 hcz24_6 hcz24_7;try clear hcz25_0 hcz25_1 hcz25_2 hcz25_3 hcz25_4 hcz25_5 hcz25_6 hcz25_7;try clear hcz32_0 hcz32_1 hcz32_2 hcz32_3 hcz32_4 hcz32_5 hcz32_6 hcz32_7;try clear hcz35_0 hcz35_1 hcz35_2 hcz35_3 hcz35_4 hcz35_5 hcz35_6 hcz35_7;try clear hcz36_0 hcz36_1 hcz36_2 hcz36_3 hcz36_4 hcz36_5 hcz36_6 hcz36_7;try clear hcz37_0 hcz37_1 hcz37_2 hcz37_3 hcz37_4 hcz37_5 hcz37_6 hcz37_7;try clear hcz38_0 hcz38_1 hcz38_2 hcz38_3 hcz38_4 hcz38_5 hcz38_6 hcz38_7;try clear hcz39_0 hcz39_1 hcz39_2 hcz39_3 hcz39_4 hcz39_5 hcz39_6 hcz39_7;try clear hcz40_0 hcz40_1 hcz40_2 hcz40_3 hcz40_4 hcz40_5 hcz40_6 hcz40_7;try clear hcz5_0 hcz5_1 hcz5_2 hcz5_3 hcz5_4 hcz5_5 hcz5_6 hcz5_7;try clear hcz7_0 hcz7_1 hcz7_2 hcz7_3 hcz7_4 hcz7_5 hcz7_6 hcz7_7;try clear hcz9_0 hcz9_1 hcz9_2 hcz9_3 hcz9_4 hcz9_5 hcz9_6 hcz9_7;try clear hfz11_0 hfz11_1 hfz11_2 hfz11_3 hfz11_4 hfz11_5 hfz11_6 hfz11_7;try clear hfz18_0 hfz18_1 hfz18_2 hfz18_3 hfz18_4 hfz18_5 hfz18_6 hfz18_7;try clear hfz21_0 hfz21_1 hfz21_2 hfz21_3 hfz21_4 hfz21_5 hfz21_6 hfz21_7;try clear hfz22_0 hfz22_1 hfz22_2 hfz22_3 hfz22_4 hfz22_5 hfz22_6 hfz22_7;try clear hfz23_0 hfz23_1 hfz23_2 hfz23_3 hfz23_4 hfz23_5 hfz23_6 hfz23_7;try clear hfz24_0 hfz24_1 hfz24_2 hfz24_3 hfz24_4 hfz24_5 hfz24_6 hfz24_7;try clear hfz25_0 hfz25_1 hfz25_2 hfz25_3 hfz25_4 hfz25_5 hfz25_6 hfz25_7;try clear hfz32_0 hfz32_1 hfz32_2 hfz32_3 hfz32_4 hfz32_5 hfz32_6 hfz32_7;try clear hfz35_0 hfz35_1 hfz35_2 hfz35_3 hfz35_4 hfz35_5 hfz35_6 hfz35_7;try clear hfz36_0 hfz36_1 hfz36_2 hfz36_3 hfz36_4 hfz36_5 hfz36_6 hfz36_7;try clear hfz37_0 hfz37_1 hfz37_2 hfz37_3 hfz37_4 hfz37_5 hfz37_6 hfz37_7;try clear hfz38_0 hfz38_1 hfz38_2 hfz38_3 hfz38_4 hfz38_5 hfz38_6 hfz38_7;try clear hfz39_0 hfz39_1 hfz39_2 hfz39_3 hfz39_4 hfz39_5 hfz39_6 hfz39_7;try clear hfz40_0 hfz40_1 hfz40_2 hfz40_3 hfz40_4 hfz40_5 hfz40_6 hfz40_7;try clear hfz5_0 hfz5_1 hfz5_2 hfz5_3 hfz5_4 hfz5_5 hfz5_6 hfz5_7;try clear hfz7_0 hfz7_1 hfz7_2 hfz7_3 hfz7_4 hfz7_5 hfz7_6 hfz7_7;try clear hfz9_0 hfz9_1 hfz9_2 hfz9_3 hfz9_4 hfz9_5 hfz9_6 hfz9_7
  obtain⟨kq,x65_1,rfl,HA,HJ1,BK217,HB⟩:=hcut
  cases kq with
  | zero=>exact absurd HA.out (by simp[sternpostref07_Check.j0])
  | succ kj1 =>
   have H:=HA.out
   clear HA
   simp only[sternpostref07_Check.j0] at H
   by_cases c41:x65_1=true
   ·subst c41
    have H1:(some 70)=some r:=by rw[if_pos rfl] at H;exact H
    clear H
    have H:=H1
    clear H1
    obtain rfl:=Option.some.inj H
    go_wp2
    go_ret
    exact⟨by first|rfl|(simp[errW_none,errW_some] <;> rfl)|(simp[*,errW_none,errW_some] <;> rfl),by repeat(first|(with_reducible first|exact HB.out|apply bA|apply bN|apply bD|refine bS ?_ GE217.out)|exact HB.out)⟩
   ·replace c41:=Bool.eq_false_iff.mpr c41
    subst c41
    have H1:(sternpostref07_Check.l0 kj1 0 a0_0 a0_1 a0_2 a0_3 a0_4 a0_5 a0_6 l0_7)=some r:=by rw[if_neg (show ¬ (false=true) by decide)] at H;exact H
    clear H
    have H:=H1
    clear H1
    have H':=mkA H
    clear H
    go_wp2
    go_loopg [3] kj1 (fun kq v3 w'=>∃ (x3_2:Int),v3=.int .i64 x3_2∧Aside0 (sternpostref07_Check.l0 kq x3_2 a0_0 a0_1 a0_2 a0_3 a0_4 a0_5 a0_6 l0_7=some r)∧Aside0 (kq≤kj1)∧Aside0 (w'.heap[gb217]?=some (.cells #[.int .i64 a0_0,.int .i64 a0_1,.int .i64 a0_2,.int .i64 a0_3,.bool a0_4,.bool a0_5,.bool a0_6,(.slice A0_7 l0_7.length c0_7)] 24 (0,0)))∧Aside0 (Below w.heap.size w w'))
    case atStart=>exact⟨(0),(by first|rfl|(simp;done)|(simp[*];done)),H',⟨Nat.le_refl _⟩,⟨by(with_reducible repeat(first|refine kN ?_ _|refine kD ?_|refine kA ?_ _));exact BK217.out⟩,⟨by repeat(first|(with_reducible first|exact HB.out|apply bA|apply bN|apply bD|refine bS ?_ GE217.out)|exact HB.out)⟩⟩
    case round =>
     clear H'
     try clear c1;try clear c2;try clear p2;try clear c3;try clear c4;try clear c4b0;try clear c4b1;try clear c6;try clear c6b0;try clear c8;try clear c8b0;try clear c10;try clear c10b0;try clear c12;try clear c14;try clear c14b0;try clear c14b1;try clear c16;try clear c16b0;try clear c16b1;try clear c17;try clear c19;try clear c19b0;try clear c19b1;try clear c20;try clear c20b0;try clear c20b1;try clear c26;try clear c26b0;try clear c26b1;try clear c28;try clear c28b0;try clear c28b1;try clear c30;try clear c30b0;try clear c30b1;try clear c31;try clear c33;try clear c33b0;try clear c33b1;try clear c34;try clear c34b0;try clear c34b1;try clear c39;try clear c41;try clear hcz11_0 hcz11_1 hcz11_2 hcz11_3 hcz11_4 hcz11_5 hcz11_6 hcz11_7;try clear hcz18_0 hcz18_1 hcz18_2 hcz18_3 hcz18_4 hcz18_5 hcz18_6 hcz18_7;try clear hcz21_0 hcz21_1 hcz21_2 hcz21_3 hcz21_4 hcz21_5 hcz21_6 hcz21_7;try clear hcz22_0 hcz22_1 hcz22_2 hcz22_3 hcz22_4 hcz22_5 hcz22_6 hcz22_7;try clear hcz23_0 hcz23_1 hcz23_2 hcz23_3 hcz23_4 hcz23_5 hcz23_6 hcz23_7;try clear hcz24_0 hcz24_1 hcz24_2 hcz24_3 hcz24_4 hcz24_5 hcz24_6 hcz24_7;try clear hcz25_0 hcz25_1 hcz25_2 hcz25_3 hcz25_4 hcz25_5 hcz25_6 hcz25_7;try clear hcz32_0 hcz32_1 hcz32_2 hcz32_3 hcz32_4 hcz32_5 hcz32_6 hcz32_7;try clear hcz35_0 hcz35_1 hcz35_2 hcz35_3 hcz35_4 hcz35_5 hcz35_6 hcz35_7;try clear hcz36_0 hcz36_1 hcz36_2 hcz36_3 hcz36_4 hcz36_5 hcz36_6 hcz36_7;try clear hcz37_0 hcz37_1 hcz37_2 hcz37_3 hcz37_4 hcz37_5 hcz37_6 hcz37_7;try clear hcz38_0 hcz38_1 hcz38_2 hcz38_3 hcz38_4 hcz38_5 hcz38_6 hcz38_7;try clear hcz39_0 hcz39_1 hcz39_2 hcz39_3 hcz39_4 hcz39_5 hcz39_6 hcz39_7;try clear hcz40_0 hcz40_1 hcz40_2 hcz40_3 hcz40_4 hcz40_5 hcz40_6 hcz40_7;try clear hcz5_0 hcz5_1 hcz5_2 hcz5_3 hcz5_4 hcz5_5 hcz5_6 hcz5_7;try clear hcz7_0 hcz7_1 hcz7_2 hcz7_3 hcz7_4 hcz7_5 hcz7_6 hcz7_7;try clear hcz9_0 hcz9_1 hcz9_2 hcz9_3 hcz9_4 hcz9_5 hcz9_6 hcz9_7;try clear hfz11_0 hfz11_1 hfz11_2 hfz11_3 hfz11_4 hfz11_5 hfz11_6 hfz11_7;try clear hfz18_0 hfz18_1 hfz18_2 hfz18_3 hfz18_4 hfz18_5 hfz18_6 hfz18_7;try clear hfz21_0 hfz21_1 hfz21_2 hfz21_3 hfz21_4 hfz21_5 hfz21_6 hfz21_7;try clear hfz22_0 hfz22_1 hfz22_2 hfz22_3 hfz22_4 hfz22_5 hfz22_6 hfz22_7;try clear hfz23_0 hfz23_1 hfz23_2 hfz23_3 hfz23_4 hfz23_5 hfz23_6 hfz23_7;try clear hfz24_0 hfz24_1 hfz24_2 hfz24_3 hfz24_4 hfz24_5 hfz24_6 hfz24_7;try clear hfz25_0 hfz25_1 hfz25_2 hfz25_3 hfz25_4 hfz25_5 hfz25_6 hfz25_7;try clear hfz32_0 hfz32_1 hfz32_2 hfz32_3 hfz32_4 hfz32_5 hfz32_6 hfz32_7;try clear hfz35_0 hfz35_1 hfz35_2 hfz35_3 hfz35_4 hfz35_5 hfz35_6 hfz35_7;try clear hfz36_0 hfz36_1 hfz36_2 hfz36_3 hfz36_4 hfz36_5 hfz36_6 hfz36_7;try clear hfz37_0 hfz37_1 hfz37_2 hfz37_3 hfz37_4 hfz37_5 hfz37_6 hfz37_7;try clear hfz38_0 hfz38_1 hfz38_2 hfz38_3 hfz38_4 hfz38_5 hfz38_6 hfz38_7;try clear hfz39_0 hfz39_1 hfz39_2 hfz39_3 hfz39_4 hfz39_5 hfz39_6 hfz39_7;try clear hfz40_0 hfz40_1 hfz40_2 hfz40_3 hfz40_4 hfz40_5 hfz40_6 hfz40_7;try clear hfz5_0 hfz5_1 hfz5_2 hfz5_3 hfz5_4 hfz5_5 hfz5_6 hfz5_7;try clear hfz7_0 hfz7_1 hfz7_2 hfz7_3 hfz7_4 hfz7_5 hfz7_6 hfz7_7;try clear hfz9_0 hfz9_1 hfz9_2 hfz9_3 hfz9_4 hfz9_5 hfz9_6 hfz9_7;try clear p2
     obtain⟨x3_2,rfl,HA,HK2,BK217,HB⟩:=hrel
     cases gk with
     | zero=>exact absurd HA.out (by simp[sternpostref07_Check.l0])
     | succ k2 =>
      have H:=HA.out
      clear HA
      simp only[sternpostref07_Check.l0] at H
      by_cases c42:x3_2 < (l0_7.length:Int)
      ·rw[if_pos c42] at H
       have c42b0:decide (x3_2 < (l0_7.length:Int))=true:=decide_eq_true c42
       clear c42
       by_cases c43:0≤x3_2
       ·rw[if_pos c43] at H
        have c43b0:decide (0≤x3_2)=true:=decide_eq_true c43
        clear c43
        have HC44:=mkA H
        clear H
        obtain⟨hcz45_0,hcz45_1,hcz45_2,hcz45_3,hcz45_4,hcz45_5,hcz45_6,hcz45_7⟩:=blk_cells8 BK217.out
        obtain⟨hfz45_0,hfz45_1,hfz45_2,hfz45_3,hfz45_4,hfz45_5,hfz45_6,hfz45_7⟩:=blk_frozens8 BK217.out
        have p222:0≤(x3_2:Int):=of_decide_eq_true (by first|(with_reducible assumption)|assumption)
        have q222:x3_2 < (l0_7.length:Int):=of_decide_eq_true (by first|(with_reducible assumption)|assumption)
        obtain⟨ad222,e222,hx222_0,hx222_1⟩:=at_T73 HR0_7.out x3_2 p222 q222
        cases e222
        replace hx222_0:=(HB.out.cell (World.block_lt_of_cell? w _ hx222_0)).trans hx222_0
        replace hx222_1:=(HB.out.cell (World.block_lt_of_cell? w _ hx222_1)).trans hx222_1
        replace p222:=eq_true p222
        replace q222:=eq_true q222
        go_upto_region 7 with (first|((with_reducible refine gate_dst (N:=4) rfl ?_);(try(refine gate_guard (by rfl) ?_;dsimp only));refine box_event ?hg (N:=4) ?hd (cs:=#[.int .i64 0,.int .i64 0]) (t:=73) ?hr ?_;(case hd=>rfl);(case hg=>rfl);(case hr=>first|(go_simp;done)|(go_simp;rfl));intro gb223 hg w46 hbox hb;have n0_:=mkA (kB (g:=gb217) (by(with_reducible repeat(first|apply kN|apply kD|apply kA));exact BK217.out) hb);have n1_:=mkA (bT (by repeat(first|(with_reducible first|exact HB.out|apply bA|apply bN|apply bD|refine bS ?_ GE217.out)|exact HB.out)) hb);have n2_:=mkA (hbox);have n3_:=mkA ((by rw[hg];exact(bZ (by repeat(first|(with_reducible first|exact HB.out|apply bA|apply bN|apply bD|refine bS ?_ GE217.out)|exact HB.out))):w.heap.size≤gb223));have n4_:=mkA ((by rw[hg];exact(bZ (by repeat(first|(with_reducible first|exact HB.out|apply bA|apply bN|apply bD|refine bS ?_ GE217.out)|exact HB.out))):w.heap.size≤gb223));have n5_:=mkA ((by rw[hg];exact Nat.ne_of_lt (blk_lt (g:=gb217) (by(with_reducible repeat(first|apply kN|apply kD|apply kA));exact BK217.out)):gb217≠gb223));have n6_:=mkA ((by rw[hg];exact Nat.ne_of_gt (blk_lt (g:=gb217) (by(with_reducible repeat(first|apply kN|apply kD|apply kA));exact BK217.out)):gb223≠gb217));clear BK217;clear HB;have BK217:=n0_;have HB:=n1_;have BK223:=n2_;have GW223:=n3_;have GE223:=n4_;have NB217_223:=n5_;have NB223_217:=n6_;clear n0_ n1_ n2_ n3_ n4_ n5_ n6_;clear hb hbox hg;have hnb47:=NB223_217.out;have hnc47:=NB217_223.out;obtain⟨hcz48_0,hcz48_1⟩:=blk_cells2 BK223.out;obtain⟨hfz48_0,hfz48_1⟩:=blk_frozens2 BK223.out))
        (try simp only[puts])
        go_cut [94] (fun v94 wc=>∃ (kq:Nat) (x94_43:Bool),v94=.bool x94_43∧Aside0 (sternpostref07_Check.j2 kq x3_2 x94_43 a0_0 a0_1 a0_2 a0_3 a0_4 a0_5 a0_6 l0_7=some r)∧Aside0 (kq≤k2)∧Aside0 (wc.heap[gb217]?=some (.cells #[.int .i64 a0_0,.int .i64 a0_1,.int .i64 a0_2,.int .i64 a0_3,.bool a0_4,.bool a0_5,.bool a0_6,(.slice (some ad222) l0_7.length c0_7)] 24 (0,0)))∧Aside0 (wc.heap[gb223]?=some (.cells #[.int .i64 ((rd_T73 l0_7 x3_2).f0),.int .i64 ((rd_T73 l0_7 x3_2).f1)] 73 (0,0)))∧Aside0 (Below w.heap.size w wc))
        case first =>
         have H:=HC44.out
         clear HC44
         replace H:=Option.bind_eq_some_iff.mp H
         obtain⟨t224,A490,H⟩:=H
         replace H:(if t224=0 then ((sternpostref01_Check.f ((rd_T73 l0_7 x3_2).f1)).bind fun t225=>(if t225=0 then (sternpostref07_Check.j2 k2 x3_2 (((rd_T73 l0_7 x3_2).f0) == ((rd_T73 l0_7 x3_2).f1)) a0_0 a0_1 a0_2 a0_3 a0_4 a0_5 a0_6 l0_7) else (sternpostref07_Check.j2 k2 x3_2 true a0_0 a0_1 a0_2 a0_3 a0_4 a0_5 a0_6 l0_7))) else (sternpostref07_Check.j2 k2 x3_2 true a0_0 a0_1 a0_2 a0_3 a0_4 a0_5 a0_6 l0_7))=some r:=H
         have A49:=mkA A490
         clear A490
         by_cases c50:t224=0
         ·rw[if_pos c50] at H
          have c50b0:(t224 == 0)=true:=beq_iff_eq.mpr c50
          have c50b1:(t224 != 0)=false:=bne_eq_false_iff_eq.mpr c50
          clear c50
          (first|rw[c50b0]|(simp only[i64_w,i32_w];rw[c50b0])|rw[c50b1]|skip)
          replace H:=Option.bind_eq_some_iff.mp H
          obtain⟨t225,A510,H⟩:=H
          replace H:(if t225=0 then (sternpostref07_Check.j2 k2 x3_2 (((rd_T73 l0_7 x3_2).f0) == ((rd_T73 l0_7 x3_2).f1)) a0_0 a0_1 a0_2 a0_3 a0_4 a0_5 a0_6 l0_7) else (sternpostref07_Check.j2 k2 x3_2 true a0_0 a0_1 a0_2 a0_3 a0_4 a0_5 a0_6 l0_7))=some r:=H
          have A51:=mkA A510
          clear A510
          by_cases c52:t225=0
          ·rw[if_pos c52] at H
           have c52b0:(t225 == 0)=true:=beq_iff_eq.mpr c52
           have c52b1:(t225 != 0)=false:=bne_eq_false_iff_eq.mpr c52
           clear c52
           have H':=mkA H
           clear H
           have hnb53:=NB223_217.out
           have hnc53:=NB217_223.out
           obtain⟨hcz54_0,hcz54_1⟩:=blk_cells2 BK223.out
           obtain⟨hfz54_0,hfz54_1⟩:=blk_frozens2 BK223.out
           go_wp2_with (first|((with_reducible refine gate_callee (f:=37) rfl ?_);refine goesL_ (some 80) rfl rfl Try.func37 (by kernel_rfl) rfl #[.int .i64 ((rd_T73 l0_7 x3_2).f0)] rfl (by(try simp only[List.map_toArray,List.map_cons,List.map_nil]);first|done|rfl|(simp only[List.length_drop,List.length_take];rfl)) ?_;(with_reducible refine(sternpostref01_Check.calls ((rd_T73 l0_7 x3_2).f0) t224 _ A49.out).mono ?_);rintro e w' ⟨rfl,⟨nd,rfl⟩⟩;refine⟨_,rfl,?_⟩)|(go_at_call 37;(with_reducible refine(sternpostref01_Check.calls ((rd_T73 l0_7 x3_2).f1) t225 _ A51.out).mono ?_);rintro e w' ⟨rfl,⟨nd,rfl⟩⟩))
           go_meet
           case rel=>exact⟨_,((((rd_T73 l0_7 x3_2).f0) == ((rd_T73 l0_7 x3_2).f1))),(by first|rfl|(simp;done)|(simp[*];done)),H',⟨by have:=HJ1.out;have:=HK2.out;first|omega|exact Nat.le_refl _⟩,⟨by(with_reducible repeat(first|refine kN ?_ _|refine kD ?_|refine kA ?_ _));refine kW ?_ NB217_223.out _;(with_reducible repeat(first|refine kN ?_ _|refine kD ?_|refine kA ?_ _));refine kW ?_ NB217_223.out _;(with_reducible repeat(first|refine kN ?_ _|refine kD ?_|refine kA ?_ _));exact BK217.out⟩,⟨by(with_reducible repeat(first|refine kN ?_ _|refine kD ?_|refine kA ?_ _));refine kP (cs:=#[.int .i64 ((rd_T73 l0_7 x3_2).f0),.int .i64 0]) ?_ 1 _ rfl;refine kP (cs:=#[.int .i64 0,.int .i64 0]) ?_ 0 _ rfl;(with_reducible repeat(first|refine kN ?_ _|refine kD ?_|refine kA ?_ _));exact BK223.out⟩,⟨by repeat(first|(with_reducible first|exact HB.out|apply bA|apply bN|apply bD|refine bS ?_ GE217.out|refine bS ?_ GE223.out)|exact HB.out)⟩⟩
          ·rw[if_neg c52] at H
           have c52b0:(t225 == 0)=false:=beq_eq_false_iff_ne.mpr c52
           have c52b1:(t225 != 0)=true:=bne_iff_ne.mpr c52
           have H':=mkA H
           clear H
           have hnb55:=NB223_217.out
           have hnc55:=NB217_223.out
           obtain⟨hcz56_0,hcz56_1⟩:=blk_cells2 BK223.out
           obtain⟨hfz56_0,hfz56_1⟩:=blk_frozens2 BK223.out
           go_wp2_with (first|((with_reducible refine gate_callee (f:=37) rfl ?_);refine goesL_ (some 80) rfl rfl Try.func37 (by kernel_rfl) rfl #[.int .i64 ((rd_T73 l0_7 x3_2).f0)] rfl (by(try simp only[List.map_toArray,List.map_cons,List.map_nil]);first|done|rfl|(simp only[List.length_drop,List.length_take];rfl)) ?_;(with_reducible refine(sternpostref01_Check.calls ((rd_T73 l0_7 x3_2).f0) t224 _ A49.out).mono ?_);rintro e w' ⟨rfl,⟨nd,rfl⟩⟩;refine⟨_,rfl,?_⟩)|(go_at_call 37;(with_reducible refine(sternpostref01_Check.calls ((rd_T73 l0_7 x3_2).f1) t225 _ A51.out).mono ?_);rintro e w' ⟨rfl,⟨nd,rfl⟩⟩))
           go_meet
           case rel=>exact⟨_,(true),(by first|rfl|(simp;done)|(simp[*];done)),H',⟨by have:=HJ1.out;have:=HK2.out;first|omega|exact Nat.le_refl _⟩,⟨by(with_reducible repeat(first|refine kN ?_ _|refine kD ?_|refine kA ?_ _));refine kW ?_ NB217_223.out _;(with_reducible repeat(first|refine kN ?_ _|refine kD ?_|refine kA ?_ _));refine kW ?_ NB217_223.out _;(with_reducible repeat(first|refine kN ?_ _|refine kD ?_|refine kA ?_ _));exact BK217.out⟩,⟨by(with_reducible repeat(first|refine kN ?_ _|refine kD ?_|refine kA ?_ _));refine kP (cs:=#[.int .i64 ((rd_T73 l0_7 x3_2).f0),.int .i64 0]) ?_ 1 _ rfl;refine kP (cs:=#[.int .i64 0,.int .i64 0]) ?_ 0 _ rfl;(with_reducible repeat(first|refine kN ?_ _|refine kD ?_|refine kA ?_ _));exact BK223.out⟩,⟨by repeat(first|(with_reducible first|exact HB.out|apply bA|apply bN|apply bD|refine bS ?_ GE217.out|refine bS ?_ GE223.out)|exact HB.out)⟩⟩
         ·rw[if_neg c50] at H
          have c50b0:(t224 == 0)=false:=beq_eq_false_iff_ne.mpr c50
          have c50b1:(t224 != 0)=true:=bne_iff_ne.mpr c50
          (first|rw[c50b0]|(simp only[i64_w,i32_w];rw[c50b0])|rw[c50b1]|skip)
          have H':=mkA H
          clear H
          have hnb57:=NB223_217.out
          have hnc57:=NB217_223.out
          obtain⟨hcz58_0,hcz58_1⟩:=blk_cells2 BK223.out
          obtain⟨hfz58_0,hfz58_1⟩:=blk_frozens2 BK223.out
          go_wp2_with (first|((with_reducible refine gate_callee (f:=37) rfl ?_);refine goesL_ (some 80) rfl rfl Try.func37 (by kernel_rfl) rfl #[.int .i64 ((rd_T73 l0_7 x3_2).f0)] rfl (by(try simp only[List.map_toArray,List.map_cons,List.map_nil]);first|done|rfl|(simp only[List.length_drop,List.length_take];rfl)) ?_;(with_reducible refine(sternpostref01_Check.calls ((rd_T73 l0_7 x3_2).f0) t224 _ A49.out).mono ?_);rintro e w' ⟨rfl,⟨nd,rfl⟩⟩;refine⟨_,rfl,?_⟩))
          go_meet
          case rel=>exact⟨_,(true),(by first|rfl|(simp;done)|(simp[*];done)),H',⟨by have:=HJ1.out;have:=HK2.out;first|omega|exact Nat.le_refl _⟩,⟨by(with_reducible repeat(first|refine kN ?_ _|refine kD ?_|refine kA ?_ _));refine kW ?_ NB217_223.out _;(with_reducible repeat(first|refine kN ?_ _|refine kD ?_|refine kA ?_ _));refine kW ?_ NB217_223.out _;(with_reducible repeat(first|refine kN ?_ _|refine kD ?_|refine kA ?_ _));exact BK217.out⟩,⟨by(with_reducible repeat(first|refine kN ?_ _|refine kD ?_|refine kA ?_ _));refine kP (cs:=#[.int .i64 ((rd_T73 l0_7 x3_2).f0),.int .i64 0]) ?_ 1 _ rfl;refine kP (cs:=#[.int .i64 0,.int .i64 0]) ?_ 0 _ rfl;(with_reducible repeat(first|refine kN ?_ _|refine kD ?_|refine kA ?_ _));exact BK223.out⟩,⟨by repeat(first|(with_reducible first|exact HB.out|apply bA|apply bN|apply bD|refine bS ?_ GE217.out|refine bS ?_ GE223.out)|exact HB.out)⟩⟩
        case rest =>
         clear HC44
         try clear c1;try clear c2;try clear p2;try clear q2;try clear hx2;try clear c3;try clear c4;try clear c4b0;try clear c4b1;try clear c5;try clear c6;try clear c6b0;try clear c8;try clear c8b0;try clear c10;try clear c10b0;try clear c12;try clear c14;try clear c14b0;try clear c14b1;try clear c16;try clear c16b0;try clear c16b1;try clear c17;try clear c19;try clear c19b0;try clear c19b1;try clear c20;try clear c20b0;try clear c20b1;try clear p22;try clear q22;try clear hx22;try clear c26;try clear c26b0;try clear c26b1;try clear c28;try clear c28b0;try clear c28b1;try clear c30;try clear c30b0;try clear c30b1;try clear c31;try clear c33;try clear c33b0;try clear c33b1;try clear c34;try clear c34b0;try clear c34b1;try clear c37;try clear c39;try clear c41;try clear c42;try clear c42b0;try clear c43;try clear c43b0;try clear c47;try clear c50;try clear c50b0;try clear c50b1;try clear c52;try clear c52b0;try clear c52b1;try clear c53;try clear c55;try clear c57;try clear hcz11_0 hcz11_1 hcz11_2 hcz11_3 hcz11_4 hcz11_5 hcz11_6 hcz11_7;try clear hcz18_0 hcz18_1 hcz18_2 hcz18_3 hcz18_4 hcz18_5 hcz18_6 hcz18_7;try clear hcz21_0 hcz21_1 hcz21_2 hcz21_3 hcz21_4 hcz21_5 hcz21_6 hcz21_7;try clear hcz22_0 hcz22_1 hcz22_2 hcz22_3 hcz22_4 hcz22_5 hcz22_6 hcz22_7;try clear hcz23_0 hcz23_1 hcz23_2 hcz23_3 hcz23_4 hcz23_5 hcz23_6 hcz23_7;try clear hcz24_0 hcz24_1 hcz24_2 hcz24_3 hcz24_4 hcz24_5 hcz24_6 hcz24_7;try clear hcz25_0 hcz25_1 hcz25_2 hcz25_3 hcz25_4 hcz25_5 hcz25_6 hcz25_7;try clear hcz32_0 hcz32_1 hcz32_2 hcz32_3 hcz32_4 hcz32_5 hcz32_6 hcz32_7;try clear hcz35_0 hcz35_1 hcz35_2 hcz35_3 hcz35_4 hcz35_5 hcz35_6 hcz35_7;try clear hcz36_0 hcz36_1 hcz36_2 hcz36_3 hcz36_4 hcz36_5 hcz36_6 hcz36_7;try clear hcz37_0 hcz37_1 hcz37_2 hcz37_3 hcz37_4 hcz37_5 hcz37_6 hcz37_7;try clear hcz38_0 hcz38_1 hcz38_2 hcz38_3 hcz38_4 hcz38_5 hcz38_6 hcz38_7;try clear hcz39_0 hcz39_1 hcz39_2 hcz39_3 hcz39_4 hcz39_5 hcz39_6 hcz39_7;try clear hcz40_0 hcz40_1 hcz40_2 hcz40_3 hcz40_4 hcz40_5 hcz40_6 hcz40_7;try clear hcz45_0 hcz45_1 hcz45_2 hcz45_3 hcz45_4 hcz45_5 hcz45_6 hcz45_7;try clear hcz48_0 hcz48_1;try clear hcz54_0 hcz54_1;try clear hcz56_0 hcz56_1;try clear hcz58_0 hcz58_1;try clear hcz5_0 hcz5_1 hcz5_2 hcz5_3 hcz5_4 hcz5_5 hcz5_6 hcz5_7;try clear hcz7_0 hcz7_1 hcz7_2 hcz7_3 hcz7_4 hcz7_5 hcz7_6 hcz7_7;try clear hcz9_0 hcz9_1 hcz9_2 hcz9_3 hcz9_4 hcz9_5 hcz9_6 hcz9_7;try clear hfz11_0 hfz11_1 hfz11_2 hfz11_3 hfz11_4 hfz11_5 hfz11_6 hfz11_7;try clear hfz18_0 hfz18_1 hfz18_2 hfz18_3 hfz18_4 hfz18_5 hfz18_6 hfz18_7;try clear hfz21_0 hfz21_1 hfz21_2 hfz21_3 hfz21_4 hfz21_5 hfz21_6 hfz21_7;try clear hfz22_0 hfz22_1 hfz22_2 hfz22_3 hfz22_4 hfz22_5 hfz22_6 hfz22_7;try clear hfz23_0 hfz23_1 hfz23_2 hfz23_3 hfz23_4 hfz23_5 hfz23_6 hfz23_7;try clear hfz24_0 hfz24_1 hfz24_2 hfz24_3 hfz24_4 hfz24_5 hfz24_6 hfz24_7;try clear hfz25_0 hfz25_1 hfz25_2 hfz25_3 hfz25_4 hfz25_5 hfz25_6 hfz25_7;try clear hfz32_0 hfz32_1 hfz32_2 hfz32_3 hfz32_4 hfz32_5 hfz32_6 hfz32_7;try clear hfz35_0 hfz35_1 hfz35_2 hfz35_3 hfz35_4 hfz35_5 hfz35_6 hfz35_7;try clear hfz36_0 hfz36_1 hfz36_2 hfz36_3 hfz36_4 hfz36_5 hfz36_6 hfz36_7;try clear hfz37_0 hfz37_1 hfz37_2 hfz37_3 hfz37_4 hfz37_5 hfz37_6 hfz37_7;try clear hfz38_0 hfz38_1 hfz38_2 hfz38_3 hfz38_4 hfz38_5 hfz38_6 hfz38_7;try clear hfz39_0 hfz39_1 hfz39_2 hfz39_3 hfz39_4 hfz39_5 hfz39_6 hfz39_7;try clear hfz40_0 hfz40_1 hfz40_2 hfz40_3 hfz40_4 hfz40_5 hfz40_6 hfz40_7;try clear hfz45_0 hfz45_1 hfz45_2 hfz45_3 hfz45_4 hfz45_5 hfz45_6 hfz45_7;try clear hfz48_0 hfz48_1;try clear hfz54_0 hfz54_1;try clear hfz56_0 hfz56_1;try clear hfz58_0 hfz58_1;try clear hfz5_0 hfz5_1 hfz5_2 hfz5_3 hfz5_4 hfz5_5 hfz5_6 hfz5_7;try clear hfz7_0 hfz7_1 hfz7_2 hfz7_3 hfz7_4 hfz7_5 hfz7_6 hfz7_7;try clear hfz9_0 hfz9_1 hfz9_2 hfz9_3 hfz9_4 hfz9_5 hfz9_6 hfz9_7;try clear hx222_0;try clear hx222_1;try clear p2;try clear p222;try clear q222
         obtain⟨kq,x94_43,rfl,HA,HJ43,BK217,BK223,HB⟩:=hcut
         cases kq with
         | zero=>exact absurd HA.out (by simp[sternpostref07_Check.j2])
         | succ kj43 =>
          have H:=HA.out
          clear HA
          simp only[sternpostref07_Check.j2] at H
          by_cases c59:x94_43=true
          ·subst c59
           have H1:(some 70)=some r:=by rw[if_pos rfl] at H;exact H
           clear H
           have H:=H1
           clear H1
           obtain rfl:=Option.some.inj H
           go_wp2
           go_ret
           exact⟨by first|rfl|(simp[errW_none,errW_some] <;> rfl)|(simp[*,errW_none,errW_some] <;> rfl),by repeat(first|(with_reducible first|exact HB.out|apply bA|apply bN|apply bD|refine bS ?_ GE217.out|refine bS ?_ GE223.out)|exact HB.out)⟩
          ·replace c59:=Bool.eq_false_iff.mpr c59
           subst c59
           have H1:(sternpostref07_Check.l0 kj43 (wrap64 (x3_2+1)) a0_0 a0_1 a0_2 a0_3 a0_4 a0_5 a0_6 l0_7)=some r:=by rw[if_neg (show ¬ (false=true) by decide)] at H;exact H
           clear H
           have H:=H1
           clear H1
           have H':=mkA H
           clear H
           go_wp2
           go_roundg kj43
           case measure=>have:=HJ1.out;have:=HK2.out;have:=HJ43.out;omega
           case rel=>exact⟨(wrap64 (x3_2+1)),(by first|rfl|(simp;done)|(simp[*];done)),H',⟨by have:=HJ1.out;have:=HK2.out;have:=HJ43.out;omega⟩,⟨by(with_reducible repeat(first|refine kN ?_ _|refine kD ?_|refine kA ?_ _));exact BK217.out⟩,⟨by repeat(first|(with_reducible first|exact HB.out|apply bA|apply bN|apply bD|refine bS ?_ GE217.out|refine bS ?_ GE223.out)|exact HB.out)⟩⟩
       ·rw[if_neg c43] at H
        exact absurd H (by simp)
      ·rw[if_neg c42] at H
       have c42b0:decide (x3_2 < (l0_7.length:Int))=false:=decide_eq_false c42
       clear c42
       replace H:=Option.bind_eq_some_iff.mp H
       obtain⟨t226,A600,H⟩:=H
       replace H:(if (t226.size:Int) > 40 then (some 70) else (some 0))=some r:=H
       have A60:=mkA A600
       clear A600
       by_cases c61:(t226.size:Int) > 40
       ·rw[if_pos c61] at H
        have c61b0:decide (40 < (t226.size:Int))=true:=decide_eq_true c61
        have c61b1:decide (40 < t226.size)=true:=decide_eq_true (by omega)
        clear c61
        obtain rfl:=Option.some.inj H
        obtain⟨hcz62_0,hcz62_1,hcz62_2,hcz62_3,hcz62_4,hcz62_5,hcz62_6,hcz62_7⟩:=blk_cells8 BK217.out
        obtain⟨hfz62_0,hfz62_1,hfz62_2,hfz62_3,hfz62_4,hfz62_5,hfz62_6,hfz62_7⟩:=blk_frozens8 BK217.out
        go_wp2_with (first|((with_reducible refine gate_callee (f:=54) rfl ?_);refine goesL_ (some 96) rfl rfl Try.func54 (by kernel_rfl) rfl #[.agg #[.int .i64 a0_0,.int .i64 a0_1,.int .i64 a0_2,.int .i64 a0_3,.bool a0_4,.bool a0_5,.bool a0_6,.slice A0_7 l0_7.length c0_7]] rfl (by(try simp only[List.map_toArray,List.map_cons,List.map_nil]);first|done|rfl|(simp only[List.length_drop,List.length_take];rfl)) ?_;(with_reducible refine(sternpostref07_Bytes.calls k2 a0_0 a0_1 a0_2 a0_3 a0_4 a0_5 a0_6 _ _ l0_7 t226 _ ?side1 ?side2 A60.out).mono ?_);(case side1=>repeat(first|exact(Kd.C_below HR0_7.out HB.out)|(with_reducible refine Kd.C_alloc ?_ _)|(with_reducible refine Kd.C_drewN ?_ _)|(with_reducible refine Kd.C_drew ?_)));(case side2=>exact HC0_7.out);rintro e w63 ⟨rfl,hb⟩;refine⟨_,rfl,?_⟩;have n0_:=mkA (kB (g:=gb217) (by(with_reducible repeat(first|apply kN|apply kD|apply kA));exact BK217.out) hb);have n1_:=mkA (bT (by repeat(first|(with_reducible first|exact HB.out|apply bA|apply bN|apply bD|refine bS ?_ GE217.out)|exact HB.out)) hb);clear BK217;clear HB;have BK217:=n0_;have HB:=n1_;clear n0_ n1_;(try clear hb);(try clear hb2);(try clear hk);(try clear hi)))
        go_ret
        exact⟨by first|rfl|(simp[errW_none,errW_some] <;> rfl)|(simp[*,errW_none,errW_some] <;> rfl),by repeat(first|(with_reducible first|exact HB.out|apply bA|apply bN|apply bD|refine bS ?_ GE217.out)|exact HB.out)⟩
       ·rw[if_neg c61] at H
        have c61b0:decide (40 < (t226.size:Int))=false:=decide_eq_false c61
        have c61b1:decide (40 < t226.size)=false:=decide_eq_false (by omega)
        clear c61
        obtain rfl:=Option.some.inj H
        obtain⟨hcz64_0,hcz64_1,hcz64_2,hcz64_3,hcz64_4,hcz64_5,hcz64_6,hcz64_7⟩:=blk_cells8 BK217.out
        obtain⟨hfz64_0,hfz64_1,hfz64_2,hfz64_3,hfz64_4,hfz64_5,hfz64_6,hfz64_7⟩:=blk_frozens8 BK217.out
        go_wp2_with (first|((with_reducible refine gate_callee (f:=54) rfl ?_);refine goesL_ (some 96) rfl rfl Try.func54 (by kernel_rfl) rfl #[.agg #[.int .i64 a0_0,.int .i64 a0_1,.int .i64 a0_2,.int .i64 a0_3,.bool a0_4,.bool a0_5,.bool a0_6,.slice A0_7 l0_7.length c0_7]] rfl (by(try simp only[List.map_toArray,List.map_cons,List.map_nil]);first|done|rfl|(simp only[List.length_drop,List.length_take];rfl)) ?_;(with_reducible refine(sternpostref07_Bytes.calls k2 a0_0 a0_1 a0_2 a0_3 a0_4 a0_5 a0_6 _ _ l0_7 t226 _ ?side1 ?side2 A60.out).mono ?_);(case side1=>repeat(first|exact(Kd.C_below HR0_7.out HB.out)|(with_reducible refine Kd.C_alloc ?_ _)|(with_reducible refine Kd.C_drewN ?_ _)|(with_reducible refine Kd.C_drew ?_)));(case side2=>exact HC0_7.out);rintro e w65 ⟨rfl,hb⟩;refine⟨_,rfl,?_⟩;have n0_:=mkA (kB (g:=gb217) (by(with_reducible repeat(first|apply kN|apply kD|apply kA));exact BK217.out) hb);have n1_:=mkA (bT (by repeat(first|(with_reducible first|exact HB.out|apply bA|apply bN|apply bD|refine bS ?_ GE217.out)|exact HB.out)) hb);clear BK217;clear HB;have BK217:=n0_;have HB:=n1_;clear n0_ n1_;(try clear hb);(try clear hb2);(try clear hk);(try clear hi)))
        go_ret
        exact⟨by first|rfl|(simp[errW_none,errW_some] <;> rfl)|(simp[*,errW_none,errW_some] <;> rfl),by repeat(first|(with_reducible first|exact HB.out|apply bA|apply bN|apply bD|refine bS ?_ GE217.out)|exact HB.out)⟩

end Go.Proofs.Ytakajeoeijnmhaa.PSegReads

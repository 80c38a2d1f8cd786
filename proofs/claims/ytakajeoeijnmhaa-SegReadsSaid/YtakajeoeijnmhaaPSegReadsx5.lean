-- Laid by this claim's own program over the print's words.
import Derived.Test.YtakajeoeijnmhaaPSegReadsx0
import Derived.Test.YtakajeoeijnmhaaPSegReadsx2
import Derived.Test.YtakajeoeijnmhaaPSegReadsx4
namespace Go.Proofs.Ytakajeoeijnmhaa.PSegReads
open Go.RowKit Go.Proofs.YtakajeoeijnmhaaW.PrintWords Go.Proofs.YtakajeoeijnmhaaW.PrintLast Go.Proofs.YtakajeoeijnmhaaW.PrintMore
attribute [local go_sem] max2_int min2_int max_two min_two max_three min_three max_four min_four max_five min_five extract_cut tmod_nat_lit   -- for this text's walks alone
set_option linter.unusedVariables false
set_option linter.unusedSimpArgs false

/-! ### opts_Check: function 32 -/
mutual
def opts_Check.j0:Nat→Bool→Int→Int→Int→Int→Bool→Bool→Bool→List (S73)→Option (Int)
 | 0,_,_,_,_,_,_,_,_,_=>none
 | k+1,x3,x140000,x140001,x140002,x140003,x140004,x140005,x140006,x140007=>if x3=true then (opts_Check.j1 k true x140000 x140001 x140002 x140003 x140004 x140005 x140006 x140007) else ((seq_Check.f x140002).bind fun t140=>((seq_Check.f x140003).bind fun t141=>(opts_Check.j1 k (decide ((mx t140 t141) > 0)) x140000 x140001 x140002 x140003 x140004 x140005 x140006 x140007)))
def opts_Check.j1:Nat→Bool→Int→Int→Int→Int→Bool→Bool→Bool→List (S73)→Option (Int)
 | 0,_,_,_,_,_,_,_,_,_=>none
 | k+1,x3,x140000,x140001,x140002,x140003,x140004,x140005,x140006,x140007=>if x3=true then (opts_Check.j2 k true x140000 x140001 x140002 x140003 x140004 x140005 x140006 x140007) else (if x140004=true then (if x140006=true then (opts_Check.j2 k false x140000 x140001 x140002 x140003 x140004 x140005 x140006 x140007) else (opts_Check.j2 k (decide ((mx x140002 x140003) > 0)) x140000 x140001 x140002 x140003 x140004 x140005 x140006 x140007)) else (if x140001 > 0 then (opts_Check.j2 k true x140000 x140001 x140002 x140003 x140004 x140005 x140006 x140007) else (if x140006=true then (opts_Check.j2 k false x140000 x140001 x140002 x140003 x140004 x140005 x140006 x140007) else (opts_Check.j2 k (decide ((mx x140002 x140003) > 0)) x140000 x140001 x140002 x140003 x140004 x140005 x140006 x140007))))
def opts_Check.j2:Nat→Bool→Int→Int→Int→Int→Bool→Bool→Bool→List (S73)→Option (Int)
 | 0,_,_,_,_,_,_,_,_,_=>none
 | k+1,x3,x140000,x140001,x140002,x140003,x140004,x140005,x140006,x140007=>if x3=true then (some 70) else ((api_Range_51.f x140007 52).bind fun t142=>(if t142=true then (some 70) else ((opts_text.f k x140000 x140001 x140002 x140003 x140004 x140005 x140006 x140007).bind fun t143=>(if (t143.size:Int) > 40 then (some 70) else (some 0)))))
end
def opts_Check.f (k:Nat) (a0_0:Int) (a0_1:Int) (a0_2:Int) (a0_3:Int) (a0_4:Bool) (a0_5:Bool) (a0_6:Bool) (l0_7:List (S73)):Option (Int):=if a0_0 < 0 then (opts_Check.j0 k true a0_0 a0_1 a0_2 a0_3 a0_4 a0_5 a0_6 l0_7) else (if a0_0 > 65535 then (opts_Check.j0 k true a0_0 a0_1 a0_2 a0_3 a0_4 a0_5 a0_6 l0_7) else (if a0_1 < 0 then (opts_Check.j0 k true a0_0 a0_1 a0_2 a0_3 a0_4 a0_5 a0_6 l0_7) else (if a0_1 > 14 then (opts_Check.j0 k true a0_0 a0_1 a0_2 a0_3 a0_4 a0_5 a0_6 l0_7) else (opts_Check.j0 k (decide ((l0_7.length:Int) > 4)) a0_0 a0_1 a0_2 a0_3 a0_4 a0_5 a0_6 l0_7))))
theorem opts_Check.mono_l:∀ k,(∀ y0 y1 y2 y3 y4 y5 y6 y7 y8,LeO (opts_Check.j0 k y0 y1 y2 y3 y4 y5 y6 y7 y8) (opts_Check.j0 (k+1) y0 y1 y2 y3 y4 y5 y6 y7 y8))∧(∀ y0 y1 y2 y3 y4 y5 y6 y7 y8,LeO (opts_Check.j1 k y0 y1 y2 y3 y4 y5 y6 y7 y8) (opts_Check.j1 (k+1) y0 y1 y2 y3 y4 y5 y6 y7 y8))∧(∀ y0 y1 y2 y3 y4 y5 y6 y7 y8,LeO (opts_Check.j2 k y0 y1 y2 y3 y4 y5 y6 y7 y8) (opts_Check.j2 (k+1) y0 y1 y2 y3 y4 y5 y6 y7 y8))
 | 0=>⟨fun _ _ _ _ _ _ _ _ _ r h=>by simp[opts_Check.j0] at h,fun _ _ _ _ _ _ _ _ _ r h=>by simp[opts_Check.j1] at h,fun _ _ _ _ _ _ _ _ _ r h=>by simp[opts_Check.j2] at h⟩
 | k+1=>by
  obtain⟨ih0,ih1,ih2⟩:=opts_Check.mono_l k
  refine⟨?_,?_,?_⟩
  ·intro y0 y1 y2 y3 y4 y5 y6 y7 y8
   unfold opts_Check.j0
   repeat' first
   | (with_reducible exact ih0 _ _ _ _ _ _ _ _ _)
   | (with_reducible exact ih1 _ _ _ _ _ _ _ _ _)
   | (with_reducible exact ih2 _ _ _ _ _ _ _ _ _)
   | (with_reducible exact opts_text.mono _ _ _ _ _ _ _ _ _)
   | (with_reducible exact LeO.refl _)
   | (with_reducible exact LeO.none _)
   | (with_reducible refine LeO.ite ?_ ?_)
   | (with_reducible refine LeO.bind ?_ (fun _=>?_))
   | exact ih0 _ _ _ _ _ _ _ _ _
   | exact ih1 _ _ _ _ _ _ _ _ _
   | exact ih2 _ _ _ _ _ _ _ _ _
   | exact opts_text.mono _ _ _ _ _ _ _ _ _
   | exact LeO.none _
   | refine LeO.ite ?_ ?_
   | refine LeO.bind ?_ (fun _=>?_)
  ·intro y0 y1 y2 y3 y4 y5 y6 y7 y8
   unfold opts_Check.j1
   repeat' first
   | (with_reducible exact ih0 _ _ _ _ _ _ _ _ _)
   | (with_reducible exact ih1 _ _ _ _ _ _ _ _ _)
   | (with_reducible exact ih2 _ _ _ _ _ _ _ _ _)
   | (with_reducible exact opts_text.mono _ _ _ _ _ _ _ _ _)
   | (with_reducible exact LeO.refl _)
   | (with_reducible exact LeO.none _)
   | (with_reducible refine LeO.ite ?_ ?_)
   | (with_reducible refine LeO.bind ?_ (fun _=>?_))
   | exact ih0 _ _ _ _ _ _ _ _ _
   | exact ih1 _ _ _ _ _ _ _ _ _
   | exact ih2 _ _ _ _ _ _ _ _ _
   | exact opts_text.mono _ _ _ _ _ _ _ _ _
   | exact LeO.none _
   | refine LeO.ite ?_ ?_
   | refine LeO.bind ?_ (fun _=>?_)
  ·intro y0 y1 y2 y3 y4 y5 y6 y7 y8
   unfold opts_Check.j2
   repeat' first
   | (with_reducible exact ih0 _ _ _ _ _ _ _ _ _)
   | (with_reducible exact ih1 _ _ _ _ _ _ _ _ _)
   | (with_reducible exact ih2 _ _ _ _ _ _ _ _ _)
   | (with_reducible exact opts_text.mono _ _ _ _ _ _ _ _ _)
   | (with_reducible exact LeO.refl _)
   | (with_reducible exact LeO.none _)
   | (with_reducible refine LeO.ite ?_ ?_)
   | (with_reducible refine LeO.bind ?_ (fun _=>?_))
   | exact ih0 _ _ _ _ _ _ _ _ _
   | exact ih1 _ _ _ _ _ _ _ _ _
   | exact ih2 _ _ _ _ _ _ _ _ _
   | exact opts_text.mono _ _ _ _ _ _ _ _ _
   | exact LeO.none _
   | refine LeO.ite ?_ ?_
   | refine LeO.bind ?_ (fun _=>?_)
theorem opts_Check.mono:∀ a0 a1 a2 a3 a4 a5 a6 a7 k,LeO (opts_Check.f k a0 a1 a2 a3 a4 a5 a6 a7) (opts_Check.f (k+1) a0 a1 a2 a3 a4 a5 a6 a7):=by
 intro a0 a1 a2 a3 a4 a5 a6 a7 k
 obtain⟨ih0,ih1,ih2⟩:=opts_Check.mono_l k
 unfold opts_Check.f
 repeat' first
   | (with_reducible exact ih0 _ _ _ _ _ _ _ _ _)
   | (with_reducible exact ih1 _ _ _ _ _ _ _ _ _)
   | (with_reducible exact ih2 _ _ _ _ _ _ _ _ _)
   | (with_reducible exact opts_text.mono _ _ _ _ _ _ _ _ _)
   | (with_reducible exact LeO.refl _)
   | (with_reducible exact LeO.none _)
   | (with_reducible refine LeO.ite ?_ ?_)
   | (with_reducible refine LeO.bind ?_ (fun _=>?_))
   | exact ih0 _ _ _ _ _ _ _ _ _
   | exact ih1 _ _ _ _ _ _ _ _ _
   | exact ih2 _ _ _ _ _ _ _ _ _
   | exact opts_text.mono _ _ _ _ _ _ _ _ _
   | exact LeO.none _
   | refine LeO.ite ?_ ?_
   | refine LeO.bind ?_ (fun _=>?_)
set_option maxHeartbeats 8000000 in
set_option maxRecDepth 100000 in
theorem opts_Check.calls (k:Nat) (a0_0:Int) (a0_1:Int) (a0_2:Int) (a0_3:Int) (a0_4:Bool) (a0_5:Bool) (a0_6:Bool) (A0_7:Option Addr) (c0_7:Nat) (l0_7:List (S73)) (r:Int) (w:World) (hr0_7:Kd.C k73 w A0_7 l0_7.length l0_7) (hc0_7:l0_7.length≤c0_7) (h:opts_Check.f k a0_0 a0_1 a0_2 a0_3 a0_4 a0_5 a0_6 l0_7=some r) :
  Calls Try.prog 32 #[.agg #[.int .i64 a0_0,.int .i64 a0_1,.int .i64 a0_2,.int .i64 a0_3,.bool a0_4,.bool a0_5,.bool a0_6,.slice A0_7 l0_7.length c0_7]] w fun e w'=>e=.returned (.int .i64 r)∧Below w.heap.size w w':=by
 have hu24:=Try.underlying24
 have HR0_7:=mkA hr0_7
 have HC0_7:=mkA hc0_7
 clear hr0_7 hc0_7
 have HB:=mkA (Below.refl w.heap.size w)
 have H:(if a0_0 < 0 then (opts_Check.j0 k true a0_0 a0_1 a0_2 a0_3 a0_4 a0_5 a0_6 l0_7) else (if a0_0 > 65535 then (opts_Check.j0 k true a0_0 a0_1 a0_2 a0_3 a0_4 a0_5 a0_6 l0_7) else (if a0_1 < 0 then (opts_Check.j0 k true a0_0 a0_1 a0_2 a0_3 a0_4 a0_5 a0_6 l0_7) else (if a0_1 > 14 then (opts_Check.j0 k true a0_0 a0_1 a0_2 a0_3 a0_4 a0_5 a0_6 l0_7) else (opts_Check.j0 k (decide ((l0_7.length:Int) > 4)) a0_0 a0_1 a0_2 a0_3 a0_4 a0_5 a0_6 l0_7)))))=some r:=h
 clear h
 have HC2:=mkA H
 clear H
 go_enter Try.func32,Try.ntmps32
 go_upto_region 1 with (first|((with_reducible refine gate_dst (N:=1) rfl ?_);(try(refine gate_guard (by rfl) ?_;dsimp only));refine box_event ?hg (N:=1) ?hd (cs:=#[.int .i64 a0_0,.int .i64 a0_1,.int .i64 a0_2,.int .i64 a0_3,.bool a0_4,.bool a0_5,.bool a0_6,.slice A0_7 l0_7.length c0_7]) (t:=24) ?hr ?_;(case hd=>rfl);(case hg=>rfl);(case hr=>first|(go_simp;done)|(go_simp;rfl));intro gb139 hg w3 hbox hb;have n0_:=mkA (bT (by repeat(first|(with_reducible first|exact HB.out|apply bA|apply bN|apply bD)|exact HB.out)) hb);have n1_:=mkA (hbox);have n2_:=mkA ((by rw[hg];exact(bZ (by repeat(first|(with_reducible first|exact HB.out|apply bA|apply bN|apply bD)|exact HB.out))):w.heap.size≤gb139));have n3_:=mkA ((by rw[hg];exact(bZ (by repeat(first|(with_reducible first|exact HB.out|apply bA|apply bN|apply bD)|exact HB.out))):w.heap.size≤gb139));clear HB;have HB:=n0_;have BK139:=n1_;have GW139:=n2_;have GE139:=n3_;clear n0_ n1_ n2_ n3_;clear hb hbox hg))
 repeat(go_quiet (first|((with_reducible refine gate_dst (N:=1) rfl ?_);(try(refine gate_guard (by rfl) ?_;dsimp only));refine box_event ?hg (N:=1) ?hd (cs:=#[.int .i64 a0_0,.int .i64 a0_1,.int .i64 a0_2,.int .i64 a0_3,.bool a0_4,.bool a0_5,.bool a0_6,.slice A0_7 l0_7.length c0_7]) (t:=24) ?hr ?_;(case hd=>rfl);(case hg=>rfl);(case hr=>first|(go_simp;done)|(go_simp;rfl));intro gb139 hg w3 hbox hb;have n0_:=mkA (bT (by repeat(first|(with_reducible first|exact HB.out|apply bA|apply bN|apply bD)|exact HB.out)) hb);have n1_:=mkA (hbox);have n2_:=mkA ((by rw[hg];exact(bZ (by repeat(first|(with_reducible first|exact HB.out|apply bA|apply bN|apply bD)|exact HB.out))):w.heap.size≤gb139));have n3_:=mkA ((by rw[hg];exact(bZ (by repeat(first|(with_reducible first|exact HB.out|apply bA|apply bN|apply bD)|exact HB.out))):w.heap.size≤gb139));clear HB;have HB:=n0_;have BK139:=n1_;have GW139:=n2_;have GE139:=n3_;clear n0_ n1_ n2_ n3_;clear hb hbox hg));go_upto_region 1 with (first|((with_reducible refine gate_dst (N:=1) rfl ?_);(try(refine gate_guard (by rfl) ?_;dsimp only));refine box_event ?hg (N:=1) ?hd (cs:=#[.int .i64 a0_0,.int .i64 a0_1,.int .i64 a0_2,.int .i64 a0_3,.bool a0_4,.bool a0_5,.bool a0_6,.slice A0_7 l0_7.length c0_7]) (t:=24) ?hr ?_;(case hd=>rfl);(case hg=>rfl);(case hr=>first|(go_simp;done)|(go_simp;rfl));intro gb139 hg w3 hbox hb;have n0_:=mkA (bT (by repeat(first|(with_reducible first|exact HB.out|apply bA|apply bN|apply bD)|exact HB.out)) hb);have n1_:=mkA (hbox);have n2_:=mkA ((by rw[hg];exact(bZ (by repeat(first|(with_reducible first|exact HB.out|apply bA|apply bN|apply bD)|exact HB.out))):w.heap.size≤gb139));have n3_:=mkA ((by rw[hg];exact(bZ (by repeat(first|(with_reducible first|exact HB.out|apply bA|apply bN|apply bD)|exact HB.out))):w.heap.size≤gb139));clear HB;have HB:=n0_;have BK139:=n1_;have GW139:=n2_;have GE139:=n3_;clear n0_ n1_ n2_ n3_;clear hb hbox hg)))
 (try simp only[puts])
 go_cut [3] (fun v3 wc=>∃ (kq:Nat) (x3_1:Bool),v3=.bool x3_1∧Aside0 (opts_Check.j0 kq x3_1 a0_0 a0_1 a0_2 a0_3 a0_4 a0_5 a0_6 l0_7=some r)∧Aside0 (kq≤k)∧Aside0 (wc.heap[gb139]?=some (.cells #[.int .i64 a0_0,.int .i64 a0_1,.int .i64 a0_2,.int .i64 a0_3,.bool a0_4,.bool a0_5,.bool a0_6,(.slice A0_7 l0_7.length c0_7)] 24 (0,0)))∧Aside0 (Below w.heap.size w wc))
 case first =>
  have H:=HC2.out
  clear HC2
  by_cases c4:a0_0 < 0
  ·rw[if_pos c4] at H
   have c4b0:decide (a0_0 < 0)=true:=decide_eq_true c4
   clear c4
   (first|rw[c4b0]|(simp only[i64_w,i32_w];rw[c4b0])|rw[c4b1]|skip)
   have H':=mkA H
   clear H
   obtain⟨hcz5_0,hcz5_1,hcz5_2,hcz5_3,hcz5_4,hcz5_5,hcz5_6,hcz5_7⟩:=blk_cells8 BK139.out
   obtain⟨hfz5_0,hfz5_1,hfz5_2,hfz5_3,hfz5_4,hfz5_5,hfz5_6,hfz5_7⟩:=blk_frozens8 BK139.out
   go_wp2
   repeat(go_quiet (fail);try go_wp2)
   go_meet
   case rel=>exact⟨_,(true),(by first|rfl|(simp;done)|(simp[*];done)),H',⟨by first|omega|exact Nat.le_refl _⟩,⟨by(with_reducible repeat(first|refine kN ?_ _|refine kD ?_|refine kA ?_ _));exact BK139.out⟩,⟨by repeat(first|(with_reducible first|exact HB.out|apply bA|apply bN|apply bD|refine bS ?_ GE139.out)|exact HB.out)⟩⟩
  ·rw[if_neg c4] at H
   have c4b0:decide (a0_0 < 0)=false:=decide_eq_false c4
   clear c4
   (first|rw[c4b0]|(simp only[i64_w,i32_w];rw[c4b0])|rw[c4b1]|skip)
   by_cases c6:a0_0 > 65535
   ·rw[if_pos c6] at H
    have c6b0:decide (65535 < a0_0)=true:=decide_eq_true c6
    clear c6
    have H':=mkA H
    clear H
    obtain⟨hcz7_0,hcz7_1,hcz7_2,hcz7_3,hcz7_4,hcz7_5,hcz7_6,hcz7_7⟩:=blk_cells8 BK139.out
    obtain⟨hfz7_0,hfz7_1,hfz7_2,hfz7_3,hfz7_4,hfz7_5,hfz7_6,hfz7_7⟩:=blk_frozens8 BK139.out
    go_wp2
    repeat(go_quiet (fail);try go_wp2)
    go_meet
    case rel=>exact⟨_,(true),(by first|rfl|(simp;done)|(simp[*];done)),H',⟨by first|omega|exact Nat.le_refl _⟩,⟨by(with_reducible repeat(first|refine kN ?_ _|refine kD ?_|refine kA ?_ _));exact BK139.out⟩,⟨by repeat(first|(with_reducible first|exact HB.out|apply bA|apply bN|apply bD|refine bS ?_ GE139.out)|exact HB.out)⟩⟩
   ·rw[if_neg c6] at H
    have c6b0:decide (65535 < a0_0)=false:=decide_eq_false c6
    clear c6
    by_cases c8:a0_1 < 0
    ·rw[if_pos c8] at H
     have c8b0:decide (a0_1 < 0)=true:=decide_eq_true c8
     clear c8
     have H':=mkA H
     clear H
     obtain⟨hcz9_0,hcz9_1,hcz9_2,hcz9_3,hcz9_4,hcz9_5,hcz9_6,hcz9_7⟩:=blk_cells8 BK139.out
     obtain⟨hfz9_0,hfz9_1,hfz9_2,hfz9_3,hfz9_4,hfz9_5,hfz9_6,hfz9_7⟩:=blk_frozens8 BK139.out
     go_wp2
     repeat(go_quiet (fail);try go_wp2)
     go_meet
     case rel=>exact⟨_,(true),(by first|rfl|(simp;done)|(simp[*];done)),H',⟨by first|omega|exact Nat.le_refl _⟩,⟨by(with_reducible repeat(first|refine kN ?_ _|refine kD ?_|refine kA ?_ _));exact BK139.out⟩,⟨by repeat(first|(with_reducible first|exact HB.out|apply bA|apply bN|apply bD|refine bS ?_ GE139.out)|exact HB.out)⟩⟩
    ·rw[if_neg c8] at H
     have c8b0:decide (a0_1 < 0)=false:=decide_eq_false c8
     clear c8
     by_cases c10:a0_1 > 14
     ·rw[if_pos c10] at H
      have c10b0:decide (14 < a0_1)=true:=decide_eq_true c10
      clear c10
      have H':=mkA H
      clear H
      obtain⟨hcz11_0,hcz11_1,hcz11_2,hcz11_3,hcz11_4,hcz11_5,hcz11_6,hcz11_7⟩:=blk_cells8 BK139.out
      obtain⟨hfz11_0,hfz11_1,hfz11_2,hfz11_3,hfz11_4,hfz11_5,hfz11_6,hfz11_7⟩:=blk_frozens8 BK139.out
      go_wp2
      repeat(go_quiet (fail);try go_wp2)
      go_meet
      case rel=>exact⟨_,(true),(by first|rfl|(simp;done)|(simp[*];done)),H',⟨by first|omega|exact Nat.le_refl _⟩,⟨by(with_reducible repeat(first|refine kN ?_ _|refine kD ?_|refine kA ?_ _));exact BK139.out⟩,⟨by repeat(first|(with_reducible first|exact HB.out|apply bA|apply bN|apply bD|refine bS ?_ GE139.out)|exact HB.out)⟩⟩
     ·rw[if_neg c10] at H
      have c10b0:decide (14 < a0_1)=false:=decide_eq_false c10
      clear c10
      have H':=mkA H
      clear H
      obtain⟨hcz12_0,hcz12_1,hcz12_2,hcz12_3,hcz12_4,hcz12_5,hcz12_6,hcz12_7⟩:=blk_cells8 BK139.out
      obtain⟨hfz12_0,hfz12_1,hfz12_2,hfz12_3,hfz12_4,hfz12_5,hfz12_6,hfz12_7⟩:=blk_frozens8 BK139.out
      go_wp2
      repeat(go_quiet (fail);try go_wp2)
      go_meet
      case rel=>exact⟨_,(decide ((l0_7.length:Int) > 4)),(by first|rfl|(simp;done)|(simp[*];done)),H',⟨by first|omega|exact Nat.le_refl _⟩,⟨by(with_reducible repeat(first|refine kN ?_ _|refine kD ?_|refine kA ?_ _));exact BK139.out⟩,⟨by repeat(first|(with_reducible first|exact HB.out|apply bA|apply bN|apply bD|refine bS ?_ GE139.out)|exact HB.out)⟩⟩
 case rest =>
  clear HC2
  try clear c1;try clear p2;try clear c3;try clear c4;try clear c4b0;try clear c4b1;try clear c6;try clear c6b0;try clear c8;try clear c8b0;try clear c10;try clear c10b0;try clear hcz11_0 hcz11_1 hcz11_2 hcz11_3 hcz11_4 hcz11_5 hcz11_6 hcz11_7;try clear hcz12_0 hcz12_1 hcz12_2 hcz12_3 hcz12_4 hcz12_5 hcz12_6 hcz12_7;try clear hcz5_0 hcz5_1 hcz5_2 hcz5_3 hcz5_4 hcz5_5 hcz5_6 hcz5_7;try clear hcz7_0 hcz7_1 hcz7_2 hcz7_3 hcz7_4 hcz7_5 hcz7_6 hcz7_7;try clear hcz9_0 hcz9_1 hcz9_2 hcz9_3 hcz9_4 hcz9_5 hcz9_6 hcz9_7;try clear hfz11_0 hfz11_1 hfz11_2 hfz11_3 hfz11_4 hfz11_5 hfz11_6 hfz11_7;try clear hfz12_0 hfz12_1 hfz12_2 hfz12_3 hfz12_4 hfz12_5 hfz12_6 hfz12_7;try clear hfz5_0 hfz5_1 hfz5_2 hfz5_3 hfz5_4 hfz5_5 hfz5_6 hfz5_7;try clear hfz7_0 hfz7_1 hfz7_2 hfz7_3 hfz7_4 hfz7_5 hfz7_6 hfz7_7;try clear hfz9_0 hfz9_1 hfz9_2 hfz9_3 hfz9_4 hfz9_5 hfz9_6 hfz9_7
  obtain⟨kq,x3_1,rfl,HA,HJ1,BK139,HB⟩:=hcut
  cases kq with
  | zero=>exact absurd HA.out (by simp[opts_Check.j0])
  | succ kj1 =>
   have H:=HA.out
   clear HA
   simp only[opts_Check.j0] at H
   have HC13:=mkA H
   clear H
   go_upto_region 2 with (fail)
   repeat(go_quiet (fail);go_upto_region 2 with (fail))
   go_cut [3] (fun v3 wc=>∃ (kq:Nat) (x3_12:Bool),v3=.bool x3_12∧Aside0 (opts_Check.j1 kq x3_12 a0_0 a0_1 a0_2 a0_3 a0_4 a0_5 a0_6 l0_7=some r)∧Aside0 (kq≤kj1)∧Aside0 (wc.heap[gb139]?=some (.cells #[.int .i64 a0_0,.int .i64 a0_1,.int .i64 a0_2,.int .i64 a0_3,.bool a0_4,.bool a0_5,.bool a0_6,(.slice A0_7 l0_7.length c0_7)] 24 (0,0)))∧Aside0 (Below w.heap.size w wc))
   case first =>
    have H:=HC13.out
    clear HC13
    by_cases c14:x3_1=true
    ·subst c14
     have H1:(opts_Check.j1 kj1 true a0_0 a0_1 a0_2 a0_3 a0_4 a0_5 a0_6 l0_7)=some r:=by rw[if_pos rfl] at H;exact H
     clear H
     have H:=H1
     clear H1
     have H':=mkA H
     clear H
     go_wp2
     repeat(go_quiet (fail);try go_wp2)
     go_meet
     case rel=>exact⟨_,(true),(by first|rfl|(simp;done)|(simp[*];done)),H',⟨by have:=HJ1.out;first|omega|exact Nat.le_refl _⟩,⟨by(with_reducible repeat(first|refine kN ?_ _|refine kD ?_|refine kA ?_ _));exact BK139.out⟩,⟨by repeat(first|(with_reducible first|exact HB.out|apply bA|apply bN|apply bD|refine bS ?_ GE139.out)|exact HB.out)⟩⟩
    ·replace c14:=Bool.eq_false_iff.mpr c14
     subst c14
     have H1:((seq_Check.f a0_2).bind fun t140=>((seq_Check.f a0_3).bind fun t141=>(opts_Check.j1 kj1 (decide ((mx t140 t141) > 0)) a0_0 a0_1 a0_2 a0_3 a0_4 a0_5 a0_6 l0_7)))=some r:=by rw[if_neg (show ¬ (false=true) by decide)] at H;exact H
     clear H
     have H:=H1
     clear H1
     replace H:=Option.bind_eq_some_iff.mp H
     obtain⟨t140,A150,H⟩:=H
     replace H:((seq_Check.f a0_3).bind fun t141=>(opts_Check.j1 kj1 (decide ((mx t140 t141) > 0)) a0_0 a0_1 a0_2 a0_3 a0_4 a0_5 a0_6 l0_7))=some r:=H
     have A15:=mkA A150
     clear A150
     replace H:=Option.bind_eq_some_iff.mp H
     obtain⟨t141,A160,H⟩:=H
     replace H:(opts_Check.j1 kj1 (decide ((mx t140 t141) > 0)) a0_0 a0_1 a0_2 a0_3 a0_4 a0_5 a0_6 l0_7)=some r:=H
     have A16:=mkA A160
     clear A160
     obtain⟨ji17,hji17⟩:∃ j_:Int,(mx t140 t141)=j_:=⟨_,rfl⟩
     replace H:(opts_Check.j1 kj1 (decide ((ji17) > 0)) a0_0 a0_1 a0_2 a0_3 a0_4 a0_5 a0_6 l0_7)=some r:=by first|(rw[hji17] at H;exact H)|(simp only[hji17] at H ⊢;exact H)
     (try rw[hji17] at A15)
     (try rw[hji17] at A16)
     have hji17_:(if t140 < t141 then t141 else t140)=ji17:=hji17
     have H':=mkA H
     clear H
     obtain⟨hcz18_0,hcz18_1,hcz18_2,hcz18_3,hcz18_4,hcz18_5,hcz18_6,hcz18_7⟩:=blk_cells8 BK139.out
     obtain⟨hfz18_0,hfz18_1,hfz18_2,hfz18_3,hfz18_4,hfz18_5,hfz18_6,hfz18_7⟩:=blk_frozens8 BK139.out
     go_wp2_with (first|(go_at_call 31;(with_reducible refine(seq_Check.calls a0_2 t140 _ A15.out).mono ?_);rintro e w' ⟨rfl,⟨nd,rfl⟩⟩;(try first|exact⟨rfl,_,World.drewN_drewN _ _ _⟩|exact⟨rfl,_,Eq.trans (World.drewN_drewN _ _ _) (congrArg (World.drewN _) (Nat.add_assoc _ _ _))⟩))|(go_at_call 31;(with_reducible refine(seq_Check.calls a0_3 t141 _ A16.out).mono ?_);rintro e w' ⟨rfl,⟨nd,rfl⟩⟩;(try first|exact⟨rfl,_,World.drewN_drewN _ _ _⟩|exact⟨rfl,_,Eq.trans (World.drewN_drewN _ _ _) (congrArg (World.drewN _) (Nat.add_assoc _ _ _))⟩)))
     repeat(go_quiet (first|(go_at_call 31;(with_reducible refine(seq_Check.calls a0_2 t140 _ A15.out).mono ?_);rintro e w' ⟨rfl,⟨nd,rfl⟩⟩;(try first|exact⟨rfl,_,World.drewN_drewN _ _ _⟩|exact⟨rfl,_,Eq.trans (World.drewN_drewN _ _ _) (congrArg (World.drewN _) (Nat.add_assoc _ _ _))⟩))|(go_at_call 31;(with_reducible refine(seq_Check.calls a0_3 t141 _ A16.out).mono ?_);rintro e w' ⟨rfl,⟨nd,rfl⟩⟩;(try first|exact⟨rfl,_,World.drewN_drewN _ _ _⟩|exact⟨rfl,_,Eq.trans (World.drewN_drewN _ _ _) (congrArg (World.drewN _) (Nat.add_assoc _ _ _))⟩)));try go_wp2_with (first|(go_at_call 31;(with_reducible refine(seq_Check.calls a0_2 t140 _ A15.out).mono ?_);rintro e w' ⟨rfl,⟨nd,rfl⟩⟩;(try first|exact⟨rfl,_,World.drewN_drewN _ _ _⟩|exact⟨rfl,_,Eq.trans (World.drewN_drewN _ _ _) (congrArg (World.drewN _) (Nat.add_assoc _ _ _))⟩))|(go_at_call 31;(with_reducible refine(seq_Check.calls a0_3 t141 _ A16.out).mono ?_);rintro e w' ⟨rfl,⟨nd,rfl⟩⟩;(try first|exact⟨rfl,_,World.drewN_drewN _ _ _⟩|exact⟨rfl,_,Eq.trans (World.drewN_drewN _ _ _) (congrArg (World.drewN _) (Nat.add_assoc _ _ _))⟩))))
     go_meet
     case rel=>exact⟨_,(decide ((ji17) > 0)),(by first|rfl|(simp;done)|(simp only[← hji17] <;> (first|rfl|simp))|(simp[*];done)),(by first|exact H'|(simp only[hji17];exact H')),⟨by have:=HJ1.out;first|omega|exact Nat.le_refl _⟩,⟨by(with_reducible repeat(first|refine kN ?_ _|refine kD ?_|refine kA ?_ _));exact BK139.out⟩,⟨by repeat(first|(with_reducible first|exact HB.out|apply bA|apply bN|apply bD|refine bS ?_ GE139.out)|exact HB.out)⟩⟩
   case rest =>
    clear HC13
    try clear c1;try clear p2;try clear c3;try clear c4;try clear c4b0;try clear c4b1;try clear c6;try clear c6b0;try clear c8;try clear c8b0;try clear c10;try clear c10b0;try clear c14;try clear hcz11_0 hcz11_1 hcz11_2 hcz11_3 hcz11_4 hcz11_5 hcz11_6 hcz11_7;try clear hcz12_0 hcz12_1 hcz12_2 hcz12_3 hcz12_4 hcz12_5 hcz12_6 hcz12_7;try clear hcz18_0 hcz18_1 hcz18_2 hcz18_3 hcz18_4 hcz18_5 hcz18_6 hcz18_7;try clear hcz5_0 hcz5_1 hcz5_2 hcz5_3 hcz5_4 hcz5_5 hcz5_6 hcz5_7;try clear hcz7_0 hcz7_1 hcz7_2 hcz7_3 hcz7_4 hcz7_5 hcz7_6 hcz7_7;try clear hcz9_0 hcz9_1 hcz9_2 hcz9_3 hcz9_4 hcz9_5 hcz9_6 hcz9_7;try clear hfz11_0 hfz11_1 hfz11_2 hfz11_3 hfz11_4 hfz11_5 hfz11_6 hfz11_7;try clear hfz12_0 hfz12_1 hfz12_2 hfz12_3 hfz12_4 hfz12_5 hfz12_6 hfz12_7;try clear hfz18_0 hfz18_1 hfz18_2 hfz18_3 hfz18_4 hfz18_5 hfz18_6 hfz18_7;try clear hfz5_0 hfz5_1 hfz5_2 hfz5_3 hfz5_4 hfz5_5 hfz5_6 hfz5_7;try clear hfz7_0 hfz7_1 hfz7_2 hfz7_3 hfz7_4 hfz7_5 hfz7_6 hfz7_7;try clear hfz9_0 hfz9_1 hfz9_2 hfz9_3 hfz9_4 hfz9_5 hfz9_6 hfz9_7;try clear p2
    obtain⟨kq,x3_12,rfl,HA,HJ12,BK139,HB⟩:=hcut
    cases kq with
    | zero=>exact absurd HA.out (by simp[opts_Check.j1])
    | succ kj12 =>
     have H:=HA.out
     clear HA
     simp only[opts_Check.j1] at H
     have HC19:=mkA H
     clear H
     go_upto_region 3 with (fail)
     repeat(go_quiet (fail);go_upto_region 3 with (fail))
     go_cut [3] (fun v3 wc=>∃ (kq:Nat) (x3_18:Bool),v3=.bool x3_18∧Aside0 (opts_Check.j2 kq x3_18 a0_0 a0_1 a0_2 a0_3 a0_4 a0_5 a0_6 l0_7=some r)∧Aside0 (kq≤kj12)∧Aside0 (wc.heap[gb139]?=some (.cells #[.int .i64 a0_0,.int .i64 a0_1,.int .i64 a0_2,.int .i64 a0_3,.bool a0_4,.bool a0_5,.bool a0_6,(.slice A0_7 l0_7.length c0_7)] 24 (0,0)))∧Aside0 (Below w.heap.size w wc))
     case first =>
      have H:=HC19.out
      clear HC19
      by_cases c20:x3_12=true
      ·subst c20
       have H1:(opts_Check.j2 kj12 true a0_0 a0_1 a0_2 a0_3 a0_4 a0_5 a0_6 l0_7)=some r:=by rw[if_pos rfl] at H;exact H
       clear H
       have H:=H1
       clear H1
       have H':=mkA H
       clear H
       go_wp2
       repeat(go_quiet (fail);try go_wp2)
       go_meet
       case rel=>exact⟨_,(true),(by first|rfl|(simp;done)|(simp[*];done)),H',⟨by have:=HJ1.out;have:=HJ12.out;first|omega|exact Nat.le_refl _⟩,⟨by(with_reducible repeat(first|refine kN ?_ _|refine kD ?_|refine kA ?_ _));exact BK139.out⟩,⟨by repeat(first|(with_reducible first|exact HB.out|apply bA|apply bN|apply bD|refine bS ?_ GE139.out)|exact HB.out)⟩⟩
      ·replace c20:=Bool.eq_false_iff.mpr c20
       subst c20
       have H1:(if a0_4=true then (if a0_6=true then (opts_Check.j2 kj12 false a0_0 a0_1 a0_2 a0_3 a0_4 a0_5 a0_6 l0_7) else (opts_Check.j2 kj12 (decide ((mx a0_2 a0_3) > 0)) a0_0 a0_1 a0_2 a0_3 a0_4 a0_5 a0_6 l0_7)) else (if a0_1 > 0 then (opts_Check.j2 kj12 true a0_0 a0_1 a0_2 a0_3 a0_4 a0_5 a0_6 l0_7) else (if a0_6=true then (opts_Check.j2 kj12 false a0_0 a0_1 a0_2 a0_3 a0_4 a0_5 a0_6 l0_7) else (opts_Check.j2 kj12 (decide ((mx a0_2 a0_3) > 0)) a0_0 a0_1 a0_2 a0_3 a0_4 a0_5 a0_6 l0_7))))=some r:=by rw[if_neg (show ¬ (false=true) by decide)] at H;exact H
       clear H
       have H:=H1
       clear H1
       by_cases c21:a0_4=true
       ·subst c21
        have H1:(if a0_6=true then (opts_Check.j2 kj12 false a0_0 a0_1 a0_2 a0_3 true a0_5 a0_6 l0_7) else (opts_Check.j2 kj12 (decide ((mx a0_2 a0_3) > 0)) a0_0 a0_1 a0_2 a0_3 true a0_5 a0_6 l0_7))=some r:=by rw[if_pos rfl] at H;exact H
        clear H
        have H:=H1
        clear H1
        by_cases c22:a0_6=true
        ·subst c22
         have H1:(opts_Check.j2 kj12 false a0_0 a0_1 a0_2 a0_3 true a0_5 true l0_7)=some r:=by rw[if_pos rfl] at H;exact H
         clear H
         have H:=H1
         clear H1
         have H':=mkA H
         clear H
         obtain⟨hcz23_0,hcz23_1,hcz23_2,hcz23_3,hcz23_4,hcz23_5,hcz23_6,hcz23_7⟩:=blk_cells8 BK139.out
         obtain⟨hfz23_0,hfz23_1,hfz23_2,hfz23_3,hfz23_4,hfz23_5,hfz23_6,hfz23_7⟩:=blk_frozens8 BK139.out
         go_wp2
         repeat(go_quiet (fail);try go_wp2)
         go_meet
         case rel=>exact⟨_,(false),(by first|rfl|(simp;done)|(simp[*];done)),H',⟨by have:=HJ1.out;have:=HJ12.out;first|omega|exact Nat.le_refl _⟩,⟨by(with_reducible repeat(first|refine kN ?_ _|refine kD ?_|refine kA ?_ _));exact BK139.out⟩,⟨by repeat(first|(with_reducible first|exact HB.out|apply bA|apply bN|apply bD|refine bS ?_ GE139.out)|exact HB.out)⟩⟩
        ·replace c22:=Bool.eq_false_iff.mpr c22
         subst c22
         have H1:(opts_Check.j2 kj12 (decide ((mx a0_2 a0_3) > 0)) a0_0 a0_1 a0_2 a0_3 true a0_5 false l0_7)=some r:=by rw[if_neg (show ¬ (false=true) by decide)] at H;exact H
         clear H
         have H:=H1
         clear H1
         obtain⟨ji24,hji24⟩:∃ j_:Int,(mx a0_2 a0_3)=j_:=⟨_,rfl⟩
         replace H:(opts_Check.j2 kj12 (decide ((ji24) > 0)) a0_0 a0_1 a0_2 a0_3 true a0_5 false l0_7)=some r:=by first|(rw[hji24] at H;exact H)|(simp only[hji24] at H ⊢;exact H)
         have hji24_:(if a0_2 < a0_3 then a0_3 else a0_2)=ji24:=hji24
         have H':=mkA H
         clear H
         obtain⟨hcz25_0,hcz25_1,hcz25_2,hcz25_3,hcz25_4,hcz25_5,hcz25_6,hcz25_7⟩:=blk_cells8 BK139.out
         obtain⟨hfz25_0,hfz25_1,hfz25_2,hfz25_3,hfz25_4,hfz25_5,hfz25_6,hfz25_7⟩:=blk_frozens8 BK139.out
         go_wp2
         repeat(go_quiet (fail);try go_wp2)
         go_meet
         case rel=>exact⟨_,(decide ((ji24) > 0)),(by first|rfl|(simp;done)|(simp only[← hji24] <;> (first|rfl|simp))|(simp[*];done)),(by first|exact H'|(simp only[hji24];exact H')),⟨by have:=HJ1.out;have:=HJ12.out;first|omega|exact Nat.le_refl _⟩,⟨by(with_reducible repeat(first|refine kN ?_ _|refine kD ?_|refine kA ?_ _));exact BK139.out⟩,⟨by repeat(first|(with_reducible first|exact HB.out|apply bA|apply bN|apply bD|refine bS ?_ GE139.out)|exact HB.out)⟩⟩
       ·replace c21:=Bool.eq_false_iff.mpr c21
        subst c21
        have H1:(if a0_1 > 0 then (opts_Check.j2 kj12 true a0_0 a0_1 a0_2 a0_3 false a0_5 a0_6 l0_7) else (if a0_6=true then (opts_Check.j2 kj12 false a0_0 a0_1 a0_2 a0_3 false a0_5 a0_6 l0_7) else (opts_Check.j2 kj12 (decide ((mx a0_2 a0_3) > 0)) a0_0 a0_1 a0_2 a0_3 false a0_5 a0_6 l0_7)))=some r:=by rw[if_neg (show ¬ (false=true) by decide)] at H;exact H
        clear H
        have H:=H1
        clear H1
        by_cases c26:a0_1 > 0
        ·rw[if_pos c26] at H
         have c26b0:decide (0 < a0_1)=true:=decide_eq_true c26
         clear c26
         (first|rw[c26b0]|(simp only[i64_w,i32_w];rw[c26b0])|rw[c26b1]|skip)
         have H':=mkA H
         clear H
         obtain⟨hcz27_0,hcz27_1,hcz27_2,hcz27_3,hcz27_4,hcz27_5,hcz27_6,hcz27_7⟩:=blk_cells8 BK139.out
         obtain⟨hfz27_0,hfz27_1,hfz27_2,hfz27_3,hfz27_4,hfz27_5,hfz27_6,hfz27_7⟩:=blk_frozens8 BK139.out
         go_wp2
         repeat(go_quiet (fail);try go_wp2)
         go_meet
         case rel=>exact⟨_,(true),(by first|rfl|(simp;done)|(simp[*];done)),H',⟨by have:=HJ1.out;have:=HJ12.out;first|omega|exact Nat.le_refl _⟩,⟨by(with_reducible repeat(first|refine kN ?_ _|refine kD ?_|refine kA ?_ _));exact BK139.out⟩,⟨by repeat(first|(with_reducible first|exact HB.out|apply bA|apply bN|apply bD|refine bS ?_ GE139.out)|exact HB.out)⟩⟩
        ·rw[if_neg c26] at H
         have c26b0:decide (0 < a0_1)=false:=decide_eq_false c26
         clear c26
         (first|rw[c26b0]|(simp only[i64_w,i32_w];rw[c26b0])|rw[c26b1]|skip)
         by_cases c28:a0_6=true
         ·subst c28
          have H1:(opts_Check.j2 kj12 false a0_0 a0_1 a0_2 a0_3 false a0_5 true l0_7)=some r:=by rw[if_pos rfl] at H;exact H
          clear H
          have H:=H1
          clear H1
          have H':=mkA H
          clear H
          obtain⟨hcz29_0,hcz29_1,hcz29_2,hcz29_3,hcz29_4,hcz29_5,hcz29_6,hcz29_7⟩:=blk_cells8 BK139.out
          obtain⟨hfz29_0,hfz29_1,hfz29_2,hfz29_3,hfz29_4,hfz29_5,hfz29_6,hfz29_7⟩:=blk_frozens8 BK139.out
          go_wp2
          repeat(go_quiet (fail);try go_wp2)
          go_meet
          case rel=>exact⟨_,(false),(by first|rfl|(simp;done)|(simp[*];done)),H',⟨by have:=HJ1.out;have:=HJ12.out;first|omega|exact Nat.le_refl _⟩,⟨by(with_reducible repeat(first|refine kN ?_ _|refine kD ?_|refine kA ?_ _));exact BK139.out⟩,⟨by repeat(first|(with_reducible first|exact HB.out|apply bA|apply bN|apply bD|refine bS ?_ GE139.out)|exact HB.out)⟩⟩
         ·replace c28:=Bool.eq_false_iff.mpr c28
          subst c28
          have H1:(opts_Check.j2 kj12 (decide ((mx a0_2 a0_3) > 0)) a0_0 a0_1 a0_2 a0_3 false a0_5 false l0_7)=some r:=by rw[if_neg (show ¬ (false=true) by decide)] at H;exact H
          clear H
          have H:=H1
          clear H1
          obtain⟨ji30,hji30⟩:∃ j_:Int,(mx a0_2 a0_3)=j_:=⟨_,rfl⟩
          replace H:(opts_Check.j2 kj12 (decide ((ji30) > 0)) a0_0 a0_1 a0_2 a0_3 false a0_5 false l0_7)=some r:=by first|(rw[hji30] at H;exact H)|(simp only[hji30] at H ⊢;exact H)
          have hji30_:(if a0_2 < a0_3 then a0_3 else a0_2)=ji30:=hji30
          have H':=mkA H
          clear H
          obtain⟨hcz31_0,hcz31_1,hcz31_2,hcz31_3,hcz31_4,hcz31_5,hcz31_6,hcz31_7⟩:=blk_cells8 BK139.out
          obtain⟨hfz31_0,hfz31_1,hfz31_2,hfz31_3,hfz31_4,hfz31_5,hfz31_6,hfz31_7⟩:=blk_frozens8 BK139.out
          go_wp2
          repeat(go_quiet (fail);try go_wp2)
          go_meet
          case rel=>exact⟨_,(decide ((ji30) > 0)),(by first|rfl|(simp;done)|(simp only[← hji30] <;> (first|rfl|simp))|(simp[*];done)),(by first|exact H'|(simp only[hji30];exact H')),⟨by have:=HJ1.out;have:=HJ12.out;first|omega|exact Nat.le_refl _⟩,⟨by(with_reducible repeat(first|refine kN ?_ _|refine kD ?_|refine kA ?_ _));exact BK139.out⟩,⟨by repeat(first|(with_reducible first|exact HB.out|apply bA|apply bN|apply bD|refine bS ?_ GE139.out)|exact HB.out)⟩⟩
     case rest =>
      clear HC19
      try clear c1;try clear c2;try clear p2;try clear c3;try clear c4;try clear c4b0;try clear c4b1;try clear c6;try clear c6b0;try clear c8;try clear c8b0;try clear c10;try clear c10b0;try clear c14;try clear c20;try clear c21;try clear c22;try clear c26;try clear c26b0;try clear c26b1;try clear c28;try clear hcz11_0 hcz11_1 hcz11_2 hcz11_3 hcz11_4 hcz11_5 hcz11_6 hcz11_7;try clear hcz12_0 hcz12_1 hcz12_2 hcz12_3 hcz12_4 hcz12_5 hcz12_6 hcz12_7;try clear hcz18_0 hcz18_1 hcz18_2 hcz18_3 hcz18_4 hcz18_5 hcz18_6 hcz18_7;try clear hcz23_0 hcz23_1 hcz23_2 hcz23_3 hcz23_4 hcz23_5 hcz23_6 hcz23_7;try clear hcz25_0 hcz25_1 hcz25_2 hcz25_3 hcz25_4 hcz25_5 hcz25_6 hcz25_7;try clear hcz27_0 hcz27_1 hcz27_2 hcz27_3 hcz27_4 hcz27_5 hcz27_6 hcz27_7;try clear hcz29_0 hcz29_1 hcz29_2 hcz29_3 hcz29_4 hcz29_5 hcz29_6 hcz29_7;try clear hcz31_0 hcz31_1 hcz31_2 hcz31_3 hcz31_4 hcz31_5 hcz31_6 hcz31_7;try clear hcz5_0 hcz5_1 hcz5_2 hcz5_3 hcz5_4 hcz5_5 hcz5_6 hcz5_7;try clear hcz7_0 hcz7_1 hcz7_2 hcz7_3 hcz7_4 hcz7_5 hcz7_6 hcz7_7;try clear hcz9_0 hcz9_1 hcz9_2 hcz9_3 hcz9_4 hcz9_5 hcz9_6 hcz9_7;try clear hfz11_0 hfz11_1 hfz11_2 hfz11_3 hfz11_4 hfz11_5 hfz11_6 hfz11_7;try clear hfz12_0 hfz12_1 hfz12_2 hfz12_3 hfz12_4 hfz12_5 hfz12_6 hfz12_7;try clear hfz18_0 hfz18_1 hfz18_2 hfz18_3 hfz18_4 hfz18_5 hfz18_6 hfz18_7;try clear hfz23_0 hfz23_1 hfz23_2 hfz23_3 hfz23_4 hfz23_5 hfz23_6 hfz23_7;try clear hfz25_0 hfz25_1 hfz25_2 hfz25_3 hfz25_4 hfz25_5 hfz25_6 hfz25_7;try clear hfz27_0 hfz27_1 hfz27_2 hfz27_3 hfz27_4 hfz27_5 hfz27_6 hfz27_7;try clear hfz29_0 hfz29_1 hfz29_2 hfz29_3 hfz29_4 hfz29_5 hfz29_6 hfz29_7;try clear hfz31_0 hfz31_1 hfz31_2 hfz31_3 hfz31_4 hfz31_5 hfz31_6 hfz31_7;try clear hfz5_0 hfz5_1 hfz5_2 hfz5_3 hfz5_4 hfz5_5 hfz5_6 hfz5_7;try clear hfz7_0 hfz7_1 hfz7_2 hfz7_3 hfz7_4 hfz7_5 hfz7_6 hfz7_7;try clear hfz9_0 hfz9_1 hfz9_2 hfz9_3 hfz9_4 hfz9_5 hfz9_6 hfz9_7;try clear p2
      obtain⟨kq,x3_18,rfl,HA,HJ18,BK139,HB⟩:=hcut
      cases kq with
      | zero=>exact absurd HA.out (by simp[opts_Check.j2])
      | succ kj18 =>
       have H:=HA.out
       clear HA
       simp only[opts_Check.j2] at H
       by_cases c32:x3_18=true
       ·subst c32
        have H1:(some 70)=some r:=by rw[if_pos rfl] at H;exact H
        clear H
        have H:=H1
        clear H1
        obtain rfl:=Option.some.inj H
        go_wp2
        repeat(go_quiet (fail);try go_wp2)
        go_ret
        exact⟨by first|rfl|(simp[errW_none,errW_some] <;> rfl)|(simp[*,errW_none,errW_some] <;> rfl),by repeat(first|(with_reducible first|exact HB.out|apply bA|apply bN|apply bD|refine bS ?_ GE139.out)|exact HB.out)⟩
       ·replace c32:=Bool.eq_false_iff.mpr c32
        subst c32
        have H1:((api_Range_51.f l0_7 52).bind fun t142=>(if t142=true then (some 70) else ((opts_text.f kj18 a0_0 a0_1 a0_2 a0_3 a0_4 a0_5 a0_6 l0_7).bind fun t143=>(if (t143.size:Int) > 40 then (some 70) else (some 0)))))=some r:=by rw[if_neg (show ¬ (false=true) by decide)] at H;exact H
        clear H
        have H:=H1
        clear H1
        replace H:=Option.bind_eq_some_iff.mp H
        obtain⟨t142,A330,H⟩:=H
        replace H:(if t142=true then (some 70) else ((opts_text.f kj18 a0_0 a0_1 a0_2 a0_3 a0_4 a0_5 a0_6 l0_7).bind fun t143=>(if (t143.size:Int) > 40 then (some 70) else (some 0))))=some r:=H
        have A33:=mkA A330
        clear A330
        by_cases c34:t142=true
        ·subst c34
         have H1:(some 70)=some r:=by rw[if_pos rfl] at H;exact H
         clear H
         have H:=H1
         clear H1
         obtain rfl:=Option.some.inj H
         obtain⟨hcz35_0,hcz35_1,hcz35_2,hcz35_3,hcz35_4,hcz35_5,hcz35_6,hcz35_7⟩:=blk_cells8 BK139.out
         obtain⟨hfz35_0,hfz35_1,hfz35_2,hfz35_3,hfz35_4,hfz35_5,hfz35_6,hfz35_7⟩:=blk_frozens8 BK139.out
         go_wp2_with (first|(go_at_call 51;(with_reducible refine(api_Range_51.calls _ _ l0_7 52 true _ ?side1 ?side2 A33.out).mono ?_);(case side1=>repeat(first|exact(Kd.C_below HR0_7.out HB.out)|(with_reducible refine Kd.C_alloc ?_ _)|(with_reducible refine Kd.C_drewN ?_ _)|(with_reducible refine Kd.C_drew ?_)));(case side2=>exact HC0_7.out);rintro e w36 ⟨rfl,hb⟩;have n0_:=mkA (kB (g:=gb139) (by(with_reducible repeat(first|apply kN|apply kD|apply kA));exact BK139.out) hb);have n1_:=mkA (bT (by repeat(first|(with_reducible first|exact HB.out|apply bA|apply bN|apply bD|refine bS ?_ GE139.out)|exact HB.out)) hb);clear BK139;clear HB;have BK139:=n0_;have HB:=n1_;clear n0_ n1_;(try clear hb);(try clear hb2);(try clear hk);(try clear hi)))
         repeat(go_quiet (first|(go_at_call 51;(with_reducible refine(api_Range_51.calls _ _ l0_7 52 true _ ?side1 ?side2 A33.out).mono ?_);(case side1=>repeat(first|exact(Kd.C_below HR0_7.out HB.out)|(with_reducible refine Kd.C_alloc ?_ _)|(with_reducible refine Kd.C_drewN ?_ _)|(with_reducible refine Kd.C_drew ?_)));(case side2=>exact HC0_7.out);rintro e w36 ⟨rfl,hb⟩;have n0_:=mkA (kB (g:=gb139) (by(with_reducible repeat(first|apply kN|apply kD|apply kA));exact BK139.out) hb);have n1_:=mkA (bT (by repeat(first|(with_reducible first|exact HB.out|apply bA|apply bN|apply bD|refine bS ?_ GE139.out)|exact HB.out)) hb);clear BK139;clear HB;have BK139:=n0_;have HB:=n1_;clear n0_ n1_;(try clear hb);(try clear hb2);(try clear hk);(try clear hi)));try go_wp2_with (first|(go_at_call 51;(with_reducible refine(api_Range_51.calls _ _ l0_7 52 true _ ?side1 ?side2 A33.out).mono ?_);(case side1=>repeat(first|exact(Kd.C_below HR0_7.out HB.out)|(with_reducible refine Kd.C_alloc ?_ _)|(with_reducible refine Kd.C_drewN ?_ _)|(with_reducible refine Kd.C_drew ?_)));(case side2=>exact HC0_7.out);rintro e w36 ⟨rfl,hb⟩;have n0_:=mkA (kB (g:=gb139) (by(with_reducible repeat(first|apply kN|apply kD|apply kA));exact BK139.out) hb);have n1_:=mkA (bT (by repeat(first|(with_reducible first|exact HB.out|apply bA|apply bN|apply bD|refine bS ?_ GE139.out)|exact HB.out)) hb);clear BK139;clear HB;have BK139:=n0_;have HB:=n1_;clear n0_ n1_;(try clear hb);(try clear hb2);(try clear hk);(try clear hi))))
         go_ret
         exact⟨by first|rfl|(simp[errW_none,errW_some] <;> rfl)|(simp[*,errW_none,errW_some] <;> rfl),by repeat(first|(with_reducible first|exact HB.out|apply bA|apply bN|apply bD|refine bS ?_ GE139.out)|exact HB.out)⟩
        ·replace c34:=Bool.eq_false_iff.mpr c34
         subst c34
         have H1:((opts_text.f kj18 a0_0 a0_1 a0_2 a0_3 a0_4 a0_5 a0_6 l0_7).bind fun t143=>(if (t143.size:Int) > 40 then (some 70) else (some 0)))=some r:=by rw[if_neg (show ¬ (false=true) by decide)] at H;exact H
         clear H
         have H:=H1
         clear H1
         replace H:=Option.bind_eq_some_iff.mp H
         obtain⟨t143,A370,H⟩:=H
         replace H:(if (t143.size:Int) > 40 then (some 70) else (some 0))=some r:=H
         have A37:=mkA A370
         clear A370
         by_cases c38:(t143.size:Int) > 40
         ·rw[if_pos c38] at H
          have c38b0:decide (40 < (t143.size:Int))=true:=decide_eq_true c38
          have c38b1:decide (40 < t143.size)=true:=decide_eq_true (by omega)
          clear c38
          obtain rfl:=Option.some.inj H
          obtain⟨hcz39_0,hcz39_1,hcz39_2,hcz39_3,hcz39_4,hcz39_5,hcz39_6,hcz39_7⟩:=blk_cells8 BK139.out
          obtain⟨hfz39_0,hfz39_1,hfz39_2,hfz39_3,hfz39_4,hfz39_5,hfz39_6,hfz39_7⟩:=blk_frozens8 BK139.out
          go_wp2_with (first|(go_at_call 51;(with_reducible refine(api_Range_51.calls _ _ l0_7 52 false _ ?side1 ?side2 A33.out).mono ?_);(case side1=>repeat(first|exact(Kd.C_below HR0_7.out HB.out)|(with_reducible refine Kd.C_alloc ?_ _)|(with_reducible refine Kd.C_drewN ?_ _)|(with_reducible refine Kd.C_drew ?_)));(case side2=>exact HC0_7.out);rintro e w40 ⟨rfl,hb⟩;have n0_:=mkA (kB (g:=gb139) (by(with_reducible repeat(first|apply kN|apply kD|apply kA));exact BK139.out) hb);have n1_:=mkA (bT (by repeat(first|(with_reducible first|exact HB.out|apply bA|apply bN|apply bD|refine bS ?_ GE139.out)|exact HB.out)) hb);clear BK139;clear HB;have BK139:=n0_;have HB:=n1_;clear n0_ n1_;(try clear hb);(try clear hb2);(try clear hk);(try clear hi);obtain⟨hcz41_0,hcz41_1,hcz41_2,hcz41_3,hcz41_4,hcz41_5,hcz41_6,hcz41_7⟩:=blk_cells8 BK139.out;obtain⟨hfz41_0,hfz41_1,hfz41_2,hfz41_3,hfz41_4,hfz41_5,hfz41_6,hfz41_7⟩:=blk_frozens8 BK139.out)|(go_at_call 53;(with_reducible refine(opts_text.calls kj18 a0_0 a0_1 a0_2 a0_3 a0_4 a0_5 a0_6 _ _ l0_7 t143 _ ?side1 ?side2 A37.out).mono ?_);(case side1=>repeat(first|exact(Kd.C_below HR0_7.out HB.out)|(with_reducible refine Kd.C_alloc ?_ _)|(with_reducible refine Kd.C_drewN ?_ _)|(with_reducible refine Kd.C_drew ?_)));(case side2=>exact HC0_7.out);rintro e w42 ⟨rfl,hb⟩;have n0_:=mkA (kB (g:=gb139) (by(with_reducible repeat(first|apply kN|apply kD|apply kA));exact BK139.out) hb);have n1_:=mkA (bT (by repeat(first|(with_reducible first|exact HB.out|apply bA|apply bN|apply bD|refine bS ?_ GE139.out)|exact HB.out)) hb);clear BK139;clear HB;have BK139:=n0_;have HB:=n1_;clear n0_ n1_;(try clear hb);(try clear hb2);(try clear hk);(try clear hi)))
          repeat(go_quiet (first|(go_at_call 51;(with_reducible refine(api_Range_51.calls _ _ l0_7 52 false _ ?side1 ?side2 A33.out).mono ?_);(case side1=>repeat(first|exact(Kd.C_below HR0_7.out HB.out)|(with_reducible refine Kd.C_alloc ?_ _)|(with_reducible refine Kd.C_drewN ?_ _)|(with_reducible refine Kd.C_drew ?_)));(case side2=>exact HC0_7.out);rintro e w40 ⟨rfl,hb⟩;have n0_:=mkA (kB (g:=gb139) (by(with_reducible repeat(first|apply kN|apply kD|apply kA));exact BK139.out) hb);have n1_:=mkA (bT (by repeat(first|(with_reducible first|exact HB.out|apply bA|apply bN|apply bD|refine bS ?_ GE139.out)|exact HB.out)) hb);clear BK139;clear HB;have BK139:=n0_;have HB:=n1_;clear n0_ n1_;(try clear hb);(try clear hb2);(try clear hk);(try clear hi);obtain⟨hcz41_0,hcz41_1,hcz41_2,hcz41_3,hcz41_4,hcz41_5,hcz41_6,hcz41_7⟩:=blk_cells8 BK139.out;obtain⟨hfz41_0,hfz41_1,hfz41_2,hfz41_3,hfz41_4,hfz41_5,hfz41_6,hfz41_7⟩:=blk_frozens8 BK139.out)|(go_at_call 53;(with_reducible refine(opts_text.calls kj18 a0_0 a0_1 a0_2 a0_3 a0_4 a0_5 a0_6 _ _ l0_7 t143 _ ?side1 ?side2 A37.out).mono ?_);(case side1=>repeat(first|exact(Kd.C_below HR0_7.out HB.out)|(with_reducible refine Kd.C_alloc ?_ _)|(with_reducible refine Kd.C_drewN ?_ _)|(with_reducible refine Kd.C_drew ?_)));(case side2=>exact HC0_7.out);rintro e w42 ⟨rfl,hb⟩;have n0_:=mkA (kB (g:=gb139) (by(with_reducible repeat(first|apply kN|apply kD|apply kA));exact BK139.out) hb);have n1_:=mkA (bT (by repeat(first|(with_reducible first|exact HB.out|apply bA|apply bN|apply bD|refine bS ?_ GE139.out)|exact HB.out)) hb);clear BK139;clear HB;have BK139:=n0_;have HB:=n1_;clear n0_ n1_;(try clear hb);(try clear hb2);(try clear hk);(try clear hi)));try go_wp2_with (first|(go_at_call 51;(with_reducible refine(api_Range_51.calls _ _ l0_7 52 false _ ?side1 ?side2 A33.out).mono ?_);(case side1=>repeat(first|exact(Kd.C_below HR0_7.out HB.out)|(with_reducible refine Kd.C_alloc ?_ _)|(with_reducible refine Kd.C_drewN ?_ _)|(with_reducible refine Kd.C_drew ?_)));(case side2=>exact HC0_7.out);rintro e w40 ⟨rfl,hb⟩;have n0_:=mkA (kB (g:=gb139) (by(with_reducible repeat(first|apply kN|apply kD|apply kA));exact BK139.out) hb);have n1_:=mkA (bT (by repeat(first|(with_reducible first|exact HB.out|apply bA|apply bN|apply bD|refine bS ?_ GE139.out)|exact HB.out)) hb);clear BK139;clear HB;have BK139:=n0_;have HB:=n1_;clear n0_ n1_;(try clear hb);(try clear hb2);(try clear hk);(try clear hi);obtain⟨hcz41_0,hcz41_1,hcz41_2,hcz41_3,hcz41_4,hcz41_5,hcz41_6,hcz41_7⟩:=blk_cells8 BK139.out;obtain⟨hfz41_0,hfz41_1,hfz41_2,hfz41_3,hfz41_4,hfz41_5,hfz41_6,hfz41_7⟩:=blk_frozens8 BK139.out)|(go_at_call 53;(with_reducible refine(opts_text.calls kj18 a0_0 a0_1 a0_2 a0_3 a0_4 a0_5 a0_6 _ _ l0_7 t143 _ ?side1 ?side2 A37.out).mono ?_);(case side1=>repeat(first|exact(Kd.C_below HR0_7.out HB.out)|(with_reducible refine Kd.C_alloc ?_ _)|(with_reducible refine Kd.C_drewN ?_ _)|(with_reducible refine Kd.C_drew ?_)));(case side2=>exact HC0_7.out);rintro e w42 ⟨rfl,hb⟩;have n0_:=mkA (kB (g:=gb139) (by(with_reducible repeat(first|apply kN|apply kD|apply kA));exact BK139.out) hb);have n1_:=mkA (bT (by repeat(first|(with_reducible first|exact HB.out|apply bA|apply bN|apply bD|refine bS ?_ GE139.out)|exact HB.out)) hb);clear BK139;clear HB;have BK139:=n0_;have HB:=n1_;clear n0_ n1_;(try clear hb);(try clear hb2);(try clear hk);(try clear hi))))
          go_ret
          exact⟨by first|rfl|(simp[errW_none,errW_some] <;> rfl)|(simp[*,errW_none,errW_some] <;> rfl),by repeat(first|(with_reducible first|exact HB.out|apply bA|apply bN|apply bD|refine bS ?_ GE139.out)|exact HB.out)⟩
         ·rw[if_neg c38] at H
          have c38b0:decide (40 < (t143.size:Int))=false:=decide_eq_false c38
          have c38b1:decide (40 < t143.size)=false:=decide_eq_false (by omega)
          clear c38
          obtain rfl:=Option.some.inj H
          obtain⟨hcz43_0,hcz43_1,hcz43_2,hcz43_3,hcz43_4,hcz43_5,hcz43_6,hcz43_7⟩:=blk_cells8 BK139.out
          obtain⟨hfz43_0,hfz43_1,hfz43_2,hfz43_3,hfz43_4,hfz43_5,hfz43_6,hfz43_7⟩:=blk_frozens8 BK139.out
          go_wp2_with (first|(go_at_call 51;(with_reducible refine(api_Range_51.calls _ _ l0_7 52 false _ ?side1 ?side2 A33.out).mono ?_);(case side1=>repeat(first|exact(Kd.C_below HR0_7.out HB.out)|(with_reducible refine Kd.C_alloc ?_ _)|(with_reducible refine Kd.C_drewN ?_ _)|(with_reducible refine Kd.C_drew ?_)));(case side2=>exact HC0_7.out);rintro e w44 ⟨rfl,hb⟩;have n0_:=mkA (kB (g:=gb139) (by(with_reducible repeat(first|apply kN|apply kD|apply kA));exact BK139.out) hb);have n1_:=mkA (bT (by repeat(first|(with_reducible first|exact HB.out|apply bA|apply bN|apply bD|refine bS ?_ GE139.out)|exact HB.out)) hb);clear BK139;clear HB;have BK139:=n0_;have HB:=n1_;clear n0_ n1_;(try clear hb);(try clear hb2);(try clear hk);(try clear hi);obtain⟨hcz45_0,hcz45_1,hcz45_2,hcz45_3,hcz45_4,hcz45_5,hcz45_6,hcz45_7⟩:=blk_cells8 BK139.out;obtain⟨hfz45_0,hfz45_1,hfz45_2,hfz45_3,hfz45_4,hfz45_5,hfz45_6,hfz45_7⟩:=blk_frozens8 BK139.out)|(go_at_call 53;(with_reducible refine(opts_text.calls kj18 a0_0 a0_1 a0_2 a0_3 a0_4 a0_5 a0_6 _ _ l0_7 t143 _ ?side1 ?side2 A37.out).mono ?_);(case side1=>repeat(first|exact(Kd.C_below HR0_7.out HB.out)|(with_reducible refine Kd.C_alloc ?_ _)|(with_reducible refine Kd.C_drewN ?_ _)|(with_reducible refine Kd.C_drew ?_)));(case side2=>exact HC0_7.out);rintro e w46 ⟨rfl,hb⟩;have n0_:=mkA (kB (g:=gb139) (by(with_reducible repeat(first|apply kN|apply kD|apply kA));exact BK139.out) hb);have n1_:=mkA (bT (by repeat(first|(with_reducible first|exact HB.out|apply bA|apply bN|apply bD|refine bS ?_ GE139.out)|exact HB.out)) hb);clear BK139;clear HB;have BK139:=n0_;have HB:=n1_;clear n0_ n1_;(try clear hb);(try clear hb2);(try clear hk);(try clear hi)))
          repeat(go_quiet (first|(go_at_call 51;(with_reducible refine(api_Range_51.calls _ _ l0_7 52 false _ ?side1 ?side2 A33.out).mono ?_);(case side1=>repeat(first|exact(Kd.C_below HR0_7.out HB.out)|(with_reducible refine Kd.C_alloc ?_ _)|(with_reducible refine Kd.C_drewN ?_ _)|(with_reducible refine Kd.C_drew ?_)));(case side2=>exact HC0_7.out);rintro e w44 ⟨rfl,hb⟩;have n0_:=mkA (kB (g:=gb139) (by(with_reducible repeat(first|apply kN|apply kD|apply kA));exact BK139.out) hb);have n1_:=mkA (bT (by repeat(first|(with_reducible first|exact HB.out|apply bA|apply bN|apply bD|refine bS ?_ GE139.out)|exact HB.out)) hb);clear BK139;clear HB;have BK139:=n0_;have HB:=n1_;clear n0_ n1_;(try clear hb);(try clear hb2);(try clear hk);(try clear hi);obtain⟨hcz45_0,hcz45_1,hcz45_2,hcz45_3,hcz45_4,hcz45_5,hcz45_6,hcz45_7⟩:=blk_cells8 BK139.out;obtain⟨hfz45_0,hfz45_1,hfz45_2,hfz45_3,hfz45_4,hfz45_5,hfz45_6,hfz45_7⟩:=blk_frozens8 BK139.out)|(go_at_call 53;(with_reducible refine(opts_text.calls kj18 a0_0 a0_1 a0_2 a0_3 a0_4 a0_5 a0_6 _ _ l0_7 t143 _ ?side1 ?side2 A37.out).mono ?_);(case side1=>repeat(first|exact(Kd.C_below HR0_7.out HB.out)|(with_reducible refine Kd.C_alloc ?_ _)|(with_reducible refine Kd.C_drewN ?_ _)|(with_reducible refine Kd.C_drew ?_)));(case side2=>exact HC0_7.out);rintro e w46 ⟨rfl,hb⟩;have n0_:=mkA (kB (g:=gb139) (by(with_reducible repeat(first|apply kN|apply kD|apply kA));exact BK139.out) hb);have n1_:=mkA (bT (by repeat(first|(with_reducible first|exact HB.out|apply bA|apply bN|apply bD|refine bS ?_ GE139.out)|exact HB.out)) hb);clear BK139;clear HB;have BK139:=n0_;have HB:=n1_;clear n0_ n1_;(try clear hb);(try clear hb2);(try clear hk);(try clear hi)));try go_wp2_with (first|(go_at_call 51;(with_reducible refine(api_Range_51.calls _ _ l0_7 52 false _ ?side1 ?side2 A33.out).mono ?_);(case side1=>repeat(first|exact(Kd.C_below HR0_7.out HB.out)|(with_reducible refine Kd.C_alloc ?_ _)|(with_reducible refine Kd.C_drewN ?_ _)|(with_reducible refine Kd.C_drew ?_)));(case side2=>exact HC0_7.out);rintro e w44 ⟨rfl,hb⟩;have n0_:=mkA (kB (g:=gb139) (by(with_reducible repeat(first|apply kN|apply kD|apply kA));exact BK139.out) hb);have n1_:=mkA (bT (by repeat(first|(with_reducible first|exact HB.out|apply bA|apply bN|apply bD|refine bS ?_ GE139.out)|exact HB.out)) hb);clear BK139;clear HB;have BK139:=n0_;have HB:=n1_;clear n0_ n1_;(try clear hb);(try clear hb2);(try clear hk);(try clear hi);obtain⟨hcz45_0,hcz45_1,hcz45_2,hcz45_3,hcz45_4,hcz45_5,hcz45_6,hcz45_7⟩:=blk_cells8 BK139.out;obtain⟨hfz45_0,hfz45_1,hfz45_2,hfz45_3,hfz45_4,hfz45_5,hfz45_6,hfz45_7⟩:=blk_frozens8 BK139.out)|(go_at_call 53;(with_reducible refine(opts_text.calls kj18 a0_0 a0_1 a0_2 a0_3 a0_4 a0_5 a0_6 _ _ l0_7 t143 _ ?side1 ?side2 A37.out).mono ?_);(case side1=>repeat(first|exact(Kd.C_below HR0_7.out HB.out)|(with_reducible refine Kd.C_alloc ?_ _)|(with_reducible refine Kd.C_drewN ?_ _)|(with_reducible refine Kd.C_drew ?_)));(case side2=>exact HC0_7.out);rintro e w46 ⟨rfl,hb⟩;have n0_:=mkA (kB (g:=gb139) (by(with_reducible repeat(first|apply kN|apply kD|apply kA));exact BK139.out) hb);have n1_:=mkA (bT (by repeat(first|(with_reducible first|exact HB.out|apply bA|apply bN|apply bD|refine bS ?_ GE139.out)|exact HB.out)) hb);clear BK139;clear HB;have BK139:=n0_;have HB:=n1_;clear n0_ n1_;(try clear hb);(try clear hb2);(try clear hk);(try clear hi))))
          go_ret
          exact⟨by first|rfl|(simp[errW_none,errW_some] <;> rfl)|(simp[*,errW_none,errW_some] <;> rfl),by repeat(first|(with_reducible first|exact HB.out|apply bA|apply bN|apply bD|refine bS ?_ GE139.out)|exact HB.out)⟩

end Go.Proofs.Ytakajeoeijnmhaa.PSegReads

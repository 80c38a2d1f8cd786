-- Laid by this claim's own program over the print's words.
import Derived.Test.YtakajeoeijnmhaaPSegReadsx0
import Derived.Test.YtakajeoeijnmhaaPSegReadsx12
namespace Go.Proofs.Ytakajeoeijnmhaa.PSegReads
open Go.RowKit Go.Proofs.YtakajeoeijnmhaaW.PrintWords Go.Proofs.YtakajeoeijnmhaaW.PrintLast Go.Proofs.YtakajeoeijnmhaaW.PrintMore
attribute [local go_sem] max2_int min2_int max_two min_two max_three min_three max_four min_four max_five min_five extract_cut tmod_nat_lit   -- for this text's walks alone
set_option linter.unusedVariables false
set_option linter.unusedSimpArgs false

/-! ### sternpostref07_Bytes: function 54 -/
def sternpostref07_Bytes.l0:Nat→ByteArray→Option (ByteArray)
 | 0,_=>none
 | k+1,x3=>if ((x3.size:Int) % 4)=0 then (some x3) else (if x3.size+1≤9223372036854775807 then (sternpostref07_Bytes.l0 k (x3++(⟨#[0]⟩:ByteArray))) else (none))
def sternpostref07_Bytes.f (k:Nat) (a0_0:Int) (a0_1:Int) (a0_2:Int) (a0_3:Int) (a0_4:Bool) (a0_5:Bool) (a0_6:Bool) (l0_7:List (S73)):Option (ByteArray):=(sternpostref07_bare.f k a0_0 a0_1 a0_2 a0_3 a0_4 a0_5 a0_6 l0_7).bind fun t216=>(sternpostref07_Bytes.l0 k t216)
theorem sternpostref07_Bytes.mono_l:∀ k,(∀ y0,LeO (sternpostref07_Bytes.l0 k y0) (sternpostref07_Bytes.l0 (k+1) y0))
 | 0=>fun _ r h=>by simp[sternpostref07_Bytes.l0] at h
 | k+1=>by
  have ih0:=sternpostref07_Bytes.mono_l k
  ·intro y0
   unfold sternpostref07_Bytes.l0
   repeat' first
   | (with_reducible exact ih0 _)
   | (with_reducible exact sternpostref07_bare.mono _ _ _ _ _ _ _ _ _)
   | (with_reducible exact LeO.refl _)
   | (with_reducible exact LeO.none _)
   | (with_reducible refine LeO.ite ?_ ?_)
   | (with_reducible refine LeO.bind ?_ (fun _=>?_))
   | exact ih0 _
   | exact sternpostref07_bare.mono _ _ _ _ _ _ _ _ _
   | exact LeO.none _
   | refine LeO.ite ?_ ?_
   | refine LeO.bind ?_ (fun _=>?_)
theorem sternpostref07_Bytes.mono:∀ a0 a1 a2 a3 a4 a5 a6 a7 k,LeO (sternpostref07_Bytes.f k a0 a1 a2 a3 a4 a5 a6 a7) (sternpostref07_Bytes.f (k+1) a0 a1 a2 a3 a4 a5 a6 a7):=by
 intro a0 a1 a2 a3 a4 a5 a6 a7 k
 have ih0:=sternpostref07_Bytes.mono_l k
 unfold sternpostref07_Bytes.f
 repeat' first
   | (with_reducible exact ih0 _)
   | (with_reducible exact sternpostref07_bare.mono _ _ _ _ _ _ _ _ _)
   | (with_reducible exact LeO.refl _)
   | (with_reducible exact LeO.none _)
   | (with_reducible refine LeO.ite ?_ ?_)
   | (with_reducible refine LeO.bind ?_ (fun _=>?_))
   | exact ih0 _
   | exact sternpostref07_bare.mono _ _ _ _ _ _ _ _ _
   | exact LeO.none _
   | refine LeO.ite ?_ ?_
   | refine LeO.bind ?_ (fun _=>?_)
set_option maxHeartbeats 8000000 in
set_option maxRecDepth 100000 in
theorem sternpostref07_Bytes.calls (k:Nat) (a0_0:Int) (a0_1:Int) (a0_2:Int) (a0_3:Int) (a0_4:Bool) (a0_5:Bool) (a0_6:Bool) (A0_7:Option Addr) (c0_7:Nat) (l0_7:List (S73)) (r:ByteArray) (w:World) (hr0_7:Kd.C k73 w A0_7 l0_7.length l0_7) (hc0_7:l0_7.length≤c0_7) (h:sternpostref07_Bytes.f k a0_0 a0_1 a0_2 a0_3 a0_4 a0_5 a0_6 l0_7=some r) :
  Calls Try.prog 54 #[.agg #[.int .i64 a0_0,.int .i64 a0_1,.int .i64 a0_2,.int .i64 a0_3,.bool a0_4,.bool a0_5,.bool a0_6,.slice A0_7 l0_7.length c0_7]] w fun e w'=>e=.returned (.string r)∧Below w.heap.size w w':=by
 have hu24:=Try.underlying24
 have HR0_7:=mkA hr0_7
 have HC0_7:=mkA hc0_7
 clear hr0_7 hc0_7
 have HB:=mkA (Below.refl w.heap.size w)
 have H:((sternpostref07_bare.f k a0_0 a0_1 a0_2 a0_3 a0_4 a0_5 a0_6 l0_7).bind fun t216=>(sternpostref07_Bytes.l0 k t216))=some r:=h
 clear h
 replace H:=Option.bind_eq_some_iff.mp H
 obtain⟨t216,A20,H⟩:=H
 replace H:(sternpostref07_Bytes.l0 k t216)=some r:=H
 have A2:=mkA A20
 clear A20
 have H':=mkA H
 clear H
 go_enter Try.func54,Try.ntmps54
 go_wp2_with (first|((with_reducible refine gate_dst (N:=1) rfl ?_);refine box_event ?hg (N:=1) ?hd (cs:=#[.int .i64 a0_0,.int .i64 a0_1,.int .i64 a0_2,.int .i64 a0_3,.bool a0_4,.bool a0_5,.bool a0_6,.slice A0_7 l0_7.length c0_7]) (t:=24) ?hr ?_;(case hd=>rfl);(case hg=>rfl);(case hr=>first|(go_simp;done)|(go_simp;rfl));intro gb215 hg w3 hbox hb;have n0_:=mkA (bT (by repeat(first|(with_reducible first|exact HB.out|apply bA|apply bN|apply bD)|exact HB.out)) hb);have n1_:=mkA (hbox);have n2_:=mkA ((by rw[hg];exact(bZ (by repeat(first|(with_reducible first|exact HB.out|apply bA|apply bN|apply bD)|exact HB.out))):w.heap.size≤gb215));have n3_:=mkA ((by rw[hg];exact(bZ (by repeat(first|(with_reducible first|exact HB.out|apply bA|apply bN|apply bD)|exact HB.out))):w.heap.size≤gb215));clear HB;have HB:=n0_;have BK215:=n1_;have GW215:=n2_;have GE215:=n3_;clear n0_ n1_ n2_ n3_;clear hb hbox hg;obtain⟨hcz4_0,hcz4_1,hcz4_2,hcz4_3,hcz4_4,hcz4_5,hcz4_6,hcz4_7⟩:=blk_cells8 BK215.out;obtain⟨hfz4_0,hfz4_1,hfz4_2,hfz4_3,hfz4_4,hfz4_5,hfz4_6,hfz4_7⟩:=blk_frozens8 BK215.out)|((with_reducible refine gate_callee (f:=65) rfl ?_);refine goesL_ (some 5) rfl rfl Try.func65 (by kernel_rfl) rfl #[.agg #[.int .i64 a0_0,.int .i64 a0_1,.int .i64 a0_2,.int .i64 a0_3,.bool a0_4,.bool a0_5,.bool a0_6,.slice A0_7 l0_7.length c0_7]] rfl (by(try simp only[List.map_toArray,List.map_cons,List.map_nil]);first|done|rfl|(simp only[List.length_drop,List.length_take];rfl)) ?_;(with_reducible refine(sternpostref07_bare.calls k a0_0 a0_1 a0_2 a0_3 a0_4 a0_5 a0_6 _ _ l0_7 t216 _ ?side1 ?side2 A2.out).mono ?_);(case side1=>repeat(first|exact(Kd.C_below HR0_7.out HB.out)|(with_reducible refine Kd.C_alloc ?_ _)|(with_reducible refine Kd.C_drewN ?_ _)|(with_reducible refine Kd.C_drew ?_)));(case side2=>exact HC0_7.out);rintro e w5 ⟨rfl,hb⟩;refine⟨_,rfl,?_⟩;have n0_:=mkA (kB (g:=gb215) (by(with_reducible repeat(first|apply kN|apply kD|apply kA));exact BK215.out) hb);have n1_:=mkA (bT (by repeat(first|(with_reducible first|exact HB.out|apply bA|apply bN|apply bD|refine bS ?_ GE215.out)|exact HB.out)) hb);clear BK215;clear HB;have BK215:=n0_;have HB:=n1_;clear n0_ n1_;(try clear hb);(try clear hb2);(try clear hk);(try clear hi)))
 go_loopg [3] k (fun kq v3 w'=>∃ (x3_1:ByteArray),v3=.string x3_1∧Aside0 (sternpostref07_Bytes.l0 kq x3_1=some r)∧Aside0 (kq≤k)∧Aside0 (w'.heap[gb215]?=some (.cells #[.int .i64 a0_0,.int .i64 a0_1,.int .i64 a0_2,.int .i64 a0_3,.bool a0_4,.bool a0_5,.bool a0_6,(.slice A0_7 l0_7.length c0_7)] 24 (0,0)))∧Aside0 (Below w.heap.size w w'))
 case atStart=>exact⟨(t216),(by first|rfl|(simp;done)|(simp[*];done)),H',⟨Nat.le_refl _⟩,⟨by(with_reducible repeat(first|refine kN ?_ _|refine kD ?_|refine kA ?_ _));exact BK215.out⟩,⟨by repeat(first|(with_reducible first|exact HB.out|apply bA|apply bN|apply bD|refine bS ?_ GE215.out)|exact HB.out)⟩⟩
 case round =>
  clear H'
  try clear p2;try clear c5;try clear hcz4_0 hcz4_1 hcz4_2 hcz4_3 hcz4_4 hcz4_5 hcz4_6 hcz4_7;try clear hfz4_0 hfz4_1 hfz4_2 hfz4_3 hfz4_4 hfz4_5 hfz4_6 hfz4_7
  obtain⟨x3_1,rfl,HA,HK1,BK215,HB⟩:=hrel
  cases gk with
  | zero=>exact absurd HA.out (by simp[sternpostref07_Bytes.l0])
  | succ k1 =>
   have H:=HA.out
   clear HA
   simp only[sternpostref07_Bytes.l0] at H
   by_cases c6:((x3_1.size:Int) % 4)=0
   ·rw[if_pos c6] at H
    have c6b0:(((x3_1.size:Int) % 4) == 0)=true:=beq_iff_eq.mpr c6
    have c6b1:(((x3_1.size:Int) % 4) != 0)=false:=bne_eq_false_iff_eq.mpr c6
    clear c6
    obtain rfl:=Option.some.inj H
    go_wp2
    go_ret
    exact⟨by first|rfl|(simp[errW_none,errW_some] <;> rfl)|(simp[*,errW_none,errW_some] <;> rfl),by repeat(first|(with_reducible first|exact HB.out|apply bA|apply bN|apply bD|refine bS ?_ GE215.out)|exact HB.out)⟩
   ·rw[if_neg c6] at H
    have c6b0:(((x3_1.size:Int) % 4) == 0)=false:=beq_eq_false_iff_ne.mpr c6
    have c6b1:(((x3_1.size:Int) % 4) != 0)=true:=bne_iff_ne.mpr c6
    by_cases c7:x3_1.size+1≤9223372036854775807
    ·rw[if_pos c7] at H
     have c7b0:=eq_true c7
     have c7b1:decide (x3_1.size+1≤9223372036854775807)=true:=decide_eq_true c7
     try have c7b2:(9223372036854775807 < x3_1.size+1)=False:=eq_false (Nat.not_lt.2 c7)
     have H':=mkA H
     clear H
     go_wp2
     go_roundg k1
     case measure=>have:=HK1.out;omega
     case rel=>exact⟨(x3_1++(⟨#[0]⟩:ByteArray)),(by first|rfl|(simp;done)|(simp[*];done)),H',⟨by have:=HK1.out;omega⟩,⟨by(with_reducible repeat(first|refine kN ?_ _|refine kD ?_|refine kA ?_ _));exact BK215.out⟩,⟨by repeat(first|(with_reducible first|exact HB.out|apply bA|apply bN|apply bD|refine bS ?_ GE215.out)|exact HB.out)⟩⟩
    ·rw[if_neg c7] at H
     exact absurd H (by simp)

end Go.Proofs.Ytakajeoeijnmhaa.PSegReads

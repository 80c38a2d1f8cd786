-- Laid by this claim's own program over the print's words.
import Derived.Test.YtakajeoeijnmhaaPSegReadsx0
import Derived.Test.YtakajeoeijnmhaaPSegReadsx2
import Derived.Test.YtakajeoeijnmhaaPSegReadsx6
namespace Go.Proofs.Ytakajeoeijnmhaa.PSegReads
open Go.RowKit Go.Proofs.YtakajeoeijnmhaaW.PrintWords Go.Proofs.YtakajeoeijnmhaaW.PrintLast Go.Proofs.YtakajeoeijnmhaaW.PrintMore
attribute [local go_sem] max2_int min2_int max_two min_two max_three min_three max_four min_four max_five min_five extract_cut tmod_nat_lit   -- for this text's walks alone
set_option linter.unusedVariables false
set_option linter.unusedSimpArgs false

/-! ### seg_Length: function 16 -/
def seg_Length.f (a0_0:Int) (a0_1:Int) (a0_2:Int) (a0_3:Int) (a0_4:Int) (a0_5:Int) (a0_6:Int) (a0_7:Int) (a0_8:Int) (a0_9:Int) (a0_10:Int) (a0_11:Bool) (a0_12:Bool) (a0_13:Bool) (l0_14:List (S73)) (a0_15:ByteArray):Option (Int):=some (wrap64 ((wrap64 ((a0_15.size:Int)+(wrap64 (Int.tdiv (Go.bits .and .i64 a0_4 2) 2))))+(Go.bits .and .i64 a0_4 1)))
set_option maxHeartbeats 8000000 in
set_option maxRecDepth 100000 in
theorem seg_Length.calls (a0_0:Int) (a0_1:Int) (a0_2:Int) (a0_3:Int) (a0_4:Int) (a0_5:Int) (a0_6:Int) (a0_7:Int) (a0_8:Int) (a0_9:Int) (a0_10:Int) (a0_11:Bool) (a0_12:Bool) (a0_13:Bool) (A0_14:Option Addr) (c0_14:Nat) (l0_14:List (S73)) (a0_15:ByteArray) (r:Int) (w:World) (hr0_14:Kd.C k73 w A0_14 l0_14.length l0_14) (hc0_14:l0_14.length≤c0_14) (h:seg_Length.f a0_0 a0_1 a0_2 a0_3 a0_4 a0_5 a0_6 a0_7 a0_8 a0_9 a0_10 a0_11 a0_12 a0_13 l0_14 a0_15=some r) :
  Calls Try.prog 16 #[.agg #[.int .i64 a0_0,.int .i64 a0_1,.int .i64 a0_2,.int .i64 a0_3,.int .i64 a0_4,.int .i64 a0_5,.int .i64 a0_6,.int .i64 a0_7,.int .i64 a0_8,.int .i64 a0_9,.int .i64 a0_10,.bool a0_11,.bool a0_12,.bool a0_13,.slice A0_14 l0_14.length c0_14,.string a0_15]] w fun e w'=>e=.returned (.int .i64 r)∧Below w.heap.size w w':=by
 have hu26:=Try.underlying26
 have HR0_14:=mkA hr0_14
 have HC0_14:=mkA hc0_14
 clear hr0_14 hc0_14
 have HB:=mkA (Below.refl w.heap.size w)
 have H:(some (wrap64 ((wrap64 ((a0_15.size:Int)+(wrap64 (Int.tdiv (Go.bits .and .i64 a0_4 2) 2))))+(Go.bits .and .i64 a0_4 1))))=some r:=h
 clear h
 obtain rfl:=Option.some.inj H
 go_enter Try.func16,Try.ntmps16
 go_wp2_with (first|((with_reducible refine gate_load (t:=26) rfl ?_);refine gate_wanted ?hw (fun hw_=>?_);(case hw=>first|rfl|(go_simp;done));refine load_big hw_ 26 _ rfl _ rfl 26 _ (0,0) _ (by(with_reducible repeat(first|apply kN|apply kD|apply kA|(apply blk_farA;case hp=>assumption)|apply kP));apply Aside0.out;assumption;all_goals (simp only[List.setIfInBounds_toArray,List.set_cons_zero,List.set_cons_succ];try rfl)) Try.underlying26 rfl (by kernel_rfl) ?_;clear hw_;simp only[puts])|((with_reducible refine gate_store (t:=26) rfl ?_);refine store_big rfl 26 _ _ rfl _ _ rfl rfl 26 _ (by(with_reducible repeat(first|apply kN|apply kD|apply kA|(apply blk_farA;case hp=>assumption)|apply kP));apply Aside0.out;assumption;all_goals (simp only[List.setIfInBounds_toArray,List.set_cons_zero,List.set_cons_succ];try rfl)) (by kernel_rfl) (by rfl) (by rfl) _ (by simp only[World.setCells,Nat.reduceAdd];rfl) ?_;simp only[puts])|((with_reducible refine gate_dst (N:=1) rfl ?_);refine box_event ?hg (N:=1) ?hd (cs:=#[.int .i64 a0_0,.int .i64 a0_1,.int .i64 a0_2,.int .i64 a0_3,.int .i64 a0_4,.int .i64 a0_5,.int .i64 a0_6,.int .i64 a0_7,.int .i64 a0_8,.int .i64 a0_9,.int .i64 a0_10,.bool a0_11,.bool a0_12,.bool a0_13,.slice A0_14 l0_14.length c0_14,.string a0_15]) (t:=26) ?hr ?_;(case hd=>rfl);(case hg=>rfl);(case hr=>first|(go_simp;done)|(go_simp;rfl));intro gb151 hg w2 hbox hb;have n0_:=mkA (bT (by repeat(first|(with_reducible first|exact HB.out|apply bA|apply bN|apply bD)|exact HB.out)) hb);have n1_:=mkA (hbox);have n2_:=mkA ((by rw[hg];exact(bZ (by repeat(first|(with_reducible first|exact HB.out|apply bA|apply bN|apply bD)|exact HB.out))):w.heap.size≤gb151));have n3_:=mkA ((by rw[hg];exact(bZ (by repeat(first|(with_reducible first|exact HB.out|apply bA|apply bN|apply bD)|exact HB.out))):w.heap.size≤gb151));clear HB;have HB:=n0_;have BK151:=n1_;have GW151:=n2_;have GE151:=n3_;clear n0_ n1_ n2_ n3_;clear hb hbox hg;obtain⟨hcz3_0,hcz3_1,hcz3_2,hcz3_3,hcz3_4,hcz3_5,hcz3_6,hcz3_7,hcz3_8,hcz3_9,hcz3_10,hcz3_11,hcz3_12,hcz3_13,hcz3_14,hcz3_15⟩:=blk_cells16 BK151.out;obtain⟨hfz3_0,hfz3_1,hfz3_2,hfz3_3,hfz3_4,hfz3_5,hfz3_6,hfz3_7,hfz3_8,hfz3_9,hfz3_10,hfz3_11,hfz3_12,hfz3_13,hfz3_14,hfz3_15⟩:=blk_frozens16 BK151.out))
 go_ret
 exact⟨by first|rfl|(simp[errW_none,errW_some] <;> rfl)|(simp[*,errW_none,errW_some] <;> rfl),by repeat(first|(with_reducible first|exact HB.out|apply bA|apply bN|apply bD|refine bS ?_ GE151.out)|exact HB.out)⟩

/-! ### seq_within: function 49 -/
def seq_within.f (a0:Int) (a1:Int) (a2:Int):Option (Bool):=if a0≥a1 then (some (decide (a0≤a2))) else (some false)
set_option maxHeartbeats 8000000 in
set_option maxRecDepth 100000 in
theorem seq_within.calls (a0:Int) (a1:Int) (a2:Int) (r:Bool) (w:World) (h:seq_within.f a0 a1 a2=some r) :
  Calls Try.prog 49 #[.int .i64 a0,.int .i64 a1,.int .i64 a2] w fun e w'=>e=.returned (.bool r)∧Drawn0 w w':=by
 have H:(if a0≥a1 then (some (decide (a0≤a2))) else (some false))=some r:=h
 clear h
 by_cases c4:a0≥a1
 ·rw[if_pos c4] at H
  have c4b0:decide (a1≤a0)=true:=decide_eq_true c4
  clear c4
  obtain rfl:=Option.some.inj H
  go_enter Try.func49,Try.ntmps49
  go_wp2
  go_ret
  exact⟨by first|rfl|(simp;done)|(simp[*];done),by repeat(first|exact Drawn0.refl _|apply Drawn0.step)⟩
 ·rw[if_neg c4] at H
  have c4b0:decide (a1≤a0)=false:=decide_eq_false c4
  clear c4
  obtain rfl:=Option.some.inj H
  go_enter Try.func49,Try.ntmps49
  go_wp2
  go_ret
  exact⟨by first|rfl|(simp;done)|(simp[*];done),by repeat(first|exact Drawn0.refl _|apply Drawn0.step)⟩

/-! ### seq_Add: function 27 -/
def seq_Add.f (a0:Int) (a1:Int):Option (Int × Int):=(seq_Check.f a0).bind fun t152=>(if t152=0 then ((seq_within.f a1 (-4294967296) 4294967296).bind fun t153=>(if t153=true then (some (Go.bits .and .i64 (wrap64 (a0+a1)) 4294967295,0)) else (some (0,1)))) else (some (0,1)))
set_option maxHeartbeats 8000000 in
set_option maxRecDepth 100000 in
theorem seq_Add.calls (a0:Int) (a1:Int) (r1:Int) (r2:Int) (w:World) (h:seq_Add.f a0 a1=some (r1,r2)) :
  Calls Try.prog 27 #[.int .i64 a0,.int .i64 a1] w fun e w'=>e=.returned (.tuple #[.int .i64 r1,.int .i64 r2])∧Drawn0 w w':=by
 have H:((seq_Check.f a0).bind fun t152=>(if t152=0 then ((seq_within.f a1 (-4294967296) 4294967296).bind fun t153=>(if t153=true then (some (Go.bits .and .i64 (wrap64 (a0+a1)) 4294967295,0)) else (some (0,1)))) else (some (0,1))))=some (r1,r2):=h
 clear h
 replace H:=Option.bind_eq_some_iff.mp H
 obtain⟨t152,A30,H⟩:=H
 replace H:(if t152=0 then ((seq_within.f a1 (-4294967296) 4294967296).bind fun t153=>(if t153=true then (some (Go.bits .and .i64 (wrap64 (a0+a1)) 4294967295,0)) else (some (0,1)))) else (some (0,1)))=some (r1,r2):=H
 have A3:=mkA A30
 clear A30
 by_cases c4:t152=0
 ·rw[if_pos c4] at H
  have c4b0:(t152 == 0)=true:=beq_iff_eq.mpr c4
  have c4b1:(t152 != 0)=false:=bne_eq_false_iff_eq.mpr c4
  clear c4
  replace H:=Option.bind_eq_some_iff.mp H
  obtain⟨t153,A50,H⟩:=H
  replace H:(if t153=true then (some (Go.bits .and .i64 (wrap64 (a0+a1)) 4294967295,0)) else (some (0,1)))=some (r1,r2):=H
  have A5:=mkA A50
  clear A50
  by_cases c6:t153=true
  ·subst c6
   have H1:(some (Go.bits .and .i64 (wrap64 (a0+a1)) 4294967295,0))=some (r1,r2):=by rw[if_pos rfl] at H;exact H
   clear H
   have H:=H1
   clear H1
   simp only[Option.some.injEq,Prod.mk.injEq] at H
   obtain⟨rfl,rfl⟩:=H
   go_enter Try.func27,Try.ntmps27
   go_wp2_with (first|((with_reducible refine gate_callee (f:=31) rfl ?_);refine goesL_ (some 7) rfl rfl Try.func31 (by kernel_rfl) rfl #[.int .i64 a0] rfl (by(try simp only[List.map_toArray,List.map_cons,List.map_nil]);first|done|rfl|(simp only[List.length_drop,List.length_take];rfl)) ?_;(with_reducible refine(seq_Check.calls a0 t152 _ A3.out).mono ?_);rintro e w' ⟨rfl,⟨nd,rfl⟩⟩;refine⟨_,rfl,?_⟩)|(go_at_call 49;(with_reducible refine(seq_within.calls a1 (-4294967296) 4294967296 true _ A5.out).mono ?_);rintro e w' ⟨rfl,⟨nd,rfl⟩⟩))
   go_ret2
   exact⟨by first|rfl|(simp;done)|(simp[*];done),by repeat(first|exact Drawn0.refl _|apply Drawn0.step)⟩
  ·replace c6:=Bool.eq_false_iff.mpr c6
   subst c6
   have H1:(some (0,1))=some (r1,r2):=by rw[if_neg (show ¬ (false=true) by decide)] at H;exact H
   clear H
   have H:=H1
   clear H1
   simp only[Option.some.injEq,Prod.mk.injEq] at H
   obtain⟨rfl,rfl⟩:=H
   go_enter Try.func27,Try.ntmps27
   go_wp2_with (first|((with_reducible refine gate_callee (f:=31) rfl ?_);refine goesL_ (some 7) rfl rfl Try.func31 (by kernel_rfl) rfl #[.int .i64 a0] rfl (by(try simp only[List.map_toArray,List.map_cons,List.map_nil]);first|done|rfl|(simp only[List.length_drop,List.length_take];rfl)) ?_;(with_reducible refine(seq_Check.calls a0 t152 _ A3.out).mono ?_);rintro e w' ⟨rfl,⟨nd,rfl⟩⟩;refine⟨_,rfl,?_⟩)|(go_at_call 49;(with_reducible refine(seq_within.calls a1 (-4294967296) 4294967296 false _ A5.out).mono ?_);rintro e w' ⟨rfl,⟨nd,rfl⟩⟩))
   go_ret2
   exact⟨by first|rfl|(simp;done)|(simp[*];done),by repeat(first|exact Drawn0.refl _|apply Drawn0.step)⟩
 ·rw[if_neg c4] at H
  have c4b0:(t152 == 0)=false:=beq_eq_false_iff_ne.mpr c4
  have c4b1:(t152 != 0)=true:=bne_iff_ne.mpr c4
  simp only[Option.some.injEq,Prod.mk.injEq] at H
  obtain⟨rfl,rfl⟩:=H
  go_enter Try.func27,Try.ntmps27
  go_wp2_with (first|((with_reducible refine gate_callee (f:=31) rfl ?_);refine goesL_ (some 7) rfl rfl Try.func31 (by kernel_rfl) rfl #[.int .i64 a0] rfl (by(try simp only[List.map_toArray,List.map_cons,List.map_nil]);first|done|rfl|(simp only[List.length_drop,List.length_take];rfl)) ?_;(with_reducible refine(seq_Check.calls a0 t152 _ A3.out).mono ?_);rintro e w' ⟨rfl,⟨nd,rfl⟩⟩;refine⟨_,rfl,?_⟩))
  go_ret2
  exact⟨by first|rfl|(simp;done)|(simp[*];done),by repeat(first|exact Drawn0.refl _|apply Drawn0.step)⟩

/-! ### seg_Reset: function 9 -/
def seg_Reset.j0:Nat→Bool→Int→Int→Int→Int→Int→Int→Int→Int→Int→Int→Int→Bool→Bool→Bool→List (S73)→ByteArray→Option (Int × Int × Int × Int × Int × Int × Int × Int × Int × Int × Int × Bool × Bool × Bool × (List (S73)) × ByteArray × Bool)
 | 0,_,_,_,_,_,_,_,_,_,_,_,_,_,_,_,_,_=>none
 | k+1,x11,x155000,x155001,x155002,x155003,x155004,x155005,x155006,x155007,x155008,x155009,x155010,x155011,x155012,x155013,x155014,x155015=>if x11=true then (some (0,0,0,0,0,0,0,0,0,0,0,false,false,false,([]:List (S73)),(⟨#[]⟩:ByteArray),false)) else ((seg_Has.f x155000 x155001 x155002 x155003 x155004 x155005 x155006 x155007 x155008 x155009 x155010 x155011 x155012 x155013 x155014 x155015 16).bind fun t159=>(if t159=true then (some (x155001,x155000,x155003,0,4,0,0,0,0,0,0,false,false,false,([]:List (S73)),(⟨#[]⟩:ByteArray),true)) else ((seg_Length.f x155000 x155001 x155002 x155003 x155004 x155005 x155006 x155007 x155008 x155009 x155010 x155011 x155012 x155013 x155014 x155015).bind fun t160=>((seq_Add.f x155002 t160).bind fun bt161=>(some (x155001,x155000,0,bt161.1,Go.bits .or .i64 4 16,0,0,0,0,0,0,false,false,false,([]:List (S73)),(⟨#[]⟩:ByteArray),true))))))
def seg_Reset.f (k:Nat) (a0_0:Int) (a0_1:Int) (a0_2:Int) (a0_3:Int) (a0_4:Int) (a0_5:Int) (a0_6:Int) (a0_7:Int) (a0_8:Int) (a0_9:Int) (a0_10:Int) (a0_11:Bool) (a0_12:Bool) (a0_13:Bool) (l0_14:List (S73)) (a0_15:ByteArray):Option (Int × Int × Int × Int × Int × Int × Int × Int × Int × Int × Int × Bool × Bool × Bool × (List (S73)) × ByteArray × Bool):=(seg_Check.f k a0_0 a0_1 a0_2 a0_3 a0_4 a0_5 a0_6 a0_7 a0_8 a0_9 a0_10 a0_11 a0_12 a0_13 l0_14 a0_15).bind fun t156=>(if t156=0 then ((seg_Has.f a0_0 a0_1 a0_2 a0_3 a0_4 a0_5 a0_6 a0_7 a0_8 a0_9 a0_10 a0_11 a0_12 a0_13 l0_14 a0_15 4).bind fun t157=>(seg_Reset.j0 k t157 a0_0 a0_1 a0_2 a0_3 a0_4 a0_5 a0_6 a0_7 a0_8 a0_9 a0_10 a0_11 a0_12 a0_13 l0_14 a0_15)) else (seg_Reset.j0 k true a0_0 a0_1 a0_2 a0_3 a0_4 a0_5 a0_6 a0_7 a0_8 a0_9 a0_10 a0_11 a0_12 a0_13 l0_14 a0_15))
theorem seg_Reset.mono_l:∀ k,(∀ y0 y1 y2 y3 y4 y5 y6 y7 y8 y9 y10 y11 y12 y13 y14 y15 y16,LeO (seg_Reset.j0 k y0 y1 y2 y3 y4 y5 y6 y7 y8 y9 y10 y11 y12 y13 y14 y15 y16) (seg_Reset.j0 (k+1) y0 y1 y2 y3 y4 y5 y6 y7 y8 y9 y10 y11 y12 y13 y14 y15 y16))
 | 0=>fun _ _ _ _ _ _ _ _ _ _ _ _ _ _ _ _ _ r h=>by simp[seg_Reset.j0] at h
 | k+1=>by
  have ih0:=seg_Reset.mono_l k
  ·intro y0 y1 y2 y3 y4 y5 y6 y7 y8 y9 y10 y11 y12 y13 y14 y15 y16
   unfold seg_Reset.j0
   repeat' first
   | (with_reducible exact ih0 _ _ _ _ _ _ _ _ _ _ _ _ _ _ _ _ _)
   | (with_reducible exact seg_Check.mono _ _ _ _ _ _ _ _ _ _ _ _ _ _ _ _ _)
   | (with_reducible exact LeO.refl _)
   | (with_reducible exact LeO.none _)
   | (with_reducible refine LeO.ite ?_ ?_)
   | (with_reducible refine LeO.bind ?_ (fun _=>?_))
   | exact ih0 _ _ _ _ _ _ _ _ _ _ _ _ _ _ _ _ _
   | exact seg_Check.mono _ _ _ _ _ _ _ _ _ _ _ _ _ _ _ _ _
   | exact LeO.none _
   | refine LeO.ite ?_ ?_
   | refine LeO.bind ?_ (fun _=>?_)
theorem seg_Reset.mono:∀ a0 a1 a2 a3 a4 a5 a6 a7 a8 a9 a10 a11 a12 a13 a14 a15 k,LeO (seg_Reset.f k a0 a1 a2 a3 a4 a5 a6 a7 a8 a9 a10 a11 a12 a13 a14 a15) (seg_Reset.f (k+1) a0 a1 a2 a3 a4 a5 a6 a7 a8 a9 a10 a11 a12 a13 a14 a15):=by
 intro a0 a1 a2 a3 a4 a5 a6 a7 a8 a9 a10 a11 a12 a13 a14 a15 k
 have ih0:=seg_Reset.mono_l k
 unfold seg_Reset.f
 repeat' first
   | (with_reducible exact ih0 _ _ _ _ _ _ _ _ _ _ _ _ _ _ _ _ _)
   | (with_reducible exact seg_Check.mono _ _ _ _ _ _ _ _ _ _ _ _ _ _ _ _ _)
   | (with_reducible exact LeO.refl _)
   | (with_reducible exact LeO.none _)
   | (with_reducible refine LeO.ite ?_ ?_)
   | (with_reducible refine LeO.bind ?_ (fun _=>?_))
   | exact ih0 _ _ _ _ _ _ _ _ _ _ _ _ _ _ _ _ _
   | exact seg_Check.mono _ _ _ _ _ _ _ _ _ _ _ _ _ _ _ _ _
   | exact LeO.none _
   | refine LeO.ite ?_ ?_
   | refine LeO.bind ?_ (fun _=>?_)
def seg_Reset.T8:Bool × List (List Nat × List Nat):=(true,[([],[]),([0],[0]),([],[]),([2],[2]),([1,3,3],[1,3]),([4],[4]),([5],[5]),([5],[5]),([0,1,2,3,4,5,6],[]),([8,6,4,0,1,2,3,4,5,6],[6,8])])
def seg_Reset.B8:List Nat:=[0,1,0,4,15,31,63,63,127,383]
theorem seg_Reset.tab8:rtab .any (opsOf Try.f9 8)=seg_Reset.T8:=by kernel_rfl
theorem seg_Reset.bits8:waitsOk seg_Reset.T8.2 seg_Reset.B8=true:=by kernel_rfl
set_option maxHeartbeats 8000000 in
set_option maxRecDepth 100000 in
theorem seg_Reset.calls (k:Nat) (a0_0:Int) (a0_1:Int) (a0_2:Int) (a0_3:Int) (a0_4:Int) (a0_5:Int) (a0_6:Int) (a0_7:Int) (a0_8:Int) (a0_9:Int) (a0_10:Int) (a0_11:Bool) (a0_12:Bool) (a0_13:Bool) (A0_14:Option Addr) (c0_14:Nat) (l0_14:List (S73)) (a0_15:ByteArray) (r1:Int) (r2:Int) (r3:Int) (r4:Int) (r5:Int) (r6:Int) (r7:Int) (r8:Int) (r9:Int) (r10:Int) (r11:Int) (r12:Bool) (r13:Bool) (r14:Bool) (r15:List (S73)) (r16:ByteArray) (r17:Bool) (w:World) (hr0_14:Kd.C k73 w A0_14 l0_14.length l0_14) (hc0_14:l0_14.length≤c0_14) (h:seg_Reset.f k a0_0 a0_1 a0_2 a0_3 a0_4 a0_5 a0_6 a0_7 a0_8 a0_9 a0_10 a0_11 a0_12 a0_13 l0_14 a0_15=some (r1,r2,r3,r4,r5,r6,r7,r8,r9,r10,r11,r12,r13,r14,r15,r16,r17)) :
  Calls Try.prog 9 #[.agg #[.int .i64 a0_0,.int .i64 a0_1,.int .i64 a0_2,.int .i64 a0_3,.int .i64 a0_4,.int .i64 a0_5,.int .i64 a0_6,.int .i64 a0_7,.int .i64 a0_8,.int .i64 a0_9,.int .i64 a0_10,.bool a0_11,.bool a0_12,.bool a0_13,.slice A0_14 l0_14.length c0_14,.string a0_15]] w fun e w'=>∃ v14_:Value,e=.returned (.tuple #[.agg #[.int .i64 r1,.int .i64 r2,.int .i64 r3,.int .i64 r4,.int .i64 r5,.int .i64 r6,.int .i64 r7,.int .i64 r8,.int .i64 r9,.int .i64 r10,.int .i64 r11,.bool r12,.bool r13,.bool r14,v14_,.string r16],.bool r17])∧Kd.R k73 73 w' w.heap.size (fun _=>True) v14_ r15∧Below w.heap.size w w':=by
 have hu26:=Try.underlying26
 have HR0_14:=mkA hr0_14
 have HC0_14:=mkA hc0_14
 clear hr0_14 hc0_14
 have HB:=mkA (Below.refl w.heap.size w)
 have H:((seg_Check.f k a0_0 a0_1 a0_2 a0_3 a0_4 a0_5 a0_6 a0_7 a0_8 a0_9 a0_10 a0_11 a0_12 a0_13 l0_14 a0_15).bind fun t156=>(if t156=0 then ((seg_Has.f a0_0 a0_1 a0_2 a0_3 a0_4 a0_5 a0_6 a0_7 a0_8 a0_9 a0_10 a0_11 a0_12 a0_13 l0_14 a0_15 4).bind fun t157=>(seg_Reset.j0 k t157 a0_0 a0_1 a0_2 a0_3 a0_4 a0_5 a0_6 a0_7 a0_8 a0_9 a0_10 a0_11 a0_12 a0_13 l0_14 a0_15)) else (seg_Reset.j0 k true a0_0 a0_1 a0_2 a0_3 a0_4 a0_5 a0_6 a0_7 a0_8 a0_9 a0_10 a0_11 a0_12 a0_13 l0_14 a0_15)))=some (r1,r2,r3,r4,r5,r6,r7,r8,r9,r10,r11,r12,r13,r14,r15,r16,r17):=h
 clear h
 have HC2:=mkA H
 clear H
 go_enter Try.func9,Try.ntmps9
 go_upto_region 1 with (first|((with_reducible refine gate_load (t:=26) rfl ?_);refine gate_wanted ?hw (fun hw_=>?_);(case hw=>first|rfl|(go_simp;done));refine load_big hw_ 26 _ rfl _ rfl 26 _ (0,0) _ (by(with_reducible repeat(first|apply kN|apply kD|apply kA|(apply blk_farA;case hp=>assumption)|apply kP));apply Aside0.out;assumption;all_goals (simp only[List.setIfInBounds_toArray,List.set_cons_zero,List.set_cons_succ];try rfl)) Try.underlying26 rfl (by kernel_rfl) ?_;clear hw_;simp only[puts])|((with_reducible refine gate_store (t:=26) rfl ?_);refine store_big rfl 26 _ _ rfl _ _ rfl rfl 26 _ (by(with_reducible repeat(first|apply kN|apply kD|apply kA|(apply blk_farA;case hp=>assumption)|apply kP));apply Aside0.out;assumption;all_goals (simp only[List.setIfInBounds_toArray,List.set_cons_zero,List.set_cons_succ];try rfl)) (by kernel_rfl) (by rfl) (by rfl) _ (by simp only[World.setCells,Nat.reduceAdd];rfl) ?_;simp only[puts])|((with_reducible refine gate_dst (N:=1) rfl ?_);refine box_event ?hg (N:=1) ?hd (cs:=#[.int .i64 a0_0,.int .i64 a0_1,.int .i64 a0_2,.int .i64 a0_3,.int .i64 a0_4,.int .i64 a0_5,.int .i64 a0_6,.int .i64 a0_7,.int .i64 a0_8,.int .i64 a0_9,.int .i64 a0_10,.bool a0_11,.bool a0_12,.bool a0_13,.slice A0_14 l0_14.length c0_14,.string a0_15]) (t:=26) ?hr ?_;(case hd=>rfl);(case hg=>rfl);(case hr=>first|(go_simp;done)|(go_simp;rfl));intro gb154 hg w3 hbox hb;have n0_:=mkA (bT (by repeat(first|(with_reducible first|exact HB.out|apply bA|apply bN|apply bD)|exact HB.out)) hb);have n1_:=mkA (hbox);have n2_:=mkA ((by rw[hg];exact(bZ (by repeat(first|(with_reducible first|exact HB.out|apply bA|apply bN|apply bD)|exact HB.out))):w.heap.size≤gb154));have n3_:=mkA ((by rw[hg];exact(bZ (by repeat(first|(with_reducible first|exact HB.out|apply bA|apply bN|apply bD)|exact HB.out))):w.heap.size≤gb154));clear HB;have HB:=n0_;have BK154:=n1_;have GW154:=n2_;have GE154:=n3_;clear n0_ n1_ n2_ n3_;clear hb hbox hg)|((with_reducible refine gate_dst (N:=2) rfl ?_);refine box_event ?hg (N:=2) ?hd (cs:=#[.int .i64 0,.int .i64 0,.int .i64 0,.int .i64 0,.int .i64 0,.int .i64 0,.int .i64 0,.int .i64 0,.int .i64 0,.int .i64 0,.int .i64 0,.bool false,.bool false,.bool false,.slice none 0 0,.string (⟨#[]⟩:ByteArray)]) (t:=26) ?hr ?_;(case hd=>rfl);(case hg=>rfl);(case hr=>first|(go_simp;done)|(go_simp;rfl));intro gb155 hg w4 hbox hb;have n0_:=mkA (kB (g:=gb154) (by(with_reducible repeat(first|apply kN|apply kD|apply kA));exact BK154.out) hb);have n1_:=mkA (bT (by repeat(first|(with_reducible first|exact HB.out|apply bA|apply bN|apply bD|refine bS ?_ GE154.out)|exact HB.out)) hb);have n2_:=mkA (hbox);have n3_:=mkA ((by rw[hg];exact(bZ (by repeat(first|(with_reducible first|exact HB.out|apply bA|apply bN|apply bD|refine bS ?_ GE154.out)|exact HB.out))):w.heap.size≤gb155));have n4_:=mkA ((by rw[hg];exact(bZ (by repeat(first|(with_reducible first|exact HB.out|apply bA|apply bN|apply bD|refine bS ?_ GE154.out)|exact HB.out))):w.heap.size≤gb155));have n5_:=mkA ((by rw[hg];exact Nat.ne_of_lt (blk_lt (g:=gb154) (by(with_reducible repeat(first|apply kN|apply kD|apply kA));exact BK154.out)):gb154≠gb155));have n6_:=mkA ((by rw[hg];exact Nat.ne_of_gt (blk_lt (g:=gb154) (by(with_reducible repeat(first|apply kN|apply kD|apply kA));exact BK154.out)):gb155≠gb154));clear BK154;clear HB;have BK154:=n0_;have HB:=n1_;have BK155:=n2_;have GW155:=n3_;have GE155:=n4_;have NB154_155:=n5_;have NB155_154:=n6_;clear n0_ n1_ n2_ n3_ n4_ n5_ n6_;clear hb hbox hg))
 (try simp only[puts])
 go_cut [11] (fun v11 wc=>∃ (kq:Nat) (x11_1:Bool),v11=.bool x11_1∧Aside0 (seg_Reset.j0 kq x11_1 a0_0 a0_1 a0_2 a0_3 a0_4 a0_5 a0_6 a0_7 a0_8 a0_9 a0_10 a0_11 a0_12 a0_13 l0_14 a0_15=some (r1,r2,r3,r4,r5,r6,r7,r8,r9,r10,r11,r12,r13,r14,r15,r16,r17))∧Aside0 (kq≤k)∧Aside0 (wc.heap[gb154]?=some (.cells #[.int .i64 a0_0,.int .i64 a0_1,.int .i64 a0_2,.int .i64 a0_3,.int .i64 a0_4,.int .i64 a0_5,.int .i64 a0_6,.int .i64 a0_7,.int .i64 a0_8,.int .i64 a0_9,.int .i64 a0_10,.bool a0_11,.bool a0_12,.bool a0_13,(.slice A0_14 l0_14.length c0_14),.string a0_15] 26 (0,0)))∧Aside0 (wc.heap[gb155]?=some (.cells #[.int .i64 0,.int .i64 0,.int .i64 0,.int .i64 0,.int .i64 0,.int .i64 0,.int .i64 0,.int .i64 0,.int .i64 0,.int .i64 0,.int .i64 0,.bool false,.bool false,.bool false,(.slice none 0 0),.string (⟨#[]⟩:ByteArray)] 26 (0,0)))∧Aside0 (Below w.heap.size w wc))
 case first =>
  have H:=HC2.out
  clear HC2
  replace H:=Option.bind_eq_some_iff.mp H
  obtain⟨t156,A50,H⟩:=H
  replace H:(if t156=0 then ((seg_Has.f a0_0 a0_1 a0_2 a0_3 a0_4 a0_5 a0_6 a0_7 a0_8 a0_9 a0_10 a0_11 a0_12 a0_13 l0_14 a0_15 4).bind fun t157=>(seg_Reset.j0 k t157 a0_0 a0_1 a0_2 a0_3 a0_4 a0_5 a0_6 a0_7 a0_8 a0_9 a0_10 a0_11 a0_12 a0_13 l0_14 a0_15)) else (seg_Reset.j0 k true a0_0 a0_1 a0_2 a0_3 a0_4 a0_5 a0_6 a0_7 a0_8 a0_9 a0_10 a0_11 a0_12 a0_13 l0_14 a0_15))=some (r1,r2,r3,r4,r5,r6,r7,r8,r9,r10,r11,r12,r13,r14,r15,r16,r17):=H
  have A5:=mkA A50
  clear A50
  by_cases c6:t156=0
  ·rw[if_pos c6] at H
   have c6b0:(t156 == 0)=true:=beq_iff_eq.mpr c6
   have c6b1:(t156 != 0)=false:=bne_eq_false_iff_eq.mpr c6
   clear c6
   (first|rw[c6b0]|(simp only[i64_w,i32_w];rw[c6b0])|rw[c6b1]|skip)
   replace H:=Option.bind_eq_some_iff.mp H
   obtain⟨t157,A70,H⟩:=H
   replace H:(seg_Reset.j0 k t157 a0_0 a0_1 a0_2 a0_3 a0_4 a0_5 a0_6 a0_7 a0_8 a0_9 a0_10 a0_11 a0_12 a0_13 l0_14 a0_15)=some (r1,r2,r3,r4,r5,r6,r7,r8,r9,r10,r11,r12,r13,r14,r15,r16,r17):=H
   have A7:=mkA A70
   clear A70
   have H':=mkA H
   clear H
   have hnb8:=NB154_155.out
   have hnc8:=NB155_154.out
   obtain⟨hcz9_0,hcz9_1,hcz9_2,hcz9_3,hcz9_4,hcz9_5,hcz9_6,hcz9_7,hcz9_8,hcz9_9,hcz9_10,hcz9_11,hcz9_12,hcz9_13,hcz9_14,hcz9_15⟩:=blk_cells16 BK154.out
   obtain⟨hfz9_0,hfz9_1,hfz9_2,hfz9_3,hfz9_4,hfz9_5,hfz9_6,hfz9_7,hfz9_8,hfz9_9,hfz9_10,hfz9_11,hfz9_12,hfz9_13,hfz9_14,hfz9_15⟩:=blk_frozens16 BK154.out
   go_wp2_with (first|((with_reducible refine gate_load (t:=26) rfl ?_);refine gate_wanted ?hw (fun hw_=>?_);(case hw=>first|rfl|(go_simp;done));refine load_big hw_ 26 _ rfl _ rfl 26 _ (0,0) _ (by(with_reducible repeat(first|apply kN|apply kD|apply kA|(apply blk_farA;case hp=>assumption)|apply kP));apply Aside0.out;assumption;all_goals (simp only[List.setIfInBounds_toArray,List.set_cons_zero,List.set_cons_succ];try rfl)) Try.underlying26 rfl (by kernel_rfl) ?_;clear hw_;simp only[puts])|((with_reducible refine gate_store (t:=26) rfl ?_);refine store_big rfl 26 _ _ rfl _ _ rfl rfl 26 _ (by(with_reducible repeat(first|apply kN|apply kD|apply kA|(apply blk_farA;case hp=>assumption)|apply kP));apply Aside0.out;assumption;all_goals (simp only[List.setIfInBounds_toArray,List.set_cons_zero,List.set_cons_succ];try rfl)) (by kernel_rfl) (by rfl) (by rfl) _ (by simp only[World.setCells,Nat.reduceAdd];rfl) ?_;simp only[puts])|((with_reducible refine gate_callee (f:=14) rfl ?_);refine goesL_ (some 6) rfl rfl Try.func14 (by kernel_rfl) rfl #[.agg #[.int .i64 a0_0,.int .i64 a0_1,.int .i64 a0_2,.int .i64 a0_3,.int .i64 a0_4,.int .i64 a0_5,.int .i64 a0_6,.int .i64 a0_7,.int .i64 a0_8,.int .i64 a0_9,.int .i64 a0_10,.bool a0_11,.bool a0_12,.bool a0_13,.slice A0_14 l0_14.length c0_14,.string a0_15]] rfl (by(try simp only[List.map_toArray,List.map_cons,List.map_nil]);first|done|rfl|(simp only[List.length_drop,List.length_take];rfl)) ?_;(with_reducible refine(seg_Check.calls k a0_0 a0_1 a0_2 a0_3 a0_4 a0_5 a0_6 a0_7 a0_8 a0_9 a0_10 a0_11 a0_12 a0_13 _ _ l0_14 a0_15 t156 _ ?side1 ?side2 A5.out).mono ?_);(case side1=>repeat(first|exact(Kd.C_below HR0_14.out HB.out)|(with_reducible refine Kd.C_alloc ?_ _)|(with_reducible refine Kd.C_drewN ?_ _)|(with_reducible refine Kd.C_drew ?_)));(case side2=>exact HC0_14.out);rintro e w10 ⟨rfl,hb⟩;refine⟨_,rfl,?_⟩;have n0_:=mkA (kB (g:=gb154) (by(with_reducible repeat(first|apply kN|apply kD|apply kA));exact BK154.out) hb);have n1_:=mkA (kB (g:=gb155) (by(with_reducible repeat(first|apply kN|apply kD|apply kA));exact BK155.out) hb);have n2_:=mkA (bT (by repeat(first|(with_reducible first|exact HB.out|apply bA|apply bN|apply bD|refine bS ?_ GE154.out|refine bS ?_ GE155.out)|exact HB.out)) hb);clear BK154;clear BK155;clear HB;have BK154:=n0_;have BK155:=n1_;have HB:=n2_;clear n0_ n1_ n2_;(try clear hb);(try clear hb2);(try clear hk);(try clear hi);obtain⟨hcz11_0,hcz11_1,hcz11_2,hcz11_3,hcz11_4,hcz11_5,hcz11_6,hcz11_7,hcz11_8,hcz11_9,hcz11_10,hcz11_11,hcz11_12,hcz11_13,hcz11_14,hcz11_15⟩:=blk_cells16 BK154.out;obtain⟨hfz11_0,hfz11_1,hfz11_2,hfz11_3,hfz11_4,hfz11_5,hfz11_6,hfz11_7,hfz11_8,hfz11_9,hfz11_10,hfz11_11,hfz11_12,hfz11_13,hfz11_14,hfz11_15⟩:=blk_frozens16 BK154.out)|(go_at_call 15;(with_reducible refine(seg_Has.calls a0_0 a0_1 a0_2 a0_3 a0_4 a0_5 a0_6 a0_7 a0_8 a0_9 a0_10 a0_11 a0_12 a0_13 _ _ l0_14 a0_15 4 t157 _ ?side1 ?side2 A7.out).mono ?_);(case side1=>repeat(first|exact(Kd.C_below HR0_14.out HB.out)|(with_reducible refine Kd.C_alloc ?_ _)|(with_reducible refine Kd.C_drewN ?_ _)|(with_reducible refine Kd.C_drew ?_)));(case side2=>exact HC0_14.out);rintro e w12 ⟨rfl,hb⟩;have n0_:=mkA (kB (g:=gb154) (by(with_reducible repeat(first|apply kN|apply kD|apply kA));exact BK154.out) hb);have n1_:=mkA (kB (g:=gb155) (by(with_reducible repeat(first|apply kN|apply kD|apply kA));exact BK155.out) hb);have n2_:=mkA (bT (by repeat(first|(with_reducible first|exact HB.out|apply bA|apply bN|apply bD|refine bS ?_ GE154.out|refine bS ?_ GE155.out)|exact HB.out)) hb);clear BK154;clear BK155;clear HB;have BK154:=n0_;have BK155:=n1_;have HB:=n2_;clear n0_ n1_ n2_;(try clear hb);(try clear hb2);(try clear hk);(try clear hi)))
   go_meet
   case rel=>exact⟨_,(t157),(by first|rfl|(simp;done)|(simp[*];done)),H',⟨by first|omega|exact Nat.le_refl _⟩,⟨by(with_reducible repeat(first|refine kN ?_ _|refine kD ?_|refine kA ?_ _));exact BK154.out⟩,⟨by(with_reducible repeat(first|refine kN ?_ _|refine kD ?_|refine kA ?_ _));exact BK155.out⟩,⟨by repeat(first|(with_reducible first|exact HB.out|apply bA|apply bN|apply bD|refine bS ?_ GE154.out|refine bS ?_ GE155.out)|exact HB.out)⟩⟩
  ·rw[if_neg c6] at H
   have c6b0:(t156 == 0)=false:=beq_eq_false_iff_ne.mpr c6
   have c6b1:(t156 != 0)=true:=bne_iff_ne.mpr c6
   (first|rw[c6b0]|(simp only[i64_w,i32_w];rw[c6b0])|rw[c6b1]|skip)
   have H':=mkA H
   clear H
   have hnb13:=NB154_155.out
   have hnc13:=NB155_154.out
   obtain⟨hcz14_0,hcz14_1,hcz14_2,hcz14_3,hcz14_4,hcz14_5,hcz14_6,hcz14_7,hcz14_8,hcz14_9,hcz14_10,hcz14_11,hcz14_12,hcz14_13,hcz14_14,hcz14_15⟩:=blk_cells16 BK154.out
   obtain⟨hfz14_0,hfz14_1,hfz14_2,hfz14_3,hfz14_4,hfz14_5,hfz14_6,hfz14_7,hfz14_8,hfz14_9,hfz14_10,hfz14_11,hfz14_12,hfz14_13,hfz14_14,hfz14_15⟩:=blk_frozens16 BK154.out
   go_wp2_with (first|((with_reducible refine gate_load (t:=26) rfl ?_);refine gate_wanted ?hw (fun hw_=>?_);(case hw=>first|rfl|(go_simp;done));refine load_big hw_ 26 _ rfl _ rfl 26 _ (0,0) _ (by(with_reducible repeat(first|apply kN|apply kD|apply kA|(apply blk_farA;case hp=>assumption)|apply kP));apply Aside0.out;assumption;all_goals (simp only[List.setIfInBounds_toArray,List.set_cons_zero,List.set_cons_succ];try rfl)) Try.underlying26 rfl (by kernel_rfl) ?_;clear hw_;simp only[puts])|((with_reducible refine gate_store (t:=26) rfl ?_);refine store_big rfl 26 _ _ rfl _ _ rfl rfl 26 _ (by(with_reducible repeat(first|apply kN|apply kD|apply kA|(apply blk_farA;case hp=>assumption)|apply kP));apply Aside0.out;assumption;all_goals (simp only[List.setIfInBounds_toArray,List.set_cons_zero,List.set_cons_succ];try rfl)) (by kernel_rfl) (by rfl) (by rfl) _ (by simp only[World.setCells,Nat.reduceAdd];rfl) ?_;simp only[puts])|((with_reducible refine gate_callee (f:=14) rfl ?_);refine goesL_ (some 6) rfl rfl Try.func14 (by kernel_rfl) rfl #[.agg #[.int .i64 a0_0,.int .i64 a0_1,.int .i64 a0_2,.int .i64 a0_3,.int .i64 a0_4,.int .i64 a0_5,.int .i64 a0_6,.int .i64 a0_7,.int .i64 a0_8,.int .i64 a0_9,.int .i64 a0_10,.bool a0_11,.bool a0_12,.bool a0_13,.slice A0_14 l0_14.length c0_14,.string a0_15]] rfl (by(try simp only[List.map_toArray,List.map_cons,List.map_nil]);first|done|rfl|(simp only[List.length_drop,List.length_take];rfl)) ?_;(with_reducible refine(seg_Check.calls k a0_0 a0_1 a0_2 a0_3 a0_4 a0_5 a0_6 a0_7 a0_8 a0_9 a0_10 a0_11 a0_12 a0_13 _ _ l0_14 a0_15 t156 _ ?side1 ?side2 A5.out).mono ?_);(case side1=>repeat(first|exact(Kd.C_below HR0_14.out HB.out)|(with_reducible refine Kd.C_alloc ?_ _)|(with_reducible refine Kd.C_drewN ?_ _)|(with_reducible refine Kd.C_drew ?_)));(case side2=>exact HC0_14.out);rintro e w15 ⟨rfl,hb⟩;refine⟨_,rfl,?_⟩;have n0_:=mkA (kB (g:=gb154) (by(with_reducible repeat(first|apply kN|apply kD|apply kA));exact BK154.out) hb);have n1_:=mkA (kB (g:=gb155) (by(with_reducible repeat(first|apply kN|apply kD|apply kA));exact BK155.out) hb);have n2_:=mkA (bT (by repeat(first|(with_reducible first|exact HB.out|apply bA|apply bN|apply bD|refine bS ?_ GE154.out|refine bS ?_ GE155.out)|exact HB.out)) hb);clear BK154;clear BK155;clear HB;have BK154:=n0_;have BK155:=n1_;have HB:=n2_;clear n0_ n1_ n2_;(try clear hb);(try clear hb2);(try clear hk);(try clear hi)))
   go_meet
   case rel=>exact⟨_,(true),(by first|rfl|(simp;done)|(simp[*];done)),H',⟨by first|omega|exact Nat.le_refl _⟩,⟨by(with_reducible repeat(first|refine kN ?_ _|refine kD ?_|refine kA ?_ _));exact BK154.out⟩,⟨by(with_reducible repeat(first|refine kN ?_ _|refine kD ?_|refine kA ?_ _));exact BK155.out⟩,⟨by repeat(first|(with_reducible first|exact HB.out|apply bA|apply bN|apply bD|refine bS ?_ GE154.out|refine bS ?_ GE155.out)|exact HB.out)⟩⟩
 case rest =>
  clear HC2
  try clear c1;try clear p2;try clear c6;try clear c6b0;try clear c6b1;try clear c8;try clear c9;try clear c13;try clear c14;try clear hcz11_0 hcz11_1 hcz11_10 hcz11_11 hcz11_12 hcz11_13 hcz11_14 hcz11_15 hcz11_2 hcz11_3 hcz11_4 hcz11_5 hcz11_6 hcz11_7 hcz11_8 hcz11_9;try clear hcz14_0 hcz14_1 hcz14_10 hcz14_11 hcz14_12 hcz14_13 hcz14_14 hcz14_15 hcz14_2 hcz14_3 hcz14_4 hcz14_5 hcz14_6 hcz14_7 hcz14_8 hcz14_9;try clear hcz9_0 hcz9_1 hcz9_10 hcz9_11 hcz9_12 hcz9_13 hcz9_14 hcz9_15 hcz9_2 hcz9_3 hcz9_4 hcz9_5 hcz9_6 hcz9_7 hcz9_8 hcz9_9;try clear hfz11_0 hfz11_1 hfz11_10 hfz11_11 hfz11_12 hfz11_13 hfz11_14 hfz11_15 hfz11_2 hfz11_3 hfz11_4 hfz11_5 hfz11_6 hfz11_7 hfz11_8 hfz11_9;try clear hfz14_0 hfz14_1 hfz14_10 hfz14_11 hfz14_12 hfz14_13 hfz14_14 hfz14_15 hfz14_2 hfz14_3 hfz14_4 hfz14_5 hfz14_6 hfz14_7 hfz14_8 hfz14_9;try clear hfz9_0 hfz9_1 hfz9_10 hfz9_11 hfz9_12 hfz9_13 hfz9_14 hfz9_15 hfz9_2 hfz9_3 hfz9_4 hfz9_5 hfz9_6 hfz9_7 hfz9_8 hfz9_9
  obtain⟨kq,x11_1,rfl,HA,HJ1,BK154,BK155,HB⟩:=hcut
  cases kq with
  | zero=>exact absurd HA.out (by simp[seg_Reset.j0])
  | succ kj1 =>
   have H:=HA.out
   clear HA
   simp only[seg_Reset.j0] at H
   by_cases c16:x11_1=true
   ·subst c16
    have H1:(some (0,0,0,0,0,0,0,0,0,0,0,false,false,false,([]:List (S73)),(⟨#[]⟩:ByteArray),false))=some (r1,r2,r3,r4,r5,r6,r7,r8,r9,r10,r11,r12,r13,r14,r15,r16,r17):=by rw[if_pos rfl] at H;exact H
    clear H
    have H:=H1
    clear H1
    simp only[Option.some.injEq,Prod.mk.injEq] at H
    obtain⟨rfl,rfl,rfl,rfl,rfl,rfl,rfl,rfl,rfl,rfl,rfl,rfl,rfl,rfl,rfl,rfl,rfl⟩:=H
    have hnb17:=NB155_154.out
    have hnc17:=NB154_155.out
    obtain⟨hcz18_0,hcz18_1,hcz18_2,hcz18_3,hcz18_4,hcz18_5,hcz18_6,hcz18_7,hcz18_8,hcz18_9,hcz18_10,hcz18_11,hcz18_12,hcz18_13,hcz18_14,hcz18_15⟩:=blk_cells16 BK155.out
    obtain⟨hfz18_0,hfz18_1,hfz18_2,hfz18_3,hfz18_4,hfz18_5,hfz18_6,hfz18_7,hfz18_8,hfz18_9,hfz18_10,hfz18_11,hfz18_12,hfz18_13,hfz18_14,hfz18_15⟩:=blk_frozens16 BK155.out
    go_wp2_with (first|((with_reducible refine gate_load (t:=26) rfl ?_);refine gate_wanted ?hw (fun hw_=>?_);(case hw=>first|rfl|(go_simp;done));refine load_big hw_ 26 _ rfl _ rfl 26 _ (0,0) _ (by(with_reducible repeat(first|apply kN|apply kD|apply kA|(apply blk_farA;case hp=>assumption)|apply kP));apply Aside0.out;assumption;all_goals (simp only[List.setIfInBounds_toArray,List.set_cons_zero,List.set_cons_succ];try rfl)) Try.underlying26 rfl (by kernel_rfl) ?_;clear hw_;simp only[puts])|((with_reducible refine gate_store (t:=26) rfl ?_);refine store_big rfl 26 _ _ rfl _ _ rfl rfl 26 _ (by(with_reducible repeat(first|apply kN|apply kD|apply kA|(apply blk_farA;case hp=>assumption)|apply kP));apply Aside0.out;assumption;all_goals (simp only[List.setIfInBounds_toArray,List.set_cons_zero,List.set_cons_succ];try rfl)) (by kernel_rfl) (by rfl) (by rfl) _ (by simp only[World.setCells,Nat.reduceAdd];rfl) ?_;simp only[puts])|go_in)
    refine bodyPost_ret (results_ct rfl _ _ gb155 26 #[.int .i64 0,.int .i64 0,.int .i64 0,.int .i64 0,.int .i64 0,.int .i64 0,.int .i64 0,.int .i64 0,.int .i64 0,.int .i64 0,.int .i64 0,.bool false,.bool false,.bool false,.slice none 0 0,.string (⟨#[]⟩:ByteArray)] (0,0) _ rfl (by(with_reducible repeat(first|refine kN ?_ _|refine kD ?_|refine kA ?_ _));(with_reducible repeat(first|apply kN|apply kD|apply kA|apply kP));exact BK155.out;all_goals (simp only[List.setIfInBounds_toArray,List.set_cons_zero,List.set_cons_succ];try rfl)) Try.underlying26 rfl (by kernel_rfl)) rfl ?_
    exact⟨_,by first|rfl|(simp[errW_none,errW_some] <;> rfl)|(simp[*,errW_none,errW_some] <;> rfl),by first|exact Kd.R_nil _ _ _ _ _|exact Kd.N_nil _ _ _ _ _|exact Kd.V_nil _ _ _ _ _|exact Kd.Q_nil _ _ _ _ _|exact Kd.S_nil _ _ _ _ _,by repeat(first|(with_reducible first|exact HB.out|apply bA|apply bN|apply bD|refine bS ?_ GE154.out|refine bS ?_ GE155.out)|exact HB.out)⟩
   ·replace c16:=Bool.eq_false_iff.mpr c16
    subst c16
    have H1:((seg_Has.f a0_0 a0_1 a0_2 a0_3 a0_4 a0_5 a0_6 a0_7 a0_8 a0_9 a0_10 a0_11 a0_12 a0_13 l0_14 a0_15 16).bind fun t159=>(if t159=true then (some (a0_1,a0_0,a0_3,0,4,0,0,0,0,0,0,false,false,false,([]:List (S73)),(⟨#[]⟩:ByteArray),true)) else ((seg_Length.f a0_0 a0_1 a0_2 a0_3 a0_4 a0_5 a0_6 a0_7 a0_8 a0_9 a0_10 a0_11 a0_12 a0_13 l0_14 a0_15).bind fun t160=>((seq_Add.f a0_2 t160).bind fun bt161=>(some (a0_1,a0_0,0,bt161.1,Go.bits .or .i64 4 16,0,0,0,0,0,0,false,false,false,([]:List (S73)),(⟨#[]⟩:ByteArray),true))))))=some (r1,r2,r3,r4,r5,r6,r7,r8,r9,r10,r11,r12,r13,r14,r15,r16,r17):=by rw[if_neg (show ¬ (false=true) by decide)] at H;exact H
    clear H
    have H:=H1
    clear H1
    replace H:=Option.bind_eq_some_iff.mp H
    obtain⟨t159,A190,H⟩:=H
    replace H:(if t159=true then (some (a0_1,a0_0,a0_3,0,4,0,0,0,0,0,0,false,false,false,([]:List (S73)),(⟨#[]⟩:ByteArray),true)) else ((seg_Length.f a0_0 a0_1 a0_2 a0_3 a0_4 a0_5 a0_6 a0_7 a0_8 a0_9 a0_10 a0_11 a0_12 a0_13 l0_14 a0_15).bind fun t160=>((seq_Add.f a0_2 t160).bind fun bt161=>(some (a0_1,a0_0,0,bt161.1,Go.bits .or .i64 4 16,0,0,0,0,0,0,false,false,false,([]:List (S73)),(⟨#[]⟩:ByteArray),true)))))=some (r1,r2,r3,r4,r5,r6,r7,r8,r9,r10,r11,r12,r13,r14,r15,r16,r17):=H
    have A19:=mkA A190
    clear A190
    by_cases c20:t159=true
    ·subst c20
     have H1:(some (a0_1,a0_0,a0_3,0,4,0,0,0,0,0,0,false,false,false,([]:List (S73)),(⟨#[]⟩:ByteArray),true))=some (r1,r2,r3,r4,r5,r6,r7,r8,r9,r10,r11,r12,r13,r14,r15,r16,r17):=by rw[if_pos rfl] at H;exact H
     clear H
     have H:=H1
     clear H1
     simp only[Option.some.injEq,Prod.mk.injEq] at H
     obtain⟨rfl,rfl,rfl,rfl,rfl,rfl,rfl,rfl,rfl,rfl,rfl,rfl,rfl,rfl,rfl,rfl,rfl⟩:=H
     have hnb21:=NB154_155.out
     have hnc21:=NB155_154.out
     obtain⟨hcz22_0,hcz22_1,hcz22_2,hcz22_3,hcz22_4,hcz22_5,hcz22_6,hcz22_7,hcz22_8,hcz22_9,hcz22_10,hcz22_11,hcz22_12,hcz22_13,hcz22_14,hcz22_15⟩:=blk_cells16 BK154.out
     obtain⟨hfz22_0,hfz22_1,hfz22_2,hfz22_3,hfz22_4,hfz22_5,hfz22_6,hfz22_7,hfz22_8,hfz22_9,hfz22_10,hfz22_11,hfz22_12,hfz22_13,hfz22_14,hfz22_15⟩:=blk_frozens16 BK154.out
     go_wp2_with (first|((with_reducible refine gate_load (t:=26) rfl ?_);refine gate_wanted ?hw (fun hw_=>?_);(case hw=>first|rfl|(go_simp;done));refine load_big hw_ 26 _ rfl _ rfl 26 _ (0,0) _ (by(with_reducible repeat(first|apply kN|apply kD|apply kA|(apply blk_farA;case hp=>assumption)|apply kP));apply Aside0.out;assumption;all_goals (simp only[List.setIfInBounds_toArray,List.set_cons_zero,List.set_cons_succ];try rfl)) Try.underlying26 rfl (by kernel_rfl) ?_;clear hw_;simp only[puts])|((with_reducible refine gate_store (t:=26) rfl ?_);refine store_big rfl 26 _ _ rfl _ _ rfl rfl 26 _ (by(with_reducible repeat(first|apply kN|apply kD|apply kA|(apply blk_farA;case hp=>assumption)|apply kP));apply Aside0.out;assumption;all_goals (simp only[List.setIfInBounds_toArray,List.set_cons_zero,List.set_cons_succ];try rfl)) (by kernel_rfl) (by rfl) (by rfl) _ (by simp only[World.setCells,Nat.reduceAdd];rfl) ?_;simp only[puts])|((with_reducible refine gate_dst (N:=4) rfl ?_);refine box_event ?hg (N:=4) ?hd (cs:=#[.int .i64 0,.int .i64 0,.int .i64 0,.int .i64 0,.int .i64 0,.int .i64 0,.int .i64 0,.int .i64 0,.int .i64 0,.int .i64 0,.int .i64 0,.bool false,.bool false,.bool false,.slice none 0 0,.string (⟨#[]⟩:ByteArray)]) (t:=26) ?hr ?_;(case hd=>rfl);(case hg=>rfl);(case hr=>first|(go_simp;done)|(go_simp;rfl));intro gb158 hg w23 hbox hb;have n0_:=mkA (kB (g:=gb154) (by(with_reducible repeat(first|apply kN|apply kD|apply kA));exact BK154.out) hb);have n1_:=mkA (kB (g:=gb155) (by(with_reducible repeat(first|apply kN|apply kD|apply kA));exact BK155.out) hb);have n2_:=mkA (bT (by repeat(first|(with_reducible first|exact HB.out|apply bA|apply bN|apply bD|refine bS ?_ GE154.out|refine bS ?_ GE155.out)|exact HB.out)) hb);have n3_:=mkA (hbox);have n4_:=mkA ((by rw[hg];exact(bZ (by repeat(first|(with_reducible first|exact HB.out|apply bA|apply bN|apply bD|refine bS ?_ GE154.out|refine bS ?_ GE155.out)|exact HB.out))):w.heap.size≤gb158));have n5_:=mkA ((by rw[hg];exact(bZ (by repeat(first|(with_reducible first|exact HB.out|apply bA|apply bN|apply bD|refine bS ?_ GE154.out|refine bS ?_ GE155.out)|exact HB.out))):w.heap.size≤gb158));have n6_:=mkA ((by rw[hg];exact Nat.ne_of_lt (blk_lt (g:=gb154) (by(with_reducible repeat(first|apply kN|apply kD|apply kA));exact BK154.out)):gb154≠gb158));have n7_:=mkA ((by rw[hg];exact Nat.ne_of_gt (blk_lt (g:=gb154) (by(with_reducible repeat(first|apply kN|apply kD|apply kA));exact BK154.out)):gb158≠gb154));have n8_:=mkA ((by rw[hg];exact Nat.ne_of_lt (blk_lt (g:=gb155) (by(with_reducible repeat(first|apply kN|apply kD|apply kA));exact BK155.out)):gb155≠gb158));have n9_:=mkA ((by rw[hg];exact Nat.ne_of_gt (blk_lt (g:=gb155) (by(with_reducible repeat(first|apply kN|apply kD|apply kA));exact BK155.out)):gb158≠gb155));clear BK154;clear BK155;clear HB;have BK154:=n0_;have BK155:=n1_;have HB:=n2_;have BK158:=n3_;have GW158:=n4_;have GE158:=n5_;have NB154_158:=n6_;have NB158_154:=n7_;have NB155_158:=n8_;have NB158_155:=n9_;clear n0_ n1_ n2_ n3_ n4_ n5_ n6_ n7_ n8_ n9_;clear hb hbox hg;have hnb24:=NB158_154.out;have hnc24:=NB154_158.out;have hnb25:=NB158_155.out;have hnc25:=NB155_158.out;obtain⟨hcz26_0,hcz26_1,hcz26_2,hcz26_3,hcz26_4,hcz26_5,hcz26_6,hcz26_7,hcz26_8,hcz26_9,hcz26_10,hcz26_11,hcz26_12,hcz26_13,hcz26_14,hcz26_15⟩:=blk_cells16 BK158.out;obtain⟨hfz26_0,hfz26_1,hfz26_2,hfz26_3,hfz26_4,hfz26_5,hfz26_6,hfz26_7,hfz26_8,hfz26_9,hfz26_10,hfz26_11,hfz26_12,hfz26_13,hfz26_14,hfz26_15⟩:=blk_frozens16 BK158.out;obtain⟨hcz27_0,hcz27_1,hcz27_2,hcz27_3,hcz27_4,hcz27_5,hcz27_6,hcz27_7,hcz27_8,hcz27_9,hcz27_10,hcz27_11,hcz27_12,hcz27_13,hcz27_14,hcz27_15⟩:=blk_cells16 BK154.out;obtain⟨hfz27_0,hfz27_1,hfz27_2,hfz27_3,hfz27_4,hfz27_5,hfz27_6,hfz27_7,hfz27_8,hfz27_9,hfz27_10,hfz27_11,hfz27_12,hfz27_13,hfz27_14,hfz27_15⟩:=blk_frozens16 BK154.out)|((with_reducible refine gate_callee (f:=15) rfl ?_);refine goesL_ (some 19) rfl rfl Try.func15 (by kernel_rfl) rfl #[.agg #[.int .i64 a0_0,.int .i64 a0_1,.int .i64 a0_2,.int .i64 a0_3,.int .i64 a0_4,.int .i64 a0_5,.int .i64 a0_6,.int .i64 a0_7,.int .i64 a0_8,.int .i64 a0_9,.int .i64 a0_10,.bool a0_11,.bool a0_12,.bool a0_13,.slice A0_14 l0_14.length c0_14,.string a0_15],.int .i64 16] rfl (by(try simp only[List.map_toArray,List.map_cons,List.map_nil]);first|done|rfl|(simp only[List.length_drop,List.length_take];rfl)) ?_;(with_reducible refine(seg_Has.calls a0_0 a0_1 a0_2 a0_3 a0_4 a0_5 a0_6 a0_7 a0_8 a0_9 a0_10 a0_11 a0_12 a0_13 _ _ l0_14 a0_15 16 true _ ?side1 ?side2 A19.out).mono ?_);(case side1=>exact Kd.C_below HR0_14.out (by repeat(first|(with_reducible first|exact HB.out|apply bA|apply bN|apply bD|refine bS ?_ GE154.out|refine bS ?_ GE155.out|refine bS ?_ GE158.out)|exact HB.out)));(case side2=>exact HC0_14.out);rintro e w28 ⟨rfl,hb⟩;refine⟨_,rfl,?_⟩;have n0_:=mkA (kB (g:=gb154) (o:=.cells #[.int .i64 a0_0,.int .i64 a0_1,.int .i64 a0_2,.int .i64 a0_3,.int .i64 a0_4,.int .i64 a0_5,.int .i64 a0_6,.int .i64 a0_7,.int .i64 a0_8,.int .i64 a0_9,.int .i64 a0_10,.bool a0_11,.bool a0_12,.bool a0_13,.slice A0_14 l0_14.length c0_14,.string a0_15] 26 (0,0)) (by(with_reducible repeat(first|refine kN ?_ _|refine kD ?_|refine kA ?_ _));refine kW ?_ NB154_158.out _;(with_reducible repeat(first|refine kN ?_ _|refine kD ?_|refine kA ?_ _));refine kW ?_ NB154_158.out _;(with_reducible repeat(first|refine kN ?_ _|refine kD ?_|refine kA ?_ _));refine kW ?_ NB154_158.out _;(with_reducible repeat(first|refine kN ?_ _|refine kD ?_|refine kA ?_ _));refine kW ?_ NB154_158.out _;(with_reducible repeat(first|refine kN ?_ _|refine kD ?_|refine kA ?_ _));refine kW ?_ NB154_158.out _;(with_reducible repeat(first|refine kN ?_ _|refine kD ?_|refine kA ?_ _));refine kW ?_ NB154_158.out _;(with_reducible repeat(first|refine kN ?_ _|refine kD ?_|refine kA ?_ _));refine kW ?_ NB154_158.out _;(with_reducible repeat(first|refine kN ?_ _|refine kD ?_|refine kA ?_ _));refine kW ?_ NB154_158.out _;(with_reducible repeat(first|refine kN ?_ _|refine kD ?_|refine kA ?_ _));refine kW ?_ NB154_158.out _;(with_reducible repeat(first|refine kN ?_ _|refine kD ?_|refine kA ?_ _));refine kW ?_ NB154_158.out _;(with_reducible repeat(first|refine kN ?_ _|refine kD ?_|refine kA ?_ _));refine kW ?_ NB154_158.out _;(with_reducible repeat(first|refine kN ?_ _|refine kD ?_|refine kA ?_ _));refine kW ?_ NB154_158.out _;(with_reducible repeat(first|refine kN ?_ _|refine kD ?_|refine kA ?_ _));refine kW ?_ NB154_158.out _;(with_reducible repeat(first|refine kN ?_ _|refine kD ?_|refine kA ?_ _));refine kW ?_ NB154_158.out _;(with_reducible repeat(first|refine kN ?_ _|refine kD ?_|refine kA ?_ _));refine kW ?_ NB154_158.out _;(with_reducible repeat(first|refine kN ?_ _|refine kD ?_|refine kA ?_ _));refine kW ?_ NB154_158.out _;(with_reducible repeat(first|refine kN ?_ _|refine kD ?_|refine kA ?_ _));exact BK154.out) hb);have n1_:=mkA (kB (g:=gb155) (o:=.cells #[.int .i64 0,.int .i64 0,.int .i64 0,.int .i64 0,.int .i64 0,.int .i64 0,.int .i64 0,.int .i64 0,.int .i64 0,.int .i64 0,.int .i64 0,.bool false,.bool false,.bool false,.slice none 0 0,.string (⟨#[]⟩:ByteArray)] 26 (0,0)) (by(with_reducible repeat(first|refine kN ?_ _|refine kD ?_|refine kA ?_ _));refine kW ?_ NB155_158.out _;(with_reducible repeat(first|refine kN ?_ _|refine kD ?_|refine kA ?_ _));refine kW ?_ NB155_158.out _;(with_reducible repeat(first|refine kN ?_ _|refine kD ?_|refine kA ?_ _));refine kW ?_ NB155_158.out _;(with_reducible repeat(first|refine kN ?_ _|refine kD ?_|refine kA ?_ _));refine kW ?_ NB155_158.out _;(with_reducible repeat(first|refine kN ?_ _|refine kD ?_|refine kA ?_ _));refine kW ?_ NB155_158.out _;(with_reducible repeat(first|refine kN ?_ _|refine kD ?_|refine kA ?_ _));refine kW ?_ NB155_158.out _;(with_reducible repeat(first|refine kN ?_ _|refine kD ?_|refine kA ?_ _));refine kW ?_ NB155_158.out _;(with_reducible repeat(first|refine kN ?_ _|refine kD ?_|refine kA ?_ _));refine kW ?_ NB155_158.out _;(with_reducible repeat(first|refine kN ?_ _|refine kD ?_|refine kA ?_ _));refine kW ?_ NB155_158.out _;(with_reducible repeat(first|refine kN ?_ _|refine kD ?_|refine kA ?_ _));refine kW ?_ NB155_158.out _;(with_reducible repeat(first|refine kN ?_ _|refine kD ?_|refine kA ?_ _));refine kW ?_ NB155_158.out _;(with_reducible repeat(first|refine kN ?_ _|refine kD ?_|refine kA ?_ _));refine kW ?_ NB155_158.out _;(with_reducible repeat(first|refine kN ?_ _|refine kD ?_|refine kA ?_ _));refine kW ?_ NB155_158.out _;(with_reducible repeat(first|refine kN ?_ _|refine kD ?_|refine kA ?_ _));refine kW ?_ NB155_158.out _;(with_reducible repeat(first|refine kN ?_ _|refine kD ?_|refine kA ?_ _));refine kW ?_ NB155_158.out _;(with_reducible repeat(first|refine kN ?_ _|refine kD ?_|refine kA ?_ _));refine kW ?_ NB155_158.out _;(with_reducible repeat(first|refine kN ?_ _|refine kD ?_|refine kA ?_ _));exact BK155.out) hb);have n2_:=mkA (kB (g:=gb158) (o:=.cells #[.int .i64 a0_1,.int .i64 a0_0,.int .i64 0,.int .i64 0,.int .i64 4,.int .i64 0,.int .i64 0,.int .i64 0,.int .i64 0,.int .i64 0,.int .i64 0,.bool false,.bool false,.bool false,.slice none 0 0,.string (⟨#[]⟩:ByteArray)] 26 (0,0)) (by(with_reducible repeat(first|refine kN ?_ _|refine kD ?_|refine kA ?_ _));(with_reducible repeat(first|apply kN|apply kD|apply kA|apply kP));exact BK158.out;all_goals (simp only[List.setIfInBounds_toArray,List.set_cons_zero,List.set_cons_succ];try rfl)) hb);have n3_:=mkA (bT (by repeat(first|(with_reducible first|exact HB.out|apply bA|apply bN|apply bD|refine bS ?_ GE154.out|refine bS ?_ GE155.out|refine bS ?_ GE158.out)|exact HB.out)) hb);clear BK154;clear BK155;clear BK158;clear HB;have BK154:=n0_;have BK155:=n1_;have BK158:=n2_;have HB:=n3_;clear n0_ n1_ n2_ n3_;(try clear hb);(try clear hb2);(try clear hk);(try clear hi);obtain⟨hcz29_0,hcz29_1,hcz29_2,hcz29_3,hcz29_4,hcz29_5,hcz29_6,hcz29_7,hcz29_8,hcz29_9,hcz29_10,hcz29_11,hcz29_12,hcz29_13,hcz29_14,hcz29_15⟩:=blk_cells16 BK154.out;obtain⟨hfz29_0,hfz29_1,hfz29_2,hfz29_3,hfz29_4,hfz29_5,hfz29_6,hfz29_7,hfz29_8,hfz29_9,hfz29_10,hfz29_11,hfz29_12,hfz29_13,hfz29_14,hfz29_15⟩:=blk_frozens16 BK154.out;obtain⟨hcz30_0,hcz30_1,hcz30_2,hcz30_3,hcz30_4,hcz30_5,hcz30_6,hcz30_7,hcz30_8,hcz30_9,hcz30_10,hcz30_11,hcz30_12,hcz30_13,hcz30_14,hcz30_15⟩:=blk_cells16 BK158.out;obtain⟨hfz30_0,hfz30_1,hfz30_2,hfz30_3,hfz30_4,hfz30_5,hfz30_6,hfz30_7,hfz30_8,hfz30_9,hfz30_10,hfz30_11,hfz30_12,hfz30_13,hfz30_14,hfz30_15⟩:=blk_frozens16 BK158.out;obtain⟨hcz31_0,hcz31_1,hcz31_2,hcz31_3,hcz31_4,hcz31_5,hcz31_6,hcz31_7,hcz31_8,hcz31_9,hcz31_10,hcz31_11,hcz31_12,hcz31_13,hcz31_14,hcz31_15⟩:=blk_cells16 BK155.out;obtain⟨hfz31_0,hfz31_1,hfz31_2,hfz31_3,hfz31_4,hfz31_5,hfz31_6,hfz31_7,hfz31_8,hfz31_9,hfz31_10,hfz31_11,hfz31_12,hfz31_13,hfz31_14,hfz31_15⟩:=blk_frozens16 BK155.out))
     refine bodyPost_ret (results_ct rfl _ _ gb155 26 #[.int .i64 a0_1,.int .i64 a0_0,.int .i64 a0_3,.int .i64 0,.int .i64 4,.int .i64 0,.int .i64 0,.int .i64 0,.int .i64 0,.int .i64 0,.int .i64 0,.bool false,.bool false,.bool false,.slice none 0 0,.string (⟨#[]⟩:ByteArray)] (0,0) _ rfl (by(with_reducible repeat(first|refine kN ?_ _|refine kD ?_|refine kA ?_ _));refine kP (cs:=#[.int .i64 a0_1,.int .i64 a0_0,.int .i64 a0_3,.int .i64 0,.int .i64 4,.int .i64 0,.int .i64 0,.int .i64 0,.int .i64 0,.int .i64 0,.int .i64 0,.bool false,.bool false,.bool false,.slice none 0 0,.string (⟨#[]⟩:ByteArray)]) ?_ 15 _ rfl;refine kP (cs:=#[.int .i64 a0_1,.int .i64 a0_0,.int .i64 a0_3,.int .i64 0,.int .i64 4,.int .i64 0,.int .i64 0,.int .i64 0,.int .i64 0,.int .i64 0,.int .i64 0,.bool false,.bool false,.bool false,.slice none 0 0,.string (⟨#[]⟩:ByteArray)]) ?_ 14 _ rfl;refine kP (cs:=#[.int .i64 a0_1,.int .i64 a0_0,.int .i64 a0_3,.int .i64 0,.int .i64 4,.int .i64 0,.int .i64 0,.int .i64 0,.int .i64 0,.int .i64 0,.int .i64 0,.bool false,.bool false,.bool false,.slice none 0 0,.string (⟨#[]⟩:ByteArray)]) ?_ 13 _ rfl;refine kP (cs:=#[.int .i64 a0_1,.int .i64 a0_0,.int .i64 a0_3,.int .i64 0,.int .i64 4,.int .i64 0,.int .i64 0,.int .i64 0,.int .i64 0,.int .i64 0,.int .i64 0,.bool false,.bool false,.bool false,.slice none 0 0,.string (⟨#[]⟩:ByteArray)]) ?_ 12 _ rfl;refine kP (cs:=#[.int .i64 a0_1,.int .i64 a0_0,.int .i64 a0_3,.int .i64 0,.int .i64 4,.int .i64 0,.int .i64 0,.int .i64 0,.int .i64 0,.int .i64 0,.int .i64 0,.bool false,.bool false,.bool false,.slice none 0 0,.string (⟨#[]⟩:ByteArray)]) ?_ 11 _ rfl;refine kP (cs:=#[.int .i64 a0_1,.int .i64 a0_0,.int .i64 a0_3,.int .i64 0,.int .i64 4,.int .i64 0,.int .i64 0,.int .i64 0,.int .i64 0,.int .i64 0,.int .i64 0,.bool false,.bool false,.bool false,.slice none 0 0,.string (⟨#[]⟩:ByteArray)]) ?_ 10 _ rfl;refine kP (cs:=#[.int .i64 a0_1,.int .i64 a0_0,.int .i64 a0_3,.int .i64 0,.int .i64 4,.int .i64 0,.int .i64 0,.int .i64 0,.int .i64 0,.int .i64 0,.int .i64 0,.bool false,.bool false,.bool false,.slice none 0 0,.string (⟨#[]⟩:ByteArray)]) ?_ 9 _ rfl;refine kP (cs:=#[.int .i64 a0_1,.int .i64 a0_0,.int .i64 a0_3,.int .i64 0,.int .i64 4,.int .i64 0,.int .i64 0,.int .i64 0,.int .i64 0,.int .i64 0,.int .i64 0,.bool false,.bool false,.bool false,.slice none 0 0,.string (⟨#[]⟩:ByteArray)]) ?_ 8 _ rfl;refine kP (cs:=#[.int .i64 a0_1,.int .i64 a0_0,.int .i64 a0_3,.int .i64 0,.int .i64 4,.int .i64 0,.int .i64 0,.int .i64 0,.int .i64 0,.int .i64 0,.int .i64 0,.bool false,.bool false,.bool false,.slice none 0 0,.string (⟨#[]⟩:ByteArray)]) ?_ 7 _ rfl;refine kP (cs:=#[.int .i64 a0_1,.int .i64 a0_0,.int .i64 a0_3,.int .i64 0,.int .i64 4,.int .i64 0,.int .i64 0,.int .i64 0,.int .i64 0,.int .i64 0,.int .i64 0,.bool false,.bool false,.bool false,.slice none 0 0,.string (⟨#[]⟩:ByteArray)]) ?_ 6 _ rfl;refine kP (cs:=#[.int .i64 a0_1,.int .i64 a0_0,.int .i64 a0_3,.int .i64 0,.int .i64 4,.int .i64 0,.int .i64 0,.int .i64 0,.int .i64 0,.int .i64 0,.int .i64 0,.bool false,.bool false,.bool false,.slice none 0 0,.string (⟨#[]⟩:ByteArray)]) ?_ 5 _ rfl;refine kP (cs:=#[.int .i64 a0_1,.int .i64 a0_0,.int .i64 a0_3,.int .i64 0,.int .i64 0,.int .i64 0,.int .i64 0,.int .i64 0,.int .i64 0,.int .i64 0,.int .i64 0,.bool false,.bool false,.bool false,.slice none 0 0,.string (⟨#[]⟩:ByteArray)]) ?_ 4 _ rfl;refine kP (cs:=#[.int .i64 a0_1,.int .i64 a0_0,.int .i64 a0_3,.int .i64 0,.int .i64 0,.int .i64 0,.int .i64 0,.int .i64 0,.int .i64 0,.int .i64 0,.int .i64 0,.bool false,.bool false,.bool false,.slice none 0 0,.string (⟨#[]⟩:ByteArray)]) ?_ 3 _ rfl;refine kP (cs:=#[.int .i64 a0_1,.int .i64 a0_0,.int .i64 0,.int .i64 0,.int .i64 0,.int .i64 0,.int .i64 0,.int .i64 0,.int .i64 0,.int .i64 0,.int .i64 0,.bool false,.bool false,.bool false,.slice none 0 0,.string (⟨#[]⟩:ByteArray)]) ?_ 2 _ rfl;refine kP (cs:=#[.int .i64 a0_1,.int .i64 0,.int .i64 0,.int .i64 0,.int .i64 0,.int .i64 0,.int .i64 0,.int .i64 0,.int .i64 0,.int .i64 0,.int .i64 0,.bool false,.bool false,.bool false,.slice none 0 0,.string (⟨#[]⟩:ByteArray)]) ?_ 1 _ rfl;refine kP (cs:=#[.int .i64 0,.int .i64 0,.int .i64 0,.int .i64 0,.int .i64 0,.int .i64 0,.int .i64 0,.int .i64 0,.int .i64 0,.int .i64 0,.int .i64 0,.bool false,.bool false,.bool false,.slice none 0 0,.string (⟨#[]⟩:ByteArray)]) ?_ 0 _ rfl;(with_reducible repeat(first|refine kN ?_ _|refine kD ?_|refine kA ?_ _));refine kW ?_ NB155_158.out _;(with_reducible repeat(first|refine kN ?_ _|refine kD ?_|refine kA ?_ _));exact BK155.out) Try.underlying26 rfl (by kernel_rfl)) rfl ?_
     exact⟨_,by first|rfl|(simp[errW_none,errW_some] <;> rfl)|(simp[*,errW_none,errW_some] <;> rfl),by first|exact Kd.R_nil _ _ _ _ _|exact Kd.N_nil _ _ _ _ _|exact Kd.V_nil _ _ _ _ _|exact Kd.Q_nil _ _ _ _ _|exact Kd.S_nil _ _ _ _ _,by repeat(first|(with_reducible first|exact HB.out|apply bA|apply bN|apply bD|refine bS ?_ GE154.out|refine bS ?_ GE155.out|refine bS ?_ GE158.out)|exact HB.out)⟩
    ·replace c20:=Bool.eq_false_iff.mpr c20
     subst c20
     have H1:((seg_Length.f a0_0 a0_1 a0_2 a0_3 a0_4 a0_5 a0_6 a0_7 a0_8 a0_9 a0_10 a0_11 a0_12 a0_13 l0_14 a0_15).bind fun t160=>((seq_Add.f a0_2 t160).bind fun bt161=>(some (a0_1,a0_0,0,bt161.1,Go.bits .or .i64 4 16,0,0,0,0,0,0,false,false,false,([]:List (S73)),(⟨#[]⟩:ByteArray),true))))=some (r1,r2,r3,r4,r5,r6,r7,r8,r9,r10,r11,r12,r13,r14,r15,r16,r17):=by rw[if_neg (show ¬ (false=true) by decide)] at H;exact H
     clear H
     have H:=H1
     clear H1
     replace H:=Option.bind_eq_some_iff.mp H
     obtain⟨t160,A320,H⟩:=H
     replace H:((seq_Add.f a0_2 t160).bind fun bt161=>(some (a0_1,a0_0,0,bt161.1,Go.bits .or .i64 4 16,0,0,0,0,0,0,false,false,false,([]:List (S73)),(⟨#[]⟩:ByteArray),true)))=some (r1,r2,r3,r4,r5,r6,r7,r8,r9,r10,r11,r12,r13,r14,r15,r16,r17):=H
     have A32:=mkA A320
     clear A320
     replace H:=Option.bind_eq_some_iff.mp H
     obtain⟨⟨t161,t162⟩,A330,H⟩:=H
     replace H:(some (a0_1,a0_0,0,t161,Go.bits .or .i64 4 16,0,0,0,0,0,0,false,false,false,([]:List (S73)),(⟨#[]⟩:ByteArray),true))=some (r1,r2,r3,r4,r5,r6,r7,r8,r9,r10,r11,r12,r13,r14,r15,r16,r17):=H
     have A33:=mkA A330
     clear A330
     simp only[Option.some.injEq,Prod.mk.injEq] at H
     obtain⟨rfl,rfl,rfl,rfl,rfl,rfl,rfl,rfl,rfl,rfl,rfl,rfl,rfl,rfl,rfl,rfl,rfl⟩:=H
     have hnb34:=NB154_155.out
     have hnc34:=NB155_154.out
     obtain⟨hcz35_0,hcz35_1,hcz35_2,hcz35_3,hcz35_4,hcz35_5,hcz35_6,hcz35_7,hcz35_8,hcz35_9,hcz35_10,hcz35_11,hcz35_12,hcz35_13,hcz35_14,hcz35_15⟩:=blk_cells16 BK154.out
     obtain⟨hfz35_0,hfz35_1,hfz35_2,hfz35_3,hfz35_4,hfz35_5,hfz35_6,hfz35_7,hfz35_8,hfz35_9,hfz35_10,hfz35_11,hfz35_12,hfz35_13,hfz35_14,hfz35_15⟩:=blk_frozens16 BK154.out
     try go_wp2_with (first|((with_reducible refine gate_load (t:=26) rfl ?_);refine gate_wanted ?hw (fun hw_=>?_);(case hw=>first|rfl|(go_simp;done));refine load_big hw_ 26 _ rfl _ rfl 26 _ (0,0) _ (by(with_reducible repeat(first|apply kN|apply kD|apply kA|(apply blk_farA;case hp=>assumption)|apply kP));apply Aside0.out;assumption;all_goals (simp only[List.setIfInBounds_toArray,List.set_cons_zero,List.set_cons_succ];try rfl)) Try.underlying26 rfl (by kernel_rfl) ?_;clear hw_;simp only[puts])|((with_reducible refine gate_store (t:=26) rfl ?_);refine store_big rfl 26 _ _ rfl _ _ rfl rfl 26 _ (by(with_reducible repeat(first|apply kN|apply kD|apply kA|(apply blk_farA;case hp=>assumption)|apply kP));apply Aside0.out;assumption;all_goals (simp only[List.setIfInBounds_toArray,List.set_cons_zero,List.set_cons_succ];try rfl)) (by kernel_rfl) (by rfl) (by rfl) _ (by simp only[World.setCells,Nat.reduceAdd];rfl) ?_;simp only[puts])|((with_reducible refine gate_dst (N:=4) rfl ?_);refine box_event ?hg (N:=4) ?hd (cs:=#[.int .i64 0,.int .i64 0,.int .i64 0,.int .i64 0,.int .i64 0,.int .i64 0,.int .i64 0,.int .i64 0,.int .i64 0,.int .i64 0,.int .i64 0,.bool false,.bool false,.bool false,.slice none 0 0,.string (⟨#[]⟩:ByteArray)]) (t:=26) ?hr ?_;(case hd=>rfl);(case hg=>rfl);(case hr=>first|(go_simp;done)|(go_simp;rfl));intro gb158 hg w36 hbox hb;have n0_:=mkA (kB (g:=gb154) (by(with_reducible repeat(first|apply kN|apply kD|apply kA));exact BK154.out) hb);have n1_:=mkA (kB (g:=gb155) (by(with_reducible repeat(first|apply kN|apply kD|apply kA));exact BK155.out) hb);have n2_:=mkA (bT (by repeat(first|(with_reducible first|exact HB.out|apply bA|apply bN|apply bD|refine bS ?_ GE154.out|refine bS ?_ GE155.out)|exact HB.out)) hb);have n3_:=mkA (hbox);have n4_:=mkA ((by rw[hg];exact(bZ (by repeat(first|(with_reducible first|exact HB.out|apply bA|apply bN|apply bD|refine bS ?_ GE154.out|refine bS ?_ GE155.out)|exact HB.out))):w.heap.size≤gb158));have n5_:=mkA ((by rw[hg];exact(bZ (by repeat(first|(with_reducible first|exact HB.out|apply bA|apply bN|apply bD|refine bS ?_ GE154.out|refine bS ?_ GE155.out)|exact HB.out))):w.heap.size≤gb158));have n6_:=mkA ((by rw[hg];exact Nat.ne_of_lt (blk_lt (g:=gb154) (by(with_reducible repeat(first|apply kN|apply kD|apply kA));exact BK154.out)):gb154≠gb158));have n7_:=mkA ((by rw[hg];exact Nat.ne_of_gt (blk_lt (g:=gb154) (by(with_reducible repeat(first|apply kN|apply kD|apply kA));exact BK154.out)):gb158≠gb154));have n8_:=mkA ((by rw[hg];exact Nat.ne_of_lt (blk_lt (g:=gb155) (by(with_reducible repeat(first|apply kN|apply kD|apply kA));exact BK155.out)):gb155≠gb158));have n9_:=mkA ((by rw[hg];exact Nat.ne_of_gt (blk_lt (g:=gb155) (by(with_reducible repeat(first|apply kN|apply kD|apply kA));exact BK155.out)):gb158≠gb155));clear BK154;clear BK155;clear HB;have BK154:=n0_;have BK155:=n1_;have HB:=n2_;have BK158:=n3_;have GW158:=n4_;have GE158:=n5_;have NB154_158:=n6_;have NB158_154:=n7_;have NB155_158:=n8_;have NB158_155:=n9_;clear n0_ n1_ n2_ n3_ n4_ n5_ n6_ n7_ n8_ n9_;clear hb hbox hg;have hnb37:=NB158_154.out;have hnc37:=NB154_158.out;have hnb38:=NB158_155.out;have hnc38:=NB155_158.out;obtain⟨hcz39_0,hcz39_1,hcz39_2,hcz39_3,hcz39_4,hcz39_5,hcz39_6,hcz39_7,hcz39_8,hcz39_9,hcz39_10,hcz39_11,hcz39_12,hcz39_13,hcz39_14,hcz39_15⟩:=blk_cells16 BK158.out;obtain⟨hfz39_0,hfz39_1,hfz39_2,hfz39_3,hfz39_4,hfz39_5,hfz39_6,hfz39_7,hfz39_8,hfz39_9,hfz39_10,hfz39_11,hfz39_12,hfz39_13,hfz39_14,hfz39_15⟩:=blk_frozens16 BK158.out;obtain⟨hcz40_0,hcz40_1,hcz40_2,hcz40_3,hcz40_4,hcz40_5,hcz40_6,hcz40_7,hcz40_8,hcz40_9,hcz40_10,hcz40_11,hcz40_12,hcz40_13,hcz40_14,hcz40_15⟩:=blk_cells16 BK154.out;obtain⟨hfz40_0,hfz40_1,hfz40_2,hfz40_3,hfz40_4,hfz40_5,hfz40_6,hfz40_7,hfz40_8,hfz40_9,hfz40_10,hfz40_11,hfz40_12,hfz40_13,hfz40_14,hfz40_15⟩:=blk_frozens16 BK154.out)|((with_reducible refine gate_callee (f:=15) rfl ?_);refine goesL_ (some 19) rfl rfl Try.func15 (by kernel_rfl) rfl #[.agg #[.int .i64 a0_0,.int .i64 a0_1,.int .i64 a0_2,.int .i64 a0_3,.int .i64 a0_4,.int .i64 a0_5,.int .i64 a0_6,.int .i64 a0_7,.int .i64 a0_8,.int .i64 a0_9,.int .i64 a0_10,.bool a0_11,.bool a0_12,.bool a0_13,.slice A0_14 l0_14.length c0_14,.string a0_15],.int .i64 16] rfl (by(try simp only[List.map_toArray,List.map_cons,List.map_nil]);first|done|rfl|(simp only[List.length_drop,List.length_take];rfl)) ?_;(with_reducible refine(seg_Has.calls a0_0 a0_1 a0_2 a0_3 a0_4 a0_5 a0_6 a0_7 a0_8 a0_9 a0_10 a0_11 a0_12 a0_13 _ _ l0_14 a0_15 16 false _ ?side1 ?side2 A19.out).mono ?_);(case side1=>exact Kd.C_below HR0_14.out (by repeat(first|(with_reducible first|exact HB.out|apply bA|apply bN|apply bD|refine bS ?_ GE154.out|refine bS ?_ GE155.out|refine bS ?_ GE158.out)|exact HB.out)));(case side2=>exact HC0_14.out);rintro e w41 ⟨rfl,hb⟩;refine⟨_,rfl,?_⟩;have n0_:=mkA (kB (g:=gb154) (o:=.cells #[.int .i64 a0_0,.int .i64 a0_1,.int .i64 a0_2,.int .i64 a0_3,.int .i64 a0_4,.int .i64 a0_5,.int .i64 a0_6,.int .i64 a0_7,.int .i64 a0_8,.int .i64 a0_9,.int .i64 a0_10,.bool a0_11,.bool a0_12,.bool a0_13,.slice A0_14 l0_14.length c0_14,.string a0_15] 26 (0,0)) (by(with_reducible repeat(first|refine kN ?_ _|refine kD ?_|refine kA ?_ _));refine kW ?_ NB154_158.out _;(with_reducible repeat(first|refine kN ?_ _|refine kD ?_|refine kA ?_ _));refine kW ?_ NB154_158.out _;(with_reducible repeat(first|refine kN ?_ _|refine kD ?_|refine kA ?_ _));refine kW ?_ NB154_158.out _;(with_reducible repeat(first|refine kN ?_ _|refine kD ?_|refine kA ?_ _));refine kW ?_ NB154_158.out _;(with_reducible repeat(first|refine kN ?_ _|refine kD ?_|refine kA ?_ _));refine kW ?_ NB154_158.out _;(with_reducible repeat(first|refine kN ?_ _|refine kD ?_|refine kA ?_ _));refine kW ?_ NB154_158.out _;(with_reducible repeat(first|refine kN ?_ _|refine kD ?_|refine kA ?_ _));refine kW ?_ NB154_158.out _;(with_reducible repeat(first|refine kN ?_ _|refine kD ?_|refine kA ?_ _));refine kW ?_ NB154_158.out _;(with_reducible repeat(first|refine kN ?_ _|refine kD ?_|refine kA ?_ _));refine kW ?_ NB154_158.out _;(with_reducible repeat(first|refine kN ?_ _|refine kD ?_|refine kA ?_ _));refine kW ?_ NB154_158.out _;(with_reducible repeat(first|refine kN ?_ _|refine kD ?_|refine kA ?_ _));refine kW ?_ NB154_158.out _;(with_reducible repeat(first|refine kN ?_ _|refine kD ?_|refine kA ?_ _));refine kW ?_ NB154_158.out _;(with_reducible repeat(first|refine kN ?_ _|refine kD ?_|refine kA ?_ _));refine kW ?_ NB154_158.out _;(with_reducible repeat(first|refine kN ?_ _|refine kD ?_|refine kA ?_ _));refine kW ?_ NB154_158.out _;(with_reducible repeat(first|refine kN ?_ _|refine kD ?_|refine kA ?_ _));refine kW ?_ NB154_158.out _;(with_reducible repeat(first|refine kN ?_ _|refine kD ?_|refine kA ?_ _));refine kW ?_ NB154_158.out _;(with_reducible repeat(first|refine kN ?_ _|refine kD ?_|refine kA ?_ _));exact BK154.out) hb);have n1_:=mkA (kB (g:=gb155) (o:=.cells #[.int .i64 0,.int .i64 0,.int .i64 0,.int .i64 0,.int .i64 0,.int .i64 0,.int .i64 0,.int .i64 0,.int .i64 0,.int .i64 0,.int .i64 0,.bool false,.bool false,.bool false,.slice none 0 0,.string (⟨#[]⟩:ByteArray)] 26 (0,0)) (by(with_reducible repeat(first|refine kN ?_ _|refine kD ?_|refine kA ?_ _));refine kW ?_ NB155_158.out _;(with_reducible repeat(first|refine kN ?_ _|refine kD ?_|refine kA ?_ _));refine kW ?_ NB155_158.out _;(with_reducible repeat(first|refine kN ?_ _|refine kD ?_|refine kA ?_ _));refine kW ?_ NB155_158.out _;(with_reducible repeat(first|refine kN ?_ _|refine kD ?_|refine kA ?_ _));refine kW ?_ NB155_158.out _;(with_reducible repeat(first|refine kN ?_ _|refine kD ?_|refine kA ?_ _));refine kW ?_ NB155_158.out _;(with_reducible repeat(first|refine kN ?_ _|refine kD ?_|refine kA ?_ _));refine kW ?_ NB155_158.out _;(with_reducible repeat(first|refine kN ?_ _|refine kD ?_|refine kA ?_ _));refine kW ?_ NB155_158.out _;(with_reducible repeat(first|refine kN ?_ _|refine kD ?_|refine kA ?_ _));refine kW ?_ NB155_158.out _;(with_reducible repeat(first|refine kN ?_ _|refine kD ?_|refine kA ?_ _));refine kW ?_ NB155_158.out _;(with_reducible repeat(first|refine kN ?_ _|refine kD ?_|refine kA ?_ _));refine kW ?_ NB155_158.out _;(with_reducible repeat(first|refine kN ?_ _|refine kD ?_|refine kA ?_ _));refine kW ?_ NB155_158.out _;(with_reducible repeat(first|refine kN ?_ _|refine kD ?_|refine kA ?_ _));refine kW ?_ NB155_158.out _;(with_reducible repeat(first|refine kN ?_ _|refine kD ?_|refine kA ?_ _));refine kW ?_ NB155_158.out _;(with_reducible repeat(first|refine kN ?_ _|refine kD ?_|refine kA ?_ _));refine kW ?_ NB155_158.out _;(with_reducible repeat(first|refine kN ?_ _|refine kD ?_|refine kA ?_ _));refine kW ?_ NB155_158.out _;(with_reducible repeat(first|refine kN ?_ _|refine kD ?_|refine kA ?_ _));refine kW ?_ NB155_158.out _;(with_reducible repeat(first|refine kN ?_ _|refine kD ?_|refine kA ?_ _));exact BK155.out) hb);have n2_:=mkA (kB (g:=gb158) (o:=.cells #[.int .i64 a0_1,.int .i64 a0_0,.int .i64 0,.int .i64 0,.int .i64 4,.int .i64 0,.int .i64 0,.int .i64 0,.int .i64 0,.int .i64 0,.int .i64 0,.bool false,.bool false,.bool false,.slice none 0 0,.string (⟨#[]⟩:ByteArray)] 26 (0,0)) (by(with_reducible repeat(first|refine kN ?_ _|refine kD ?_|refine kA ?_ _));(with_reducible repeat(first|apply kN|apply kD|apply kA|apply kP));exact BK158.out;all_goals (simp only[List.setIfInBounds_toArray,List.set_cons_zero,List.set_cons_succ];try rfl)) hb);have n3_:=mkA (bT (by repeat(first|(with_reducible first|exact HB.out|apply bA|apply bN|apply bD|refine bS ?_ GE154.out|refine bS ?_ GE155.out|refine bS ?_ GE158.out)|exact HB.out)) hb);clear BK154;clear BK155;clear BK158;clear HB;have BK154:=n0_;have BK155:=n1_;have BK158:=n2_;have HB:=n3_;clear n0_ n1_ n2_ n3_;(try clear hb);(try clear hb2);(try clear hk);(try clear hi);obtain⟨hcz42_0,hcz42_1,hcz42_2,hcz42_3,hcz42_4,hcz42_5,hcz42_6,hcz42_7,hcz42_8,hcz42_9,hcz42_10,hcz42_11,hcz42_12,hcz42_13,hcz42_14,hcz42_15⟩:=blk_cells16 BK158.out;obtain⟨hfz42_0,hfz42_1,hfz42_2,hfz42_3,hfz42_4,hfz42_5,hfz42_6,hfz42_7,hfz42_8,hfz42_9,hfz42_10,hfz42_11,hfz42_12,hfz42_13,hfz42_14,hfz42_15⟩:=blk_frozens16 BK158.out))
     have n0_:Aside0 ((w41.setCell ⟨gb158,4,none⟩ (.int .i64 (Go.bits .or .i64 4 16))).heap[gb154]?=some (.cells #[.int .i64 a0_0,.int .i64 a0_1,.int .i64 a0_2,.int .i64 a0_3,.int .i64 a0_4,.int .i64 a0_5,.int .i64 a0_6,.int .i64 a0_7,.int .i64 a0_8,.int .i64 a0_9,.int .i64 a0_10,.bool a0_11,.bool a0_12,.bool a0_13,.slice A0_14 l0_14.length c0_14,.string a0_15] 26 (0,0))):=⟨by(with_reducible repeat(first|refine kN ?_ _|refine kD ?_|refine kA ?_ _));refine kW ?_ NB154_158.out _;(with_reducible repeat(first|refine kN ?_ _|refine kD ?_|refine kA ?_ _));exact BK154.out⟩
     have n1_:Aside0 ((w41.setCell ⟨gb158,4,none⟩ (.int .i64 (Go.bits .or .i64 4 16))).heap[gb155]?=some (.cells #[.int .i64 0,.int .i64 0,.int .i64 0,.int .i64 0,.int .i64 0,.int .i64 0,.int .i64 0,.int .i64 0,.int .i64 0,.int .i64 0,.int .i64 0,.bool false,.bool false,.bool false,.slice none 0 0,.string (⟨#[]⟩:ByteArray)] 26 (0,0))):=⟨by(with_reducible repeat(first|refine kN ?_ _|refine kD ?_|refine kA ?_ _));refine kW ?_ NB155_158.out _;(with_reducible repeat(first|refine kN ?_ _|refine kD ?_|refine kA ?_ _));exact BK155.out⟩
     have n2_:Aside0 ((w41.setCell ⟨gb158,4,none⟩ (.int .i64 (Go.bits .or .i64 4 16))).heap[gb158]?=some (.cells #[.int .i64 a0_1,.int .i64 a0_0,.int .i64 0,.int .i64 0,.int .i64 (Go.bits .or .i64 4 16),.int .i64 0,.int .i64 0,.int .i64 0,.int .i64 0,.int .i64 0,.int .i64 0,.bool false,.bool false,.bool false,.slice none 0 0,.string (⟨#[]⟩:ByteArray)] 26 (0,0))):=⟨by(with_reducible repeat(first|refine kN ?_ _|refine kD ?_|refine kA ?_ _));refine kP (cs:=#[.int .i64 a0_1,.int .i64 a0_0,.int .i64 0,.int .i64 0,.int .i64 4,.int .i64 0,.int .i64 0,.int .i64 0,.int .i64 0,.int .i64 0,.int .i64 0,.bool false,.bool false,.bool false,.slice none 0 0,.string (⟨#[]⟩:ByteArray)]) ?_ 4 _ rfl;(with_reducible repeat(first|refine kN ?_ _|refine kD ?_|refine kA ?_ _));exact BK158.out⟩
     have n3_:Aside0 (Below w.heap.size w (w41.setCell ⟨gb158,4,none⟩ (.int .i64 (Go.bits .or .i64 4 16)))):=⟨by repeat(first|(with_reducible first|exact HB.out|apply bA|apply bN|apply bD|refine bS ?_ GE154.out|refine bS ?_ GE155.out|refine bS ?_ GE158.out)|exact HB.out)⟩
     (try clear BK154)
     (try clear BK155)
     (try clear BK158)
     (try clear HB)
     generalize (w41.setCell ⟨gb158,4,none⟩ (.int .i64 (Go.bits .or .i64 4 16)))=w43 at n0_ n1_ n2_ n3_ ⊢
     have BK154:=n0_
     have BK155:=n1_
     have BK158:=n2_
     have HB:=n3_
     clear n0_ n1_ n2_ n3_
     have n0_:=mkA (kD BK154.out)
     have n1_:=mkA (kD BK155.out)
     have n2_:=mkA (kD BK158.out)
     have n3_:=mkA (bD HB.out)
     clear BK154
     clear BK155
     clear BK158
     clear HB
     have BK154:=n0_
     have BK155:=n1_
     have BK158:=n2_
     have HB:=n3_
     clear n0_ n1_ n2_ n3_
     refine start_ (n:=10) (S:=fun w'=>w'.cell? ⟨gb154,0,none⟩=some (.int .i64 a0_0)∧w'.cell? ⟨gb154,1,none⟩=some (.int .i64 a0_1)∧w'.cell? ⟨gb154,2,none⟩=some (.int .i64 a0_2)∧w'.cell? ⟨gb154,3,none⟩=some (.int .i64 a0_3)∧w'.cell? ⟨gb154,4,none⟩=some (.int .i64 a0_4)∧w'.cell? ⟨gb154,5,none⟩=some (.int .i64 a0_5)∧w'.cell? ⟨gb154,6,none⟩=some (.int .i64 a0_6)∧w'.cell? ⟨gb154,7,none⟩=some (.int .i64 a0_7)∧w'.cell? ⟨gb154,8,none⟩=some (.int .i64 a0_8)∧w'.cell? ⟨gb154,9,none⟩=some (.int .i64 a0_9)∧w'.cell? ⟨gb154,10,none⟩=some (.int .i64 a0_10)∧w'.cell? ⟨gb154,11,none⟩=some (.bool a0_11)∧w'.cell? ⟨gb154,12,none⟩=some (.bool a0_12)∧w'.cell? ⟨gb154,13,none⟩=some (.bool a0_13)∧w'.cell? ⟨gb154,14,none⟩=some (.slice A0_14 l0_14.length c0_14)∧w'.cell? ⟨gb154,15,none⟩=some (.string a0_15)) (ds:=[]) #[false,false,false,false,false,false,false,false,false,false] (by kernel_rfl) rfl rfl ⟨(kC BK154.out 0).trans rfl,(kC BK154.out 1).trans rfl,(kC BK154.out 2).trans rfl,(kC BK154.out 3).trans rfl,(kC BK154.out 4).trans rfl,(kC BK154.out 5).trans rfl,(kC BK154.out 6).trans rfl,(kC BK154.out 7).trans rfl,(kC BK154.out 8).trans rfl,(kC BK154.out 9).trans rfl,(kC BK154.out 10).trans rfl,(kC BK154.out 11).trans rfl,(kC BK154.out 12).trans rfl,(kC BK154.out 13).trans rfl,(kC BK154.out 14).trans rfl,(kC BK154.out 15).trans rfl⟩ (fun hHeld=>?_);refine with_tabW seg_Reset.tab8 seg_Reset.bits8 (fun HT_ HW_=>?_)
     generalize w43.drew=w44 at BK154 BK155 BK158 HB hHeld ⊢
     refine pure_ (i:=0) (N:=some 29) (v:=?_) (a':=?_) #[true,false,false,false,false,false,false,false,false,false] rfl rfl (any_of HT_.out (by kernel_rfl)) (fun _ _ _ h=>h) (Or.inl ⟨by rfl,?_⟩) ?_ ?_
     rotate_left
     ·intro w'
      go_simp
      with_reducible rfl
     rotate_left
     ·simp only[puts,i64_w,i32_w]
      rfl
     refine take_ (i:=1) (N:=some 30) (v:=?_) (a':=?_) #[true,true,false,false,false,false,false,false,false,false] rfl rfl (take_ofW HT_.out HW_.out (by kernel_rfl)) (fun _ _ _ h=>h) (Or.inl ⟨by rfl,?_⟩) hHeld ?_ ?_
     rotate_left
     ·rintro w' ⟨s0,s1,s2,s3,s4,s5,s6,s7,s8,s9,s10,s11,s12,s13,s14,s15⟩
      go_simp
      with_reducible rfl
     rotate_left
     ·simp only[puts,i64_w,i32_w]
      rfl
     refine take_ (i:=2) (N:=some 31) (v:=?_) (a':=?_) #[true,true,true,false,false,false,false,false,false,false] rfl rfl (take_ofW HT_.out HW_.out (by kernel_rfl)) (fun _ _ _ h=>h) (Or.inl ⟨by rfl,?_⟩) hHeld ?_ ?_
     rotate_left
     ·rintro w' ⟨s0,s1,s2,s3,s4,s5,s6,s7,s8,s9,s10,s11,s12,s13,s14,s15⟩
      go_simp
      with_reducible rfl
     rotate_left
     ·simp only[puts,i64_w,i32_w]
      rfl
     refine one_ (i:=3) (N:=some 32) #[true,true,true,true,false,false,false,false,false,false] rfl rfl (one_of HT_.out (by kernel_rfl)) (by decide) (fun K hK=>?_)
     refine goes_ Try.func16 (by kernel_rfl) rfl #[.agg #[.int .i64 a0_0,.int .i64 a0_1,.int .i64 a0_2,.int .i64 a0_3,.int .i64 a0_4,.int .i64 a0_5,.int .i64 a0_6,.int .i64 a0_7,.int .i64 a0_8,.int .i64 a0_9,.int .i64 a0_10,.bool a0_11,.bool a0_12,.bool a0_13,.slice A0_14 l0_14.length c0_14,.string a0_15]] (by rfl) rfl rfl (by(try simp only[List.map_toArray,List.map_cons,List.map_nil]);first|done|rfl|(simp only[List.length_drop,List.length_take];rfl)) ?_
     with_reducible refine(seg_Length.calls a0_0 a0_1 a0_2 a0_3 a0_4 a0_5 a0_6 a0_7 a0_8 a0_9 a0_10 a0_11 a0_12 a0_13 _ _ l0_14 a0_15 t160 _ ?side1 ?side2 A32.out).mono ?_
     (case side1=>repeat(first|exact(Kd.C_below HR0_14.out HB.out)|(with_reducible refine Kd.C_alloc ?_ _)|(with_reducible refine Kd.C_drewN ?_ _)|(with_reducible refine Kd.C_drew ?_)))
     (case side2=>exact HC0_14.out)
     rintro e w45 ⟨rfl,hb⟩
     refine⟨_,rfl,?_⟩
     have n0_:=mkA (kB (g:=gb154) (by(with_reducible repeat(first|apply kN|apply kD|apply kA));exact BK154.out) hb)
     have n1_:=mkA (kB (g:=gb155) (by(with_reducible repeat(first|apply kN|apply kD|apply kA));exact BK155.out) hb)
     have n2_:=mkA (kB (g:=gb158) (by(with_reducible repeat(first|apply kN|apply kD|apply kA));exact BK158.out) hb)
     have n3_:=mkA (bT (by repeat(first|(with_reducible first|exact HB.out|apply bA|apply bN|apply bD|refine bS ?_ GE154.out|refine bS ?_ GE155.out|refine bS ?_ GE158.out)|exact HB.out)) hb)
     clear BK154
     clear BK155
     clear BK158
     clear HB
     have BK154:=n0_
     have BK155:=n1_
     have BK158:=n2_
     have HB:=n3_
     clear n0_ n1_ n2_ n3_
     (try clear hb)
     (try clear hb2)
     (try clear hk)
     (try clear hi)
     refine hK.out _ _ ⟨(kC BK154.out 0).trans rfl,(kC BK154.out 1).trans rfl,(kC BK154.out 2).trans rfl,(kC BK154.out 3).trans rfl,(kC BK154.out 4).trans rfl,(kC BK154.out 5).trans rfl,(kC BK154.out 6).trans rfl,(kC BK154.out 7).trans rfl,(kC BK154.out 8).trans rfl,(kC BK154.out 9).trans rfl,(kC BK154.out 10).trans rfl,(kC BK154.out 11).trans rfl,(kC BK154.out 12).trans rfl,(kC BK154.out 13).trans rfl,(kC BK154.out 14).trans rfl,(kC BK154.out 15).trans rfl⟩ (fun hHeld=>?_)
     clear hK K
     refine norm_ (a':=?_) ?_ ?_
     rotate_left
     ·show Act.put _ (some 32) _=_
      simp only[puts,i64_w,i32_w]
      rfl
     refine one_ (i:=4) (N:=some 33) #[true,true,true,true,true,false,false,false,false,false] rfl rfl (one_of HT_.out (by kernel_rfl)) (by decide) (fun K hK=>?_)
     refine goes_ Try.func27 (by kernel_rfl) rfl #[.int .i64 a0_2,.int .i64 t160] (by rfl) rfl rfl (by(try simp only[List.map_toArray,List.map_cons,List.map_nil]);first|done|rfl|(simp only[List.length_drop,List.length_take];rfl)) ?_
     with_reducible refine(seq_Add.calls a0_2 t160 t161 t162 _ A33.out).mono ?_
     rintro e w' ⟨rfl,⟨nd,rfl⟩⟩
     refine⟨_,rfl,?_⟩
     refine hK.out _ _ ⟨(kC BK154.out 0).trans rfl,(kC BK154.out 1).trans rfl,(kC BK154.out 2).trans rfl,(kC BK154.out 3).trans rfl,(kC BK154.out 4).trans rfl,(kC BK154.out 5).trans rfl,(kC BK154.out 6).trans rfl,(kC BK154.out 7).trans rfl,(kC BK154.out 8).trans rfl,(kC BK154.out 9).trans rfl,(kC BK154.out 10).trans rfl,(kC BK154.out 11).trans rfl,(kC BK154.out 12).trans rfl,(kC BK154.out 13).trans rfl,(kC BK154.out 14).trans rfl,(kC BK154.out 15).trans rfl⟩ (fun hHeld=>?_)
     clear hK K
     refine norm_ (a':=?_) ?_ ?_
     rotate_left
     ·show Act.put _ (some 33) _=_
      simp only[puts,i64_w,i32_w]
      rfl
     refine pure_ (i:=5) (N:=some 28) (v:=?_) (a':=?_) #[true,true,true,true,true,true,false,false,false,false] rfl rfl (any_of HT_.out (by kernel_rfl)) (fun _ _ _ h=>h) (Or.inl ⟨by rfl,?_⟩) ?_ ?_
     rotate_left
     ·intro w'
      go_simp
      with_reducible rfl
     rotate_left
     ·simp only[puts,i64_w,i32_w]
      rfl
     refine pure_ (i:=6) (N:=some 34) (v:=?_) (a':=?_) #[true,true,true,true,true,true,true,false,false,false] rfl rfl (any_of HT_.out (by kernel_rfl)) (fun _ _ _ h=>h) (Or.inl ⟨by rfl,?_⟩) ?_ ?_
     rotate_left
     ·intro w'
      go_simp
      with_reducible rfl
     rotate_left
     ·simp only[puts,i64_w,i32_w]
      rfl
     refine pure_ (i:=7) (N:=some 35) (v:=?_) (a':=?_) #[true,true,true,true,true,true,true,true,false,false] rfl rfl (any_of HT_.out (by kernel_rfl)) (fun _ _ _ h=>h) (Or.inl ⟨by rfl,?_⟩) ?_ ?_
     rotate_left
     ·intro w'
      go_simp
      with_reducible rfl
     rotate_left
     ·simp only[puts,i64_w,i32_w]
      rfl
     refine pure_ (i:=8) (N:=some 36) (v:=?_) (a':=?_) #[true,true,true,true,true,true,true,true,true,false] rfl rfl (any_of HT_.out (by kernel_rfl)) (fun _ _ _ h=>h) (Or.inl ⟨by rfl,?_⟩) ?_ ?_
     rotate_left
     ·intro w'
      go_simp
      with_reducible rfl
     rotate_left
     ·simp only[puts,i64_w,i32_w]
      rfl
     refine one_ (i:=9) (N:=none) #[true,true,true,true,true,true,true,true,true,true] rfl rfl (one_of HT_.out (by kernel_rfl)) (by decide) (fun K hK=>?_)
     have hs46:w45.cell? ⟨gb158,3,none⟩=some (.int .i64 0):=(kC BK158.out 3).trans rfl
     have hfs46:=kF BK158.out 3
     have hns46_0:=NB154_158.out
     have hns46_1:=NB155_158.out
     have hms46_0:=NB158_154.out
     have hms46_1:=NB158_155.out
     refine skip_ (w1:=?_) (by rfl) rfl ?_ ?_
     rotate_left
     ·go_simp
      rfl
     refine hK.out _ _ ⟨((cell_far (p:=⟨gb158,_,none⟩) NB154_158.out _).trans (hHeld.1)),((cell_far (p:=⟨gb158,_,none⟩) NB154_158.out _).trans (hHeld.2.1)),((cell_far (p:=⟨gb158,_,none⟩) NB154_158.out _).trans (hHeld.2.2.1)),((cell_far (p:=⟨gb158,_,none⟩) NB154_158.out _).trans (hHeld.2.2.2.1)),((cell_far (p:=⟨gb158,_,none⟩) NB154_158.out _).trans (hHeld.2.2.2.2.1)),((cell_far (p:=⟨gb158,_,none⟩) NB154_158.out _).trans (hHeld.2.2.2.2.2.1)),((cell_far (p:=⟨gb158,_,none⟩) NB154_158.out _).trans (hHeld.2.2.2.2.2.2.1)),((cell_far (p:=⟨gb158,_,none⟩) NB154_158.out _).trans (hHeld.2.2.2.2.2.2.2.1)),((cell_far (p:=⟨gb158,_,none⟩) NB154_158.out _).trans (hHeld.2.2.2.2.2.2.2.2.1)),((cell_far (p:=⟨gb158,_,none⟩) NB154_158.out _).trans (hHeld.2.2.2.2.2.2.2.2.2.1)),((cell_far (p:=⟨gb158,_,none⟩) NB154_158.out _).trans (hHeld.2.2.2.2.2.2.2.2.2.2.1)),((cell_far (p:=⟨gb158,_,none⟩) NB154_158.out _).trans (hHeld.2.2.2.2.2.2.2.2.2.2.2.1)),((cell_far (p:=⟨gb158,_,none⟩) NB154_158.out _).trans (hHeld.2.2.2.2.2.2.2.2.2.2.2.2.1)),((cell_far (p:=⟨gb158,_,none⟩) NB154_158.out _).trans (hHeld.2.2.2.2.2.2.2.2.2.2.2.2.2.1)),((cell_far (p:=⟨gb158,_,none⟩) NB154_158.out _).trans (hHeld.2.2.2.2.2.2.2.2.2.2.2.2.2.2.1)),((cell_far (p:=⟨gb158,_,none⟩) NB154_158.out _).trans (hHeld.2.2.2.2.2.2.2.2.2.2.2.2.2.2.2))⟩ (fun hHeld=>?_)
     clear hK K
     refine done_ (done_of HT_.out (by kernel_rfl)) ?_
     obtain⟨hcz47_0,hcz47_1,hcz47_2,hcz47_3,hcz47_4,hcz47_5,hcz47_6,hcz47_7,hcz47_8,hcz47_9,hcz47_10,hcz47_11,hcz47_12,hcz47_13,hcz47_14,hcz47_15⟩:=blk_cells16 BK158.out
     obtain⟨hfz47_0,hfz47_1,hfz47_2,hfz47_3,hfz47_4,hfz47_5,hfz47_6,hfz47_7,hfz47_8,hfz47_9,hfz47_10,hfz47_11,hfz47_12,hfz47_13,hfz47_14,hfz47_15⟩:=blk_frozens16 BK158.out
     obtain⟨hcz48_0,hcz48_1,hcz48_2,hcz48_3,hcz48_4,hcz48_5,hcz48_6,hcz48_7,hcz48_8,hcz48_9,hcz48_10,hcz48_11,hcz48_12,hcz48_13,hcz48_14,hcz48_15⟩:=blk_cells16 BK155.out
     obtain⟨hfz48_0,hfz48_1,hfz48_2,hfz48_3,hfz48_4,hfz48_5,hfz48_6,hfz48_7,hfz48_8,hfz48_9,hfz48_10,hfz48_11,hfz48_12,hfz48_13,hfz48_14,hfz48_15⟩:=blk_frozens16 BK155.out
     try go_wp2_with (first|((with_reducible refine gate_load (t:=26) rfl ?_);refine gate_wanted ?hw (fun hw_=>?_);(case hw=>first|rfl|(go_simp;done));refine load_big hw_ 26 _ rfl _ rfl 26 _ (0,0) _ (by(with_reducible repeat(first|apply kN|apply kD|apply kA|(apply blk_farA;case hp=>assumption)|apply kP));apply Aside0.out;assumption;all_goals (simp only[List.setIfInBounds_toArray,List.set_cons_zero,List.set_cons_succ];try rfl)) Try.underlying26 rfl (by kernel_rfl) ?_;clear hw_;simp only[puts])|((with_reducible refine gate_store (t:=26) rfl ?_);refine store_big rfl 26 _ _ rfl _ _ rfl rfl 26 _ (by(with_reducible repeat(first|apply kN|apply kD|apply kA|(apply blk_farA;case hp=>assumption)|apply kP));apply Aside0.out;assumption;all_goals (simp only[List.setIfInBounds_toArray,List.set_cons_zero,List.set_cons_succ];try rfl)) (by kernel_rfl) (by rfl) (by rfl) _ (by simp only[World.setCells,Nat.reduceAdd];rfl) ?_;simp only[puts])|go_in)
     refine bodyPost_ret (results_ct rfl _ _ gb155 26 #[.int .i64 a0_1,.int .i64 a0_0,.int .i64 0,.int .i64 t161,.int .i64 (Go.bits .or .i64 4 16),.int .i64 0,.int .i64 0,.int .i64 0,.int .i64 0,.int .i64 0,.int .i64 0,.bool false,.bool false,.bool false,.slice none 0 0,.string (⟨#[]⟩:ByteArray)] (0,0) _ rfl (by(with_reducible repeat(first|refine kN ?_ _|refine kD ?_|refine kA ?_ _));refine kP (cs:=#[.int .i64 a0_1,.int .i64 a0_0,.int .i64 0,.int .i64 t161,.int .i64 (Go.bits .or .i64 4 16),.int .i64 0,.int .i64 0,.int .i64 0,.int .i64 0,.int .i64 0,.int .i64 0,.bool false,.bool false,.bool false,.slice none 0 0,.string (⟨#[]⟩:ByteArray)]) ?_ 15 _ rfl;refine kP (cs:=#[.int .i64 a0_1,.int .i64 a0_0,.int .i64 0,.int .i64 t161,.int .i64 (Go.bits .or .i64 4 16),.int .i64 0,.int .i64 0,.int .i64 0,.int .i64 0,.int .i64 0,.int .i64 0,.bool false,.bool false,.bool false,.slice none 0 0,.string (⟨#[]⟩:ByteArray)]) ?_ 14 _ rfl;refine kP (cs:=#[.int .i64 a0_1,.int .i64 a0_0,.int .i64 0,.int .i64 t161,.int .i64 (Go.bits .or .i64 4 16),.int .i64 0,.int .i64 0,.int .i64 0,.int .i64 0,.int .i64 0,.int .i64 0,.bool false,.bool false,.bool false,.slice none 0 0,.string (⟨#[]⟩:ByteArray)]) ?_ 13 _ rfl;refine kP (cs:=#[.int .i64 a0_1,.int .i64 a0_0,.int .i64 0,.int .i64 t161,.int .i64 (Go.bits .or .i64 4 16),.int .i64 0,.int .i64 0,.int .i64 0,.int .i64 0,.int .i64 0,.int .i64 0,.bool false,.bool false,.bool false,.slice none 0 0,.string (⟨#[]⟩:ByteArray)]) ?_ 12 _ rfl;refine kP (cs:=#[.int .i64 a0_1,.int .i64 a0_0,.int .i64 0,.int .i64 t161,.int .i64 (Go.bits .or .i64 4 16),.int .i64 0,.int .i64 0,.int .i64 0,.int .i64 0,.int .i64 0,.int .i64 0,.bool false,.bool false,.bool false,.slice none 0 0,.string (⟨#[]⟩:ByteArray)]) ?_ 11 _ rfl;refine kP (cs:=#[.int .i64 a0_1,.int .i64 a0_0,.int .i64 0,.int .i64 t161,.int .i64 (Go.bits .or .i64 4 16),.int .i64 0,.int .i64 0,.int .i64 0,.int .i64 0,.int .i64 0,.int .i64 0,.bool false,.bool false,.bool false,.slice none 0 0,.string (⟨#[]⟩:ByteArray)]) ?_ 10 _ rfl;refine kP (cs:=#[.int .i64 a0_1,.int .i64 a0_0,.int .i64 0,.int .i64 t161,.int .i64 (Go.bits .or .i64 4 16),.int .i64 0,.int .i64 0,.int .i64 0,.int .i64 0,.int .i64 0,.int .i64 0,.bool false,.bool false,.bool false,.slice none 0 0,.string (⟨#[]⟩:ByteArray)]) ?_ 9 _ rfl;refine kP (cs:=#[.int .i64 a0_1,.int .i64 a0_0,.int .i64 0,.int .i64 t161,.int .i64 (Go.bits .or .i64 4 16),.int .i64 0,.int .i64 0,.int .i64 0,.int .i64 0,.int .i64 0,.int .i64 0,.bool false,.bool false,.bool false,.slice none 0 0,.string (⟨#[]⟩:ByteArray)]) ?_ 8 _ rfl;refine kP (cs:=#[.int .i64 a0_1,.int .i64 a0_0,.int .i64 0,.int .i64 t161,.int .i64 (Go.bits .or .i64 4 16),.int .i64 0,.int .i64 0,.int .i64 0,.int .i64 0,.int .i64 0,.int .i64 0,.bool false,.bool false,.bool false,.slice none 0 0,.string (⟨#[]⟩:ByteArray)]) ?_ 7 _ rfl;refine kP (cs:=#[.int .i64 a0_1,.int .i64 a0_0,.int .i64 0,.int .i64 t161,.int .i64 (Go.bits .or .i64 4 16),.int .i64 0,.int .i64 0,.int .i64 0,.int .i64 0,.int .i64 0,.int .i64 0,.bool false,.bool false,.bool false,.slice none 0 0,.string (⟨#[]⟩:ByteArray)]) ?_ 6 _ rfl;refine kP (cs:=#[.int .i64 a0_1,.int .i64 a0_0,.int .i64 0,.int .i64 t161,.int .i64 (Go.bits .or .i64 4 16),.int .i64 0,.int .i64 0,.int .i64 0,.int .i64 0,.int .i64 0,.int .i64 0,.bool false,.bool false,.bool false,.slice none 0 0,.string (⟨#[]⟩:ByteArray)]) ?_ 5 _ rfl;refine kP (cs:=#[.int .i64 a0_1,.int .i64 a0_0,.int .i64 0,.int .i64 t161,.int .i64 0,.int .i64 0,.int .i64 0,.int .i64 0,.int .i64 0,.int .i64 0,.int .i64 0,.bool false,.bool false,.bool false,.slice none 0 0,.string (⟨#[]⟩:ByteArray)]) ?_ 4 _ rfl;refine kP (cs:=#[.int .i64 a0_1,.int .i64 a0_0,.int .i64 0,.int .i64 0,.int .i64 0,.int .i64 0,.int .i64 0,.int .i64 0,.int .i64 0,.int .i64 0,.int .i64 0,.bool false,.bool false,.bool false,.slice none 0 0,.string (⟨#[]⟩:ByteArray)]) ?_ 3 _ rfl;refine kP (cs:=#[.int .i64 a0_1,.int .i64 a0_0,.int .i64 0,.int .i64 0,.int .i64 0,.int .i64 0,.int .i64 0,.int .i64 0,.int .i64 0,.int .i64 0,.int .i64 0,.bool false,.bool false,.bool false,.slice none 0 0,.string (⟨#[]⟩:ByteArray)]) ?_ 2 _ rfl;refine kP (cs:=#[.int .i64 a0_1,.int .i64 0,.int .i64 0,.int .i64 0,.int .i64 0,.int .i64 0,.int .i64 0,.int .i64 0,.int .i64 0,.int .i64 0,.int .i64 0,.bool false,.bool false,.bool false,.slice none 0 0,.string (⟨#[]⟩:ByteArray)]) ?_ 1 _ rfl;refine kP (cs:=#[.int .i64 0,.int .i64 0,.int .i64 0,.int .i64 0,.int .i64 0,.int .i64 0,.int .i64 0,.int .i64 0,.int .i64 0,.int .i64 0,.int .i64 0,.bool false,.bool false,.bool false,.slice none 0 0,.string (⟨#[]⟩:ByteArray)]) ?_ 0 _ rfl;(with_reducible repeat(first|refine kN ?_ _|refine kD ?_|refine kA ?_ _));refine kW ?_ NB155_158.out _;(with_reducible repeat(first|refine kN ?_ _|refine kD ?_|refine kA ?_ _));exact BK155.out) Try.underlying26 rfl (by kernel_rfl)) rfl ?_
     exact⟨_,by first|rfl|(simp[errW_none,errW_some] <;> rfl)|(simp[*,errW_none,errW_some] <;> rfl),by first|exact Kd.R_nil _ _ _ _ _|exact Kd.N_nil _ _ _ _ _|exact Kd.V_nil _ _ _ _ _|exact Kd.Q_nil _ _ _ _ _|exact Kd.S_nil _ _ _ _ _,by repeat(first|(with_reducible first|exact HB.out|apply bA|apply bN|apply bD|refine bS ?_ GE154.out|refine bS ?_ GE155.out|refine bS ?_ GE158.out)|exact HB.out)⟩

/-! ### sternpostlaw08_works: function 13 -/
def sternpostlaw08_works.f (k:Nat)  : Option (Bool):=(seg_Reset.f k 0 0 7 0 2 0 0 0 0 0 0 false false false ([]:List (S73)) (⟨#[]⟩:ByteArray)).bind fun bt163=>(if bt163.2.2.2.2.2.2.2.2.2.2.2.2.2.2.2.2=true then (if bt163.2.2.2.2.1=20 then (if bt163.2.2.1=0 then (some (bt163.2.2.2.1 == 8)) else (some false)) else (some false)) else (some false))
theorem sternpostlaw08_works.mono:∀ k,LeO (sternpostlaw08_works.f k ) (sternpostlaw08_works.f (k+1) ):=by
 intro  k
 unfold sternpostlaw08_works.f
 repeat' first
   | (with_reducible exact seg_Reset.mono _ _ _ _ _ _ _ _ _ _ _ _ _ _ _ _ _)
   | (with_reducible exact LeO.refl _)
   | (with_reducible exact LeO.none _)
   | (with_reducible refine LeO.ite ?_ ?_)
   | (with_reducible refine LeO.bind ?_ (fun _=>?_))
   | exact seg_Reset.mono _ _ _ _ _ _ _ _ _ _ _ _ _ _ _ _ _
   | exact LeO.none _
   | refine LeO.ite ?_ ?_
   | refine LeO.bind ?_ (fun _=>?_)
set_option maxHeartbeats 8000000 in
set_option maxRecDepth 100000 in
theorem sternpostlaw08_works.calls (k:Nat)  (r:Bool) (w:World) (h:sternpostlaw08_works.f k  = some r) :
  Calls Try.prog 13 #[] w fun e w'=>e=.returned (.bool r)∧Below w.heap.size w w':=by
 have hu26:=Try.underlying26
 have HB:=mkA (Below.refl w.heap.size w)
 have H:((seg_Reset.f k 0 0 7 0 2 0 0 0 0 0 0 false false false ([]:List (S73)) (⟨#[]⟩:ByteArray)).bind fun bt163=>(if bt163.2.2.2.2.2.2.2.2.2.2.2.2.2.2.2.2=true then (if bt163.2.2.2.2.1=20 then (if bt163.2.2.1=0 then (some (bt163.2.2.2.1 == 8)) else (some false)) else (some false)) else (some false)))=some r:=h
 clear h
 replace H:=Option.bind_eq_some_iff.mp H
 obtain⟨⟨t163,t164,t165,t166,t167,t168,t169,t170,t171,t172,t173,t174,t175,t176,t177,t180,t181⟩,A10,H⟩:=H
 replace H:(if t181=true then (if t167=20 then (if t165=0 then (some (t166 == 8)) else (some false)) else (some false)) else (some false))=some r:=H
 have A1:=mkA A10
 clear A10
 by_cases c2:t181=true
 ·subst c2
  have H1:(if t167=20 then (if t165=0 then (some (t166 == 8)) else (some false)) else (some false))=some r:=by rw[if_pos rfl] at H;exact H
  clear H
  have H:=H1
  clear H1
  by_cases c3:t167=20
  ·rw[if_pos c3] at H
   have c3b0:(t167 == 20)=true:=beq_iff_eq.mpr c3
   have c3b1:(t167 != 20)=false:=bne_eq_false_iff_eq.mpr c3
   clear c3
   by_cases c4:t165=0
   ·rw[if_pos c4] at H
    have c4b0:(t165 == 0)=true:=beq_iff_eq.mpr c4
    have c4b1:(t165 != 0)=false:=bne_eq_false_iff_eq.mpr c4
    clear c4
    obtain rfl:=Option.some.inj H
    go_enter Try.func13,Try.ntmps13
    go_wp2_with (first|((with_reducible refine gate_load (t:=26) rfl ?_);refine gate_wanted ?hw (fun hw_=>?_);(case hw=>first|rfl|(go_simp;done));refine load_big hw_ 26 _ rfl _ rfl 26 _ (0,0) _ (by(with_reducible repeat(first|apply kN|apply kD|apply kA|(apply blk_farA;case hp=>assumption)|apply kP));apply Aside0.out;assumption;all_goals (simp only[List.setIfInBounds_toArray,List.set_cons_zero,List.set_cons_succ];try rfl)) Try.underlying26 rfl (by kernel_rfl) ?_;clear hw_;simp only[puts])|((with_reducible refine gate_store (t:=26) rfl ?_);refine store_big rfl 26 _ _ rfl _ _ rfl rfl 26 _ (by(with_reducible repeat(first|apply kN|apply kD|apply kA|(apply blk_farA;case hp=>assumption)|apply kP));apply Aside0.out;assumption;all_goals (simp only[List.setIfInBounds_toArray,List.set_cons_zero,List.set_cons_succ];try rfl)) (by kernel_rfl) (by rfl) (by rfl) _ (by simp only[World.setCells,Nat.reduceAdd];rfl) ?_;simp only[puts])|((with_reducible refine gate_callee (f:=9) rfl ?_);refine goesL_ (some 5) rfl rfl Try.func9 (by kernel_rfl) rfl #[.agg #[.int .i64 0,.int .i64 0,.int .i64 7,.int .i64 0,.int .i64 2,.int .i64 0,.int .i64 0,.int .i64 0,.int .i64 0,.int .i64 0,.int .i64 0,.bool false,.bool false,.bool false,.slice none 0 0,.string (⟨#[]⟩:ByteArray)]] rfl (by(try simp only[List.map_toArray,List.map_cons,List.map_nil]);first|done|rfl|(simp only[List.length_drop,List.length_take];rfl)) ?_;(refine(seg_Reset.calls k 0 0 7 0 2 0 0 0 0 0 0 false false false _ _ ([]:List (S73)) (⟨#[]⟩:ByteArray) t163 t164 t165 t166 t167 t168 t169 t170 t171 t172 t173 t174 t175 t176 t177 t180 true _ ?side1 ?side2 A1.out).mono ?_);(case side1=>exact Kd.C_nil _ _);(case side2=>exact Nat.le_refl _);rintro e w5 ⟨v178,rfl,ho0,hb⟩;refine⟨_,rfl,?_⟩;have n0_:=mkA (Kd.R_lower ho0 (bZ (by repeat(first|(with_reducible first|exact HB.out|apply bA|apply bN|apply bD)|exact HB.out))));have n1_:=mkA (bT (by repeat(first|(with_reducible first|exact HB.out|apply bA|apply bN|apply bD)|exact HB.out)) hb);clear HB;have HO179:=n0_;have HB:=n1_;clear n0_ n1_;(try clear hb);(try clear hb2);(try clear hk);(try clear hi);(try clear ho0))|((with_reducible refine gate_dst (N:=1) rfl ?_);refine box_event ?hg (N:=1) ?hd (cs:=#[.int .i64 0,.int .i64 0,.int .i64 0,.int .i64 0,.int .i64 0,.int .i64 0,.int .i64 0,.int .i64 0,.int .i64 0,.int .i64 0,.int .i64 0,.bool false,.bool false,.bool false,.slice none 0 0,.string (⟨#[]⟩:ByteArray)]) (t:=26) ?hr ?_;(case hd=>rfl);(case hg=>rfl);(case hr=>first|(go_simp;done)|(go_simp;rfl));intro gb182 hg w6 hbox hb;have n0_:=mkA (Kd.R_below (by(with_reducible repeat(first|apply Kd.R_alloc|apply Kd.R_drewN|apply Kd.R_drew));exact HO179.out) hb);have n1_:=mkA (bT (by repeat(first|(with_reducible first|exact HB.out|apply bA|apply bN|apply bD)|exact HB.out)) hb);have n2_:=mkA (hbox);have n3_:=mkA ((by rw[hg];exact(bZ (by repeat(first|(with_reducible first|exact HB.out|apply bA|apply bN|apply bD)|exact HB.out))):w.heap.size≤gb182));have n4_:=mkA ((by rw[hg];exact(bZ (by repeat(first|(with_reducible first|exact HB.out|apply bA|apply bN|apply bD)|exact HB.out))):w.heap.size≤gb182));clear HO179;clear HB;have HO179:=n0_;have HB:=n1_;have BK182:=n2_;have GW182:=n3_;have GE182:=n4_;clear n0_ n1_ n2_ n3_ n4_;clear hb hbox hg;obtain⟨hcz7_0,hcz7_1,hcz7_2,hcz7_3,hcz7_4,hcz7_5,hcz7_6,hcz7_7,hcz7_8,hcz7_9,hcz7_10,hcz7_11,hcz7_12,hcz7_13,hcz7_14,hcz7_15⟩:=blk_cells16 BK182.out;obtain⟨hfz7_0,hfz7_1,hfz7_2,hfz7_3,hfz7_4,hfz7_5,hfz7_6,hfz7_7,hfz7_8,hfz7_9,hfz7_10,hfz7_11,hfz7_12,hfz7_13,hfz7_14,hfz7_15⟩:=blk_frozens16 BK182.out;obtain⟨Ao8,co8,eo8⟩:=Kd.R_slice HO179.out;subst eo8))
    go_ret
    exact⟨by first|rfl|(simp[errW_none,errW_some] <;> rfl)|(simp[*,errW_none,errW_some] <;> rfl),by repeat(first|(with_reducible first|exact HB.out|apply bA|apply bN|apply bD|refine bS ?_ GE182.out)|exact HB.out)⟩
   ·rw[if_neg c4] at H
    have c4b0:(t165 == 0)=false:=beq_eq_false_iff_ne.mpr c4
    have c4b1:(t165 != 0)=true:=bne_iff_ne.mpr c4
    obtain rfl:=Option.some.inj H
    go_enter Try.func13,Try.ntmps13
    go_wp2_with (first|((with_reducible refine gate_load (t:=26) rfl ?_);refine gate_wanted ?hw (fun hw_=>?_);(case hw=>first|rfl|(go_simp;done));refine load_big hw_ 26 _ rfl _ rfl 26 _ (0,0) _ (by(with_reducible repeat(first|apply kN|apply kD|apply kA|(apply blk_farA;case hp=>assumption)|apply kP));apply Aside0.out;assumption;all_goals (simp only[List.setIfInBounds_toArray,List.set_cons_zero,List.set_cons_succ];try rfl)) Try.underlying26 rfl (by kernel_rfl) ?_;clear hw_;simp only[puts])|((with_reducible refine gate_store (t:=26) rfl ?_);refine store_big rfl 26 _ _ rfl _ _ rfl rfl 26 _ (by(with_reducible repeat(first|apply kN|apply kD|apply kA|(apply blk_farA;case hp=>assumption)|apply kP));apply Aside0.out;assumption;all_goals (simp only[List.setIfInBounds_toArray,List.set_cons_zero,List.set_cons_succ];try rfl)) (by kernel_rfl) (by rfl) (by rfl) _ (by simp only[World.setCells,Nat.reduceAdd];rfl) ?_;simp only[puts])|((with_reducible refine gate_callee (f:=9) rfl ?_);refine goesL_ (some 5) rfl rfl Try.func9 (by kernel_rfl) rfl #[.agg #[.int .i64 0,.int .i64 0,.int .i64 7,.int .i64 0,.int .i64 2,.int .i64 0,.int .i64 0,.int .i64 0,.int .i64 0,.int .i64 0,.int .i64 0,.bool false,.bool false,.bool false,.slice none 0 0,.string (⟨#[]⟩:ByteArray)]] rfl (by(try simp only[List.map_toArray,List.map_cons,List.map_nil]);first|done|rfl|(simp only[List.length_drop,List.length_take];rfl)) ?_;(refine(seg_Reset.calls k 0 0 7 0 2 0 0 0 0 0 0 false false false _ _ ([]:List (S73)) (⟨#[]⟩:ByteArray) t163 t164 t165 t166 t167 t168 t169 t170 t171 t172 t173 t174 t175 t176 t177 t180 true _ ?side1 ?side2 A1.out).mono ?_);(case side1=>exact Kd.C_nil _ _);(case side2=>exact Nat.le_refl _);rintro e w9 ⟨v178,rfl,ho0,hb⟩;refine⟨_,rfl,?_⟩;have n0_:=mkA (Kd.R_lower ho0 (bZ (by repeat(first|(with_reducible first|exact HB.out|apply bA|apply bN|apply bD)|exact HB.out))));have n1_:=mkA (bT (by repeat(first|(with_reducible first|exact HB.out|apply bA|apply bN|apply bD)|exact HB.out)) hb);clear HB;have HO179:=n0_;have HB:=n1_;clear n0_ n1_;(try clear hb);(try clear hb2);(try clear hk);(try clear hi);(try clear ho0))|((with_reducible refine gate_dst (N:=1) rfl ?_);refine box_event ?hg (N:=1) ?hd (cs:=#[.int .i64 0,.int .i64 0,.int .i64 0,.int .i64 0,.int .i64 0,.int .i64 0,.int .i64 0,.int .i64 0,.int .i64 0,.int .i64 0,.int .i64 0,.bool false,.bool false,.bool false,.slice none 0 0,.string (⟨#[]⟩:ByteArray)]) (t:=26) ?hr ?_;(case hd=>rfl);(case hg=>rfl);(case hr=>first|(go_simp;done)|(go_simp;rfl));intro gb182 hg w10 hbox hb;have n0_:=mkA (Kd.R_below (by(with_reducible repeat(first|apply Kd.R_alloc|apply Kd.R_drewN|apply Kd.R_drew));exact HO179.out) hb);have n1_:=mkA (bT (by repeat(first|(with_reducible first|exact HB.out|apply bA|apply bN|apply bD)|exact HB.out)) hb);have n2_:=mkA (hbox);have n3_:=mkA ((by rw[hg];exact(bZ (by repeat(first|(with_reducible first|exact HB.out|apply bA|apply bN|apply bD)|exact HB.out))):w.heap.size≤gb182));have n4_:=mkA ((by rw[hg];exact(bZ (by repeat(first|(with_reducible first|exact HB.out|apply bA|apply bN|apply bD)|exact HB.out))):w.heap.size≤gb182));clear HO179;clear HB;have HO179:=n0_;have HB:=n1_;have BK182:=n2_;have GW182:=n3_;have GE182:=n4_;clear n0_ n1_ n2_ n3_ n4_;clear hb hbox hg;obtain⟨hcz11_0,hcz11_1,hcz11_2,hcz11_3,hcz11_4,hcz11_5,hcz11_6,hcz11_7,hcz11_8,hcz11_9,hcz11_10,hcz11_11,hcz11_12,hcz11_13,hcz11_14,hcz11_15⟩:=blk_cells16 BK182.out;obtain⟨hfz11_0,hfz11_1,hfz11_2,hfz11_3,hfz11_4,hfz11_5,hfz11_6,hfz11_7,hfz11_8,hfz11_9,hfz11_10,hfz11_11,hfz11_12,hfz11_13,hfz11_14,hfz11_15⟩:=blk_frozens16 BK182.out;obtain⟨Ao12,co12,eo12⟩:=Kd.R_slice HO179.out;subst eo12))
    go_ret
    exact⟨by first|rfl|(simp[errW_none,errW_some] <;> rfl)|(simp[*,errW_none,errW_some] <;> rfl),by repeat(first|(with_reducible first|exact HB.out|apply bA|apply bN|apply bD|refine bS ?_ GE182.out)|exact HB.out)⟩
  ·rw[if_neg c3] at H
   have c3b0:(t167 == 20)=false:=beq_eq_false_iff_ne.mpr c3
   have c3b1:(t167 != 20)=true:=bne_iff_ne.mpr c3
   obtain rfl:=Option.some.inj H
   go_enter Try.func13,Try.ntmps13
   go_wp2_with (first|((with_reducible refine gate_load (t:=26) rfl ?_);refine gate_wanted ?hw (fun hw_=>?_);(case hw=>first|rfl|(go_simp;done));refine load_big hw_ 26 _ rfl _ rfl 26 _ (0,0) _ (by(with_reducible repeat(first|apply kN|apply kD|apply kA|(apply blk_farA;case hp=>assumption)|apply kP));apply Aside0.out;assumption;all_goals (simp only[List.setIfInBounds_toArray,List.set_cons_zero,List.set_cons_succ];try rfl)) Try.underlying26 rfl (by kernel_rfl) ?_;clear hw_;simp only[puts])|((with_reducible refine gate_store (t:=26) rfl ?_);refine store_big rfl 26 _ _ rfl _ _ rfl rfl 26 _ (by(with_reducible repeat(first|apply kN|apply kD|apply kA|(apply blk_farA;case hp=>assumption)|apply kP));apply Aside0.out;assumption;all_goals (simp only[List.setIfInBounds_toArray,List.set_cons_zero,List.set_cons_succ];try rfl)) (by kernel_rfl) (by rfl) (by rfl) _ (by simp only[World.setCells,Nat.reduceAdd];rfl) ?_;simp only[puts])|((with_reducible refine gate_callee (f:=9) rfl ?_);refine goesL_ (some 5) rfl rfl Try.func9 (by kernel_rfl) rfl #[.agg #[.int .i64 0,.int .i64 0,.int .i64 7,.int .i64 0,.int .i64 2,.int .i64 0,.int .i64 0,.int .i64 0,.int .i64 0,.int .i64 0,.int .i64 0,.bool false,.bool false,.bool false,.slice none 0 0,.string (⟨#[]⟩:ByteArray)]] rfl (by(try simp only[List.map_toArray,List.map_cons,List.map_nil]);first|done|rfl|(simp only[List.length_drop,List.length_take];rfl)) ?_;(refine(seg_Reset.calls k 0 0 7 0 2 0 0 0 0 0 0 false false false _ _ ([]:List (S73)) (⟨#[]⟩:ByteArray) t163 t164 t165 t166 t167 t168 t169 t170 t171 t172 t173 t174 t175 t176 t177 t180 true _ ?side1 ?side2 A1.out).mono ?_);(case side1=>exact Kd.C_nil _ _);(case side2=>exact Nat.le_refl _);rintro e w13 ⟨v178,rfl,ho0,hb⟩;refine⟨_,rfl,?_⟩;have n0_:=mkA (Kd.R_lower ho0 (bZ (by repeat(first|(with_reducible first|exact HB.out|apply bA|apply bN|apply bD)|exact HB.out))));have n1_:=mkA (bT (by repeat(first|(with_reducible first|exact HB.out|apply bA|apply bN|apply bD)|exact HB.out)) hb);clear HB;have HO179:=n0_;have HB:=n1_;clear n0_ n1_;(try clear hb);(try clear hb2);(try clear hk);(try clear hi);(try clear ho0))|((with_reducible refine gate_dst (N:=1) rfl ?_);refine box_event ?hg (N:=1) ?hd (cs:=#[.int .i64 0,.int .i64 0,.int .i64 0,.int .i64 0,.int .i64 0,.int .i64 0,.int .i64 0,.int .i64 0,.int .i64 0,.int .i64 0,.int .i64 0,.bool false,.bool false,.bool false,.slice none 0 0,.string (⟨#[]⟩:ByteArray)]) (t:=26) ?hr ?_;(case hd=>rfl);(case hg=>rfl);(case hr=>first|(go_simp;done)|(go_simp;rfl));intro gb182 hg w14 hbox hb;have n0_:=mkA (Kd.R_below (by(with_reducible repeat(first|apply Kd.R_alloc|apply Kd.R_drewN|apply Kd.R_drew));exact HO179.out) hb);have n1_:=mkA (bT (by repeat(first|(with_reducible first|exact HB.out|apply bA|apply bN|apply bD)|exact HB.out)) hb);have n2_:=mkA (hbox);have n3_:=mkA ((by rw[hg];exact(bZ (by repeat(first|(with_reducible first|exact HB.out|apply bA|apply bN|apply bD)|exact HB.out))):w.heap.size≤gb182));have n4_:=mkA ((by rw[hg];exact(bZ (by repeat(first|(with_reducible first|exact HB.out|apply bA|apply bN|apply bD)|exact HB.out))):w.heap.size≤gb182));clear HO179;clear HB;have HO179:=n0_;have HB:=n1_;have BK182:=n2_;have GW182:=n3_;have GE182:=n4_;clear n0_ n1_ n2_ n3_ n4_;clear hb hbox hg;obtain⟨hcz15_0,hcz15_1,hcz15_2,hcz15_3,hcz15_4,hcz15_5,hcz15_6,hcz15_7,hcz15_8,hcz15_9,hcz15_10,hcz15_11,hcz15_12,hcz15_13,hcz15_14,hcz15_15⟩:=blk_cells16 BK182.out;obtain⟨hfz15_0,hfz15_1,hfz15_2,hfz15_3,hfz15_4,hfz15_5,hfz15_6,hfz15_7,hfz15_8,hfz15_9,hfz15_10,hfz15_11,hfz15_12,hfz15_13,hfz15_14,hfz15_15⟩:=blk_frozens16 BK182.out;obtain⟨Ao16,co16,eo16⟩:=Kd.R_slice HO179.out;subst eo16))
   go_ret
   exact⟨by first|rfl|(simp[errW_none,errW_some] <;> rfl)|(simp[*,errW_none,errW_some] <;> rfl),by repeat(first|(with_reducible first|exact HB.out|apply bA|apply bN|apply bD|refine bS ?_ GE182.out)|exact HB.out)⟩
 ·replace c2:=Bool.eq_false_iff.mpr c2
  subst c2
  have H1:(some false)=some r:=by rw[if_neg (show ¬ (false=true) by decide)] at H;exact H
  clear H
  have H:=H1
  clear H1
  obtain rfl:=Option.some.inj H
  go_enter Try.func13,Try.ntmps13
  go_wp2_with (first|((with_reducible refine gate_load (t:=26) rfl ?_);refine gate_wanted ?hw (fun hw_=>?_);(case hw=>first|rfl|(go_simp;done));refine load_big hw_ 26 _ rfl _ rfl 26 _ (0,0) _ (by(with_reducible repeat(first|apply kN|apply kD|apply kA|(apply blk_farA;case hp=>assumption)|apply kP));apply Aside0.out;assumption;all_goals (simp only[List.setIfInBounds_toArray,List.set_cons_zero,List.set_cons_succ];try rfl)) Try.underlying26 rfl (by kernel_rfl) ?_;clear hw_;simp only[puts])|((with_reducible refine gate_store (t:=26) rfl ?_);refine store_big rfl 26 _ _ rfl _ _ rfl rfl 26 _ (by(with_reducible repeat(first|apply kN|apply kD|apply kA|(apply blk_farA;case hp=>assumption)|apply kP));apply Aside0.out;assumption;all_goals (simp only[List.setIfInBounds_toArray,List.set_cons_zero,List.set_cons_succ];try rfl)) (by kernel_rfl) (by rfl) (by rfl) _ (by simp only[World.setCells,Nat.reduceAdd];rfl) ?_;simp only[puts])|((with_reducible refine gate_callee (f:=9) rfl ?_);refine goesL_ (some 5) rfl rfl Try.func9 (by kernel_rfl) rfl #[.agg #[.int .i64 0,.int .i64 0,.int .i64 7,.int .i64 0,.int .i64 2,.int .i64 0,.int .i64 0,.int .i64 0,.int .i64 0,.int .i64 0,.int .i64 0,.bool false,.bool false,.bool false,.slice none 0 0,.string (⟨#[]⟩:ByteArray)]] rfl (by(try simp only[List.map_toArray,List.map_cons,List.map_nil]);first|done|rfl|(simp only[List.length_drop,List.length_take];rfl)) ?_;(refine(seg_Reset.calls k 0 0 7 0 2 0 0 0 0 0 0 false false false _ _ ([]:List (S73)) (⟨#[]⟩:ByteArray) t163 t164 t165 t166 t167 t168 t169 t170 t171 t172 t173 t174 t175 t176 t177 t180 false _ ?side1 ?side2 A1.out).mono ?_);(case side1=>exact Kd.C_nil _ _);(case side2=>exact Nat.le_refl _);rintro e w17 ⟨v178,rfl,ho0,hb⟩;refine⟨_,rfl,?_⟩;have n0_:=mkA (Kd.R_lower ho0 (bZ (by repeat(first|(with_reducible first|exact HB.out|apply bA|apply bN|apply bD)|exact HB.out))));have n1_:=mkA (bT (by repeat(first|(with_reducible first|exact HB.out|apply bA|apply bN|apply bD)|exact HB.out)) hb);clear HB;have HO179:=n0_;have HB:=n1_;clear n0_ n1_;(try clear hb);(try clear hb2);(try clear hk);(try clear hi);(try clear ho0))|((with_reducible refine gate_dst (N:=1) rfl ?_);refine box_event ?hg (N:=1) ?hd (cs:=#[.int .i64 0,.int .i64 0,.int .i64 0,.int .i64 0,.int .i64 0,.int .i64 0,.int .i64 0,.int .i64 0,.int .i64 0,.int .i64 0,.int .i64 0,.bool false,.bool false,.bool false,.slice none 0 0,.string (⟨#[]⟩:ByteArray)]) (t:=26) ?hr ?_;(case hd=>rfl);(case hg=>rfl);(case hr=>first|(go_simp;done)|(go_simp;rfl));intro gb182 hg w18 hbox hb;have n0_:=mkA (Kd.R_below (by(with_reducible repeat(first|apply Kd.R_alloc|apply Kd.R_drewN|apply Kd.R_drew));exact HO179.out) hb);have n1_:=mkA (bT (by repeat(first|(with_reducible first|exact HB.out|apply bA|apply bN|apply bD)|exact HB.out)) hb);have n2_:=mkA (hbox);have n3_:=mkA ((by rw[hg];exact(bZ (by repeat(first|(with_reducible first|exact HB.out|apply bA|apply bN|apply bD)|exact HB.out))):w.heap.size≤gb182));have n4_:=mkA ((by rw[hg];exact(bZ (by repeat(first|(with_reducible first|exact HB.out|apply bA|apply bN|apply bD)|exact HB.out))):w.heap.size≤gb182));clear HO179;clear HB;have HO179:=n0_;have HB:=n1_;have BK182:=n2_;have GW182:=n3_;have GE182:=n4_;clear n0_ n1_ n2_ n3_ n4_;clear hb hbox hg;obtain⟨hcz19_0,hcz19_1,hcz19_2,hcz19_3,hcz19_4,hcz19_5,hcz19_6,hcz19_7,hcz19_8,hcz19_9,hcz19_10,hcz19_11,hcz19_12,hcz19_13,hcz19_14,hcz19_15⟩:=blk_cells16 BK182.out;obtain⟨hfz19_0,hfz19_1,hfz19_2,hfz19_3,hfz19_4,hfz19_5,hfz19_6,hfz19_7,hfz19_8,hfz19_9,hfz19_10,hfz19_11,hfz19_12,hfz19_13,hfz19_14,hfz19_15⟩:=blk_frozens16 BK182.out;obtain⟨Ao20,co20,eo20⟩:=Kd.R_slice HO179.out;subst eo20))
  go_ret
  exact⟨by first|rfl|(simp[errW_none,errW_some] <;> rfl)|(simp[*,errW_none,errW_some] <;> rfl),by repeat(first|(with_reducible first|exact HB.out|apply bA|apply bN|apply bD|refine bS ?_ GE182.out)|exact HB.out)⟩

end Go.Proofs.Ytakajeoeijnmhaa.PSegReads

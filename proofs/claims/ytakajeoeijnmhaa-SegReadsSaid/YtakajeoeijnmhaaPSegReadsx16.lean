-- Laid by this claim's own program over the print's words.
import Derived.Test.YtakajeoeijnmhaaPSegReadsx0
namespace Go.Proofs.Ytakajeoeijnmhaa.PSegReads
open Go.RowKit Go.Proofs.YtakajeoeijnmhaaW.PrintWords Go.Proofs.YtakajeoeijnmhaaW.PrintLast Go.Proofs.YtakajeoeijnmhaaW.PrintMore
attribute [local go_sem] max2_int min2_int max_two min_two max_three min_three max_four min_four max_five min_five extract_cut tmod_nat_lit   -- for this text's walks alone
set_option linter.unusedVariables false
set_option linter.unusedSimpArgs false

/-! ### sternpostref02_fold: function 66 -/
def sternpostref02_fold.l0:Nat→Int→Option (Int)
 | 0,_=>none
 | k+1,x0=>if x0 > 65535 then (sternpostref02_fold.l0 k (wrap64 ((wrap64 (Int.tdiv x0 65536))+(Int.tmod x0 65536)))) else (some x0)
def sternpostref02_fold.f (k:Nat) (a0:Int):Option (Int):=sternpostref02_fold.l0 k a0
theorem sternpostref02_fold.mono_l:∀ k,(∀ y0,LeO (sternpostref02_fold.l0 k y0) (sternpostref02_fold.l0 (k+1) y0))
 | 0=>fun _ r h=>by simp[sternpostref02_fold.l0] at h
 | k+1=>by
  have ih0:=sternpostref02_fold.mono_l k
  ·intro y0
   unfold sternpostref02_fold.l0
   repeat' first
   | (with_reducible exact ih0 _)
   | (with_reducible exact LeO.refl _)
   | (with_reducible exact LeO.none _)
   | (with_reducible refine LeO.ite ?_ ?_)
   | (with_reducible refine LeO.bind ?_ (fun _=>?_))
   | exact ih0 _
   | exact LeO.none _
   | refine LeO.ite ?_ ?_
   | refine LeO.bind ?_ (fun _=>?_)
theorem sternpostref02_fold.mono:∀ a0 k,LeO (sternpostref02_fold.f k a0) (sternpostref02_fold.f (k+1) a0):=by
 intro a0 k
 have ih0:=sternpostref02_fold.mono_l k
 unfold sternpostref02_fold.f
 repeat' first
   | (with_reducible exact ih0 _)
   | (with_reducible exact LeO.refl _)
   | (with_reducible exact LeO.none _)
   | (with_reducible refine LeO.ite ?_ ?_)
   | (with_reducible refine LeO.bind ?_ (fun _=>?_))
   | exact ih0 _
   | exact LeO.none _
   | refine LeO.ite ?_ ?_
   | refine LeO.bind ?_ (fun _=>?_)
set_option maxHeartbeats 8000000 in
set_option maxRecDepth 100000 in
theorem sternpostref02_fold.calls (k:Nat) (a0:Int) (r:Int) (w:World) (h:sternpostref02_fold.f k a0=some r) :
  Calls Try.prog 66 #[.int .i64 a0] w fun e w'=>e=.returned (.int .i64 r)∧Drawn0 w w':=by
 have H:(sternpostref02_fold.l0 k a0)=some r:=h
 clear h
 have H':=mkA H
 clear H
 go_enter Try.func66,Try.ntmps66
 go_wp2
 go_loopg [0] k (fun kq v0 w'=>∃ (x0_1:Int),v0=.int .i64 x0_1∧Aside0 (sternpostref02_fold.l0 kq x0_1=some r)∧Aside0 (kq≤k)∧Drawn0 w w')
 case atStart=>exact⟨(a0),(by first|rfl|(simp;done)|(simp[*];done)),H',⟨Nat.le_refl _⟩,by repeat(first|exact Drawn0.refl _|apply Drawn0.step)⟩
 case round =>
  clear H'
  obtain⟨x0_1,rfl,HA,HK1,⟨m1,rfl⟩⟩:=hrel
  cases gk with
  | zero=>exact absurd HA.out (by simp[sternpostref02_fold.l0])
  | succ k1 =>
   have H:=HA.out
   clear HA
   simp only[sternpostref02_fold.l0] at H
   by_cases c2:x0_1 > 65535
   ·rw[if_pos c2] at H
    have c2b0:decide (65535 < x0_1)=true:=decide_eq_true c2
    clear c2
    have H':=mkA H
    clear H
    go_wp2
    go_roundg k1
    case measure=>have:=HK1.out;omega
    case rel=>exact⟨(wrap64 ((wrap64 (Int.tdiv x0_1 65536))+(Int.tmod x0_1 65536))),(by first|rfl|(simp;done)|(simp[*];done)),H',⟨by have:=HK1.out;omega⟩,by repeat(first|exact Drawn0.refl _|apply Drawn0.step)⟩
   ·rw[if_neg c2] at H
    have c2b0:decide (65535 < x0_1)=false:=decide_eq_false c2
    clear c2
    obtain rfl:=Option.some.inj H
    go_wp2
    go_ret
    exact⟨by first|rfl|(simp;done)|(simp[*];done),by repeat(first|exact Drawn0.refl _|apply Drawn0.step)⟩

/-! ### sternpostref02_Sum: function 56 -/
mutual
def sternpostref02_Sum.l0:Nat→ByteArray→Int→Int→Option (Int)
 | 0,_,_,_=>none
 | k+1,x0,x3,x4=>if x4 < (x0.size:Int) then (if (Int.tmod x4 2)=0 then (if 0≤x4 then (sternpostref02_Sum.j1 k x0 (wrap64 (x3+(wrap64 (256 * (wrap64 (bt x0 x4)))))) x4) else (none)) else (if 0≤x4 then (sternpostref02_Sum.j1 k x0 (wrap64 (x3+(wrap64 (bt x0 x4)))) x4) else (none))) else (some (wrap64 (65535 - x3)))
def sternpostref02_Sum.j1:Nat→ByteArray→Int→Int→Option (Int)
 | 0,_,_,_=>none
 | k+1,x0,x3,x4=>(sternpostref02_fold.f k x3).bind fun t239=>(sternpostref02_Sum.l0 k x0 t239 (wrap64 (x4+1)))
end
def sternpostref02_Sum.f (k:Nat) (a0:ByteArray):Option (Int):=sternpostref02_Sum.l0 k a0 0 0
theorem sternpostref02_Sum.mono_l:∀ k,(∀ y0 y1 y2,LeO (sternpostref02_Sum.l0 k y0 y1 y2) (sternpostref02_Sum.l0 (k+1) y0 y1 y2))∧(∀ y0 y1 y2,LeO (sternpostref02_Sum.j1 k y0 y1 y2) (sternpostref02_Sum.j1 (k+1) y0 y1 y2))
 | 0=>⟨fun _ _ _ r h=>by simp[sternpostref02_Sum.l0] at h,fun _ _ _ r h=>by simp[sternpostref02_Sum.j1] at h⟩
 | k+1=>by
  obtain⟨ih0,ih1⟩:=sternpostref02_Sum.mono_l k
  refine⟨?_,?_⟩
  ·intro y0 y1 y2
   unfold sternpostref02_Sum.l0
   repeat' first
   | (with_reducible exact ih0 _ _ _)
   | (with_reducible exact ih1 _ _ _)
   | (with_reducible exact sternpostref02_fold.mono _ _)
   | (with_reducible exact LeO.refl _)
   | (with_reducible exact LeO.none _)
   | (with_reducible refine LeO.ite ?_ ?_)
   | (with_reducible refine LeO.bind ?_ (fun _=>?_))
   | exact ih0 _ _ _
   | exact ih1 _ _ _
   | exact sternpostref02_fold.mono _ _
   | exact LeO.none _
   | refine LeO.ite ?_ ?_
   | refine LeO.bind ?_ (fun _=>?_)
  ·intro y0 y1 y2
   unfold sternpostref02_Sum.j1
   repeat' first
   | (with_reducible exact ih0 _ _ _)
   | (with_reducible exact ih1 _ _ _)
   | (with_reducible exact sternpostref02_fold.mono _ _)
   | (with_reducible exact LeO.refl _)
   | (with_reducible exact LeO.none _)
   | (with_reducible refine LeO.ite ?_ ?_)
   | (with_reducible refine LeO.bind ?_ (fun _=>?_))
   | exact ih0 _ _ _
   | exact ih1 _ _ _
   | exact sternpostref02_fold.mono _ _
   | exact LeO.none _
   | refine LeO.ite ?_ ?_
   | refine LeO.bind ?_ (fun _=>?_)
theorem sternpostref02_Sum.mono:∀ a0 k,LeO (sternpostref02_Sum.f k a0) (sternpostref02_Sum.f (k+1) a0):=by
 intro a0 k
 obtain⟨ih0,ih1⟩:=sternpostref02_Sum.mono_l k
 unfold sternpostref02_Sum.f
 repeat' first
   | (with_reducible exact ih0 _ _ _)
   | (with_reducible exact ih1 _ _ _)
   | (with_reducible exact sternpostref02_fold.mono _ _)
   | (with_reducible exact LeO.refl _)
   | (with_reducible exact LeO.none _)
   | (with_reducible refine LeO.ite ?_ ?_)
   | (with_reducible refine LeO.bind ?_ (fun _=>?_))
   | exact ih0 _ _ _
   | exact ih1 _ _ _
   | exact sternpostref02_fold.mono _ _
   | exact LeO.none _
   | refine LeO.ite ?_ ?_
   | refine LeO.bind ?_ (fun _=>?_)
set_option maxHeartbeats 8000000 in
set_option maxRecDepth 100000 in
theorem sternpostref02_Sum.calls (k:Nat) (a0:ByteArray) (r:Int) (w:World) (h:sternpostref02_Sum.f k a0=some r) :
  Calls Try.prog 56 #[.string a0] w fun e w'=>e=.returned (.int .i64 r)∧Drawn0 w w':=by
 have H:(sternpostref02_Sum.l0 k a0 0 0)=some r:=h
 clear h
 have H':=mkA H
 clear H
 go_enter Try.func56,Try.ntmps56
 go_wp2
 go_loopg [3,4] k (fun kq v3 v4 w'=>∃ (x3_1:Int) (x4_1:Int),v3=.int .i64 x3_1∧v4=.int .i64 x4_1∧Aside0 (sternpostref02_Sum.l0 kq a0 x3_1 x4_1=some r)∧Aside0 (kq≤k)∧Drawn0 w w')
 case atStart=>exact⟨(0),(0),(by first|rfl|(simp;done)|(simp[*];done)),(by first|rfl|(simp;done)|(simp[*];done)),H',⟨Nat.le_refl _⟩,by repeat(first|exact Drawn0.refl _|apply Drawn0.step)⟩
 case round =>
  clear H'
  obtain⟨x3_1,x4_1,rfl,rfl,HA,HK1,⟨m1,rfl⟩⟩:=hrel
  cases gk with
  | zero=>exact absurd HA.out (by simp[sternpostref02_Sum.l0])
  | succ k1 =>
   have H:=HA.out
   clear HA
   simp only[sternpostref02_Sum.l0] at H
   by_cases c2:x4_1 < (a0.size:Int)
   ·rw[if_pos c2] at H
    have c2b0:decide (x4_1 < (a0.size:Int))=true:=decide_eq_true c2
    clear c2
    have HC3:=mkA H
    clear H
    go_upto_if 13 with (fail)
    go_cut [3] (fun v3 wc=>∃ (kq:Nat) (x3_2:Int),v3=.int .i64 x3_2∧Aside0 (sternpostref02_Sum.j1 kq a0 x3_2 x4_1=some r)∧Aside0 (kq≤k1)∧Drawn0 w wc)
    case first =>
     have H:=HC3.out
     clear HC3
     by_cases c4:(Int.tmod x4_1 2)=0
     ·rw[if_pos c4] at H
      have c4b0:((Int.tmod x4_1 2) == 0)=true:=beq_iff_eq.mpr c4
      have c4b1:((Int.tmod x4_1 2) != 0)=false:=bne_eq_false_iff_eq.mpr c4
      clear c4
      (first|rw[c4b0]|(simp only[i64_w,i32_w];rw[c4b0])|rw[c4b1]|skip)
      by_cases c5:0≤x4_1
      ·rw[if_pos c5] at H
       have c5b0:decide (0≤x4_1)=true:=decide_eq_true c5
       clear c5
       have H':=mkA H
       clear H
       have p6:0≤(x4_1:Int):=of_decide_eq_true (by first|(with_reducible assumption)|assumption)
       have q6:x4_1 < (a0.size:Int):=of_decide_eq_true (by first|(with_reducible assumption)|assumption)
       have hx6:=bt_at a0 x4_1
       replace p6:=eq_true p6
       replace q6:=eq_true q6
       go_wp2
       go_meet
       case rel=>exact⟨_,(wrap64 (x3_1+(wrap64 (256 * (wrap64 (bt a0 x4_1)))))),(by first|rfl|(simp;done)|(simp[*];done)),H',⟨by have:=HK1.out;first|omega|exact Nat.le_refl _⟩,by repeat(first|exact Drawn0.refl _|apply Drawn0.step)⟩
      ·rw[if_neg c5] at H
       exact absurd H (by simp)
     ·rw[if_neg c4] at H
      have c4b0:((Int.tmod x4_1 2) == 0)=false:=beq_eq_false_iff_ne.mpr c4
      have c4b1:((Int.tmod x4_1 2) != 0)=true:=bne_iff_ne.mpr c4
      (first|rw[c4b0]|(simp only[i64_w,i32_w];rw[c4b0])|rw[c4b1]|skip)
      by_cases c7:0≤x4_1
      ·rw[if_pos c7] at H
       have c7b0:decide (0≤x4_1)=true:=decide_eq_true c7
       clear c7
       have H':=mkA H
       clear H
       have p8:0≤(x4_1:Int):=of_decide_eq_true (by first|(with_reducible assumption)|assumption)
       have q8:x4_1 < (a0.size:Int):=of_decide_eq_true (by first|(with_reducible assumption)|assumption)
       have hx8:=bt_at a0 x4_1
       replace p8:=eq_true p8
       replace q8:=eq_true q8
       go_wp2
       go_meet
       case rel=>exact⟨_,(wrap64 (x3_1+(wrap64 (bt a0 x4_1)))),(by first|rfl|(simp;done)|(simp[*];done)),H',⟨by have:=HK1.out;first|omega|exact Nat.le_refl _⟩,by repeat(first|exact Drawn0.refl _|apply Drawn0.step)⟩
      ·rw[if_neg c7] at H
       exact absurd H (by simp)
    case rest =>
     clear HC3
     try clear c2;try clear c2b0;try clear p2;try clear c4;try clear c4b0;try clear c4b1;try clear c5;try clear c5b0;try clear p6;try clear q6;try clear hx6;try clear c7;try clear c7b0;try clear p8;try clear q8;try clear hx8;try clear p6;try clear p8;try clear q6;try clear q8
     obtain⟨kq,x3_2,rfl,HA,HJ2,⟨mc2,rfl⟩⟩:=hcut
     cases kq with
     | zero=>exact absurd HA.out (by simp[sternpostref02_Sum.j1])
     | succ kj2 =>
      have H:=HA.out
      clear HA
      simp only[sternpostref02_Sum.j1] at H
      replace H:=Option.bind_eq_some_iff.mp H
      obtain⟨t239,A90,H⟩:=H
      replace H:(sternpostref02_Sum.l0 kj2 a0 t239 (wrap64 (x4_1+1)))=some r:=H
      have A9:=mkA A90
      clear A90
      have H':=mkA H
      clear H
      go_wp2_with (first|((with_reducible refine gate_callee (f:=66) rfl ?_);refine goesL_ (some 28) rfl rfl Try.func66 (by kernel_rfl) rfl #[.int .i64 x3_2] rfl (by(try simp only[List.map_toArray,List.map_cons,List.map_nil]);first|done|rfl|(simp only[List.length_drop,List.length_take];rfl)) ?_;(with_reducible refine(sternpostref02_fold.calls kj2 x3_2 t239 _ A9.out).mono ?_);rintro e w' ⟨rfl,⟨nd,rfl⟩⟩;refine⟨_,rfl,?_⟩))
      go_roundg kj2
      case measure=>have:=HK1.out;have:=HJ2.out;omega
      case rel=>exact⟨(t239),(wrap64 (x4_1+1)),(by first|rfl|(simp;done)|(simp[*];done)),(by first|rfl|(simp;done)|(simp[*];done)),H',⟨by have:=HK1.out;have:=HJ2.out;omega⟩,by repeat(first|exact Drawn0.refl _|apply Drawn0.step)⟩
   ·rw[if_neg c2] at H
    have c2b0:decide (x4_1 < (a0.size:Int))=false:=decide_eq_false c2
    clear c2
    obtain rfl:=Option.some.inj H
    go_wp2
    go_ret
    exact⟨by first|rfl|(simp;done)|(simp[*];done),by repeat(first|exact Drawn0.refl _|apply Drawn0.step)⟩

/-! ### sternpostref02_Whole: function 46 -/
def sternpostref02_Whole.f (k:Nat) (a0:ByteArray):Option (Bool):=(sternpostref02_Sum.f k a0).bind fun t240=>(some (t240 == 0))
theorem sternpostref02_Whole.mono:∀ a0 k,LeO (sternpostref02_Whole.f k a0) (sternpostref02_Whole.f (k+1) a0):=by
 intro a0 k
 unfold sternpostref02_Whole.f
 repeat' first
   | (with_reducible exact sternpostref02_Sum.mono _ _)
   | (with_reducible exact LeO.refl _)
   | (with_reducible exact LeO.none _)
   | (with_reducible refine LeO.ite ?_ ?_)
   | (with_reducible refine LeO.bind ?_ (fun _=>?_))
   | exact sternpostref02_Sum.mono _ _
   | exact LeO.none _
   | refine LeO.ite ?_ ?_
   | refine LeO.bind ?_ (fun _=>?_)
set_option maxHeartbeats 8000000 in
set_option maxRecDepth 100000 in
theorem sternpostref02_Whole.calls (k:Nat) (a0:ByteArray) (r:Bool) (w:World) (h:sternpostref02_Whole.f k a0=some r) :
  Calls Try.prog 46 #[.string a0] w fun e w'=>e=.returned (.bool r)∧Drawn0 w w':=by
 have H:((sternpostref02_Sum.f k a0).bind fun t240=>(some (t240 == 0)))=some r:=h
 clear h
 replace H:=Option.bind_eq_some_iff.mp H
 obtain⟨t240,A20,H⟩:=H
 replace H:(some (t240 == 0))=some r:=H
 have A2:=mkA A20
 clear A20
 obtain rfl:=Option.some.inj H
 go_enter Try.func46,Try.ntmps46
 go_wp2_with (first|((with_reducible refine gate_callee (f:=56) rfl ?_);refine goesL_ (some 4) rfl rfl Try.func56 (by kernel_rfl) rfl #[.string a0] rfl (by(try simp only[List.map_toArray,List.map_cons,List.map_nil]);first|done|rfl|(simp only[List.length_drop,List.length_take];rfl)) ?_;(with_reducible refine(sternpostref02_Sum.calls k a0 t240 _ A2.out).mono ?_);rintro e w' ⟨rfl,⟨nd,rfl⟩⟩;refine⟨_,rfl,?_⟩))
 go_ret
 exact⟨by first|rfl|(simp;done)|(simp[*];done),by repeat(first|exact Drawn0.refl _|apply Drawn0.step)⟩

/-! ### sternpostref02_Num: function 48 -/
def sternpostref02_Num.l0:Nat→ByteArray→Int→Int→Option (Int)
 | 0,_,_,_=>none
 | k+1,x0,x3,x4=>if x4 < (x0.size:Int) then (if 0≤x4 then (sternpostref02_Num.l0 k x0 (wrap64 ((wrap64 (x3 * 256))+(wrap64 (bt x0 x4)))) (wrap64 (x4+1))) else (none)) else (some x3)
def sternpostref02_Num.f (k:Nat) (a0:ByteArray):Option (Int):=sternpostref02_Num.l0 k a0 0 0
theorem sternpostref02_Num.mono_l:∀ k,(∀ y0 y1 y2,LeO (sternpostref02_Num.l0 k y0 y1 y2) (sternpostref02_Num.l0 (k+1) y0 y1 y2))
 | 0=>fun _ _ _ r h=>by simp[sternpostref02_Num.l0] at h
 | k+1=>by
  have ih0:=sternpostref02_Num.mono_l k
  ·intro y0 y1 y2
   unfold sternpostref02_Num.l0
   repeat' first
   | (with_reducible exact ih0 _ _ _)
   | (with_reducible exact LeO.refl _)
   | (with_reducible exact LeO.none _)
   | (with_reducible refine LeO.ite ?_ ?_)
   | (with_reducible refine LeO.bind ?_ (fun _=>?_))
   | exact ih0 _ _ _
   | exact LeO.none _
   | refine LeO.ite ?_ ?_
   | refine LeO.bind ?_ (fun _=>?_)
theorem sternpostref02_Num.mono:∀ a0 k,LeO (sternpostref02_Num.f k a0) (sternpostref02_Num.f (k+1) a0):=by
 intro a0 k
 have ih0:=sternpostref02_Num.mono_l k
 unfold sternpostref02_Num.f
 repeat' first
   | (with_reducible exact ih0 _ _ _)
   | (with_reducible exact LeO.refl _)
   | (with_reducible exact LeO.none _)
   | (with_reducible refine LeO.ite ?_ ?_)
   | (with_reducible refine LeO.bind ?_ (fun _=>?_))
   | exact ih0 _ _ _
   | exact LeO.none _
   | refine LeO.ite ?_ ?_
   | refine LeO.bind ?_ (fun _=>?_)
set_option maxHeartbeats 8000000 in
set_option maxRecDepth 100000 in
theorem sternpostref02_Num.calls (k:Nat) (a0:ByteArray) (r:Int) (w:World) (h:sternpostref02_Num.f k a0=some r) :
  Calls Try.prog 48 #[.string a0] w fun e w'=>e=.returned (.int .i64 r)∧Drawn0 w w':=by
 have H:(sternpostref02_Num.l0 k a0 0 0)=some r:=h
 clear h
 have H':=mkA H
 clear H
 go_enter Try.func48,Try.ntmps48
 go_wp2
 go_loopg [3,4] k (fun kq v3 v4 w'=>∃ (x3_1:Int) (x4_1:Int),v3=.int .i64 x3_1∧v4=.int .i64 x4_1∧Aside0 (sternpostref02_Num.l0 kq a0 x3_1 x4_1=some r)∧Aside0 (kq≤k)∧Drawn0 w w')
 case atStart=>exact⟨(0),(0),(by first|rfl|(simp;done)|(simp[*];done)),(by first|rfl|(simp;done)|(simp[*];done)),H',⟨Nat.le_refl _⟩,by repeat(first|exact Drawn0.refl _|apply Drawn0.step)⟩
 case round =>
  clear H'
  obtain⟨x3_1,x4_1,rfl,rfl,HA,HK1,⟨m1,rfl⟩⟩:=hrel
  cases gk with
  | zero=>exact absurd HA.out (by simp[sternpostref02_Num.l0])
  | succ k1 =>
   have H:=HA.out
   clear HA
   simp only[sternpostref02_Num.l0] at H
   by_cases c2:x4_1 < (a0.size:Int)
   ·rw[if_pos c2] at H
    have c2b0:decide (x4_1 < (a0.size:Int))=true:=decide_eq_true c2
    clear c2
    by_cases c3:0≤x4_1
    ·rw[if_pos c3] at H
     have c3b0:decide (0≤x4_1)=true:=decide_eq_true c3
     clear c3
     have H':=mkA H
     clear H
     have p4:0≤(x4_1:Int):=of_decide_eq_true (by first|(with_reducible assumption)|assumption)
     have q4:x4_1 < (a0.size:Int):=of_decide_eq_true (by first|(with_reducible assumption)|assumption)
     have hx4:=bt_at a0 x4_1
     replace p4:=eq_true p4
     replace q4:=eq_true q4
     go_wp2
     go_roundg k1
     case measure=>have:=HK1.out;omega
     case rel=>exact⟨(wrap64 ((wrap64 (x3_1 * 256))+(wrap64 (bt a0 x4_1)))),(wrap64 (x4_1+1)),(by first|rfl|(simp;done)|(simp[*];done)),(by first|rfl|(simp;done)|(simp[*];done)),H',⟨by have:=HK1.out;omega⟩,by repeat(first|exact Drawn0.refl _|apply Drawn0.step)⟩
    ·rw[if_neg c3] at H
     exact absurd H (by simp)
   ·rw[if_neg c2] at H
    have c2b0:decide (x4_1 < (a0.size:Int))=false:=decide_eq_false c2
    clear c2
    obtain rfl:=Option.some.inj H
    go_wp2
    go_ret
    exact⟨by first|rfl|(simp;done)|(simp[*];done),by repeat(first|exact Drawn0.refl _|apply Drawn0.step)⟩

end Go.Proofs.Ytakajeoeijnmhaa.PSegReads

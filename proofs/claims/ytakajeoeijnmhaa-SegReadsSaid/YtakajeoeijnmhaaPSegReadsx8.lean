-- Laid by this claim's own program over the print's words.
import Derived.Test.YtakajeoeijnmhaaPSegReadsx0
import Derived.Test.YtakajeoeijnmhaaPSegReadsx2
import Derived.Test.YtakajeoeijnmhaaPSegReadsx3
namespace Go.Proofs.Ytakajeoeijnmhaa.PSegReads
open Go.RowKit Go.Proofs.YtakajeoeijnmhaaW.PrintWords Go.Proofs.YtakajeoeijnmhaaW.PrintLast Go.Proofs.YtakajeoeijnmhaaW.PrintMore
attribute [local go_sem] max2_int min2_int max_two min_two max_three min_three max_four min_four max_five min_five extract_cut tmod_nat_lit   -- for this text's walks alone
set_option linter.unusedVariables false
set_option linter.unusedSimpArgs false

/-! ### sum_Pseudo: function 22 -/
mutual
def sum_Pseudo.j0:Nat→Int→Int→Int→Int→Bool→Option (ByteArray × Int)
 | 0,_,_,_,_,_=>none
 | k+1,x0,x1,x2,x3,x34=>if x34=true then (some ((⟨#[]⟩:ByteArray),1)) else ((some (([x0,x1,x2,x3]:List Int):List Int)).bind fun y183=>(sum_Pseudo.l0 k (⟨#[]⟩:ByteArray) y183 (y183.length:Int) 0))
def sum_Pseudo.l0:Nat→ByteArray→List Int→Int→Int→Option (ByteArray × Int)
 | 0,_,_,_,_=>none
 | k+1,x10,x39,x40,x41=>if x41 < x40 then (if 0≤x41 then (if x41 < (x39.length:Int) then ((some (([4,4,2,2]:List Int):List Int)).bind fun y187=>(if x41 < (y187.length:Int) then ((sum_Put.f k (rd x39 x41) (rd y187 x41)).bind fun bt191=>(if x10.size+bt191.1.size≤9223372036854775807 then (sum_Pseudo.l0 k (x10++bt191.1) x39 x40 (wrap64 (x41+1))) else (none))) else (none))) else (none)) else (none)) else (some (x10,0))
end
def sum_Pseudo.f (k:Nat) (a0:Int) (a1:Int) (a2:Int) (a3:Int):Option (ByteArray × Int):=if (mn (mn (mn a0 a1) a2) a3) < 0 then (sum_Pseudo.j0 k a0 a1 a2 a3 true) else (if (mx a0 a1) > 4294967295 then (sum_Pseudo.j0 k a0 a1 a2 a3 true) else (if a2 > 255 then (sum_Pseudo.j0 k a0 a1 a2 a3 true) else (sum_Pseudo.j0 k a0 a1 a2 a3 (decide (a3 > 65535)))))
theorem sum_Pseudo.mono_l:∀ k,(∀ y0 y1 y2 y3 y4,LeO (sum_Pseudo.j0 k y0 y1 y2 y3 y4) (sum_Pseudo.j0 (k+1) y0 y1 y2 y3 y4))∧(∀ y0 y1 y2 y3,LeO (sum_Pseudo.l0 k y0 y1 y2 y3) (sum_Pseudo.l0 (k+1) y0 y1 y2 y3))
 | 0=>⟨fun _ _ _ _ _ r h=>by simp[sum_Pseudo.j0] at h,fun _ _ _ _ r h=>by simp[sum_Pseudo.l0] at h⟩
 | k+1=>by
  obtain⟨ih0,ih1⟩:=sum_Pseudo.mono_l k
  refine⟨?_,?_⟩
  ·intro y0 y1 y2 y3 y4
   unfold sum_Pseudo.j0
   repeat' first
   | (with_reducible exact ih0 _ _ _ _ _)
   | (with_reducible exact ih1 _ _ _ _)
   | (with_reducible exact sum_Put.mono _ _ _)
   | (with_reducible exact LeO.refl _)
   | (with_reducible exact LeO.none _)
   | (with_reducible refine LeO.ite ?_ ?_)
   | (with_reducible refine LeO.bind ?_ (fun _=>?_))
   | exact ih0 _ _ _ _ _
   | exact ih1 _ _ _ _
   | exact sum_Put.mono _ _ _
   | exact LeO.none _
   | refine LeO.ite ?_ ?_
   | refine LeO.bind ?_ (fun _=>?_)
  ·intro y0 y1 y2 y3
   unfold sum_Pseudo.l0
   repeat' first
   | (with_reducible exact ih0 _ _ _ _ _)
   | (with_reducible exact ih1 _ _ _ _)
   | (with_reducible exact sum_Put.mono _ _ _)
   | (with_reducible exact LeO.refl _)
   | (with_reducible exact LeO.none _)
   | (with_reducible refine LeO.ite ?_ ?_)
   | (with_reducible refine LeO.bind ?_ (fun _=>?_))
   | exact ih0 _ _ _ _ _
   | exact ih1 _ _ _ _
   | exact sum_Put.mono _ _ _
   | exact LeO.none _
   | refine LeO.ite ?_ ?_
   | refine LeO.bind ?_ (fun _=>?_)
theorem sum_Pseudo.mono:∀ a0 a1 a2 a3 k,LeO (sum_Pseudo.f k a0 a1 a2 a3) (sum_Pseudo.f (k+1) a0 a1 a2 a3):=by
 intro a0 a1 a2 a3 k
 obtain⟨ih0,ih1⟩:=sum_Pseudo.mono_l k
 unfold sum_Pseudo.f
 repeat' first
   | (with_reducible exact ih0 _ _ _ _ _)
   | (with_reducible exact ih1 _ _ _ _)
   | (with_reducible exact sum_Put.mono _ _ _)
   | (with_reducible exact LeO.refl _)
   | (with_reducible exact LeO.none _)
   | (with_reducible refine LeO.ite ?_ ?_)
   | (with_reducible refine LeO.bind ?_ (fun _=>?_))
   | exact ih0 _ _ _ _ _
   | exact ih1 _ _ _ _
   | exact sum_Put.mono _ _ _
   | exact LeO.none _
   | refine LeO.ite ?_ ?_
   | refine LeO.bind ?_ (fun _=>?_)
set_option maxHeartbeats 8000000 in
set_option maxRecDepth 100000 in
theorem sum_Pseudo.calls (k:Nat) (a0:Int) (a1:Int) (a2:Int) (a3:Int) (r1:ByteArray) (r2:Int) (w:World) (h:sum_Pseudo.f k a0 a1 a2 a3=some (r1,r2)) :
  Calls Try.prog 22 #[.int .i64 a0,.int .i64 a1,.int .i64 a2,.int .i64 a3] w fun e w'=>e=.returned (.tuple #[.string r1,.int .i64 r2])∧Below w.heap.size w w':=by
 have HB:=mkA (Below.refl w.heap.size w)
 have H:(if (mn (mn (mn a0 a1) a2) a3) < 0 then (sum_Pseudo.j0 k a0 a1 a2 a3 true) else (if (mx a0 a1) > 4294967295 then (sum_Pseudo.j0 k a0 a1 a2 a3 true) else (if a2 > 255 then (sum_Pseudo.j0 k a0 a1 a2 a3 true) else (sum_Pseudo.j0 k a0 a1 a2 a3 (decide (a3 > 65535))))))=some (r1,r2):=h
 clear h
 have HC5:=mkA H
 clear H
 go_enter Try.func22,Try.ntmps22
 go_upto_region 1 with (fail)
 go_cut [34] (fun v34 wc=>∃ (kq:Nat) (x34_4:Bool),v34=.bool x34_4∧Aside0 (sum_Pseudo.j0 kq a0 a1 a2 a3 x34_4=some (r1,r2))∧Aside0 (kq≤k)∧Aside0 (Below w.heap.size w wc))
 case first =>
  have H:=HC5.out
  clear HC5
  obtain⟨ji6,hji6⟩:∃ j_:Int,(mn a0 a1)=j_:=⟨_,rfl⟩
  replace H:(if (mn (mn (ji6) a2) a3) < 0 then (sum_Pseudo.j0 k a0 a1 a2 a3 true) else (if (mx a0 a1) > 4294967295 then (sum_Pseudo.j0 k a0 a1 a2 a3 true) else (if a2 > 255 then (sum_Pseudo.j0 k a0 a1 a2 a3 true) else (sum_Pseudo.j0 k a0 a1 a2 a3 (decide (a3 > 65535))))))=some (r1,r2):=by first|(rw[hji6] at H;exact H)|(simp only[hji6] at H ⊢;exact H)
  have hji6_:(if a1 < a0 then a1 else a0)=ji6:=hji6
  obtain⟨ji7,hji7⟩:∃ j_:Int,(mn (ji6) a2)=j_:=⟨_,rfl⟩
  replace H:(if (mn (ji7) a3) < 0 then (sum_Pseudo.j0 k a0 a1 a2 a3 true) else (if (mx a0 a1) > 4294967295 then (sum_Pseudo.j0 k a0 a1 a2 a3 true) else (if a2 > 255 then (sum_Pseudo.j0 k a0 a1 a2 a3 true) else (sum_Pseudo.j0 k a0 a1 a2 a3 (decide (a3 > 65535))))))=some (r1,r2):=by first|(rw[hji7] at H;exact H)|(simp only[hji7] at H ⊢;exact H)
  have hji7_:(if a2 < (ji6) then a2 else (ji6))=ji7:=hji7
  obtain⟨ji8,hji8⟩:∃ j_:Int,(mn (ji7) a3)=j_:=⟨_,rfl⟩
  replace H:(if (ji8) < 0 then (sum_Pseudo.j0 k a0 a1 a2 a3 true) else (if (mx a0 a1) > 4294967295 then (sum_Pseudo.j0 k a0 a1 a2 a3 true) else (if a2 > 255 then (sum_Pseudo.j0 k a0 a1 a2 a3 true) else (sum_Pseudo.j0 k a0 a1 a2 a3 (decide (a3 > 65535))))))=some (r1,r2):=by first|(rw[hji8] at H;exact H)|(simp only[hji8] at H ⊢;exact H)
  have hji8_:(if a3 < (ji7) then a3 else (ji7))=ji8:=hji8
  by_cases c9:(ji8) < 0
  ·rw[if_pos c9] at H
   have c9b0:decide ((ji8) < 0)=true:=decide_eq_true c9
   clear c9
   (first|rw[c9b0]|(simp only[i64_w,i32_w];rw[c9b0])|rw[c9b1]|skip)
   have H':=mkA H
   clear H
   go_wp2
   go_meet
   case rel=>exact⟨_,(true),(by first|rfl|(simp;done)|(simp[*];done)),(by first|exact H'|(simp only[hji6,hji7,hji8];exact H')),⟨by first|omega|exact Nat.le_refl _⟩,⟨by repeat(first|(with_reducible first|exact HB.out|apply bA|apply bN|apply bD)|exact HB.out)⟩⟩
  ·rw[if_neg c9] at H
   have c9b0:decide ((ji8) < 0)=false:=decide_eq_false c9
   clear c9
   (first|rw[c9b0]|(simp only[i64_w,i32_w];rw[c9b0])|rw[c9b1]|skip)
   obtain⟨ji10,hji10⟩:∃ j_:Int,(mx a0 a1)=j_:=⟨_,rfl⟩
   replace H:(if (ji10) > 4294967295 then (sum_Pseudo.j0 k a0 a1 a2 a3 true) else (if a2 > 255 then (sum_Pseudo.j0 k a0 a1 a2 a3 true) else (sum_Pseudo.j0 k a0 a1 a2 a3 (decide (a3 > 65535)))))=some (r1,r2):=by first|(rw[hji10] at H;exact H)|(simp only[hji10] at H ⊢;exact H)
   have hji10_:(if a0 < a1 then a1 else a0)=ji10:=hji10
   by_cases c11:(ji10) > 4294967295
   ·rw[if_pos c11] at H
    have c11b0:decide (4294967295 < (ji10))=true:=decide_eq_true c11
    clear c11
    have H':=mkA H
    clear H
    go_wp2
    go_meet
    case rel=>exact⟨_,(true),(by first|rfl|(simp;done)|(simp[*];done)),(by first|exact H'|(simp only[hji6,hji7,hji8,hji10];exact H')),⟨by first|omega|exact Nat.le_refl _⟩,⟨by repeat(first|(with_reducible first|exact HB.out|apply bA|apply bN|apply bD)|exact HB.out)⟩⟩
   ·rw[if_neg c11] at H
    have c11b0:decide (4294967295 < (ji10))=false:=decide_eq_false c11
    clear c11
    by_cases c12:a2 > 255
    ·rw[if_pos c12] at H
     have c12b0:decide (255 < a2)=true:=decide_eq_true c12
     clear c12
     have H':=mkA H
     clear H
     go_wp2
     go_meet
     case rel=>exact⟨_,(true),(by first|rfl|(simp;done)|(simp[*];done)),(by first|exact H'|(simp only[hji6,hji7,hji8,hji10];exact H')),⟨by first|omega|exact Nat.le_refl _⟩,⟨by repeat(first|(with_reducible first|exact HB.out|apply bA|apply bN|apply bD)|exact HB.out)⟩⟩
    ·rw[if_neg c12] at H
     have c12b0:decide (255 < a2)=false:=decide_eq_false c12
     clear c12
     have H':=mkA H
     clear H
     go_wp2
     go_meet
     case rel=>exact⟨_,(decide (a3 > 65535)),(by first|rfl|(simp;done)|(simp[*];done)),(by first|exact H'|(simp only[hji6,hji7,hji8,hji10];exact H')),⟨by first|omega|exact Nat.le_refl _⟩,⟨by repeat(first|(with_reducible first|exact HB.out|apply bA|apply bN|apply bD)|exact HB.out)⟩⟩
 case rest =>
  clear HC5
  try clear c1;try clear c2;try clear p2;try clear c9;try clear c9b0;try clear c9b1;try clear c11;try clear c11b0;try clear c12;try clear c12b0
  obtain⟨kq,x34_4,rfl,HA,HJ4,HB⟩:=hcut
  cases kq with
  | zero=>exact absurd HA.out (by simp[sum_Pseudo.j0])
  | succ kj4 =>
   have H:=HA.out
   clear HA
   simp only[sum_Pseudo.j0] at H
   by_cases c13:x34_4=true
   ·subst c13
    have H1:(some ((⟨#[]⟩:ByteArray),1))=some (r1,r2):=by rw[if_pos rfl] at H;exact H
    clear H
    have H:=H1
    clear H1
    simp only[Option.some.injEq,Prod.mk.injEq] at H
    obtain⟨rfl,rfl⟩:=H
    go_wp2
    go_ret2
    exact⟨by first|rfl|(simp[errW_none,errW_some] <;> rfl)|(simp[*,errW_none,errW_some] <;> rfl),by repeat(first|(with_reducible first|exact HB.out|apply bA|apply bN|apply bD)|exact HB.out)⟩
   ·replace c13:=Bool.eq_false_iff.mpr c13
    subst c13
    have H1:((some (([a0,a1,a2,a3]:List Int):List Int)).bind fun y183=>(sum_Pseudo.l0 kj4 (⟨#[]⟩:ByteArray) y183 (y183.length:Int) 0))=some (r1,r2):=by rw[if_neg (show ¬ (false=true) by decide)] at H;exact H
    clear H
    have H:=H1
    clear H1
    obtain⟨y183,hy183⟩:∃ y_:List Int,y_=(([a0,a1,a2,a3]:List Int)):=⟨_,rfl⟩
    replace H:(sum_Pseudo.l0 kj4 (⟨#[]⟩:ByteArray) y183 (y183.length:Int) 0)=some (r1,r2):=by first|(rw[hy183];with_reducible exact H)|(have H2_:=(Option.bind_some _ _).symm.trans H;rw[hy183];with_reducible exact H2_)|(have H2_:=(Option.bind_some _ _).symm.trans H;with_reducible exact H2_)|with_reducible exact H|(rw[hy183];exact H)|exact H
    have Ny183:=mkA hy183
    clear hy183
    have H':=mkA H
    clear H
    go_wp2_with (first|((with_reducible refine gate_dst (N:=39) rfl ?_);(try(refine gate_guard (by rfl) ?_;dsimp only));refine Kd.R_lit (Kd.int .i64) _ 3 ?hg (N:=39) ?hd (xs:=([a0,a1,a2,a3]:List Int)) (inner:=[.int .i64 a0,.int .i64 a1,.int .i64 a2,.int .i64 a3]) (ok:=fun _=>True) (okp:=fun _=>True) ?hr ?hp (fun _ hk=>hk) trivial (Below.refl _ _) (Nat.le_refl _) (by simp) ?_;(case hd=>rfl);(case hg=>rfl);(case hr=>first|(go_simp;done)|(go_simp;rfl));(case hp=>exact(Reps.one (show Kd.M (Kd.int .i64) _ _ _ a0 [.int .i64 a0] from rfl) (Reps.one (show Kd.M (Kd.int .i64) _ _ _ a1 [.int .i64 a1] from rfl) (Reps.one (show Kd.M (Kd.int .i64) _ _ _ a2 [.int .i64 a2] from rfl) (Reps.one (show Kd.M (Kd.int .i64) _ _ _ a3 [.int .i64 a3] from rfl) (Reps.none _ _))))));intro v184 w14 ho15 hb hg_ hnew_;clear hg_ hnew_;(first|rw[← Ny183.out] at ho15|(simp only[Int.reduceToNat] at ho15;rw[← Ny183.out] at ho15));have n0_:=mkA (Kd.R_lower ho15 (bZ (by repeat(first|(with_reducible first|exact HB.out|apply bA|apply bN|apply bD)|exact HB.out))));have n1_:=mkA (bT (by repeat(first|(with_reducible first|exact HB.out|apply bA|apply bN|apply bD)|exact HB.out)) hb);clear HB;have HO185:=n0_;have HB:=n1_;clear n0_ n1_;clear hb ho15;obtain⟨Ao16,co16,eo16⟩:=Kd.R_slice HO185.out;subst eo16))
    go_loopg [10,41] kj4 (fun kq v10 v41 w'=>∃ (x10_2:ByteArray) (x41_2:Int),v10=.string x10_2∧v41=.int .i64 x41_2∧Aside0 (sum_Pseudo.l0 kq x10_2 y183 (y183.length:Int) x41_2=some (r1,r2))∧Aside0 (kq≤kj4)∧Aside0 (Kd.R (Kd.int .i64) 3 w' w.heap.size (fun _=>True) (.slice Ao16 y183.length co16) y183)∧Aside0 (Below w.heap.size w w'))
    case atStart=>exact⟨((⟨#[]⟩:ByteArray)),(0),(by first|rfl|(simp;done)|(simp[*];done)),(by first|rfl|(simp;done)|(simp[*];done)),H',⟨Nat.le_refl _⟩,⟨by(with_reducible repeat(first|apply Kd.R_alloc|apply Kd.R_drewN|apply Kd.R_drew));exact HO185.out⟩,⟨by repeat(first|(with_reducible first|exact HB.out|apply bA|apply bN|apply bD)|exact HB.out)⟩⟩
    case round =>
     clear H'
     try clear c1;try clear c2;try clear p2;try clear c9;try clear c9b0;try clear c9b1;try clear c11;try clear c11b0;try clear c12;try clear c12b0;try clear c13;try clear p2
     obtain⟨x10_2,x41_2,rfl,rfl,HA,HK2,HO_39,HB⟩:=hrel
     cases gk with
     | zero=>exact absurd HA.out (by simp[sum_Pseudo.l0])
     | succ k2 =>
      have H:=HA.out
      clear HA
      simp only[sum_Pseudo.l0] at H
      by_cases c17:x41_2 < (y183.length:Int)
      ·rw[if_pos c17] at H
       have c17b0:decide (x41_2 < (y183.length:Int))=true:=decide_eq_true c17
       clear c17
       by_cases c18:0≤x41_2
       ·rw[if_pos c18] at H
        have c18b0:decide (0≤x41_2)=true:=decide_eq_true c18
        clear c18
        by_cases c19:x41_2 < (y183.length:Int)
        ·rw[if_pos c19] at H
         have c19b0:decide (x41_2 < (y183.length:Int))=true:=decide_eq_true c19
         clear c19
         obtain⟨y187,hy187⟩:∃ y_:List Int,y_=(([4,4,2,2]:List Int)):=⟨_,rfl⟩
         replace H:(if x41_2 < (y187.length:Int) then ((sum_Put.f k2 (rd y183 x41_2) (rd y187 x41_2)).bind fun bt191=>(if x10_2.size+bt191.1.size≤9223372036854775807 then (sum_Pseudo.l0 k2 (x10_2++bt191.1) y183 (y183.length:Int) (wrap64 (x41_2+1))) else (none))) else (none))=some (r1,r2):=by first|(rw[hy187];with_reducible exact H)|(have H2_:=(Option.bind_some _ _).symm.trans H;rw[hy187];with_reducible exact H2_)|(have H2_:=(Option.bind_some _ _).symm.trans H;with_reducible exact H2_)|with_reducible exact H|(rw[hy187];exact H)|exact H
         have Ny187:=mkA hy187
         clear hy187
         by_cases c20:x41_2 < (y187.length:Int)
         ·rw[if_pos c20] at H
          have c20b0:decide (x41_2 < (y187.length:Int))=true:=decide_eq_true c20
          clear c20
          replace H:=Option.bind_eq_some_iff.mp H
          obtain⟨⟨t191,t192⟩,A210,H⟩:=H
          replace H:(if x10_2.size+t191.size≤9223372036854775807 then (sum_Pseudo.l0 k2 (x10_2++t191) y183 (y183.length:Int) (wrap64 (x41_2+1))) else (none))=some (r1,r2):=H
          have A21:=mkA A210
          clear A210
          by_cases c22:x10_2.size+t191.size≤9223372036854775807
          ·rw[if_pos c22] at H
           have c22b0:=eq_true c22
           have c22b1:decide (x10_2.size+t191.size≤9223372036854775807)=true:=decide_eq_true c22
           try have c22b2:(9223372036854775807 < x10_2.size+t191.size)=False:=eq_false (Nat.not_lt.2 c22)
           have H':=mkA H
           clear H
           have p186:0≤(x41_2:Int):=of_decide_eq_true (by first|(with_reducible assumption)|assumption)
           have q186:x41_2 < (y183.length:Int):=of_decide_eq_true (by first|(with_reducible assumption)|assumption)
           obtain⟨ad186,e186,hx186_0⟩:=Kd.at_int (Kd.R_reads' HO_39.out).2.2 x41_2 p186 q186
           cases e186
           replace p186:=eq_true p186
           replace q186:=eq_true q186
           go_wp2_with (first|((with_reducible refine gate_dst (N:=48) rfl ?_);(try(refine gate_guard (by rfl) ?_;dsimp only));refine Kd.R_lit (Kd.int .i64) _ 3 ?hg (N:=48) ?hd (xs:=([4,4,2,2]:List Int)) (inner:=[.int .i64 4,.int .i64 4,.int .i64 2,.int .i64 2]) (ok:=fun _=>True) (okp:=fun _=>True) ?hr ?hp (fun _ hk=>hk) trivial (Below.refl _ _) (Nat.le_refl _) (by simp) ?_;(case hd=>rfl);(case hg=>rfl);(case hr=>first|(go_simp;done)|(go_simp;rfl));(case hp=>exact(Reps.one (show Kd.M (Kd.int .i64) _ _ _ 4 [.int .i64 4] from rfl) (Reps.one (show Kd.M (Kd.int .i64) _ _ _ 4 [.int .i64 4] from rfl) (Reps.one (show Kd.M (Kd.int .i64) _ _ _ 2 [.int .i64 2] from rfl) (Reps.one (show Kd.M (Kd.int .i64) _ _ _ 2 [.int .i64 2] from rfl) (Reps.none _ _))))));intro v188 w23 ho24 hb hg_ hnew_;clear hg_ hnew_;(first|rw[← Ny187.out] at ho24|(simp only[Int.reduceToNat] at ho24;rw[← Ny187.out] at ho24));have n0_:=mkA (Kd.R_elder' (by(with_reducible repeat(first|apply Kd.R_alloc|apply Kd.R_drewN|apply Kd.R_drew));exact HO_39.out) (Kd.R_base ho24) hb);have n1_:=mkA (Kd.R_lower (Kd.R_new' ho24 (Kd.R_lt (by(with_reducible repeat(first|apply Kd.R_alloc|apply Kd.R_drewN|apply Kd.R_drew));exact HO_39.out))) (bZ (by repeat(first|(with_reducible first|exact HB.out|apply bA|apply bN|apply bD)|exact HB.out))));have n2_:=mkA (bT (by repeat(first|(with_reducible first|exact HB.out|apply bA|apply bN|apply bD)|exact HB.out)) hb);clear HO_39;clear HB;have HO_39:=n0_;have HO189:=n1_;have HB:=n2_;clear n0_ n1_ n2_;clear hb ho24;obtain⟨Ao25,co25,eo25⟩:=Kd.R_slice HO189.out;subst eo25;have p190:0≤(x41_2:Int):=of_decide_eq_true (by first|(with_reducible assumption)|assumption);have q190:x41_2 < (y187.length:Int):=of_decide_eq_true (by first|(with_reducible assumption)|assumption);obtain⟨ad190,e190,hx190_0⟩:=Kd.at_int (Kd.R_reads' HO189.out).2.2 x41_2 p190 q190;cases e190;replace p190:=eq_true p190;replace q190:=eq_true q190)|((with_reducible refine gate_callee (f:=40) rfl ?_);refine goesL_ (some 52) rfl rfl Try.func40 (by kernel_rfl) rfl #[.int .i64 (rd y183 x41_2),.int .i64 (rd y187 x41_2)] rfl (by(try simp only[List.map_toArray,List.map_cons,List.map_nil]);first|done|rfl|(simp only[List.length_drop,List.length_take];rfl)) ?_;(with_reducible refine(sum_Put.calls k2 (rd y183 x41_2) (rd y187 x41_2) t191 t192 _ A21.out).mono ?_);rintro e w26 ⟨rfl,hb⟩;refine⟨_,rfl,?_⟩;have n0_:=mkA (Kd.R_below (by(with_reducible repeat(first|apply Kd.R_alloc|apply Kd.R_drewN|apply Kd.R_drew));exact HO_39.out) hb);have n1_:=mkA (Kd.R_below (by(with_reducible repeat(first|apply Kd.R_alloc|apply Kd.R_drewN|apply Kd.R_drew));exact HO189.out) hb);have n2_:=mkA (bT (by repeat(first|(with_reducible first|exact HB.out|apply bA|apply bN|apply bD)|exact HB.out)) hb);clear HO_39;clear HO189;clear HB;have HO_39:=n0_;have HO189:=n1_;have HB:=n2_;clear n0_ n1_ n2_;(try clear hb);(try clear hb2);(try clear hk);(try clear hi)))
           go_roundg k2
           case measure=>have:=HJ4.out;have:=HK2.out;omega
           case rel=>exact⟨(x10_2++t191),(wrap64 (x41_2+1)),(by first|rfl|(simp;done)|(simp[*];done)),(by first|rfl|(simp;done)|(simp[*];done)),H',⟨by have:=HJ4.out;have:=HK2.out;omega⟩,⟨by(with_reducible repeat(first|apply Kd.R_alloc|apply Kd.R_drewN|apply Kd.R_drew));exact Kd.R_mono HO_39.out (fun _ hk=>trivial)⟩,⟨by repeat(first|(with_reducible first|exact HB.out|apply bA|apply bN|apply bD)|exact HB.out)⟩⟩
          ·rw[if_neg c22] at H
           exact absurd H (by simp)
         ·rw[if_neg c20] at H
          exact absurd H (by simp)
        ·rw[if_neg c19] at H
         exact absurd H (by simp)
       ·rw[if_neg c18] at H
        exact absurd H (by simp)
      ·rw[if_neg c17] at H
       have c17b0:decide (x41_2 < (y183.length:Int))=false:=decide_eq_false c17
       clear c17
       simp only[Option.some.injEq,Prod.mk.injEq] at H
       obtain⟨rfl,rfl⟩:=H
       go_wp2
       go_ret2
       exact⟨by first|rfl|(simp[errW_none,errW_some] <;> rfl)|(simp[*,errW_none,errW_some] <;> rfl),by repeat(first|(with_reducible first|exact HB.out|apply bA|apply bN|apply bD)|exact HB.out)⟩

/-! ### sum_carry: function 57 -/
def sum_carry.l0:Nat→Int→Option (Int)
 | 0,_=>none
 | k+1,x0=>if x0 > 65535 then (sum_carry.l0 k (wrap64 ((x0 / 65536)+(Go.bits .and .i64 x0 65535)))) else (some x0)
def sum_carry.f (k:Nat) (a0:Int):Option (Int):=sum_carry.l0 k a0
theorem sum_carry.mono_l:∀ k,(∀ y0,LeO (sum_carry.l0 k y0) (sum_carry.l0 (k+1) y0))
 | 0=>fun _ r h=>by simp[sum_carry.l0] at h
 | k+1=>by
  have ih0:=sum_carry.mono_l k
  ·intro y0
   unfold sum_carry.l0
   repeat' first
   | (with_reducible exact ih0 _)
   | (with_reducible exact LeO.refl _)
   | (with_reducible exact LeO.none _)
   | (with_reducible refine LeO.ite ?_ ?_)
   | (with_reducible refine LeO.bind ?_ (fun _=>?_))
   | exact ih0 _
   | exact LeO.none _
   | refine LeO.ite ?_ ?_
   | refine LeO.bind ?_ (fun _=>?_)
theorem sum_carry.mono:∀ a0 k,LeO (sum_carry.f k a0) (sum_carry.f (k+1) a0):=by
 intro a0 k
 have ih0:=sum_carry.mono_l k
 unfold sum_carry.f
 repeat' first
   | (with_reducible exact ih0 _)
   | (with_reducible exact LeO.refl _)
   | (with_reducible exact LeO.none _)
   | (with_reducible refine LeO.ite ?_ ?_)
   | (with_reducible refine LeO.bind ?_ (fun _=>?_))
   | exact ih0 _
   | exact LeO.none _
   | refine LeO.ite ?_ ?_
   | refine LeO.bind ?_ (fun _=>?_)
set_option maxHeartbeats 8000000 in
set_option maxRecDepth 100000 in
theorem sum_carry.calls (k:Nat) (a0:Int) (r:Int) (w:World) (h:sum_carry.f k a0=some r) :
  Calls Try.prog 57 #[.int .i64 a0] w fun e w'=>e=.returned (.int .i64 r)∧Drawn0 w w':=by
 have H:(sum_carry.l0 k a0)=some r:=h
 clear h
 have H':=mkA H
 clear H
 go_enter Try.func57,Try.ntmps57
 go_wp2
 go_loopg [0] k (fun kq v0 w'=>∃ (x0_1:Int),v0=.int .i64 x0_1∧Aside0 (sum_carry.l0 kq x0_1=some r)∧Aside0 (kq≤k)∧Drawn0 w w')
 case atStart=>exact⟨(a0),(by first|rfl|(simp;done)|(simp[*];done)),H',⟨Nat.le_refl _⟩,by repeat(first|exact Drawn0.refl _|apply Drawn0.step)⟩
 case round =>
  clear H'
  obtain⟨x0_1,rfl,HA,HK1,⟨m1,rfl⟩⟩:=hrel
  cases gk with
  | zero=>exact absurd HA.out (by simp[sum_carry.l0])
  | succ k1 =>
   have H:=HA.out
   clear HA
   simp only[sum_carry.l0] at H
   by_cases c2:x0_1 > 65535
   ·rw[if_pos c2] at H
    have c2b0:decide (65535 < x0_1)=true:=decide_eq_true c2
    clear c2
    have H':=mkA H
    clear H
    go_wp2
    go_roundg k1
    case measure=>have:=HK1.out;omega
    case rel=>exact⟨(wrap64 ((x0_1 / 65536)+(Go.bits .and .i64 x0_1 65535))),(by first|rfl|(simp;done)|(simp[*];done)),H',⟨by have:=HK1.out;omega⟩,by repeat(first|exact Drawn0.refl _|apply Drawn0.step)⟩
   ·rw[if_neg c2] at H
    have c2b0:decide (65535 < x0_1)=false:=decide_eq_false c2
    clear c2
    obtain rfl:=Option.some.inj H
    go_wp2
    go_ret
    exact⟨by first|rfl|(simp;done)|(simp[*];done),by repeat(first|exact Drawn0.refl _|apply Drawn0.step)⟩

/-! ### sum_total: function 41 -/
mutual
def sum_total.l0:Nat→Int→Int→List ByteArray→Int→Int→Option (Int)
 | 0,_,_,_,_,_=>none
 | k+1,x3,x4,x8,x9,x10=>if x10 < x9 then (if 0≤x10 then (if x10 < (x8.length:Int) then (sum_total.l1 k x3 x4 (rdOf ByteArray.empty x8 x10) x8 x9 x10 ((rdOf ByteArray.empty x8 x10).size:Int) 0) else (none)) else (none)) else ((sum_carry.f k x3).bind fun t194=>(some t194))
def sum_total.l1:Nat→Int→Int→ByteArray→List ByteArray→Int→Int→Int→Int→Option (Int)
 | 0,_,_,_,_,_,_,_,_=>none
 | k+1,x3,x4,x6,x8,x9,x10,x15,x16=>if x16 < x15 then (if 0≤x16 then (if x16 < (x6.size:Int) then (if 0≤(wrap64 (8 - (wrap64 ((Int.tmod x4 2) * 8)))) then (sum_total.l1 k (wrap64 (x3+(shl .i64 (wrap64 (bt x6 x16)) (wrap64 (8 - (wrap64 ((Int.tmod x4 2) * 8))))))) (wrap64 (x4+1)) x6 x8 x9 x10 x15 (wrap64 (x16+1))) else (none)) else (none)) else (none)) else (sum_total.l0 k x3 x4 x8 x9 (wrap64 (x10+1)))
end
def sum_total.f (k:Nat) (l0:List ByteArray):Option (Int):=sum_total.l0 k 0 0 l0 (l0.length:Int) 0
theorem sum_total.mono_l:∀ k,(∀ y0 y1 y2 y3 y4,LeO (sum_total.l0 k y0 y1 y2 y3 y4) (sum_total.l0 (k+1) y0 y1 y2 y3 y4))∧(∀ y0 y1 y2 y3 y4 y5 y6 y7,LeO (sum_total.l1 k y0 y1 y2 y3 y4 y5 y6 y7) (sum_total.l1 (k+1) y0 y1 y2 y3 y4 y5 y6 y7))
 | 0=>⟨fun _ _ _ _ _ r h=>by simp[sum_total.l0] at h,fun _ _ _ _ _ _ _ _ r h=>by simp[sum_total.l1] at h⟩
 | k+1=>by
  obtain⟨ih0,ih1⟩:=sum_total.mono_l k
  refine⟨?_,?_⟩
  ·intro y0 y1 y2 y3 y4
   unfold sum_total.l0
   repeat' first
   | (with_reducible exact ih0 _ _ _ _ _)
   | (with_reducible exact ih1 _ _ _ _ _ _ _ _)
   | (with_reducible exact sum_carry.mono _ _)
   | (with_reducible exact LeO.refl _)
   | (with_reducible exact LeO.none _)
   | (with_reducible refine LeO.ite ?_ ?_)
   | (with_reducible refine LeO.bind ?_ (fun _=>?_))
   | exact ih0 _ _ _ _ _
   | exact ih1 _ _ _ _ _ _ _ _
   | exact sum_carry.mono _ _
   | exact LeO.none _
   | refine LeO.ite ?_ ?_
   | refine LeO.bind ?_ (fun _=>?_)
  ·intro y0 y1 y2 y3 y4 y5 y6 y7
   unfold sum_total.l1
   repeat' first
   | (with_reducible exact ih0 _ _ _ _ _)
   | (with_reducible exact ih1 _ _ _ _ _ _ _ _)
   | (with_reducible exact sum_carry.mono _ _)
   | (with_reducible exact LeO.refl _)
   | (with_reducible exact LeO.none _)
   | (with_reducible refine LeO.ite ?_ ?_)
   | (with_reducible refine LeO.bind ?_ (fun _=>?_))
   | exact ih0 _ _ _ _ _
   | exact ih1 _ _ _ _ _ _ _ _
   | exact sum_carry.mono _ _
   | exact LeO.none _
   | refine LeO.ite ?_ ?_
   | refine LeO.bind ?_ (fun _=>?_)
theorem sum_total.mono:∀ a0 k,LeO (sum_total.f k a0) (sum_total.f (k+1) a0):=by
 intro a0 k
 obtain⟨ih0,ih1⟩:=sum_total.mono_l k
 unfold sum_total.f
 repeat' first
   | (with_reducible exact ih0 _ _ _ _ _)
   | (with_reducible exact ih1 _ _ _ _ _ _ _ _)
   | (with_reducible exact sum_carry.mono _ _)
   | (with_reducible exact LeO.refl _)
   | (with_reducible exact LeO.none _)
   | (with_reducible refine LeO.ite ?_ ?_)
   | (with_reducible refine LeO.bind ?_ (fun _=>?_))
   | exact ih0 _ _ _ _ _
   | exact ih1 _ _ _ _ _ _ _ _
   | exact sum_carry.mono _ _
   | exact LeO.none _
   | refine LeO.ite ?_ ?_
   | refine LeO.bind ?_ (fun _=>?_)
set_option maxHeartbeats 8000000 in
set_option maxRecDepth 100000 in
theorem sum_total.calls (k:Nat) (A0:Option Addr) (c0:Nat) (l0:List ByteArray) (r:Int) (w:World) (hr0:Kd.C Kd.string w A0 l0.length l0) (hc0:l0.length≤c0) (h:sum_total.f k l0=some r) :
  Calls Try.prog 41 #[.slice A0 l0.length c0] w fun e w'=>e=.returned (.int .i64 r)∧Drawn0 w w':=by
 have HR0:=mkA hr0
 have HC0:=mkA hc0
 clear hr0 hc0
 have H:(sum_total.l0 k 0 0 l0 (l0.length:Int) 0)=some r:=h
 clear h
 have H':=mkA H
 clear H
 go_enter Try.func41,Try.ntmps41
 go_wp2
 go_loopg [3,4,10] k (fun kq v3 v4 v10 w'=>∃ (x3_1:Int) (x4_1:Int) (x10_1:Int),v3=.int .i64 x3_1∧v4=.int .i64 x4_1∧v10=.int .i64 x10_1∧Aside0 (sum_total.l0 kq x3_1 x4_1 l0 (l0.length:Int) x10_1=some r)∧Aside0 (kq≤k)∧Drawn0 w w')
 case atStart=>exact⟨(0),(0),(0),(by first|rfl|(simp;done)|(simp[*];done)),(by first|rfl|(simp;done)|(simp[*];done)),(by first|rfl|(simp;done)|(simp[*];done)),H',⟨Nat.le_refl _⟩,by repeat(first|exact Drawn0.refl _|apply Drawn0.step)⟩
 case round =>
  clear H'
  obtain⟨x3_1,x4_1,x10_1,rfl,rfl,rfl,HA,HK1,⟨m1,rfl⟩⟩:=hrel
  cases gk with
  | zero=>exact absurd HA.out (by simp[sum_total.l0])
  | succ k1 =>
   have H:=HA.out
   clear HA
   simp only[sum_total.l0] at H
   by_cases c2:x10_1 < (l0.length:Int)
   ·rw[if_pos c2] at H
    have c2b0:decide (x10_1 < (l0.length:Int))=true:=decide_eq_true c2
    clear c2
    by_cases c3:0≤x10_1
    ·rw[if_pos c3] at H
     have c3b0:decide (0≤x10_1)=true:=decide_eq_true c3
     clear c3
     by_cases c4:x10_1 < (l0.length:Int)
     ·rw[if_pos c4] at H
      have c4b0:decide (x10_1 < (l0.length:Int))=true:=decide_eq_true c4
      clear c4
      have H':=mkA H
      clear H
      have p193:0≤(x10_1:Int):=of_decide_eq_true (by first|(with_reducible assumption)|assumption)
      have q193:x10_1 < (l0.length:Int):=of_decide_eq_true (by first|(with_reducible assumption)|assumption)
      obtain⟨ad193,e193,hx193_0⟩:=Kd.at_string HR0.out x10_1 p193 q193
      cases e193
      replace p193:=eq_true p193
      replace q193:=eq_true q193
      go_wp2
      go_loopg [3,4,16] k1 (fun kq v3 v4 v16 w'=>∃ (x3_2:Int) (x4_2:Int) (x16_2:Int),v3=.int .i64 x3_2∧v4=.int .i64 x4_2∧v16=.int .i64 x16_2∧Aside0 (sum_total.l1 kq x3_2 x4_2 (rdOf ByteArray.empty l0 x10_1) l0 (l0.length:Int) x10_1 ((rdOf ByteArray.empty l0 x10_1).size:Int) x16_2=some r)∧Aside0 (kq≤k1)∧Drawn0 w w')
      case atStart=>exact⟨(x3_1),(x4_1),(0),(by first|rfl|(simp;done)|(simp[*];done)),(by first|rfl|(simp;done)|(simp[*];done)),(by first|rfl|(simp;done)|(simp[*];done)),H',⟨Nat.le_refl _⟩,by repeat(first|exact Drawn0.refl _|apply Drawn0.step)⟩
      case round =>
       clear H'
       try clear p1;try clear q1;try clear hx1;try clear c2;try clear c2b0;try clear p2;try clear c3;try clear c3b0;try clear c4;try clear c4b0;try clear hx193_0;try clear p193;try clear q193
       obtain⟨x3_2,x4_2,x16_2,rfl,rfl,rfl,HA,HK2,⟨m2,rfl⟩⟩:=hrel
       cases gk with
       | zero=>exact absurd HA.out (by simp[sum_total.l1])
       | succ k2 =>
        have H:=HA.out
        clear HA
        simp only[sum_total.l1] at H
        by_cases c5:x16_2 < ((rdOf ByteArray.empty l0 x10_1).size:Int)
        ·rw[if_pos c5] at H
         have c5b0:decide (x16_2 < ((rdOf ByteArray.empty l0 x10_1).size:Int))=true:=decide_eq_true c5
         clear c5
         by_cases c6:0≤x16_2
         ·rw[if_pos c6] at H
          have c6b0:decide (0≤x16_2)=true:=decide_eq_true c6
          clear c6
          by_cases c7:x16_2 < ((rdOf ByteArray.empty l0 x10_1).size:Int)
          ·rw[if_pos c7] at H
           have c7b0:decide (x16_2 < ((rdOf ByteArray.empty l0 x10_1).size:Int))=true:=decide_eq_true c7
           clear c7
           obtain⟨ji9,hji9⟩:∃ j_:Int,(wrap64 (8 - (wrap64 ((Int.tmod x4_2 2) * 8))))=j_:=⟨_,rfl⟩
           replace H:(if 0≤(ji9) then (sum_total.l1 k2 (wrap64 (x3_2+(shl .i64 (wrap64 (bt (rdOf ByteArray.empty l0 x10_1) x16_2)) (ji9)))) (wrap64 (x4_2+1)) (rdOf ByteArray.empty l0 x10_1) l0 (l0.length:Int) x10_1 ((rdOf ByteArray.empty l0 x10_1).size:Int) (wrap64 (x16_2+1))) else (none))=some r:=by first|(rw[hji9] at H;exact H)|(simp only[hji9] at H ⊢;exact H)
           have hji9w:(IntKind.i64.wrap (8 - (wrap64 ((Int.tmod x4_2 2) * 8))))=ji9:=(i64_w _).trans hji9
           by_cases c10:0≤(ji9)
           ·rw[if_pos c10] at H
            have c10b0:=eq_true c10
            have c10b1:decide (0≤(ji9))=true:=decide_eq_true c10
            clear c10
            obtain⟨ji11,hji11⟩:∃ j_:Int,(shl .i64 (wrap64 (bt (rdOf ByteArray.empty l0 x10_1) x16_2)) (ji9))=j_:=⟨_,rfl⟩
            replace H:(sum_total.l1 k2 (wrap64 (x3_2+(ji11))) (wrap64 (x4_2+1)) (rdOf ByteArray.empty l0 x10_1) l0 (l0.length:Int) x10_1 ((rdOf ByteArray.empty l0 x10_1).size:Int) (wrap64 (x16_2+1)))=some r:=by first|(rw[hji11] at H;exact H)|(simp only[hji11] at H ⊢;exact H)
            have hji11_:(IntKind.i64.wrap ((wrap64 (bt (rdOf ByteArray.empty l0 x10_1) x16_2)) * 2 ^ min (ji9).toNat 64))=ji11:=hji11
            have hji11z:(ji9)≤64→(IntKind.i64.wrap ((wrap64 (bt (rdOf ByteArray.empty l0 x10_1) x16_2)) * 2 ^ (ji9).toNat))=ji11:=shl_small hji11
            have hji11y:(wrap64 ((wrap64 (bt (rdOf ByteArray.empty l0 x10_1) x16_2)) * 2 ^ min (ji9).toNat 64))=ji11:=(i64_w _).symm.trans hji11_
            have hji11x:(ji9)≤64→(wrap64 ((wrap64 (bt (rdOf ByteArray.empty l0 x10_1) x16_2)) * 2 ^ (ji9).toNat))=ji11:=fun h_=>(i64_w _).symm.trans (hji11z h_)
            have H':=mkA H
            clear H
            have p8:0≤(x16_2:Int):=of_decide_eq_true (by first|(with_reducible assumption)|assumption)
            have q8:x16_2 < ((rdOf ByteArray.empty l0 x10_1).size:Int):=of_decide_eq_true (by first|(with_reducible assumption)|assumption)
            have hx8:=bt_at (rdOf ByteArray.empty l0 x10_1) x16_2
            replace p8:=eq_true p8
            replace q8:=eq_true q8
            go_wp2
            go_roundg k2
            case measure=>have:=HK1.out;have:=HK2.out;omega
            case rel=>exact⟨(wrap64 (x3_2+(ji11))),(wrap64 (x4_2+1)),(wrap64 (x16_2+1)),(by first|rfl|(simp;done)|(simp only[← hji11] <;> (first|rfl|simp))|(simp[*];done)),(by first|rfl|(simp;done)|(simp[*];done)),(by first|rfl|(simp;done)|(simp[*];done)),(by first|exact H'|(simp only[hji9,hji11];exact H')),⟨by have:=HK1.out;have:=HK2.out;omega⟩,by repeat(first|exact Drawn0.refl _|apply Drawn0.step)⟩
           ·rw[if_neg c10] at H
            exact absurd H (by simp)
          ·rw[if_neg c7] at H
           exact absurd H (by simp)
         ·rw[if_neg c6] at H
          exact absurd H (by simp)
        ·rw[if_neg c5] at H
         have c5b0:decide (x16_2 < ((rdOf ByteArray.empty l0 x10_1).size:Int))=false:=decide_eq_false c5
         clear c5
         have H':=mkA H
         clear H
         go_wp2
         go_roundg k2
         case measure=>have:=HK1.out;have:=HK2.out;omega
         case rel=>exact⟨(x3_2),(x4_2),(wrap64 (x10_1+1)),(by first|rfl|(simp;done)|(simp[*];done)),(by first|rfl|(simp;done)|(simp[*];done)),(by first|rfl|(simp;done)|(simp[*];done)),H',⟨by have:=HK1.out;have:=HK2.out;omega⟩,by repeat(first|exact Drawn0.refl _|apply Drawn0.step)⟩
     ·rw[if_neg c4] at H
      exact absurd H (by simp)
    ·rw[if_neg c3] at H
     exact absurd H (by simp)
   ·rw[if_neg c2] at H
    have c2b0:decide (x10_1 < (l0.length:Int))=false:=decide_eq_false c2
    clear c2
    replace H:=Option.bind_eq_some_iff.mp H
    obtain⟨t194,A120,H⟩:=H
    replace H:(some t194)=some r:=H
    have A12:=mkA A120
    clear A120
    obtain rfl:=Option.some.inj H
    go_wp2_with (first|((with_reducible refine gate_callee (f:=57) rfl ?_);refine goesL_ (some 35) rfl rfl Try.func57 (by kernel_rfl) rfl #[.int .i64 x3_1] rfl (by(try simp only[List.map_toArray,List.map_cons,List.map_nil]);first|done|rfl|(simp only[List.length_drop,List.length_take];rfl)) ?_;(with_reducible refine(sum_carry.calls k1 x3_1 t194 _ A12.out).mono ?_);rintro e w' ⟨rfl,⟨nd,rfl⟩⟩;refine⟨_,rfl,?_⟩))
    go_ret
    exact⟨by first|rfl|(simp;done)|(simp[*];done),by repeat(first|exact Drawn0.refl _|apply Drawn0.step)⟩

/-! ### sum_Whole: function 23 -/
def sum_Whole.f (k:Nat) (a0:ByteArray):Option (Bool):=(sum_total.f k (([a0]:List ByteArray))).bind fun t198=>(some (t198 == 65535))
theorem sum_Whole.mono:∀ a0 k,LeO (sum_Whole.f k a0) (sum_Whole.f (k+1) a0):=by
 intro a0 k
 unfold sum_Whole.f
 repeat' first
   | (with_reducible exact sum_total.mono _ _)
   | (with_reducible exact LeO.refl _)
   | (with_reducible exact LeO.none _)
   | (with_reducible refine LeO.ite ?_ ?_)
   | (with_reducible refine LeO.bind ?_ (fun _=>?_))
   | exact sum_total.mono _ _
   | exact LeO.none _
   | refine LeO.ite ?_ ?_
   | refine LeO.bind ?_ (fun _=>?_)
set_option maxHeartbeats 8000000 in
set_option maxRecDepth 100000 in
theorem sum_Whole.calls (k:Nat) (a0:ByteArray) (r:Bool) (w:World) (h:sum_Whole.f k a0=some r) :
  Calls Try.prog 23 #[.string a0] w fun e w'=>e=.returned (.bool r)∧Below w.heap.size w w':=by
 have HB:=mkA (Below.refl w.heap.size w)
 have H:((sum_total.f k (([a0]:List ByteArray))).bind fun t198=>(some (t198 == 65535)))=some r:=h
 clear h
 obtain⟨y195,hy195⟩:∃ y_:List ByteArray,y_=(([a0]:List ByteArray)):=⟨_,rfl⟩
 replace H:((sum_total.f k y195).bind fun t198=>(some (t198 == 65535)))=some r:=by first|(rw[hy195];with_reducible exact H)|(have H2_:=(Option.bind_some _ _).symm.trans H;rw[hy195];with_reducible exact H2_)|(have H2_:=(Option.bind_some _ _).symm.trans H;with_reducible exact H2_)|with_reducible exact H|(rw[hy195];exact H)|exact H
 have Ny195:=mkA hy195
 clear hy195
 replace H:=Option.bind_eq_some_iff.mp H
 obtain⟨t198,A20,H⟩:=H
 replace H:(some (t198 == 65535))=some r:=H
 have A2:=mkA A20
 clear A20
 obtain rfl:=Option.some.inj H
 go_enter Try.func23,Try.ntmps23
 go_wp2_with (first|((with_reducible refine gate_dst (N:=4) rfl ?_);refine Kd.R_lit Kd.string _ 9 ?hg (N:=4) ?hd (xs:=([a0]:List ByteArray)) (inner:=[.string a0]) (ok:=fun _=>True) (okp:=fun _=>True) ?hr ?hp (fun _ hk=>hk) trivial (Below.refl _ _) (Nat.le_refl _) (by simp) ?_;(case hd=>rfl);(case hg=>rfl);(case hr=>first|(go_simp;done)|(go_simp;rfl));(case hp=>exact(Reps.one (show Kd.M Kd.string _ _ _ a0 [.string a0] from rfl) (Reps.none _ _)));intro v196 w3 ho4 hb hg_ hnew_;clear hg_ hnew_;(first|rw[← Ny195.out] at ho4|(simp only[Int.reduceToNat] at ho4;rw[← Ny195.out] at ho4));have n0_:=mkA (Kd.R_lower ho4 (bZ (by repeat(first|(with_reducible first|exact HB.out|apply bA|apply bN|apply bD)|exact HB.out))));have n1_:=mkA (bT (by repeat(first|(with_reducible first|exact HB.out|apply bA|apply bN|apply bD)|exact HB.out)) hb);clear HB;have HO197:=n0_;have HB:=n1_;clear n0_ n1_;clear hb ho4;obtain⟨Ao5,co5,eo5⟩:=Kd.R_slice HO197.out;subst eo5)|((with_reducible refine gate_callee (f:=41) rfl ?_);refine goesL_ (some 5) rfl rfl Try.func41 (by kernel_rfl) rfl #[.slice Ao5 y195.length co5] rfl (by(try simp only[List.map_toArray,List.map_cons,List.map_nil]);first|done|rfl|(simp only[List.length_drop,List.length_take];rfl)) ?_;(with_reducible refine(sum_total.calls k _ _ y195 t198 _ ?side1 ?side2 A2.out).mono ?_);(case side1=>repeat(first|exact(Kd.R_reads' HO197.out).2.2|(with_reducible refine Kd.C_alloc ?_ _)|(with_reducible refine Kd.C_drewN ?_ _)|(with_reducible refine Kd.C_drew ?_)));(case side2=>exact(Kd.R_reads' HO197.out).2.1);rintro e w' ⟨rfl,⟨nd,rfl⟩⟩;refine⟨_,rfl,?_⟩))
 go_ret
 exact⟨by first|rfl|(simp[errW_none,errW_some] <;> rfl)|(simp[*,errW_none,errW_some] <;> rfl),by repeat(first|(with_reducible first|exact HB.out|apply bA|apply bN|apply bD)|exact HB.out)⟩

/-! ### seg_addresses: function 33 -/
def seg_addresses.f (a0:Int) (a1:Int):Option (Int):=(seq_Check.f a0).bind fun t199=>((seq_Check.f a1).bind fun t200=>(some (mx t199 t200)))
set_option maxHeartbeats 8000000 in
set_option maxRecDepth 100000 in
theorem seg_addresses.calls (a0:Int) (a1:Int) (r:Int) (w:World) (h:seg_addresses.f a0 a1=some r) :
  Calls Try.prog 33 #[.int .i64 a0,.int .i64 a1] w fun e w'=>e=.returned (.int .i64 r)∧Below w.heap.size w w':=by
 have HB:=mkA (Below.refl w.heap.size w)
 have H:((seq_Check.f a0).bind fun t199=>((seq_Check.f a1).bind fun t200=>(some (mx t199 t200))))=some r:=h
 clear h
 replace H:=Option.bind_eq_some_iff.mp H
 obtain⟨t199,A30,H⟩:=H
 replace H:((seq_Check.f a1).bind fun t200=>(some (mx t199 t200)))=some r:=H
 have A3:=mkA A30
 clear A30
 replace H:=Option.bind_eq_some_iff.mp H
 obtain⟨t200,A40,H⟩:=H
 replace H:(some (mx t199 t200))=some r:=H
 have A4:=mkA A40
 clear A40
 obtain⟨ji5,hji5⟩:∃ j_:Int,(mx t199 t200)=j_:=⟨_,rfl⟩
 replace H:(some ji5)=some r:=by first|(rw[hji5] at H;exact H)|(simp only[hji5] at H ⊢;exact H)
 (try rw[hji5] at A3)
 (try rw[hji5] at A4)
 have hji5_:(if t199 < t200 then t200 else t199)=ji5:=hji5
 obtain rfl:=Option.some.inj H
 go_enter Try.func33,Try.ntmps33
 go_wp2_with (first|((with_reducible refine gate_callee (f:=31) rfl ?_);refine goesL_ (some 6) rfl rfl Try.func31 (by kernel_rfl) rfl #[.int .i64 a0] rfl (by(try simp only[List.map_toArray,List.map_cons,List.map_nil]);first|done|rfl|(simp only[List.length_drop,List.length_take];rfl)) ?_;(with_reducible refine(seq_Check.calls a0 t199 _ A3.out).mono ?_);rintro e w' ⟨rfl,⟨nd,rfl⟩⟩;refine⟨_,rfl,?_⟩)|((with_reducible refine gate_callee (f:=31) rfl ?_);refine goesL_ (some 8) rfl rfl Try.func31 (by kernel_rfl) rfl #[.int .i64 a1] rfl (by(try simp only[List.map_toArray,List.map_cons,List.map_nil]);first|done|rfl|(simp only[List.length_drop,List.length_take];rfl)) ?_;(with_reducible refine(seq_Check.calls a1 t200 _ A4.out).mono ?_);rintro e w' ⟨rfl,⟨nd,rfl⟩⟩;refine⟨_,rfl,?_⟩))
 go_ret
 exact⟨by first|rfl|(simp[errW_none,errW_some] <;> rfl)|(simp only[← hji5];first|rfl|(simp[errW_none,errW_some] <;> rfl))|(simp[*,errW_none,errW_some] <;> rfl),by repeat(first|(with_reducible first|exact HB.out|apply bA|apply bN|apply bD)|exact HB.out)⟩

/-! ### opts_known: function 58 -/
mutual
def opts_known.j0:Nat→Int→Bool→Option (Bool)
 | 0,_,_=>none
 | k+1,x3,x4=>if x4=true then (some true) else (if x3=5 then (opts_known.j1 k (x3 == 5)) else (opts_known.j1 k (x3 == 8)))
def opts_known.j1:Nat→Bool→Option (Bool)
 | 0,_=>none
 | k+1,x8=>if x8=true then (some true) else (some false)
end
def opts_known.f (k:Nat) (a0:Int):Option (Bool):=if a0=2 then (opts_known.j0 k a0 (a0 == 2)) else (if a0=3 then (opts_known.j0 k a0 (a0 == 3)) else (opts_known.j0 k a0 (a0 == 4)))
theorem opts_known.mono_l:∀ k,(∀ y0 y1,LeO (opts_known.j0 k y0 y1) (opts_known.j0 (k+1) y0 y1))∧(∀ y0,LeO (opts_known.j1 k y0) (opts_known.j1 (k+1) y0))
 | 0=>⟨fun _ _ r h=>by simp[opts_known.j0] at h,fun _ r h=>by simp[opts_known.j1] at h⟩
 | k+1=>by
  obtain⟨ih0,ih1⟩:=opts_known.mono_l k
  refine⟨?_,?_⟩
  ·intro y0 y1
   unfold opts_known.j0
   repeat' first
   | (with_reducible exact ih0 _ _)
   | (with_reducible exact ih1 _)
   | (with_reducible exact LeO.refl _)
   | (with_reducible exact LeO.none _)
   | (with_reducible refine LeO.ite ?_ ?_)
   | (with_reducible refine LeO.bind ?_ (fun _=>?_))
   | exact ih0 _ _
   | exact ih1 _
   | exact LeO.none _
   | refine LeO.ite ?_ ?_
   | refine LeO.bind ?_ (fun _=>?_)
  ·intro y0
   unfold opts_known.j1
   repeat' first
   | (with_reducible exact ih0 _ _)
   | (with_reducible exact ih1 _)
   | (with_reducible exact LeO.refl _)
   | (with_reducible exact LeO.none _)
   | (with_reducible refine LeO.ite ?_ ?_)
   | (with_reducible refine LeO.bind ?_ (fun _=>?_))
   | exact ih0 _ _
   | exact ih1 _
   | exact LeO.none _
   | refine LeO.ite ?_ ?_
   | refine LeO.bind ?_ (fun _=>?_)
theorem opts_known.mono:∀ a0 k,LeO (opts_known.f k a0) (opts_known.f (k+1) a0):=by
 intro a0 k
 obtain⟨ih0,ih1⟩:=opts_known.mono_l k
 unfold opts_known.f
 repeat' first
   | (with_reducible exact ih0 _ _)
   | (with_reducible exact ih1 _)
   | (with_reducible exact LeO.refl _)
   | (with_reducible exact LeO.none _)
   | (with_reducible refine LeO.ite ?_ ?_)
   | (with_reducible refine LeO.bind ?_ (fun _=>?_))
   | exact ih0 _ _
   | exact ih1 _
   | exact LeO.none _
   | refine LeO.ite ?_ ?_
   | refine LeO.bind ?_ (fun _=>?_)
set_option maxHeartbeats 8000000 in
set_option maxRecDepth 100000 in
theorem opts_known.calls (k:Nat) (a0:Int) (r:Bool) (w:World) (h:opts_known.f k a0=some r) :
  Calls Try.prog 58 #[.int .i64 a0] w fun e w'=>e=.returned (.bool r)∧Drawn0 w w':=by
 have H:(if a0=2 then (opts_known.j0 k a0 (a0 == 2)) else (if a0=3 then (opts_known.j0 k a0 (a0 == 3)) else (opts_known.j0 k a0 (a0 == 4))))=some r:=h
 clear h
 have HC2:=mkA H
 clear H
 go_enter Try.func58,Try.ntmps58
 go_upto_if 4 with (fail)
 go_cut [4] (fun v4 wc=>∃ (kq:Nat) (x4_1:Bool),v4=.bool x4_1∧Aside0 (opts_known.j0 kq a0 x4_1=some r)∧Aside0 (kq≤k)∧Drawn0 w wc)
 case first =>
  have H:=HC2.out
  clear HC2
  by_cases c3:a0=2
  ·rw[if_pos c3] at H
   have c3b0:(a0 == 2)=true:=beq_iff_eq.mpr c3
   have c3b1:(a0 != 2)=false:=bne_eq_false_iff_eq.mpr c3
   clear c3
   (first|rw[c3b0]|(simp only[i64_w,i32_w];rw[c3b0])|rw[c3b1]|skip)
   have H':=mkA H
   clear H
   go_wp2
   go_meet
   case rel=>exact⟨_,((a0 == 2)),(by first|rfl|(simp;done)|(simp[*];done)),H',⟨by first|omega|exact Nat.le_refl _⟩,by repeat(first|exact Drawn0.refl _|apply Drawn0.step)⟩
  ·rw[if_neg c3] at H
   have c3b0:(a0 == 2)=false:=beq_eq_false_iff_ne.mpr c3
   have c3b1:(a0 != 2)=true:=bne_iff_ne.mpr c3
   (first|rw[c3b0]|(simp only[i64_w,i32_w];rw[c3b0])|rw[c3b1]|skip)
   by_cases c4:a0=3
   ·rw[if_pos c4] at H
    have c4b0:(a0 == 3)=true:=beq_iff_eq.mpr c4
    have c4b1:(a0 != 3)=false:=bne_eq_false_iff_eq.mpr c4
    clear c4
    have H':=mkA H
    clear H
    go_wp2
    go_meet
    case rel=>exact⟨_,((a0 == 3)),(by first|rfl|(simp;done)|(simp[*];done)),H',⟨by first|omega|exact Nat.le_refl _⟩,by repeat(first|exact Drawn0.refl _|apply Drawn0.step)⟩
   ·rw[if_neg c4] at H
    have c4b0:(a0 == 3)=false:=beq_eq_false_iff_ne.mpr c4
    have c4b1:(a0 != 3)=true:=bne_iff_ne.mpr c4
    have H':=mkA H
    clear H
    go_wp2
    go_meet
    case rel=>exact⟨_,((a0 == 4)),(by first|rfl|(simp;done)|(simp[*];done)),H',⟨by first|omega|exact Nat.le_refl _⟩,by repeat(first|exact Drawn0.refl _|apply Drawn0.step)⟩
 case rest =>
  clear HC2
  try clear p2;try clear c3;try clear c3b0;try clear c3b1;try clear c4;try clear c4b0;try clear c4b1
  obtain⟨kq,x4_1,rfl,HA,HJ1,⟨mc1,rfl⟩⟩:=hcut
  cases kq with
  | zero=>exact absurd HA.out (by simp[opts_known.j0])
  | succ kj1 =>
   have H:=HA.out
   clear HA
   simp only[opts_known.j0] at H
   by_cases c5:x4_1=true
   ·subst c5
    have H1:(some true)=some r:=by rw[if_pos rfl] at H;exact H
    clear H
    have H:=H1
    clear H1
    obtain rfl:=Option.some.inj H
    go_wp2
    go_ret
    exact⟨by first|rfl|(simp;done)|(simp[*];done),by repeat(first|exact Drawn0.refl _|apply Drawn0.step)⟩
   ·replace c5:=Bool.eq_false_iff.mpr c5
    subst c5
    have H1:(if a0=5 then (opts_known.j1 kj1 (a0 == 5)) else (opts_known.j1 kj1 (a0 == 8)))=some r:=by rw[if_neg (show ¬ (false=true) by decide)] at H;exact H
    clear H
    have H:=H1
    clear H1
    have HC6:=mkA H
    clear H
    go_upto_if 8 with (fail)
    go_cut [8] (fun v8 wc=>∃ (kq:Nat) (x8_5:Bool),v8=.bool x8_5∧Aside0 (opts_known.j1 kq x8_5=some r)∧Aside0 (kq≤kj1)∧Drawn0 w wc)
    case first =>
     have H:=HC6.out
     clear HC6
     by_cases c7:a0=5
     ·rw[if_pos c7] at H
      have c7b0:(a0 == 5)=true:=beq_iff_eq.mpr c7
      have c7b1:(a0 != 5)=false:=bne_eq_false_iff_eq.mpr c7
      clear c7
      (first|rw[c7b0]|(simp only[i64_w,i32_w];rw[c7b0])|rw[c7b1]|skip)
      have H':=mkA H
      clear H
      go_wp2
      go_meet
      case rel=>exact⟨_,((a0 == 5)),(by first|rfl|(simp;done)|(simp[*];done)),H',⟨by have:=HJ1.out;first|omega|exact Nat.le_refl _⟩,by repeat(first|exact Drawn0.refl _|apply Drawn0.step)⟩
     ·rw[if_neg c7] at H
      have c7b0:(a0 == 5)=false:=beq_eq_false_iff_ne.mpr c7
      have c7b1:(a0 != 5)=true:=bne_iff_ne.mpr c7
      (first|rw[c7b0]|(simp only[i64_w,i32_w];rw[c7b0])|rw[c7b1]|skip)
      have H':=mkA H
      clear H
      go_wp2
      go_meet
      case rel=>exact⟨_,((a0 == 8)),(by first|rfl|(simp;done)|(simp[*];done)),H',⟨by have:=HJ1.out;first|omega|exact Nat.le_refl _⟩,by repeat(first|exact Drawn0.refl _|apply Drawn0.step)⟩
    case rest =>
     clear HC6
     try clear c1;try clear p2;try clear c3;try clear c3b0;try clear c3b1;try clear c4;try clear c4b0;try clear c4b1;try clear c5;try clear c7;try clear c7b0;try clear c7b1;try clear p2
     obtain⟨kq,x8_5,rfl,HA,HJ5,⟨mc5,rfl⟩⟩:=hcut
     cases kq with
     | zero=>exact absurd HA.out (by simp[opts_known.j1])
     | succ kj5 =>
      have H:=HA.out
      clear HA
      simp only[opts_known.j1] at H
      by_cases c8:x8_5=true
      ·subst c8
       have H1:(some true)=some r:=by rw[if_pos rfl] at H;exact H
       clear H
       have H:=H1
       clear H1
       obtain rfl:=Option.some.inj H
       go_wp2
       go_ret
       exact⟨by first|rfl|(simp;done)|(simp[*];done),by repeat(first|exact Drawn0.refl _|apply Drawn0.step)⟩
      ·replace c8:=Bool.eq_false_iff.mpr c8
       subst c8
       have H1:(some false)=some r:=by rw[if_neg (show ¬ (false=true) by decide)] at H;exact H
       clear H
       have H:=H1
       clear H1
       obtain rfl:=Option.some.inj H
       go_wp2
       go_ret
       exact⟨by first|rfl|(simp;done)|(simp[*];done),by repeat(first|exact Drawn0.refl _|apply Drawn0.step)⟩


/-! ### sum_Get: function 44 (by hand) -/
def sum_Get.f (a0:ByteArray) (a1 a2:Int):Option (Int × Int):=if a2 < 1 then some (0,1) else if 6 < a2 then some (0,1) else if a1 < 0 then some (0,1) else if wrap64 ((a0.size:Int) - a2) < a1 then some (0,1) else if 0≤wrap64 (a1+a2)∧a1≤wrap64 (a1+a2)∧wrap64 (a1+a2)≤(a0.size:Int) then some (orNum (cutS a0 a1.toNat (wrap64 (a1+a2)).toNat).data.toList,0) else none
set_option maxHeartbeats 1000000 in
set_option maxRecDepth 100000 in
theorem sum_Get.calls (a0:ByteArray) (a1 a2:Int) (r1 r2:Int) (w:World) (h:sum_Get.f a0 a1 a2=some (r1,r2)) :
  Calls Try.prog 44 #[.string a0,.int .i64 a1,.int .i64 a2] w fun e w'=>e=.returned (.tuple #[.int .i64 r1,.int .i64 r2])∧Below w.heap.size w w':=by
 have HB:=mkA (Below.refl w.heap.size w)
 unfold sum_Get.f at h
 by_cases c1:a2 < 1
 ·rw[if_pos c1] at h
  obtain⟨rfl,rfl⟩:=Prod.mk.inj (Option.some.inj h)
  clear h
  go_enter Try.func44,Try.ntmps44
  go_wp2
  go_ret2
  exact⟨rfl,HB.out⟩
 rw[if_neg c1] at h
 have d1:decide (a2 < 1)=false:=decide_eq_false c1
 by_cases c2:6 < a2
 ·rw[if_pos c2] at h
  obtain⟨rfl,rfl⟩:=Prod.mk.inj (Option.some.inj h)
  clear h
  go_enter Try.func44,Try.ntmps44
  go_wp2
  go_ret2
  exact⟨rfl,HB.out⟩
 rw[if_neg c2] at h
 have d2:decide (6 < a2)=false:=decide_eq_false c2
 by_cases c3:a1 < 0
 ·rw[if_pos c3] at h
  obtain⟨rfl,rfl⟩:=Prod.mk.inj (Option.some.inj h)
  clear h
  go_enter Try.func44,Try.ntmps44
  go_wp2
  go_ret2
  exact⟨rfl,HB.out⟩
 rw[if_neg c3] at h
 have d3:decide (a1 < 0)=false:=decide_eq_false c3
 by_cases c4:wrap64 ((a0.size:Int) - a2) < a1
 ·rw[if_pos c4] at h
  obtain⟨rfl,rfl⟩:=Prod.mk.inj (Option.some.inj h)
  clear h
  have d4:decide (wrap64 ((a0.size:Int) - a2) < a1)=true:=decide_eq_true c4
  go_enter Try.func44,Try.ntmps44
  go_wp2
  go_ret2
  exact⟨rfl,HB.out⟩
 rw[if_neg c4] at h
 have d4:decide (wrap64 ((a0.size:Int) - a2) < a1)=false:=decide_eq_false c4
 by_cases c5:0≤wrap64 (a1+a2)∧a1≤wrap64 (a1+a2)∧wrap64 (a1+a2)≤(a0.size:Int)
 ·rw[if_pos c5] at h
  obtain⟨rfl,rfl⟩:=Prod.mk.inj (Option.some.inj h)
  clear h
  obtain⟨m,hm⟩:∃ m,wrap64 (a1+a2)=m:=⟨_,rfl⟩
  rw[hm] at c5 ⊢
  obtain⟨c5,c6,c7⟩:=c5
  have p0:0≤a1:=by omega
  have hcv:=fun (W:World) (s:ByteArray)=>Go.Lib.run_convert_string_bytes (P:=Try.prog) W 9 49 5 s Try.underlying9 Try.underlying49 Try.underlying5
  clear c1 c2 c3 c4
  go_enter Try.func44,Try.ntmps44
  go_wp2
  have hm2:m≤9223372036854775807:=by rw[← hm];unfold wrap64;omega
  have hsz:(cutS a0 a1.toNat m.toNat).size≤9223372036854775807:=by unfold cutS;rw[ByteArray.size_extract];omega
  clear hm hm2
  have HBW:=mkA (below_bytes (cutS a0 a1.toNat m.toNat) w 5)
  have HC:=fun j hj=>Go.Lib.bytesWorld_cell w 5 (cutS a0 a1.toNat m.toNat) j hj
  generalize Lib.bytesWorld w 5 (cutS a0 a1.toNat m.toNat)=W at HBW HC ⊢
  generalize hS:cutS a0 a1.toNat m.toNat=S at hsz HC ⊢
  have HC':=mkA HC
  have HS0:=mkA hS
  clear HC hS
  go_loop [8,37] (fun n i=>∃ k:Nat,k≤S.size∧i=.int .i64 k∧n=.int .i64 (orNum (S.data.toList.take k))) (fun _ i=>S.size - (intOf i).toNat)
  case atStart=>exact⟨0,Nat.zero_le _,rfl,rfl⟩
  case round =>
   obtain⟨k,hk,rfl,rfl⟩:=hrel
   by_cases hlt:k < S.size
   ·have hcell:=HC'.out k hlt
    have HS:=mkA (take_snoc S k hlt)
    go_wp2
    go_round
    case rel=>exact⟨k+1,by omega,by go_num,by rw[HS.out,orNum_snoc];simp[List.getD,hlt]⟩
    case measure=>simp[intOf];omega
   ·go_wp2
    go_ret2
    exact⟨by rw[HS0.out,List.take_of_length_le (by simp;omega)];rfl,HBW.out⟩
 ·rw[if_neg c5] at h
  cases h


end Go.Proofs.Ytakajeoeijnmhaa.PSegReads

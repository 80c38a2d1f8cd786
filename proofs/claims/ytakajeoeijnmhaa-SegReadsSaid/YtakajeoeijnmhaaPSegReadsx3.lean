-- Laid by this claim's own program over the print's words.
import Derived.Test.YtakajeoeijnmhaaPSegReadsx0
namespace Go.Proofs.Ytakajeoeijnmhaa.PSegReads
open Go.RowKit Go.Proofs.YtakajeoeijnmhaaW.PrintWords Go.Proofs.YtakajeoeijnmhaaW.PrintLast Go.Proofs.YtakajeoeijnmhaaW.PrintMore
attribute [local go_sem] max2_int min2_int max_two min_two max_three min_three max_four min_four max_five min_five extract_cut tmod_nat_lit   -- for this text's walks alone
set_option linter.unusedVariables false
set_option linter.unusedSimpArgs false

/-! ### sum_Put: function 40 -/
mutual
def sum_Put.j0:Nat→Int→Int→Bool→Option (ByteArray × Int)
 | 0,_,_,_=>none
 | k+1,x0,x1,x24=>if x24=true then (some ((⟨#[]⟩:ByteArray),1)) else (if 0≤x1 then (if (x1:Int).toNat≤281474976710656 then ((some (List.replicate (x1:Int).toNat 0:List Int)).bind fun y115=>(sum_Put.l0 k x0 x1 y115 (y115.length:Int) 0)) else (none)) else (none))
def sum_Put.l0:Nat→Int→Int→List Int→Int→Int→Option (ByteArray × Int)
 | 0,_,_,_,_,_=>none
 | k+1,x0,x1,x6,x28,x29=>if x29 < x28 then (if 0≤(wrap64 (8 * (wrap64 ((wrap64 (x1 - 1)) - x29)))) then (if 0≤x29 then (if x29 < (x6.length:Int) then (sum_Put.l0 k x0 x1 (x6.set (x29:Int).toNat ((shr .i64 x0 (wrap64 (8 * (wrap64 ((wrap64 (x1 - 1)) - x29))))) % 256)) x28 (wrap64 (x29+1))) else (none)) else (none)) else (none)) else (some (strOfNums x6,0))
end
def sum_Put.f (k:Nat) (a0:Int) (a1:Int):Option (ByteArray × Int):=if a1 < 1 then (sum_Put.j0 k a0 a1 true) else (if a1 > 6 then (sum_Put.j0 k a0 a1 true) else (if a0 < 0 then (sum_Put.j0 k a0 a1 true) else (if 0≤(wrap64 (8 * a1)) then (sum_Put.j0 k a0 a1 (decide ((shr .i64 a0 (wrap64 (8 * a1))) > 0))) else (none))))
theorem sum_Put.mono_l:∀ k,(∀ y0 y1 y2,LeO (sum_Put.j0 k y0 y1 y2) (sum_Put.j0 (k+1) y0 y1 y2))∧(∀ y0 y1 y2 y3 y4,LeO (sum_Put.l0 k y0 y1 y2 y3 y4) (sum_Put.l0 (k+1) y0 y1 y2 y3 y4))
 | 0=>⟨fun _ _ _ r h=>by simp[sum_Put.j0] at h,fun _ _ _ _ _ r h=>by simp[sum_Put.l0] at h⟩
 | k+1=>by
  obtain⟨ih0,ih1⟩:=sum_Put.mono_l k
  refine⟨?_,?_⟩
  ·intro y0 y1 y2
   unfold sum_Put.j0
   repeat' first
   | (with_reducible exact ih0 _ _ _)
   | (with_reducible exact ih1 _ _ _ _ _)
   | (with_reducible exact LeO.refl _)
   | (with_reducible exact LeO.none _)
   | (with_reducible refine LeO.ite ?_ ?_)
   | (with_reducible refine LeO.bind ?_ (fun _=>?_))
   | exact ih0 _ _ _
   | exact ih1 _ _ _ _ _
   | exact LeO.none _
   | refine LeO.ite ?_ ?_
   | refine LeO.bind ?_ (fun _=>?_)
  ·intro y0 y1 y2 y3 y4
   unfold sum_Put.l0
   repeat' first
   | (with_reducible exact ih0 _ _ _)
   | (with_reducible exact ih1 _ _ _ _ _)
   | (with_reducible exact LeO.refl _)
   | (with_reducible exact LeO.none _)
   | (with_reducible refine LeO.ite ?_ ?_)
   | (with_reducible refine LeO.bind ?_ (fun _=>?_))
   | exact ih0 _ _ _
   | exact ih1 _ _ _ _ _
   | exact LeO.none _
   | refine LeO.ite ?_ ?_
   | refine LeO.bind ?_ (fun _=>?_)
theorem sum_Put.mono:∀ a0 a1 k,LeO (sum_Put.f k a0 a1) (sum_Put.f (k+1) a0 a1):=by
 intro a0 a1 k
 obtain⟨ih0,ih1⟩:=sum_Put.mono_l k
 unfold sum_Put.f
 repeat' first
   | (with_reducible exact ih0 _ _ _)
   | (with_reducible exact ih1 _ _ _ _ _)
   | (with_reducible exact LeO.refl _)
   | (with_reducible exact LeO.none _)
   | (with_reducible refine LeO.ite ?_ ?_)
   | (with_reducible refine LeO.bind ?_ (fun _=>?_))
   | exact ih0 _ _ _
   | exact ih1 _ _ _ _ _
   | exact LeO.none _
   | refine LeO.ite ?_ ?_
   | refine LeO.bind ?_ (fun _=>?_)
set_option maxHeartbeats 8000000 in
set_option maxRecDepth 100000 in
theorem sum_Put.calls (k:Nat) (a0:Int) (a1:Int) (r1:ByteArray) (r2:Int) (w:World) (h:sum_Put.f k a0 a1=some (r1,r2)) :
  Calls Try.prog 40 #[.int .i64 a0,.int .i64 a1] w fun e w'=>e=.returned (.tuple #[.string r1,.int .i64 r2])∧Below w.heap.size w w':=by
 have HB:=mkA (Below.refl w.heap.size w)
 have H:(if a1 < 1 then (sum_Put.j0 k a0 a1 true) else (if a1 > 6 then (sum_Put.j0 k a0 a1 true) else (if a0 < 0 then (sum_Put.j0 k a0 a1 true) else (if 0≤(wrap64 (8 * a1)) then (sum_Put.j0 k a0 a1 (decide ((shr .i64 a0 (wrap64 (8 * a1))) > 0))) else (none)))))=some (r1,r2):=h
 clear h
 have HC3:=mkA H
 clear H
 go_enter Try.func40,Try.ntmps40
 go_upto_region 1 with (fail)
 go_cut [24] (fun v24 wc=>∃ (kq:Nat) (x24_2:Bool),v24=.bool x24_2∧Aside0 (sum_Put.j0 kq a0 a1 x24_2=some (r1,r2))∧Aside0 (kq≤k)∧Aside0 (Below w.heap.size w wc))
 case first =>
  have H:=HC3.out
  clear HC3
  by_cases c4:a1 < 1
  ·rw[if_pos c4] at H
   have c4b0:decide (a1 < 1)=true:=decide_eq_true c4
   clear c4
   (first|rw[c4b0]|(simp only[i64_w,i32_w];rw[c4b0])|rw[c4b1]|skip)
   have H':=mkA H
   clear H
   go_wp2
   go_meet
   case rel=>exact⟨_,(true),(by first|rfl|(simp;done)|(simp[*];done)),H',⟨by first|omega|exact Nat.le_refl _⟩,⟨by repeat(first|(with_reducible first|exact HB.out|apply bA|apply bN|apply bD)|exact HB.out)⟩⟩
  ·rw[if_neg c4] at H
   have c4b0:decide (a1 < 1)=false:=decide_eq_false c4
   clear c4
   (first|rw[c4b0]|(simp only[i64_w,i32_w];rw[c4b0])|rw[c4b1]|skip)
   by_cases c5:a1 > 6
   ·rw[if_pos c5] at H
    have c5b0:decide (6 < a1)=true:=decide_eq_true c5
    clear c5
    have H':=mkA H
    clear H
    go_wp2
    go_meet
    case rel=>exact⟨_,(true),(by first|rfl|(simp;done)|(simp[*];done)),H',⟨by first|omega|exact Nat.le_refl _⟩,⟨by repeat(first|(with_reducible first|exact HB.out|apply bA|apply bN|apply bD)|exact HB.out)⟩⟩
   ·rw[if_neg c5] at H
    have c5b0:decide (6 < a1)=false:=decide_eq_false c5
    clear c5
    by_cases c6:a0 < 0
    ·rw[if_pos c6] at H
     have c6b0:decide (a0 < 0)=true:=decide_eq_true c6
     clear c6
     have H':=mkA H
     clear H
     go_wp2
     go_meet
     case rel=>exact⟨_,(true),(by first|rfl|(simp;done)|(simp[*];done)),H',⟨by first|omega|exact Nat.le_refl _⟩,⟨by repeat(first|(with_reducible first|exact HB.out|apply bA|apply bN|apply bD)|exact HB.out)⟩⟩
    ·rw[if_neg c6] at H
     have c6b0:decide (a0 < 0)=false:=decide_eq_false c6
     clear c6
     obtain⟨ji7,hji7⟩:∃ j_:Int,(wrap64 (8 * a1))=j_:=⟨_,rfl⟩
     replace H:(if 0≤(ji7) then (sum_Put.j0 k a0 a1 (decide ((shr .i64 a0 (ji7)) > 0))) else (none))=some (r1,r2):=by first|(rw[hji7] at H;exact H)|(simp only[hji7] at H ⊢;exact H)
     have hji7w:(IntKind.i64.wrap (8 * a1))=ji7:=(i64_w _).trans hji7
     by_cases c8:0≤(ji7)
     ·rw[if_pos c8] at H
      have c8b0:=eq_true c8
      have c8b1:decide (0≤(ji7))=true:=decide_eq_true c8
      clear c8
      obtain⟨ji9,hji9⟩:∃ j_:Int,(shr .i64 a0 (ji7))=j_:=⟨_,rfl⟩
      replace H:(sum_Put.j0 k a0 a1 (decide ((ji9) > 0)))=some (r1,r2):=by first|(rw[hji9] at H;exact H)|(simp only[hji9] at H ⊢;exact H)
      have hji9_:(a0 / 2 ^ min (ji7).toNat 64)=ji9:=hji9
      have hji9z:(ji7)≤64→(a0 / 2 ^ (ji7).toNat)=ji9:=shr_small hji9
      have H':=mkA H
      clear H
      go_wp2
      go_meet
      case rel=>exact⟨_,(decide ((ji9) > 0)),(by first|rfl|(simp;done)|(simp only[← hji9] <;> (first|rfl|simp))|(simp[*];done)),(by first|exact H'|(simp only[hji7,hji9];exact H')),⟨by first|omega|exact Nat.le_refl _⟩,⟨by repeat(first|(with_reducible first|exact HB.out|apply bA|apply bN|apply bD)|exact HB.out)⟩⟩
     ·rw[if_neg c8] at H
      exact absurd H (by simp)
 case rest =>
  clear HC3
  try clear p2;try clear c4;try clear c4b0;try clear c4b1;try clear c5;try clear c5b0;try clear c6;try clear c6b0;try clear p6;try clear c8;try clear c8b0;try clear c8b1
  obtain⟨kq,x24_2,rfl,HA,HJ2,HB⟩:=hcut
  cases kq with
  | zero=>exact absurd HA.out (by simp[sum_Put.j0])
  | succ kj2 =>
   have H:=HA.out
   clear HA
   simp only[sum_Put.j0] at H
   by_cases c10:x24_2=true
   ·subst c10
    have H1:(some ((⟨#[]⟩:ByteArray),1))=some (r1,r2):=by rw[if_pos rfl] at H;exact H
    clear H
    have H:=H1
    clear H1
    simp only[Option.some.injEq,Prod.mk.injEq] at H
    obtain⟨rfl,rfl⟩:=H
    go_wp2
    go_ret2
    exact⟨by first|rfl|(simp[errW_none,errW_some] <;> rfl)|(simp[*,errW_none,errW_some] <;> rfl),by repeat(first|(with_reducible first|exact HB.out|apply bA|apply bN|apply bD)|exact HB.out)⟩
   ·replace c10:=Bool.eq_false_iff.mpr c10
    subst c10
    have H1:(if 0≤a1 then (if (a1:Int).toNat≤281474976710656 then ((some (List.replicate (a1:Int).toNat 0:List Int)).bind fun y115=>(sum_Put.l0 kj2 a0 a1 y115 (y115.length:Int) 0)) else (none)) else (none))=some (r1,r2):=by rw[if_neg (show ¬ (false=true) by decide)] at H;exact H
    clear H
    have H:=H1
    clear H1
    by_cases c11:0≤a1
    ·rw[if_pos c11] at H
     have c11b0:=eq_true c11
     have c11b1:decide (0≤a1)=true:=decide_eq_true c11
     clear c11
     by_cases c12:(a1:Int).toNat≤281474976710656
     ·rw[if_pos c12] at H
      have c12b0:=eq_true c12
      have c12b1:decide ((a1:Int).toNat≤281474976710656)=true:=decide_eq_true c12
      clear c12
      obtain⟨y115,hy115⟩:∃ y_:List Int,y_=(List.replicate (a1:Int).toNat 0):=⟨_,rfl⟩
      replace H:(sum_Put.l0 kj2 a0 a1 y115 (y115.length:Int) 0)=some (r1,r2):=by first|(rw[hy115];with_reducible exact H)|(have H2_:=(Option.bind_some _ _).symm.trans H;rw[hy115];with_reducible exact H2_)|(have H2_:=(Option.bind_some _ _).symm.trans H;with_reducible exact H2_)|with_reducible exact H|(rw[hy115];exact H)|exact H
      have Ny115:=mkA hy115
      clear hy115
      have H':=mkA H
      clear H
      go_wp2_with (first|((with_reducible refine gate_dst (N:=26) rfl ?_);refine Kd.R_make (Kd.int .u8) _ 5 rfl (N:=26) rfl 49 _ _ rfl a1 rfl rfl Try.underlying49 (.int .u8 0) 1 info5 rfl (by decide) (by omega) 0 (ok:=fun _=>True) (okp:=fun _=>True) rfl (fun _ hk=>hk) trivial (of_decide_eq_true (by first|(with_reducible assumption)|assumption)) (Nat.le_trans (Nat.mul_le_mul_right _ (of_decide_eq_true (by first|(with_reducible assumption)|assumption):a1.toNat≤281474976710656)) (by omega)) (Below.refl _ _) (Nat.le_refl _) ?_;intro v116 w13 ho14 hb hg_ hnew_;clear hg_ hnew_;(first|rw[← Ny115.out] at ho14|(simp only[Int.reduceToNat] at ho14;rw[← Ny115.out] at ho14));have n0_:=mkA (Kd.R_lower ho14 (bZ (by repeat(first|(with_reducible first|exact HB.out|apply bA|apply bN|apply bD)|exact HB.out))));have n1_:=mkA (bT (by repeat(first|(with_reducible first|exact HB.out|apply bA|apply bN|apply bD)|exact HB.out)) hb);clear HB;have HO117:=n0_;have HB:=n1_;clear n0_ n1_;clear hb ho14;obtain⟨Ao15,co15,eo15⟩:=Kd.R_slice HO117.out;subst eo15))
      go_loopg [29] kj2 (fun kq v29 w'=>∃ (x6_2:List Int) (x29_2:Int),v29=.int .i64 x29_2∧Aside0 (sum_Put.l0 kq a0 a1 x6_2 (y115.length:Int) x29_2=some (r1,r2))∧Aside0 (kq≤kj2)∧Aside0 (Kd.R (Kd.int .u8) 5 w' w.heap.size (fun _=>True) (.slice Ao15 y115.length co15) x6_2)∧Aside0 (Below w.heap.size w w'))
      case atStart=>exact⟨(y115),(0),(by first|rfl|(simp;done)|(simp[*];done)),H',⟨Nat.le_refl _⟩,⟨by(with_reducible repeat(first|apply Kd.R_alloc|apply Kd.R_drewN|apply Kd.R_drew));exact HO117.out⟩,⟨by repeat(first|(with_reducible first|exact HB.out|apply bA|apply bN|apply bD)|exact HB.out)⟩⟩
      case round =>
       clear H'
       try clear c1;try clear p2;try clear c4;try clear c4b0;try clear c4b1;try clear c5;try clear c5b0;try clear c6;try clear c6b0;try clear p6;try clear c8;try clear c8b0;try clear c8b1;try clear c10;try clear c11;try clear c11b0;try clear c11b1;try clear c12;try clear c12b0;try clear c12b1;try clear p2;try clear p6
       obtain⟨x6_2,x29_2,rfl,HA,HK2,HO_6,HB⟩:=hrel
       have hl6_2:=(Kd.R_reads' HO_6.out).1
       rw[hl6_2] at HO_6
       (try simp only[hl6_2])
       cases gk with
       | zero=>exact absurd HA.out (by simp[sum_Put.l0])
       | succ k2 =>
        have H:=HA.out
        clear HA
        simp only[sum_Put.l0] at H
        by_cases c16:x29_2 < (y115.length:Int)
        ·rw[if_pos c16] at H
         have c16b0:decide (x29_2 < (y115.length:Int))=true:=decide_eq_true c16
         clear c16
         (try simp only[hl6_2] at c16b0)
         (try simp only[hl6_2] at c16b1)
         (try simp only[hl6_2] at c16b2)
         (try simp only[hl6_2] at c16b3)
         obtain⟨ji17,hji17⟩:∃ j_:Int,(wrap64 (8 * (wrap64 ((wrap64 (a1 - 1)) - x29_2))))=j_:=⟨_,rfl⟩
         replace H:(if 0≤(ji17) then (if 0≤x29_2 then (if x29_2 < (x6_2.length:Int) then (sum_Put.l0 k2 a0 a1 (x6_2.set (x29_2:Int).toNat ((shr .i64 a0 (ji17)) % 256)) (y115.length:Int) (wrap64 (x29_2+1))) else (none)) else (none)) else (none))=some (r1,r2):=by first|(rw[hji17] at H;exact H)|(simp only[hji17] at H ⊢;exact H)
         have hji17w:(IntKind.i64.wrap (8 * (wrap64 ((wrap64 (a1 - 1)) - x29_2))))=ji17:=(i64_w _).trans hji17
         by_cases c18:0≤(ji17)
         ·rw[if_pos c18] at H
          have c18b0:=eq_true c18
          have c18b1:decide (0≤(ji17))=true:=decide_eq_true c18
          clear c18
          obtain⟨ji19,hji19⟩:∃ j_:Int,(shr .i64 a0 (ji17))=j_:=⟨_,rfl⟩
          replace H:(if 0≤x29_2 then (if x29_2 < (x6_2.length:Int) then (sum_Put.l0 k2 a0 a1 (x6_2.set (x29_2:Int).toNat ((ji19) % 256)) (y115.length:Int) (wrap64 (x29_2+1))) else (none)) else (none))=some (r1,r2):=by first|(rw[hji19] at H;exact H)|(simp only[hji19] at H ⊢;exact H)
          have hji19_:(a0 / 2 ^ min (ji17).toNat 64)=ji19:=hji19
          have hji19z:(ji17)≤64→(a0 / 2 ^ (ji17).toNat)=ji19:=shr_small hji19
          by_cases c20:0≤x29_2
          ·rw[if_pos c20] at H
           have c20b0:decide (0≤x29_2)=true:=decide_eq_true c20
           clear c20
           by_cases c21:x29_2 < (x6_2.length:Int)
           ·rw[if_pos c21] at H
            have c21b0:decide (x29_2 < (x6_2.length:Int))=true:=decide_eq_true c21
            clear c21
            (try simp only[hl6_2] at c21b0)
            (try simp only[hl6_2] at c21b1)
            (try simp only[hl6_2] at c21b2)
            (try simp only[hl6_2] at c21b3)
            obtain⟨y118,hy118⟩:∃ y_:List Int,y_=(x6_2.set (x29_2:Int).toNat ((ji19) % 256)):=⟨_,rfl⟩
            replace H:(sum_Put.l0 k2 a0 a1 y118 (y115.length:Int) (wrap64 (x29_2+1)))=some (r1,r2):=by first|(rw[hy118];with_reducible exact H)|(have H2_:=(Option.bind_some _ _).symm.trans H;rw[hy118];with_reducible exact H2_)|(have H2_:=(Option.bind_some _ _).symm.trans H;with_reducible exact H2_)|with_reducible exact H|(rw[hy118];exact H)|exact H
            have Ny118:=mkA hy118
            clear hy118
            have H':=mkA H
            clear H
            have p22:0≤(x29_2:Int):=of_decide_eq_true (by first|(with_reducible assumption)|assumption)
            have q22:(x29_2:Int) < ((x6_2.length:Int):Int):=of_decide_eq_true (by first|(with_reducible assumption)|assumption)
            obtain⟨go22,co22,eo22,gb22,gl22,cl22,HG22⟩:=Kd.R_form HO_6.out (by omega)
            (first|cases eo22|(injection eo22 with ea_ en_ ec_;(first|subst ea_|(injection ea_ with ea_;subst ea_));subst ec_;clear en_))
            have GB22:=mkA gb22
            have GG22:=mkA HG22
            clear gb22 gl22 HG22
            obtain⟨hx22_0,hf22_0⟩:=Kd.R_celln 0 HO_6.out (x29_2:Int) p22 q22
            replace p22:=eq_true p22
            replace q22:=eq_true q22
            have HP23:=Kd.R_putg HO_6.out (x29_2:Int) ((ji19) % 256)
            go_wp2_with (first|((with_reducible refine gate_store (t:=5) (p:=42) rfl ?_);refine store_event (t:=5) (p:=42) (v:=?vo_w24) (w1:=(wr.setCell ⟨go22,(x29_2:Int).toNat,none⟩ (.int .u8 ((ji19) % 256)))) ?hg ?ho ?hn ?hr ?_;(case ho=>rfl);(case hg=>rfl);(case hn=>rfl);(case hr=>first|(go_simp;done)|(go_simp;rfl));intro w24 hw;have hg:wr.grownBy w24 (some go22):=(by rw[hw];exact HP23.2);have hp_:Kd.R (Kd.int .u8) 5 w24 w.heap.size (fun _=>True) (.slice (some ⟨go22,0,none⟩) x6_2.length co15) y118:=(by rw[hw,Ny118.out];exact HP23.1);clear HP23;have n0_:=mkA (hp_);have n1_:=mkA ((by rw[hw];exact bS (HB.out) GB22.out:Below w.heap.size w w24));clear HO_6;clear HB;have HO_6:=n0_;have HB:=n1_;clear n0_ n1_;clear hg hw hp_))
            (try simp only[← hl6_2])
            go_roundg k2
            case measure=>have:=HJ2.out;have:=HK2.out;omega
            case rel=>exact⟨(y118),(wrap64 (x29_2+1)),(by first|rfl|(simp;done)|(simp[*];done)),(by first|exact H'|(simp only[hji17,hji19];exact H')),⟨by have:=HJ2.out;have:=HK2.out;omega⟩,⟨by(try simp only[hl6_2]);(with_reducible repeat(first|apply Kd.R_alloc|apply Kd.R_drewN|apply Kd.R_drew));exact HO_6.out⟩,⟨by repeat(first|(with_reducible first|exact HB.out|apply bA|apply bN|apply bD)|exact HB.out)⟩⟩
           ·rw[if_neg c21] at H
            exact absurd H (by simp)
          ·rw[if_neg c20] at H
           exact absurd H (by simp)
         ·rw[if_neg c18] at H
          exact absurd H (by simp)
        ·rw[if_neg c16] at H
         have c16b0:decide (x29_2 < (y115.length:Int))=false:=decide_eq_false c16
         clear c16
         (try simp only[hl6_2] at c16b0)
         (try simp only[hl6_2] at c16b1)
         (try simp only[hl6_2] at c16b2)
         (try simp only[hl6_2] at c16b3)
         simp only[Option.some.injEq,Prod.mk.injEq] at H
         obtain⟨rfl,rfl⟩:=H
         have hcv25:=own_string (P:=Try.prog) Try.underlying49 Try.underlying5 Try.underlying9 (Kd.own_of_R HO_6.out)
         go_wp2
         go_ret2
         exact⟨by first|rfl|(simp[errW_none,errW_some] <;> rfl)|(simp[*,errW_none,errW_some] <;> rfl),by repeat(first|(with_reducible first|exact HB.out|apply bA|apply bN|apply bD)|exact HB.out)⟩
     ·rw[if_neg c12] at H
      exact absurd H (by simp)
    ·rw[if_neg c11] at H
     exact absurd H (by simp)

/-! ### opts_num: function 63 -/
def opts_num.f (k:Nat) (a0:Int) (a1:Int):Option (ByteArray):=(sum_Put.f k a0 a1).bind fun bt119=>(some bt119.1)
theorem opts_num.mono:∀ a0 a1 k,LeO (opts_num.f k a0 a1) (opts_num.f (k+1) a0 a1):=by
 intro a0 a1 k
 unfold opts_num.f
 repeat' first
   | (with_reducible exact sum_Put.mono _ _ _)
   | (with_reducible exact LeO.refl _)
   | (with_reducible exact LeO.none _)
   | (with_reducible refine LeO.ite ?_ ?_)
   | (with_reducible refine LeO.bind ?_ (fun _=>?_))
   | exact sum_Put.mono _ _ _
   | exact LeO.none _
   | refine LeO.ite ?_ ?_
   | refine LeO.bind ?_ (fun _=>?_)
set_option maxHeartbeats 8000000 in
set_option maxRecDepth 100000 in
theorem opts_num.calls (k:Nat) (a0:Int) (a1:Int) (r:ByteArray) (w:World) (h:opts_num.f k a0 a1=some r) :
  Calls Try.prog 63 #[.int .i64 a0,.int .i64 a1] w fun e w'=>e=.returned (.string r)∧Below w.heap.size w w':=by
 have HB:=mkA (Below.refl w.heap.size w)
 have H:((sum_Put.f k a0 a1).bind fun bt119=>(some bt119.1))=some r:=h
 clear h
 replace H:=Option.bind_eq_some_iff.mp H
 obtain⟨⟨t119,t120⟩,A30,H⟩:=H
 replace H:(some t119)=some r:=H
 have A3:=mkA A30
 clear A30
 obtain rfl:=Option.some.inj H
 go_enter Try.func63,Try.ntmps63
 go_wp2_with (first|((with_reducible refine gate_callee (f:=40) rfl ?_);refine goesL_ (some 10) rfl rfl Try.func40 (by kernel_rfl) rfl #[.int .i64 a0,.int .i64 a1] rfl (by(try simp only[List.map_toArray,List.map_cons,List.map_nil]);first|done|rfl|(simp only[List.length_drop,List.length_take];rfl)) ?_;(with_reducible refine(sum_Put.calls k a0 a1 t119 t120 _ A3.out).mono ?_);rintro e w4 ⟨rfl,hb⟩;refine⟨_,rfl,?_⟩;have n0_:=mkA (bT (by repeat(first|(with_reducible first|exact HB.out|apply bA|apply bN|apply bD)|exact HB.out)) hb);clear HB;have HB:=n0_;clear n0_;(try clear hb);(try clear hb2);(try clear hk);(try clear hi)))
 go_ret
 exact⟨by first|rfl|(simp[errW_none,errW_some] <;> rfl)|(simp[*,errW_none,errW_some] <;> rfl),by repeat(first|(with_reducible first|exact HB.out|apply bA|apply bN|apply bD)|exact HB.out)⟩

/-! ### bits_Mul32: function 74 -/
def bits_Mul32.f (a0:Int) (a1:Int):Option (Int × Int):=some (((IntKind.u64.wrap ((IntKind.u64.wrap (a0)) * (IntKind.u64.wrap (a1)))) / 4294967296) % 4294967296,(IntKind.u64.wrap ((IntKind.u64.wrap (a0)) * (IntKind.u64.wrap (a1)))) % 4294967296)
set_option maxHeartbeats 8000000 in
set_option maxRecDepth 100000 in
theorem bits_Mul32.calls (a0:Int) (a1:Int) (r1:Int) (r2:Int) (w:World) (h:bits_Mul32.f a0 a1=some (r1,r2)) :
  Calls Try.prog 74 #[.int .u32 a0,.int .u32 a1] w fun e w'=>e=.returned (.tuple #[.int .u32 r1,.int .u32 r2])∧Drawn0 w w':=by
 have H:(some (((IntKind.u64.wrap ((IntKind.u64.wrap (a0)) * (IntKind.u64.wrap (a1)))) / 4294967296) % 4294967296,(IntKind.u64.wrap ((IntKind.u64.wrap (a0)) * (IntKind.u64.wrap (a1)))) % 4294967296))=some (r1,r2):=h
 clear h
 simp only[Option.some.injEq,Prod.mk.injEq] at H
 obtain⟨rfl,rfl⟩:=H
 go_enter Try.func74,Try.ntmps74
 go_wp2
 go_ret2
 exact⟨by first|rfl|(simp;done)|(simp[*];done),by repeat(first|exact Drawn0.refl _|apply Drawn0.step)⟩

/-! ### bits_Mul64: function 75 -/
def bits_Mul64.f (a0:Int) (a1:Int):Option (Int × Int):=some (IntKind.u64.wrap ((IntKind.u64.wrap ((IntKind.u64.wrap ((a0 / 4294967296) * (a1 / 4294967296)))+((IntKind.u64.wrap ((IntKind.u64.wrap ((a0 / 4294967296) * (Go.bits .and .u64 a1 4294967295)))+((IntKind.u64.wrap ((Go.bits .and .u64 a0 4294967295) * (Go.bits .and .u64 a1 4294967295))) / 4294967296))) / 4294967296)))+((IntKind.u64.wrap ((Go.bits .and .u64 (IntKind.u64.wrap ((IntKind.u64.wrap ((a0 / 4294967296) * (Go.bits .and .u64 a1 4294967295)))+((IntKind.u64.wrap ((Go.bits .and .u64 a0 4294967295) * (Go.bits .and .u64 a1 4294967295))) / 4294967296))) 4294967295)+(IntKind.u64.wrap ((Go.bits .and .u64 a0 4294967295) * (a1 / 4294967296))))) / 4294967296)),IntKind.u64.wrap (a0 * a1))
set_option maxHeartbeats 8000000 in
set_option maxRecDepth 100000 in
theorem bits_Mul64.calls (a0:Int) (a1:Int) (r1:Int) (r2:Int) (w:World) (h:bits_Mul64.f a0 a1=some (r1,r2)) :
  Calls Try.prog 75 #[.int .u64 a0,.int .u64 a1] w fun e w'=>e=.returned (.tuple #[.int .u64 r1,.int .u64 r2])∧Drawn0 w w':=by
 have H:(some (IntKind.u64.wrap ((IntKind.u64.wrap ((IntKind.u64.wrap ((a0 / 4294967296) * (a1 / 4294967296)))+((IntKind.u64.wrap ((IntKind.u64.wrap ((a0 / 4294967296) * (Go.bits .and .u64 a1 4294967295)))+((IntKind.u64.wrap ((Go.bits .and .u64 a0 4294967295) * (Go.bits .and .u64 a1 4294967295))) / 4294967296))) / 4294967296)))+((IntKind.u64.wrap ((Go.bits .and .u64 (IntKind.u64.wrap ((IntKind.u64.wrap ((a0 / 4294967296) * (Go.bits .and .u64 a1 4294967295)))+((IntKind.u64.wrap ((Go.bits .and .u64 a0 4294967295) * (Go.bits .and .u64 a1 4294967295))) / 4294967296))) 4294967295)+(IntKind.u64.wrap ((Go.bits .and .u64 a0 4294967295) * (a1 / 4294967296))))) / 4294967296)),IntKind.u64.wrap (a0 * a1)))=some (r1,r2):=h
 clear h
 simp only[Option.some.injEq,Prod.mk.injEq] at H
 obtain⟨rfl,rfl⟩:=H
 go_enter Try.func75,Try.ntmps75
 go_wp2
 go_ret2
 exact⟨by first|rfl|(simp;done)|(simp[*];done),by repeat(first|exact Drawn0.refl _|apply Drawn0.step)⟩

/-! ### bits_Mul: function 68 -/
def bits_Mul.f (a0:Int) (a1:Int):Option (Int × Int):=(bits_Mul64.f a0 a1).bind fun bt121=>(some (bt121.1,bt121.2))
set_option maxHeartbeats 8000000 in
set_option maxRecDepth 100000 in
theorem bits_Mul.calls (a0:Int) (a1:Int) (r1:Int) (r2:Int) (w:World) (h:bits_Mul.f a0 a1=some (r1,r2)) :
  Calls Try.prog 68 #[.int .u64 a0,.int .u64 a1] w fun e w'=>e=.returned (.tuple #[.int .u64 r1,.int .u64 r2])∧Drawn0 w w':=by
 have H:((bits_Mul64.f a0 a1).bind fun bt121=>(some (bt121.1,bt121.2)))=some (r1,r2):=h
 clear h
 replace H:=Option.bind_eq_some_iff.mp H
 obtain⟨⟨t121,t122⟩,A30,H⟩:=H
 replace H:(some (t121,t122))=some (r1,r2):=H
 have A3:=mkA A30
 clear A30
 simp only[Option.some.injEq,Prod.mk.injEq] at H
 obtain⟨rfl,rfl⟩:=H
 go_enter Try.func68,Try.ntmps68
 go_wp2_with (first|((with_reducible refine gate_callee (f:=75) rfl ?_);refine goesL_ (some 25) rfl rfl Try.func75 (by kernel_rfl) rfl #[.int .u64 a0,.int .u64 a1] rfl (by(try simp only[List.map_toArray,List.map_cons,List.map_nil]);first|done|rfl|(simp only[List.length_drop,List.length_take];rfl)) ?_;(with_reducible refine(bits_Mul64.calls a0 a1 t121 t122 _ A3.out).mono ?_);rintro e w' ⟨rfl,⟨nd,rfl⟩⟩;refine⟨_,rfl,?_⟩))
 go_ret2
 exact⟨by first|rfl|(simp;done)|(simp[*];done),by repeat(first|exact Drawn0.refl _|apply Drawn0.step)⟩

/-! ### stringslite_HasPrefix: function 76 -/
def stringslite_HasPrefix.f (a0:ByteArray) (a1:ByteArray):Option (Bool):=if (a0.size:Int)≥(a1.size:Int) then (if 0≤(a1.size:Int) then (if (a1.size:Int)≤(a0.size:Int) then (some ((cutS a0 0 ((a1.size:Int):Int).toNat).toList == a1.toList)) else (none)) else (none)) else (some false)
set_option maxHeartbeats 8000000 in
set_option maxRecDepth 100000 in
theorem stringslite_HasPrefix.calls (a0:ByteArray) (a1:ByteArray) (r:Bool) (w:World) (h:stringslite_HasPrefix.f a0 a1=some r) :
  Calls Try.prog 76 #[.string a0,.string a1] w fun e w'=>e=.returned (.bool r)∧Drawn0 w w':=by
 have H:(if (a0.size:Int)≥(a1.size:Int) then (if 0≤(a1.size:Int) then (if (a1.size:Int)≤(a0.size:Int) then (some ((cutS a0 0 ((a1.size:Int):Int).toNat).toList == a1.toList)) else (none)) else (none)) else (some false))=some r:=h
 clear h
 by_cases c3:(a0.size:Int)≥(a1.size:Int)
 ·rw[if_pos c3] at H
  have c3b0:decide ((a1.size:Int)≤(a0.size:Int))=true:=decide_eq_true c3
  have c3b1:decide (a1.size≤a0.size)=true:=decide_eq_true (Int.ofNat_le.mp c3)
  clear c3
  by_cases c4:0≤(a1.size:Int)
  ·rw[if_pos c4] at H
   have c4b0:=eq_true c4
   have c4b1:decide (0≤(a1.size:Int))=true:=decide_eq_true c4
   clear c4
   by_cases c5:(a1.size:Int)≤(a0.size:Int)
   ·rw[if_pos c5] at H
    have c5b0:=eq_true c5
    have c5b1:decide ((a1.size:Int)≤(a0.size:Int))=true:=decide_eq_true c5
    clear c5
    obtain rfl:=Option.some.inj H
    go_enter Try.func76,Try.ntmps76
    go_wp2
    go_ret
    exact⟨by first|rfl|(simp;done)|(simp[*];done),by repeat(first|exact Drawn0.refl _|apply Drawn0.step)⟩
   ·rw[if_neg c5] at H
    exact absurd H (by simp)
  ·rw[if_neg c4] at H
   exact absurd H (by simp)
 ·rw[if_neg c3] at H
  have c3b0:decide ((a1.size:Int)≤(a0.size:Int))=false:=decide_eq_false c3
  have c3b1:decide (a1.size≤a0.size)=false:=decide_eq_false (fun h=>c3 (Int.ofNat_le.mpr h))
  clear c3
  obtain rfl:=Option.some.inj H
  go_enter Try.func76,Try.ntmps76
  go_wp2
  go_ret
  exact⟨by first|rfl|(simp;done)|(simp[*];done),by repeat(first|exact Drawn0.refl _|apply Drawn0.step)⟩

/-! ### strings_HasPrefix: function 69 -/
def strings_HasPrefix.f (a0:ByteArray) (a1:ByteArray):Option (Bool):=(stringslite_HasPrefix.f a0 a1).bind fun t123=>(some t123)
set_option maxHeartbeats 8000000 in
set_option maxRecDepth 100000 in
theorem strings_HasPrefix.calls (a0:ByteArray) (a1:ByteArray) (r:Bool) (w:World) (h:strings_HasPrefix.f a0 a1=some r) :
  Calls Try.prog 69 #[.string a0,.string a1] w fun e w'=>e=.returned (.bool r)∧Drawn0 w w':=by
 have H:((stringslite_HasPrefix.f a0 a1).bind fun t123=>(some t123))=some r:=h
 clear h
 replace H:=Option.bind_eq_some_iff.mp H
 obtain⟨t123,A30,H⟩:=H
 replace H:(some t123)=some r:=H
 have A3:=mkA A30
 clear A30
 obtain rfl:=Option.some.inj H
 go_enter Try.func69,Try.ntmps69
 go_wp2_with (first|((with_reducible refine gate_callee (f:=76) rfl ?_);refine goesL_ (some 7) rfl rfl Try.func76 (by kernel_rfl) rfl #[.string a0,.string a1] rfl (by(try simp only[List.map_toArray,List.map_cons,List.map_nil]);first|done|rfl|(simp only[List.length_drop,List.length_take];rfl)) ?_;(with_reducible refine(stringslite_HasPrefix.calls a0 a1 t123 _ A3.out).mono ?_);rintro e w' ⟨rfl,⟨nd,rfl⟩⟩;refine⟨_,rfl,?_⟩))
 go_ret
 exact⟨by first|rfl|(simp;done)|(simp[*];done),by repeat(first|exact Drawn0.refl _|apply Drawn0.step)⟩

-- NOT PRINTED: function 79 (abi_NoEscape)

-- NOT PRINTED: function 77 (strings_Builder_copyCheck)

-- NOT PRINTED: function 80 (bytealg_MakeNoZero)

-- NOT PRINTED: function 78 (strings_Builder_grow)

-- NOT PRINTED: function 70 (strings_Builder_Grow)

-- NOT PRINTED: function 71 (strings_Builder_WriteString)

-- NOT PRINTED: function 72 (strings_Builder_Len)

-- NOT PRINTED: function 73 (strings_Builder_String)


/-! ### strings_Repeat: function 64 (by hand) -/
open Go.Shelf
def laid_lays105_ren:Go.Shelf.Ren:=⟨fun|105=>64|212=>68|99=>69|165=>70|166=>71|170=>72|169=>73|263=>74|264=>75|206=>76|240=>77|241=>78|276=>79|277=>80|n=>n,fun|9=>9|3=>3|4=>4|20=>20|0=>0|46=>43|109=>87|5=>5|72=>92|76=>96|51=>100|146=>101|53=>103|148=>104|70=>90|37=>49|75=>95|127=>106|164=>107|80=>99|n=>n,fun|n=>n⟩
theorem laid_lays105:Go.Proofs.Lays.n105 Try.prog laid_lays105_ren:={
 mixed:=by kernel_rfl
 f99:=Try.func69.trans (congrArg some (by kernel_rfl))
 f105:=Try.func64.trans (congrArg some (by kernel_rfl))
 f165:=Try.func70.trans (congrArg some (by kernel_rfl))
 f166:=Try.func71.trans (congrArg some (by kernel_rfl))
 f169:=Try.func73.trans (congrArg some (by kernel_rfl))
 f170:=Try.func72.trans (congrArg some (by kernel_rfl))
 f206:=Try.func76.trans (congrArg some (by kernel_rfl))
 f212:=Try.func68.trans (congrArg some (by kernel_rfl))
 f240:=Try.func77.trans (congrArg some (by kernel_rfl))
 f241:=Try.func78.trans (congrArg some (by kernel_rfl))
 f263:=Try.func74.trans (congrArg some (by kernel_rfl))
 f264:=Try.func75.trans (congrArg some (by kernel_rfl))
 f276:=Try.func79.trans (congrArg some (by kernel_rfl))
 f277:=Try.func80.trans (congrArg some (by kernel_rfl))
 t0:=Try.underlying0
 a0:=Try.isAgg0
 z0:=Try.sizeOf0
 v0:=Try.zeroValue0
 t3:=Try.underlying3
 a3:=Try.isAgg3
 z3:=Try.sizeOf3
 v3:=Try.zeroValue3
 t4:=Try.underlying4
 a4:=Try.isAgg4
 z4:=Try.sizeOf4
 v4:=Try.zeroValue4
 t5:=Try.underlying5
 a5:=Try.isAgg5
 z5:=Try.sizeOf5
 v5:=Try.zeroValue5
 t9:=Try.underlying9
 a9:=Try.isAgg9
 z9:=Try.sizeOf9
 v9:=Try.zeroValue9
 t20:=Try.underlying20
 a20:=Try.isAgg20
 z20:=Try.sizeOf20
 v20:=Try.zeroValue20
 t37:=Try.underlying49
 a37:=Try.isAgg49
 z37:=Try.sizeOf49
 v37:=Try.zeroValue49
 t46:=Try.underlying43
 a46:=Try.isAgg43
 z46:=Try.sizeOf43
 v46:=Try.zeroValue43
 t51:=Try.underlying100
 a51:=Try.isAgg100
 z51:=Try.sizeOf100
 v51:=Try.zeroValue100
 t53:=Try.underlying103
 a53:=Try.isAgg103
 z53:=Try.sizeOf103
 v53:=Try.zeroValue103
 t70:=Try.underlying90
 a70:=Try.isAgg90
 z70:=Try.sizeOf90
 v70:=Try.zeroValue90
 t72:=Try.underlying92
 a72:=Try.isAgg92
 z72:=Try.sizeOf92
 v72:=Try.zeroValue92
 t75:=Try.underlying95
 a75:=Try.isAgg95
 z75:=Try.sizeOf95
 v75:=Try.zeroValue95
 t76:=Try.underlying96
 a76:=Try.isAgg96
 z76:=Try.sizeOf96
 v76:=Try.zeroValue96
 t109:=Try.underlying87
 a109:=Try.isAgg87
 z109:=Try.sizeOf87
 v109:=Try.zeroValue87
 t127:=Try.underlying106
 a127:=Try.isAgg106
 z127:=Try.sizeOf106
 v127:=Try.zeroValue106
 t146:=Try.underlying101
 a146:=Try.isAgg101
 z146:=Try.sizeOf101
 v146:=Try.zeroValue101
 t148:=Try.underlying104
 a148:=Try.isAgg104
 z148:=Try.sizeOf104
 v148:=Try.zeroValue104
 t164:=Try.underlying107
 a164:=Try.isAgg107
 z164:=Try.sizeOf107
 v164:=Try.zeroValue107 }
theorem laid_Builder_Extra_105:Builder.Extra Try.prog laid_lays105_ren:={
 sizeBuilder:=by kernel_rfl
 liesBuilder:=by kernel_rfl
 t5:=Try.underlying5
 a5:=Try.isAgg5
 z5:=Try.sizeOf5
 v5:=Try.zeroValue5
 infoByte:=by kernel_rfl
 cellsByte:=by kernel_rfl
 sizeByte:=by kernel_rfl
 neB5:=by decide }
theorem laid_strings_Repeat (s:ByteArray) (c:Nat) (w:World) (hc:c≤9223372036854775807) (hlen:s.size * c≤140737488355328) :
  Calls Try.prog 64 #[.string s,.int .i64 c] w fun e w'=>e=.returned (.string ⟨(Lib.repeatL s.data.toList c).toArray⟩)∧Below w.heap.size w w':=Any.strings_Repeat laid_lays105 laid_Builder_Extra_105 s c w hc hlen
def strings_Repeat.f (a0:ByteArray) (a1:Int):Option ByteArray:=if 0≤a1∧a1≤9223372036854775807∧(a0.size:Int) * a1≤140737488355328 then some ⟨(Go.Lib.repeatL a0.data.toList a1.toNat).toArray⟩ else none
theorem strings_Repeat.calls (a0:ByteArray) (a1:Int) (r:ByteArray) (w:World) (h:strings_Repeat.f a0 a1=some r) :
  Calls Try.prog 64 #[.string a0,.int .i64 a1] w fun e w'=>e=.returned (.string r)∧Below w.heap.size w w':=by
 unfold strings_Repeat.f at h
 by_cases c:0≤a1∧a1≤9223372036854775807∧(a0.size:Int) * a1≤140737488355328
 ·rw[if_pos c] at h
  obtain⟨c1,c2,c3⟩:=c
  obtain⟨n,rfl⟩:=Int.eq_ofNat_of_zero_le c1
  obtain rfl:=Option.some.inj h
  have c4:a0.size * n≤140737488355328:=by
   have:((a0.size * n:Nat):Int)≤140737488355328:=by rw[Int.natCast_mul];exact c3
   omega
  exact laid_strings_Repeat a0 n w (by omega) c4
 ·rw[if_neg c] at h
  exact absurd h (by simp)


end Go.Proofs.Ytakajeoeijnmhaa.PSegReads

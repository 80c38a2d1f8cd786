-- Laid by this claim's own program over the print's words.
import Derived.Test.YtakajeoeijnmhaaPSegReadsx0
import Derived.Test.YtakajeoeijnmhaaPSegReadsx11
import Derived.Test.YtakajeoeijnmhaaPSegReadsx15
import Derived.Test.YtakajeoeijnmhaaPSegReadsx16
import Derived.Test.YtakajeoeijnmhaaPSegReadsx18
namespace Go.Proofs.Ytakajeoeijnmhaa.PSegReads
open Go.RowKit Go.Proofs.YtakajeoeijnmhaaW.PrintWords Go.Proofs.YtakajeoeijnmhaaW.PrintLast Go.Proofs.YtakajeoeijnmhaaW.PrintMore
attribute [local go_sem] max2_int min2_int max_two min_two max_three min_three max_four min_four max_five min_five extract_cut tmod_nat_lit   -- for this text's walks alone
set_option linter.unusedVariables false
set_option linter.unusedSimpArgs false

/-! ### sternpostref08_Decode: function 25 -/
def sternpostref08_Decode_f2 (k:Nat) (s:ByteArray) (hd:Int) (m sc st ec:Int) (sd sk sp:Bool) (l:List S73):Option (Int × Int × Int × Int × Int × Int × Int × Int × Int × Int × Int × Bool × Bool × Bool × List S73 × ByteArray × Int) :=
 (sternpostref02_Num.f k (cutS s 0 2)).bind fun n1=>(sternpostref02_Num.f k (cutS s 2 4)).bind fun n2=>(sternpostref02_Num.f k (cutS s 4 8)).bind fun n3=>(sternpostref02_Num.f k (cutS s 8 12)).bind fun n4=>(sternpostref02_Num.f k (cutS s 14 16)).bind fun n5=>(sternpostref02_Num.f k (cutS s 18 20)).bind fun n6=>if Int.tmod (bt s 12) 16=0 then
 (sternpostref08_Check.f k n1 n2 n3 n4 (wrap64 (bt s 13)) n5 n6 m sc st ec sd sk sp l (cutS s hd.toNat s.size)).bind fun cc=>if cc=0 then some (n1,n2,n3,n4,(wrap64 (bt s 13)),n5,n6,m,sc,st,ec,sd,sk,sp,l,(cutS s hd.toNat s.size),0) else some (0,0,0,0,0,0,0,0,0,0,0,false,false,false,[],(⟨#[]⟩:ByteArray),80) else some (0,0,0,0,0,0,0,0,0,0,0,false,false,false,[],(⟨#[]⟩:ByteArray),80)
def sternpostref08_Decode_tail.f (k:Nat) (s:ByteArray) (hd:Int) (c0 c1 c2 c3 c4 c5 c6 c7 c8 c9 c10:Int) (c11 c12 c13:Bool) (c14:List S73) (c15:ByteArray):Option (Int × Int × Int × Int × Int × Int × Int × Int × Int × Int × Int × Bool × Bool × Bool × List S73 × ByteArray × Int) :=
 if 20≤s.size∧20≤hd∧hd≤(s.size:Int) then
  (sternpostref07_Decode.f k (cutS s 20 hd.toNat)).bind fun o=>if o.2.2.2.2.2.2.2.2=0 then sternpostref08_Decode_f2 k s hd o.1 o.2.1 o.2.2.1 o.2.2.2.1 o.2.2.2.2.1 o.2.2.2.2.2.1 o.2.2.2.2.2.2.1 o.2.2.2.2.2.2.2.1 else some (0,0,0,0,0,0,0,0,0,0,0,false,false,false,[],(⟨#[]⟩:ByteArray),o.2.2.2.2.2.2.2.2)
 else none
theorem sternpostref08_Decode_tail.mono (s:ByteArray) (hd:Int) (c0 c1 c2 c3 c4 c5 c6 c7 c8 c9 c10:Int) (c11 c12 c13:Bool) (c14:List S73) (c15:ByteArray) (k:Nat):LeO (sternpostref08_Decode_tail.f k s hd c0 c1 c2 c3 c4 c5 c6 c7 c8 c9 c10 c11 c12 c13 c14 c15) (sternpostref08_Decode_tail.f (k+1) s hd c0 c1 c2 c3 c4 c5 c6 c7 c8 c9 c10 c11 c12 c13 c14 c15):=by
 unfold sternpostref08_Decode_tail.f sternpostref08_Decode_f2
 have N:=fun x=>sternpostref02_Num.mono x k
 exact LeO.ite (LeO.bind (sternpostref07_Decode.mono _ _) fun _=>LeO.ite (LeO.bind (N _) fun _=>LeO.bind (N _) fun _=>LeO.bind (N _) fun _=>LeO.bind (N _) fun _=>LeO.bind (N _) fun _=>LeO.bind (N _) fun _=>LeO.ite (LeO.bind (sternpostref08_Check.mono _ _ _ _ _ _ _ _ _ _ _ _ _ _ _ _ _) fun _=>LeO.refl _) (LeO.refl _)) (LeO.refl _)) (LeO.none _)
theorem sternpostref08_Decode_out {W:World} {g:Nat} {c0 c1 c2 c3 c4 c5 c6 c7 c8 c9 c10 c11 c12 c13 c14 c15 y0 y1 y2 y3 y4 y5 y6 y7 y8 y9 y10 y11 y12 y13 y14 y15:Value} {cs:Array Value} (hcs:cs=#[y0,y1,y2,y3,y4,y5,y6,y7,y8,y9,y10,y11,y12,y13,y14,y15]) (hb:W.heap[g]?=some (.cells #[c0,c1,c2,c3,c4,c5,c6,c7,c8,c9,c10,c11,c12,c13,c14,c15] 26 (0,0))) :
  ((((((((((((((((W.setCell ⟨g,0,none⟩ y0).setCell ⟨g,1,none⟩ y1).setCell ⟨g,2,none⟩ y2).setCell ⟨g,3,none⟩ y3).setCell ⟨g,4,none⟩ y4).setCell ⟨g,5,none⟩ y5).setCell ⟨g,6,none⟩ y6).setCell ⟨g,7,none⟩ y7).setCell ⟨g,8,none⟩ y8).setCell ⟨g,9,none⟩ y9).setCell ⟨g,10,none⟩ y10).setCell ⟨g,11,none⟩ y11).setCell ⟨g,12,none⟩ y12).setCell ⟨g,13,none⟩ y13).setCell ⟨g,14,none⟩ y14).setCell ⟨g,15,none⟩ y15).heap[g]?=some (.cells cs 26 (0,0))∧∀ (base:Nat) (v:Value) (xs:List S73),Kd.R k73 73 W base (fun _=>True) v xs→Kd.R k73 73 ((((((((((((((((W.setCell ⟨g,0,none⟩ y0).setCell ⟨g,1,none⟩ y1).setCell ⟨g,2,none⟩ y2).setCell ⟨g,3,none⟩ y3).setCell ⟨g,4,none⟩ y4).setCell ⟨g,5,none⟩ y5).setCell ⟨g,6,none⟩ y6).setCell ⟨g,7,none⟩ y7).setCell ⟨g,8,none⟩ y8).setCell ⟨g,9,none⟩ y9).setCell ⟨g,10,none⟩ y10).setCell ⟨g,11,none⟩ y11).setCell ⟨g,12,none⟩ y12).setCell ⟨g,13,none⟩ y13).setCell ⟨g,14,none⟩ y14).setCell ⟨g,15,none⟩ y15) base (fun _=>True) v xs:=by
 subst hcs
 have h0:=kP (cs':=#[y0,c1,c2,c3,c4,c5,c6,c7,c8,c9,c10,c11,c12,c13,c14,c15]) hb 0 y0 rfl
 have h1:=kP (cs':=#[y0,y1,c2,c3,c4,c5,c6,c7,c8,c9,c10,c11,c12,c13,c14,c15]) h0 1 y1 rfl
 have h2:=kP (cs':=#[y0,y1,y2,c3,c4,c5,c6,c7,c8,c9,c10,c11,c12,c13,c14,c15]) h1 2 y2 rfl
 have h3:=kP (cs':=#[y0,y1,y2,y3,c4,c5,c6,c7,c8,c9,c10,c11,c12,c13,c14,c15]) h2 3 y3 rfl
 have h4:=kP (cs':=#[y0,y1,y2,y3,y4,c5,c6,c7,c8,c9,c10,c11,c12,c13,c14,c15]) h3 4 y4 rfl
 have h5:=kP (cs':=#[y0,y1,y2,y3,y4,y5,c6,c7,c8,c9,c10,c11,c12,c13,c14,c15]) h4 5 y5 rfl
 have h6:=kP (cs':=#[y0,y1,y2,y3,y4,y5,y6,c7,c8,c9,c10,c11,c12,c13,c14,c15]) h5 6 y6 rfl
 have h7:=kP (cs':=#[y0,y1,y2,y3,y4,y5,y6,y7,c8,c9,c10,c11,c12,c13,c14,c15]) h6 7 y7 rfl
 have h8:=kP (cs':=#[y0,y1,y2,y3,y4,y5,y6,y7,y8,c9,c10,c11,c12,c13,c14,c15]) h7 8 y8 rfl
 have h9:=kP (cs':=#[y0,y1,y2,y3,y4,y5,y6,y7,y8,y9,c10,c11,c12,c13,c14,c15]) h8 9 y9 rfl
 have h10:=kP (cs':=#[y0,y1,y2,y3,y4,y5,y6,y7,y8,y9,y10,c11,c12,c13,c14,c15]) h9 10 y10 rfl
 have h11:=kP (cs':=#[y0,y1,y2,y3,y4,y5,y6,y7,y8,y9,y10,y11,c12,c13,c14,c15]) h10 11 y11 rfl
 have h12:=kP (cs':=#[y0,y1,y2,y3,y4,y5,y6,y7,y8,y9,y10,y11,y12,c13,c14,c15]) h11 12 y12 rfl
 have h13:=kP (cs':=#[y0,y1,y2,y3,y4,y5,y6,y7,y8,y9,y10,y11,y12,y13,c14,c15]) h12 13 y13 rfl
 have h14:=kP (cs':=#[y0,y1,y2,y3,y4,y5,y6,y7,y8,y9,y10,y11,y12,y13,y14,c15]) h13 14 y14 rfl
 have h15:=kP (cs':=#[y0,y1,y2,y3,y4,y5,y6,y7,y8,y9,y10,y11,y12,y13,y14,y15]) h14 15 y15 rfl
 refine⟨h15,fun base v xs hR=>?_⟩
 have hR:=Kd.R_set hR hb (by decide) 0 y0
 have hR:=Kd.R_set hR h0 (by decide) 1 y1
 have hR:=Kd.R_set hR h1 (by decide) 2 y2
 have hR:=Kd.R_set hR h2 (by decide) 3 y3
 have hR:=Kd.R_set hR h3 (by decide) 4 y4
 have hR:=Kd.R_set hR h4 (by decide) 5 y5
 have hR:=Kd.R_set hR h5 (by decide) 6 y6
 have hR:=Kd.R_set hR h6 (by decide) 7 y7
 have hR:=Kd.R_set hR h7 (by decide) 8 y8
 have hR:=Kd.R_set hR h8 (by decide) 9 y9
 have hR:=Kd.R_set hR h9 (by decide) 10 y10
 have hR:=Kd.R_set hR h10 (by decide) 11 y11
 have hR:=Kd.R_set hR h11 (by decide) 12 y12
 have hR:=Kd.R_set hR h12 (by decide) 13 y13
 have hR:=Kd.R_set hR h13 (by decide) 14 y14
 have hR:=Kd.R_set hR h14 (by decide) 15 y15
 exact hR
set_option maxHeartbeats 8000000 in
theorem sternpostref08_Decode_out8 {n:Nat} {w W:World} {g:Nat} {c0 c1 c2 c3 c4 c5 c6 c7 y0 y1 y2 y3 y4 y5 y6 y7:Value} {cs:Array Value} (hcs:cs=#[y0,y1,y2,y3,y4,y5,y6,y7]) (hB:Below n w W) (hg:n≤g) (hb:W.heap[g]?=some (.cells #[c0,c1,c2,c3,c4,c5,c6,c7] 24 (0,0))) :
  ((((((((W.setCell ⟨g,0,none⟩ y0).setCell ⟨g,1,none⟩ y1).setCell ⟨g,2,none⟩ y2).setCell ⟨g,3,none⟩ y3).setCell ⟨g,4,none⟩ y4).setCell ⟨g,5,none⟩ y5).setCell ⟨g,6,none⟩ y6).setCell ⟨g,7,none⟩ y7).heap[g]?=some (.cells cs 24 (0,0))∧Below n w ((((((((W.setCell ⟨g,0,none⟩ y0).setCell ⟨g,1,none⟩ y1).setCell ⟨g,2,none⟩ y2).setCell ⟨g,3,none⟩ y3).setCell ⟨g,4,none⟩ y4).setCell ⟨g,5,none⟩ y5).setCell ⟨g,6,none⟩ y6).setCell ⟨g,7,none⟩ y7)∧∀ (base:Nat) (v:Value) (xs:List S73),Kd.R k73 73 W base (fun _=>True) v xs→Kd.R k73 73 ((((((((W.setCell ⟨g,0,none⟩ y0).setCell ⟨g,1,none⟩ y1).setCell ⟨g,2,none⟩ y2).setCell ⟨g,3,none⟩ y3).setCell ⟨g,4,none⟩ y4).setCell ⟨g,5,none⟩ y5).setCell ⟨g,6,none⟩ y6).setCell ⟨g,7,none⟩ y7) base (fun _=>True) v xs:=by
 subst hcs
 have h0:=kP (cs':=#[y0,c1,c2,c3,c4,c5,c6,c7]) hb 0 y0 rfl
 have h1:=kP (cs':=#[y0,y1,c2,c3,c4,c5,c6,c7]) h0 1 y1 rfl
 have h2:=kP (cs':=#[y0,y1,y2,c3,c4,c5,c6,c7]) h1 2 y2 rfl
 have h3:=kP (cs':=#[y0,y1,y2,y3,c4,c5,c6,c7]) h2 3 y3 rfl
 have h4:=kP (cs':=#[y0,y1,y2,y3,y4,c5,c6,c7]) h3 4 y4 rfl
 have h5:=kP (cs':=#[y0,y1,y2,y3,y4,y5,c6,c7]) h4 5 y5 rfl
 have h6:=kP (cs':=#[y0,y1,y2,y3,y4,y5,y6,c7]) h5 6 y6 rfl
 have h7:=kP (cs':=#[y0,y1,y2,y3,y4,y5,y6,y7]) h6 7 y7 rfl
 refine⟨h7,by with_reducible repeat(first|exact hB|refine Below.setCell ?_ hg _),fun base v xs hR=>?_⟩
 have hR:=Kd.R_set hR hb (by decide) 0 y0
 have hR:=Kd.R_set hR h0 (by decide) 1 y1
 have hR:=Kd.R_set hR h1 (by decide) 2 y2
 have hR:=Kd.R_set hR h2 (by decide) 3 y3
 have hR:=Kd.R_set hR h3 (by decide) 4 y4
 have hR:=Kd.R_set hR h4 (by decide) 5 y5
 have hR:=Kd.R_set hR h5 (by decide) 6 y6
 have hR:=Kd.R_set hR h6 (by decide) 7 y7
 exact hR
theorem sternpostref08_Decode_sl_from {P:Program} {ρ : Operand→Value} {o:Oper} {W:World} {t:TypeId} {x a:Operand} {s:ByteArray} {i:Int} (hu:P.underlying t=some .string) (ho:o.op=.slice t x (some a) none none) (hx : ρ x=.string s) (ha : ρ a=.int .i64 i) (h0:0≤i) (h1:i≤(s.size:Int)):(execOp ρ o).run P W=.ok (.value (.string (cutS s i.toNat s.size))) W:=by
 have e1:¬ ((s.size:Int) < i):=by omega
 have e2:(0≤i)=True:=eq_true h0
 have e3:(i≤(s.size:Int))=True:=eq_true h1
 unfold execOp
 simp only[ho]
 go_simp
theorem sternpostref08_Decode_sl_to {P:Program} {ρ : Operand→Value} {o:Oper} {W:World} {t:TypeId} {x b:Operand} {s:ByteArray} {j:Nat} (hu:P.underlying t=some .string) (ho:o.op=.slice t x none (some b) none) (hx : ρ x=.string s) (hb : ρ b=.int .i64 (j:Int)) (h2:j≤s.size):(execOp ρ o).run P W=.ok (.value (.string (cutS s 0 j))) W:=by
 have e2:¬ ((s.size:Int) < (j:Int)):=by omega
 have e3:(j:Int)≤(s.size:Int):=by omega
 unfold execOp
 simp only[ho]
 go_simp
theorem sternpostref08_Decode_sl_at {P:Program} {ρ : Operand→Value} {o:Oper} {W:World} {t:TypeId} {x a b:Operand} {s:ByteArray} {i j:Nat} (hu:P.underlying t=some .string) (ho:o.op=.slice t x (some a) (some b) none) (hx : ρ x=.string s) (ha : ρ a=.int .i64 (i:Int)) (hb : ρ b=.int .i64 (j:Int)) (h1:i≤j) (h2:j≤s.size):(execOp ρ o).run P W=.ok (.value (.string (cutS s i j))) W:=by
 have e0:¬ ((j:Int) < (i:Int)):=by omega
 have e1:¬ ((s.size:Int) < (j:Int)):=by omega
 have e3:(j:Int)≤(s.size:Int):=by omega
 have e4:(i:Int)≤(j:Int):=by omega
 have e5:¬ ((s.size:Int) < (i:Int)):=by omega
 unfold execOp
 simp only[ho]
 go_simp

mutual
def sternpostref08_Decode.j0:Nat→Int→Int→ByteArray→Bool→Int→Int→Int→Int→Int→Int→Int→Int→Int→Int→Int→Bool→Bool→Bool→ByteArray→Option (Int × Int × Int × Int × Int × Int × Int × Int × Int × Int × Int × Bool × Bool × Bool × (List (S73)) × ByteArray × Int)
 | 0,_,_,_,_,_,_,_,_,_,_,_,_,_,_,_,_,_,_,_=>none
 | k+1,x0,x1,x2,x21,x242000,x242001,x242002,x242003,x242004,x242005,x242006,x242007,x242008,x242009,x242010,x242011,x242012,x242013,x242015=>if x21=true then (some (0,0,0,0,0,0,0,0,0,0,0,false,false,false,([]:List (S73)),(⟨#[]⟩:ByteArray),1)) else (if (x2.size:Int) < 20 then (sternpostref08_Decode.j1 k x0 x1 x2 true x242000 x242001 x242002 x242003 x242004 x242005 x242006 x242007 x242008 x242009 x242010 x242011 x242012 x242013 x242015) else (sternpostref08_Decode.j1 k x0 x1 x2 (decide ((x2.size:Int) > 1540)) x242000 x242001 x242002 x242003 x242004 x242005 x242006 x242007 x242008 x242009 x242010 x242011 x242012 x242013 x242015))
def sternpostref08_Decode.j1:Nat→Int→Int→ByteArray→Bool→Int→Int→Int→Int→Int→Int→Int→Int→Int→Int→Int→Bool→Bool→Bool→ByteArray→Option (Int × Int × Int × Int × Int × Int × Int × Int × Int × Int × Int × Bool × Bool × Bool × (List (S73)) × ByteArray × Int)
 | 0,_,_,_,_,_,_,_,_,_,_,_,_,_,_,_,_,_,_,_=>none
 | k+1,x0,x1,x2,x30,x242000,x242001,x242002,x242003,x242004,x242005,x242006,x242007,x242008,x242009,x242010,x242011,x242012,x242013,x242015=>if x30=true then (some (0,0,0,0,0,0,0,0,0,0,0,false,false,false,([]:List (S73)),(⟨#[]⟩:ByteArray),80)) else (if 12 < (x2.size:Int) then (if (((Int.tdiv (bt x2 12) 16) % 256) * 4) < 20 then (sternpostref08_Decode.j2 k x0 x1 x2 (((Int.tdiv (bt x2 12) 16) % 256) * 4) true x242000 x242001 x242002 x242003 x242004 x242005 x242006 x242007 x242008 x242009 x242010 x242011 x242012 x242013 x242015) else (sternpostref08_Decode.j2 k x0 x1 x2 (((Int.tdiv (bt x2 12) 16) % 256) * 4) (decide ((((Int.tdiv (bt x2 12) 16) % 256) * 4) > (x2.size:Int))) x242000 x242001 x242002 x242003 x242004 x242005 x242006 x242007 x242008 x242009 x242010 x242011 x242012 x242013 x242015)) else (none))
def sternpostref08_Decode.j2:Nat→Int→Int→ByteArray→Int→Bool→Int→Int→Int→Int→Int→Int→Int→Int→Int→Int→Int→Bool→Bool→Bool→ByteArray→Option (Int × Int × Int × Int × Int × Int × Int × Int × Int × Int × Int × Bool × Bool × Bool × (List (S73)) × ByteArray × Int)
 | 0,_,_,_,_,_,_,_,_,_,_,_,_,_,_,_,_,_,_,_,_=>none
 | k+1,x0,x1,x2,x8,x44,x242000,x242001,x242002,x242003,x242004,x242005,x242006,x242007,x242008,x242009,x242010,x242011,x242012,x242013,x242015=>if x44=true then (some (0,0,0,0,0,0,0,0,0,0,0,false,false,false,([]:List (S73)),(⟨#[]⟩:ByteArray),80)) else ((sternpostref02_Pseudo.f k x0 x1 6 (x2.size:Int)).bind fun bt244=>(if bt244.1.size+x2.size≤9223372036854775807 then ((sternpostref02_Whole.f k (bt244.1++x2)).bind fun t246=>(if t246=true then (sternpostref08_Decode_tail.f k x2 x8 x242000 x242001 x242002 x242003 x242004 x242005 x242006 x242007 x242008 x242009 x242010 x242011 x242012 x242013 ([]:List (S73)) x242015) else (some (0,0,0,0,0,0,0,0,0,0,0,false,false,false,([]:List (S73)),(⟨#[]⟩:ByteArray),20)))) else (none)))
end
def sternpostref08_Decode.f (k:Nat) (a0:Int) (a1:Int) (a2:ByteArray):Option (Int × Int × Int × Int × Int × Int × Int × Int × Int × Int × Int × Bool × Bool × Bool × (List (S73)) × ByteArray × Int):=(sternpostref01_Check.f a0).bind fun t242=>(if t242=0 then ((sternpostref01_Check.f a1).bind fun t243=>(sternpostref08_Decode.j0 k a0 a1 a2 (t243 != 0) 0 0 0 0 0 0 0 0 0 0 0 false false false (⟨#[]⟩:ByteArray))) else (sternpostref08_Decode.j0 k a0 a1 a2 true 0 0 0 0 0 0 0 0 0 0 0 false false false (⟨#[]⟩:ByteArray)))
theorem sternpostref08_Decode.mono_l:∀ k,(∀ y0 y1 y2 y3 y4 y5 y6 y7 y8 y9 y10 y11 y12 y13 y14 y15 y16 y17 y18,LeO (sternpostref08_Decode.j0 k y0 y1 y2 y3 y4 y5 y6 y7 y8 y9 y10 y11 y12 y13 y14 y15 y16 y17 y18) (sternpostref08_Decode.j0 (k+1) y0 y1 y2 y3 y4 y5 y6 y7 y8 y9 y10 y11 y12 y13 y14 y15 y16 y17 y18))∧(∀ y0 y1 y2 y3 y4 y5 y6 y7 y8 y9 y10 y11 y12 y13 y14 y15 y16 y17 y18,LeO (sternpostref08_Decode.j1 k y0 y1 y2 y3 y4 y5 y6 y7 y8 y9 y10 y11 y12 y13 y14 y15 y16 y17 y18) (sternpostref08_Decode.j1 (k+1) y0 y1 y2 y3 y4 y5 y6 y7 y8 y9 y10 y11 y12 y13 y14 y15 y16 y17 y18))∧(∀ y0 y1 y2 y3 y4 y5 y6 y7 y8 y9 y10 y11 y12 y13 y14 y15 y16 y17 y18 y19,LeO (sternpostref08_Decode.j2 k y0 y1 y2 y3 y4 y5 y6 y7 y8 y9 y10 y11 y12 y13 y14 y15 y16 y17 y18 y19) (sternpostref08_Decode.j2 (k+1) y0 y1 y2 y3 y4 y5 y6 y7 y8 y9 y10 y11 y12 y13 y14 y15 y16 y17 y18 y19))
 | 0=>⟨fun _ _ _ _ _ _ _ _ _ _ _ _ _ _ _ _ _ _ _ r h=>by simp[sternpostref08_Decode.j0] at h,fun _ _ _ _ _ _ _ _ _ _ _ _ _ _ _ _ _ _ _ r h=>by simp[sternpostref08_Decode.j1] at h,fun _ _ _ _ _ _ _ _ _ _ _ _ _ _ _ _ _ _ _ _ r h=>by simp[sternpostref08_Decode.j2] at h⟩
 | k+1=>by
  obtain⟨ih0,ih1,ih2⟩:=sternpostref08_Decode.mono_l k
  refine⟨?_,?_,?_⟩
  ·intro y0 y1 y2 y3 y4 y5 y6 y7 y8 y9 y10 y11 y12 y13 y14 y15 y16 y17 y18
   unfold sternpostref08_Decode.j0
   repeat' first
   | (with_reducible exact ih0 _ _ _ _ _ _ _ _ _ _ _ _ _ _ _ _ _ _ _)
   | (with_reducible exact ih1 _ _ _ _ _ _ _ _ _ _ _ _ _ _ _ _ _ _ _)
   | (with_reducible exact ih2 _ _ _ _ _ _ _ _ _ _ _ _ _ _ _ _ _ _ _ _)
   | (with_reducible exact sternpostref02_Pseudo.mono _ _ _ _ _)
   | (with_reducible exact sternpostref02_Whole.mono _ _)
   | (with_reducible exact sternpostref08_Decode_tail.mono _ _ _ _ _ _ _ _ _ _ _ _ _ _ _ _ _ _ _)
   | (with_reducible exact LeO.refl _)
   | (with_reducible exact LeO.none _)
   | (with_reducible refine LeO.ite ?_ ?_)
   | (with_reducible refine LeO.bind ?_ (fun _=>?_))
   | exact ih0 _ _ _ _ _ _ _ _ _ _ _ _ _ _ _ _ _ _ _
   | exact ih1 _ _ _ _ _ _ _ _ _ _ _ _ _ _ _ _ _ _ _
   | exact ih2 _ _ _ _ _ _ _ _ _ _ _ _ _ _ _ _ _ _ _ _
   | exact sternpostref02_Pseudo.mono _ _ _ _ _
   | exact sternpostref02_Whole.mono _ _
   | exact sternpostref08_Decode_tail.mono _ _ _ _ _ _ _ _ _ _ _ _ _ _ _ _ _ _ _
   | exact LeO.none _
   | refine LeO.ite ?_ ?_
   | refine LeO.bind ?_ (fun _=>?_)
  ·intro y0 y1 y2 y3 y4 y5 y6 y7 y8 y9 y10 y11 y12 y13 y14 y15 y16 y17 y18
   unfold sternpostref08_Decode.j1
   repeat' first
   | (with_reducible exact ih0 _ _ _ _ _ _ _ _ _ _ _ _ _ _ _ _ _ _ _)
   | (with_reducible exact ih1 _ _ _ _ _ _ _ _ _ _ _ _ _ _ _ _ _ _ _)
   | (with_reducible exact ih2 _ _ _ _ _ _ _ _ _ _ _ _ _ _ _ _ _ _ _ _)
   | (with_reducible exact sternpostref02_Pseudo.mono _ _ _ _ _)
   | (with_reducible exact sternpostref02_Whole.mono _ _)
   | (with_reducible exact sternpostref08_Decode_tail.mono _ _ _ _ _ _ _ _ _ _ _ _ _ _ _ _ _ _ _)
   | (with_reducible exact LeO.refl _)
   | (with_reducible exact LeO.none _)
   | (with_reducible refine LeO.ite ?_ ?_)
   | (with_reducible refine LeO.bind ?_ (fun _=>?_))
   | exact ih0 _ _ _ _ _ _ _ _ _ _ _ _ _ _ _ _ _ _ _
   | exact ih1 _ _ _ _ _ _ _ _ _ _ _ _ _ _ _ _ _ _ _
   | exact ih2 _ _ _ _ _ _ _ _ _ _ _ _ _ _ _ _ _ _ _ _
   | exact sternpostref02_Pseudo.mono _ _ _ _ _
   | exact sternpostref02_Whole.mono _ _
   | exact sternpostref08_Decode_tail.mono _ _ _ _ _ _ _ _ _ _ _ _ _ _ _ _ _ _ _
   | exact LeO.none _
   | refine LeO.ite ?_ ?_
   | refine LeO.bind ?_ (fun _=>?_)
  ·intro y0 y1 y2 y3 y4 y5 y6 y7 y8 y9 y10 y11 y12 y13 y14 y15 y16 y17 y18 y19
   unfold sternpostref08_Decode.j2
   repeat' first
   | (with_reducible exact ih0 _ _ _ _ _ _ _ _ _ _ _ _ _ _ _ _ _ _ _)
   | (with_reducible exact ih1 _ _ _ _ _ _ _ _ _ _ _ _ _ _ _ _ _ _ _)
   | (with_reducible exact ih2 _ _ _ _ _ _ _ _ _ _ _ _ _ _ _ _ _ _ _ _)
   | (with_reducible exact sternpostref02_Pseudo.mono _ _ _ _ _)
   | (with_reducible exact sternpostref02_Whole.mono _ _)
   | (with_reducible exact sternpostref08_Decode_tail.mono _ _ _ _ _ _ _ _ _ _ _ _ _ _ _ _ _ _ _)
   | (with_reducible exact LeO.refl _)
   | (with_reducible exact LeO.none _)
   | (with_reducible refine LeO.ite ?_ ?_)
   | (with_reducible refine LeO.bind ?_ (fun _=>?_))
   | exact ih0 _ _ _ _ _ _ _ _ _ _ _ _ _ _ _ _ _ _ _
   | exact ih1 _ _ _ _ _ _ _ _ _ _ _ _ _ _ _ _ _ _ _
   | exact ih2 _ _ _ _ _ _ _ _ _ _ _ _ _ _ _ _ _ _ _ _
   | exact sternpostref02_Pseudo.mono _ _ _ _ _
   | exact sternpostref02_Whole.mono _ _
   | exact sternpostref08_Decode_tail.mono _ _ _ _ _ _ _ _ _ _ _ _ _ _ _ _ _ _ _
   | exact LeO.none _
   | refine LeO.ite ?_ ?_
   | refine LeO.bind ?_ (fun _=>?_)
theorem sternpostref08_Decode.mono:∀ a0 a1 a2 k,LeO (sternpostref08_Decode.f k a0 a1 a2) (sternpostref08_Decode.f (k+1) a0 a1 a2):=by
 intro a0 a1 a2 k
 obtain⟨ih0,ih1,ih2⟩:=sternpostref08_Decode.mono_l k
 unfold sternpostref08_Decode.f
 repeat' first
   | (with_reducible exact ih0 _ _ _ _ _ _ _ _ _ _ _ _ _ _ _ _ _ _ _)
   | (with_reducible exact ih1 _ _ _ _ _ _ _ _ _ _ _ _ _ _ _ _ _ _ _)
   | (with_reducible exact ih2 _ _ _ _ _ _ _ _ _ _ _ _ _ _ _ _ _ _ _ _)
   | (with_reducible exact sternpostref02_Pseudo.mono _ _ _ _ _)
   | (with_reducible exact sternpostref02_Whole.mono _ _)
   | (with_reducible exact sternpostref08_Decode_tail.mono _ _ _ _ _ _ _ _ _ _ _ _ _ _ _ _ _ _ _)
   | (with_reducible exact LeO.refl _)
   | (with_reducible exact LeO.none _)
   | (with_reducible refine LeO.ite ?_ ?_)
   | (with_reducible refine LeO.bind ?_ (fun _=>?_))
   | exact ih0 _ _ _ _ _ _ _ _ _ _ _ _ _ _ _ _ _ _ _
   | exact ih1 _ _ _ _ _ _ _ _ _ _ _ _ _ _ _ _ _ _ _
   | exact ih2 _ _ _ _ _ _ _ _ _ _ _ _ _ _ _ _ _ _ _ _
   | exact sternpostref02_Pseudo.mono _ _ _ _ _
   | exact sternpostref02_Whole.mono _ _
   | exact sternpostref08_Decode_tail.mono _ _ _ _ _ _ _ _ _ _ _ _ _ _ _ _ _ _ _
   | exact LeO.none _
   | refine LeO.ite ?_ ?_
   | refine LeO.bind ?_ (fun _=>?_)
set_option maxHeartbeats 8000000 in
set_option maxRecDepth 100000 in
theorem sternpostref08_Decode.calls (k:Nat) (a0:Int) (a1:Int) (a2:ByteArray) (r1:Int) (r2:Int) (r3:Int) (r4:Int) (r5:Int) (r6:Int) (r7:Int) (r8:Int) (r9:Int) (r10:Int) (r11:Int) (r12:Bool) (r13:Bool) (r14:Bool) (r15:List (S73)) (r16:ByteArray) (r17:Int) (w:World) (h:sternpostref08_Decode.f k a0 a1 a2=some (r1,r2,r3,r4,r5,r6,r7,r8,r9,r10,r11,r12,r13,r14,r15,r16,r17)) :
  Calls Try.prog 25 #[.int .i64 a0,.int .i64 a1,.string a2] w fun e w'=>∃ v14_:Value,e=.returned (.tuple #[.agg #[.int .i64 r1,.int .i64 r2,.int .i64 r3,.int .i64 r4,.int .i64 r5,.int .i64 r6,.int .i64 r7,.int .i64 r8,.int .i64 r9,.int .i64 r10,.int .i64 r11,.bool r12,.bool r13,.bool r14,v14_,.string r16],.int .i64 r17])∧Kd.R k73 73 w' w.heap.size (fun _=>True) v14_ r15∧Below w.heap.size w w':=by
 have hu26:=Try.underlying26
 have hu24:=Try.underlying24
 have HB:=mkA (Below.refl w.heap.size w)
 have H:((sternpostref01_Check.f a0).bind fun t242=>(if t242=0 then ((sternpostref01_Check.f a1).bind fun t243=>(sternpostref08_Decode.j0 k a0 a1 a2 (t243 != 0) 0 0 0 0 0 0 0 0 0 0 0 false false false (⟨#[]⟩:ByteArray))) else (sternpostref08_Decode.j0 k a0 a1 a2 true 0 0 0 0 0 0 0 0 0 0 0 false false false (⟨#[]⟩:ByteArray))))=some (r1,r2,r3,r4,r5,r6,r7,r8,r9,r10,r11,r12,r13,r14,r15,r16,r17):=h
 clear h
 have HC4:=mkA H
 clear H
 go_enter Try.func25,Try.ntmps25
 go_upto_region 1 with (first|((with_reducible refine gate_dst (N:=6) rfl ?_);(try(refine gate_guard (by rfl) ?_;dsimp only));refine box_event ?hg (N:=6) ?hd (cs:=#[.int .i64 0,.int .i64 0,.int .i64 0,.int .i64 0,.int .i64 0,.int .i64 0,.int .i64 0,.int .i64 0,.int .i64 0,.int .i64 0,.int .i64 0,.bool false,.bool false,.bool false,.slice none 0 0,.string (⟨#[]⟩:ByteArray)]) (t:=26) ?hr ?_;(case hd=>rfl);(case hg=>rfl);(case hr=>first|(go_simp;done)|(go_simp;rfl));intro gb241 hg w5 hbox hb;have n0_:=mkA (bT (by repeat(first|(with_reducible first|exact HB.out|apply bA|apply bN|apply bD)|exact HB.out)) hb);have n1_:=mkA (hbox);have n2_:=mkA ((by rw[hg];exact(bZ (by repeat(first|(with_reducible first|exact HB.out|apply bA|apply bN|apply bD)|exact HB.out))):w.heap.size≤gb241));have n3_:=mkA ((by rw[hg];exact(bZ (by repeat(first|(with_reducible first|exact HB.out|apply bA|apply bN|apply bD)|exact HB.out))):w.heap.size≤gb241));clear HB;have HB:=n0_;have BK241:=n1_;have GW241:=n2_;have GE241:=n3_;clear n0_ n1_ n2_ n3_;clear hb hbox hg))
 (try simp only[puts])
 go_cut [21] (fun v21 wc=>∃ (kq:Nat) (x21_3:Bool),v21=.bool x21_3∧Aside0 (sternpostref08_Decode.j0 kq a0 a1 a2 x21_3 0 0 0 0 0 0 0 0 0 0 0 false false false (⟨#[]⟩:ByteArray)=some (r1,r2,r3,r4,r5,r6,r7,r8,r9,r10,r11,r12,r13,r14,r15,r16,r17))∧Aside0 (kq≤k)∧Aside0 (wc.heap[gb241]?=some (.cells #[.int .i64 0,.int .i64 0,.int .i64 0,.int .i64 0,.int .i64 0,.int .i64 0,.int .i64 0,.int .i64 0,.int .i64 0,.int .i64 0,.int .i64 0,.bool false,.bool false,.bool false,(.slice none 0 0),.string (⟨#[]⟩:ByteArray)] 26 (0,0)))∧Aside0 (Below w.heap.size w wc))
 case first =>
  have H:=HC4.out
  clear HC4
  replace H:=Option.bind_eq_some_iff.mp H
  obtain⟨t242,A60,H⟩:=H
  replace H:(if t242=0 then ((sternpostref01_Check.f a1).bind fun t243=>(sternpostref08_Decode.j0 k a0 a1 a2 (t243 != 0) 0 0 0 0 0 0 0 0 0 0 0 false false false (⟨#[]⟩:ByteArray))) else (sternpostref08_Decode.j0 k a0 a1 a2 true 0 0 0 0 0 0 0 0 0 0 0 false false false (⟨#[]⟩:ByteArray)))=some (r1,r2,r3,r4,r5,r6,r7,r8,r9,r10,r11,r12,r13,r14,r15,r16,r17):=H
  have A6:=mkA A60
  clear A60
  by_cases c7:t242=0
  ·rw[if_pos c7] at H
   have c7b0:(t242 == 0)=true:=beq_iff_eq.mpr c7
   have c7b1:(t242 != 0)=false:=bne_eq_false_iff_eq.mpr c7
   clear c7
   (first|rw[c7b0]|(simp only[i64_w,i32_w];rw[c7b0])|rw[c7b1]|skip)
   replace H:=Option.bind_eq_some_iff.mp H
   obtain⟨t243,A80,H⟩:=H
   replace H:(sternpostref08_Decode.j0 k a0 a1 a2 (t243 != 0) 0 0 0 0 0 0 0 0 0 0 0 false false false (⟨#[]⟩:ByteArray))=some (r1,r2,r3,r4,r5,r6,r7,r8,r9,r10,r11,r12,r13,r14,r15,r16,r17):=H
   have A8:=mkA A80
   clear A80
   have H':=mkA H
   clear H
   go_wp2_with (first|((with_reducible refine gate_callee (f:=37) rfl ?_);refine goesL_ (some 15) rfl rfl Try.func37 (by kernel_rfl) rfl #[.int .i64 a0] rfl (by(try simp only[List.map_toArray,List.map_cons,List.map_nil]);first|done|rfl|(simp only[List.length_drop,List.length_take];rfl)) ?_;(with_reducible refine(sternpostref01_Check.calls a0 t242 _ A6.out).mono ?_);rintro e w' ⟨rfl,⟨nd,rfl⟩⟩;refine⟨_,rfl,?_⟩)|(go_at_call 37;(with_reducible refine(sternpostref01_Check.calls a1 t243 _ A8.out).mono ?_);rintro e w' ⟨rfl,⟨nd,rfl⟩⟩))
   go_meet
   case rel=>exact⟨_,((t243 != 0)),(by first|rfl|(simp;done)|(simp[*];done)),H',⟨by first|omega|exact Nat.le_refl _⟩,⟨by(with_reducible repeat(first|refine kN ?_ _|refine kD ?_|refine kA ?_ _));exact BK241.out⟩,⟨by repeat(first|(with_reducible first|exact HB.out|apply bA|apply bN|apply bD|refine bS ?_ GE241.out)|exact HB.out)⟩⟩
  ·rw[if_neg c7] at H
   have c7b0:(t242 == 0)=false:=beq_eq_false_iff_ne.mpr c7
   have c7b1:(t242 != 0)=true:=bne_iff_ne.mpr c7
   (first|rw[c7b0]|(simp only[i64_w,i32_w];rw[c7b0])|rw[c7b1]|skip)
   have H':=mkA H
   clear H
   go_wp2_with (first|((with_reducible refine gate_callee (f:=37) rfl ?_);refine goesL_ (some 15) rfl rfl Try.func37 (by kernel_rfl) rfl #[.int .i64 a0] rfl (by(try simp only[List.map_toArray,List.map_cons,List.map_nil]);first|done|rfl|(simp only[List.length_drop,List.length_take];rfl)) ?_;(with_reducible refine(sternpostref01_Check.calls a0 t242 _ A6.out).mono ?_);rintro e w' ⟨rfl,⟨nd,rfl⟩⟩;refine⟨_,rfl,?_⟩))
   go_meet
   case rel=>exact⟨_,(true),(by first|rfl|(simp;done)|(simp[*];done)),H',⟨by first|omega|exact Nat.le_refl _⟩,⟨by(with_reducible repeat(first|refine kN ?_ _|refine kD ?_|refine kA ?_ _));exact BK241.out⟩,⟨by repeat(first|(with_reducible first|exact HB.out|apply bA|apply bN|apply bD|refine bS ?_ GE241.out)|exact HB.out)⟩⟩
 case rest =>
  clear HC4
  try clear c2;try clear p2;try clear c3;try clear c7;try clear c7b0;try clear c7b1
  obtain⟨kq,x21_3,rfl,HA,HJ3,BK241,HB⟩:=hcut
  cases kq with
  | zero=>exact absurd HA.out (by simp[sternpostref08_Decode.j0])
  | succ kj3 =>
   have H:=HA.out
   clear HA
   simp only[sternpostref08_Decode.j0] at H
   by_cases c9:x21_3=true
   ·subst c9
    have H1:(some (0,0,0,0,0,0,0,0,0,0,0,false,false,false,([]:List (S73)),(⟨#[]⟩:ByteArray),1))=some (r1,r2,r3,r4,r5,r6,r7,r8,r9,r10,r11,r12,r13,r14,r15,r16,r17):=by rw[if_pos rfl] at H;exact H
    clear H
    have H:=H1
    clear H1
    simp only[Option.some.injEq,Prod.mk.injEq] at H
    obtain⟨rfl,rfl,rfl,rfl,rfl,rfl,rfl,rfl,rfl,rfl,rfl,rfl,rfl,rfl,rfl,rfl,rfl⟩:=H
    obtain⟨hcz10_0,hcz10_1,hcz10_2,hcz10_3,hcz10_4,hcz10_5,hcz10_6,hcz10_7,hcz10_8,hcz10_9,hcz10_10,hcz10_11,hcz10_12,hcz10_13,hcz10_14,hcz10_15⟩:=blk_cells16 BK241.out
    obtain⟨hfz10_0,hfz10_1,hfz10_2,hfz10_3,hfz10_4,hfz10_5,hfz10_6,hfz10_7,hfz10_8,hfz10_9,hfz10_10,hfz10_11,hfz10_12,hfz10_13,hfz10_14,hfz10_15⟩:=blk_frozens16 BK241.out
    go_wp2
    refine bodyPost_ret (results_ct rfl _ _ gb241 26 #[.int .i64 0,.int .i64 0,.int .i64 0,.int .i64 0,.int .i64 0,.int .i64 0,.int .i64 0,.int .i64 0,.int .i64 0,.int .i64 0,.int .i64 0,.bool false,.bool false,.bool false,.slice none 0 0,.string (⟨#[]⟩:ByteArray)] (0,0) _ rfl (by(with_reducible repeat(first|refine kN ?_ _|refine kD ?_|refine kA ?_ _));refine kP (cs:=#[.int .i64 0,.int .i64 0,.int .i64 0,.int .i64 0,.int .i64 0,.int .i64 0,.int .i64 0,.int .i64 0,.int .i64 0,.int .i64 0,.int .i64 0,.bool false,.bool false,.bool false,.slice none 0 0,.string (⟨#[]⟩:ByteArray)]) ?_ 15 _ rfl;refine kP (cs:=#[.int .i64 0,.int .i64 0,.int .i64 0,.int .i64 0,.int .i64 0,.int .i64 0,.int .i64 0,.int .i64 0,.int .i64 0,.int .i64 0,.int .i64 0,.bool false,.bool false,.bool false,.slice none 0 0,.string (⟨#[]⟩:ByteArray)]) ?_ 14 _ rfl;refine kP (cs:=#[.int .i64 0,.int .i64 0,.int .i64 0,.int .i64 0,.int .i64 0,.int .i64 0,.int .i64 0,.int .i64 0,.int .i64 0,.int .i64 0,.int .i64 0,.bool false,.bool false,.bool false,.slice none 0 0,.string (⟨#[]⟩:ByteArray)]) ?_ 13 _ rfl;refine kP (cs:=#[.int .i64 0,.int .i64 0,.int .i64 0,.int .i64 0,.int .i64 0,.int .i64 0,.int .i64 0,.int .i64 0,.int .i64 0,.int .i64 0,.int .i64 0,.bool false,.bool false,.bool false,.slice none 0 0,.string (⟨#[]⟩:ByteArray)]) ?_ 12 _ rfl;refine kP (cs:=#[.int .i64 0,.int .i64 0,.int .i64 0,.int .i64 0,.int .i64 0,.int .i64 0,.int .i64 0,.int .i64 0,.int .i64 0,.int .i64 0,.int .i64 0,.bool false,.bool false,.bool false,.slice none 0 0,.string (⟨#[]⟩:ByteArray)]) ?_ 11 _ rfl;refine kP (cs:=#[.int .i64 0,.int .i64 0,.int .i64 0,.int .i64 0,.int .i64 0,.int .i64 0,.int .i64 0,.int .i64 0,.int .i64 0,.int .i64 0,.int .i64 0,.bool false,.bool false,.bool false,.slice none 0 0,.string (⟨#[]⟩:ByteArray)]) ?_ 10 _ rfl;refine kP (cs:=#[.int .i64 0,.int .i64 0,.int .i64 0,.int .i64 0,.int .i64 0,.int .i64 0,.int .i64 0,.int .i64 0,.int .i64 0,.int .i64 0,.int .i64 0,.bool false,.bool false,.bool false,.slice none 0 0,.string (⟨#[]⟩:ByteArray)]) ?_ 9 _ rfl;refine kP (cs:=#[.int .i64 0,.int .i64 0,.int .i64 0,.int .i64 0,.int .i64 0,.int .i64 0,.int .i64 0,.int .i64 0,.int .i64 0,.int .i64 0,.int .i64 0,.bool false,.bool false,.bool false,.slice none 0 0,.string (⟨#[]⟩:ByteArray)]) ?_ 8 _ rfl;refine kP (cs:=#[.int .i64 0,.int .i64 0,.int .i64 0,.int .i64 0,.int .i64 0,.int .i64 0,.int .i64 0,.int .i64 0,.int .i64 0,.int .i64 0,.int .i64 0,.bool false,.bool false,.bool false,.slice none 0 0,.string (⟨#[]⟩:ByteArray)]) ?_ 7 _ rfl;refine kP (cs:=#[.int .i64 0,.int .i64 0,.int .i64 0,.int .i64 0,.int .i64 0,.int .i64 0,.int .i64 0,.int .i64 0,.int .i64 0,.int .i64 0,.int .i64 0,.bool false,.bool false,.bool false,.slice none 0 0,.string (⟨#[]⟩:ByteArray)]) ?_ 6 _ rfl;refine kP (cs:=#[.int .i64 0,.int .i64 0,.int .i64 0,.int .i64 0,.int .i64 0,.int .i64 0,.int .i64 0,.int .i64 0,.int .i64 0,.int .i64 0,.int .i64 0,.bool false,.bool false,.bool false,.slice none 0 0,.string (⟨#[]⟩:ByteArray)]) ?_ 5 _ rfl;refine kP (cs:=#[.int .i64 0,.int .i64 0,.int .i64 0,.int .i64 0,.int .i64 0,.int .i64 0,.int .i64 0,.int .i64 0,.int .i64 0,.int .i64 0,.int .i64 0,.bool false,.bool false,.bool false,.slice none 0 0,.string (⟨#[]⟩:ByteArray)]) ?_ 4 _ rfl;refine kP (cs:=#[.int .i64 0,.int .i64 0,.int .i64 0,.int .i64 0,.int .i64 0,.int .i64 0,.int .i64 0,.int .i64 0,.int .i64 0,.int .i64 0,.int .i64 0,.bool false,.bool false,.bool false,.slice none 0 0,.string (⟨#[]⟩:ByteArray)]) ?_ 3 _ rfl;refine kP (cs:=#[.int .i64 0,.int .i64 0,.int .i64 0,.int .i64 0,.int .i64 0,.int .i64 0,.int .i64 0,.int .i64 0,.int .i64 0,.int .i64 0,.int .i64 0,.bool false,.bool false,.bool false,.slice none 0 0,.string (⟨#[]⟩:ByteArray)]) ?_ 2 _ rfl;refine kP (cs:=#[.int .i64 0,.int .i64 0,.int .i64 0,.int .i64 0,.int .i64 0,.int .i64 0,.int .i64 0,.int .i64 0,.int .i64 0,.int .i64 0,.int .i64 0,.bool false,.bool false,.bool false,.slice none 0 0,.string (⟨#[]⟩:ByteArray)]) ?_ 1 _ rfl;refine kP (cs:=#[.int .i64 0,.int .i64 0,.int .i64 0,.int .i64 0,.int .i64 0,.int .i64 0,.int .i64 0,.int .i64 0,.int .i64 0,.int .i64 0,.int .i64 0,.bool false,.bool false,.bool false,.slice none 0 0,.string (⟨#[]⟩:ByteArray)]) ?_ 0 _ rfl;(with_reducible repeat(first|refine kN ?_ _|refine kD ?_|refine kA ?_ _));exact BK241.out) Try.underlying26 rfl (by kernel_rfl)) rfl ?_
    exact⟨_,by first|rfl|(simp[errW_none,errW_some] <;> rfl)|(simp[*,errW_none,errW_some] <;> rfl),by first|exact Kd.R_nil _ _ _ _ _|exact Kd.N_nil _ _ _ _ _|exact Kd.V_nil _ _ _ _ _|exact Kd.Q_nil _ _ _ _ _|exact Kd.S_nil _ _ _ _ _,by repeat(first|(with_reducible first|exact HB.out|apply bA|apply bN|apply bD|refine bS ?_ GE241.out)|exact HB.out)⟩
   ·replace c9:=Bool.eq_false_iff.mpr c9
    subst c9
    have H1:(if (a2.size:Int) < 20 then (sternpostref08_Decode.j1 kj3 a0 a1 a2 true 0 0 0 0 0 0 0 0 0 0 0 false false false (⟨#[]⟩:ByteArray)) else (sternpostref08_Decode.j1 kj3 a0 a1 a2 (decide ((a2.size:Int) > 1540)) 0 0 0 0 0 0 0 0 0 0 0 false false false (⟨#[]⟩:ByteArray)))=some (r1,r2,r3,r4,r5,r6,r7,r8,r9,r10,r11,r12,r13,r14,r15,r16,r17):=by rw[if_neg (show ¬ (false=true) by decide)] at H;exact H
    clear H
    have H:=H1
    clear H1
    have HC11:=mkA H
    clear H
    go_upto_region 3 with (fail)
    go_cut [30] (fun v30 wc=>∃ (kq:Nat) (x30_10:Bool),v30=.bool x30_10∧Aside0 (sternpostref08_Decode.j1 kq a0 a1 a2 x30_10 0 0 0 0 0 0 0 0 0 0 0 false false false (⟨#[]⟩:ByteArray)=some (r1,r2,r3,r4,r5,r6,r7,r8,r9,r10,r11,r12,r13,r14,r15,r16,r17))∧Aside0 (kq≤kj3)∧Aside0 (wc.heap[gb241]?=some (.cells #[.int .i64 0,.int .i64 0,.int .i64 0,.int .i64 0,.int .i64 0,.int .i64 0,.int .i64 0,.int .i64 0,.int .i64 0,.int .i64 0,.int .i64 0,.bool false,.bool false,.bool false,(.slice none 0 0),.string (⟨#[]⟩:ByteArray)] 26 (0,0)))∧Aside0 (Below w.heap.size w wc))
    case first =>
     have H:=HC11.out
     clear HC11
     by_cases c12:(a2.size:Int) < 20
     ·rw[if_pos c12] at H
      have c12b0:decide ((a2.size:Int) < 20)=true:=decide_eq_true c12
      have c12b1:decide (a2.size < 20)=true:=decide_eq_true (by omega)
      clear c12
      (first|rw[c12b0]|(simp only[i64_w,i32_w];rw[c12b0])|rw[c12b1]|skip)
      have H':=mkA H
      clear H
      go_wp2
      go_meet
      case rel=>exact⟨_,(true),(by first|rfl|(simp;done)|(simp[*];done)),H',⟨by have:=HJ3.out;first|omega|exact Nat.le_refl _⟩,⟨by(with_reducible repeat(first|refine kN ?_ _|refine kD ?_|refine kA ?_ _));exact BK241.out⟩,⟨by repeat(first|(with_reducible first|exact HB.out|apply bA|apply bN|apply bD|refine bS ?_ GE241.out)|exact HB.out)⟩⟩
     ·rw[if_neg c12] at H
      have c12b0:decide ((a2.size:Int) < 20)=false:=decide_eq_false c12
      have c12b1:decide (a2.size < 20)=false:=decide_eq_false (by omega)
      clear c12
      (first|rw[c12b0]|(simp only[i64_w,i32_w];rw[c12b0])|rw[c12b1]|skip)
      have H':=mkA H
      clear H
      go_wp2
      go_meet
      case rel=>exact⟨_,(decide ((a2.size:Int) > 1540)),(by first|rfl|(simp;done)|(simp[*];done)),H',⟨by have:=HJ3.out;first|omega|exact Nat.le_refl _⟩,⟨by(with_reducible repeat(first|refine kN ?_ _|refine kD ?_|refine kA ?_ _));exact BK241.out⟩,⟨by repeat(first|(with_reducible first|exact HB.out|apply bA|apply bN|apply bD|refine bS ?_ GE241.out)|exact HB.out)⟩⟩
    case rest =>
     clear HC11
     try clear c1;try clear c2;try clear p2;try clear c3;try clear c7;try clear c7b0;try clear c7b1;try clear c9;try clear c12;try clear c12b0;try clear c12b1;try clear hcz10_0 hcz10_1 hcz10_10 hcz10_11 hcz10_12 hcz10_13 hcz10_14 hcz10_15 hcz10_2 hcz10_3 hcz10_4 hcz10_5 hcz10_6 hcz10_7 hcz10_8 hcz10_9;try clear hfz10_0 hfz10_1 hfz10_10 hfz10_11 hfz10_12 hfz10_13 hfz10_14 hfz10_15 hfz10_2 hfz10_3 hfz10_4 hfz10_5 hfz10_6 hfz10_7 hfz10_8 hfz10_9;try clear p2
     obtain⟨kq,x30_10,rfl,HA,HJ10,BK241,HB⟩:=hcut
     cases kq with
     | zero=>exact absurd HA.out (by simp[sternpostref08_Decode.j1])
     | succ kj10 =>
      have H:=HA.out
      clear HA
      simp only[sternpostref08_Decode.j1] at H
      by_cases c13:x30_10=true
      ·subst c13
       have H1:(some (0,0,0,0,0,0,0,0,0,0,0,false,false,false,([]:List (S73)),(⟨#[]⟩:ByteArray),80))=some (r1,r2,r3,r4,r5,r6,r7,r8,r9,r10,r11,r12,r13,r14,r15,r16,r17):=by rw[if_pos rfl] at H;exact H
       clear H
       have H:=H1
       clear H1
       simp only[Option.some.injEq,Prod.mk.injEq] at H
       obtain⟨rfl,rfl,rfl,rfl,rfl,rfl,rfl,rfl,rfl,rfl,rfl,rfl,rfl,rfl,rfl,rfl,rfl⟩:=H
       obtain⟨hcz14_0,hcz14_1,hcz14_2,hcz14_3,hcz14_4,hcz14_5,hcz14_6,hcz14_7,hcz14_8,hcz14_9,hcz14_10,hcz14_11,hcz14_12,hcz14_13,hcz14_14,hcz14_15⟩:=blk_cells16 BK241.out
       obtain⟨hfz14_0,hfz14_1,hfz14_2,hfz14_3,hfz14_4,hfz14_5,hfz14_6,hfz14_7,hfz14_8,hfz14_9,hfz14_10,hfz14_11,hfz14_12,hfz14_13,hfz14_14,hfz14_15⟩:=blk_frozens16 BK241.out
       go_wp2
       refine bodyPost_ret (results_ct rfl _ _ gb241 26 #[.int .i64 0,.int .i64 0,.int .i64 0,.int .i64 0,.int .i64 0,.int .i64 0,.int .i64 0,.int .i64 0,.int .i64 0,.int .i64 0,.int .i64 0,.bool false,.bool false,.bool false,.slice none 0 0,.string (⟨#[]⟩:ByteArray)] (0,0) _ rfl (by(with_reducible repeat(first|refine kN ?_ _|refine kD ?_|refine kA ?_ _));refine kP (cs:=#[.int .i64 0,.int .i64 0,.int .i64 0,.int .i64 0,.int .i64 0,.int .i64 0,.int .i64 0,.int .i64 0,.int .i64 0,.int .i64 0,.int .i64 0,.bool false,.bool false,.bool false,.slice none 0 0,.string (⟨#[]⟩:ByteArray)]) ?_ 15 _ rfl;refine kP (cs:=#[.int .i64 0,.int .i64 0,.int .i64 0,.int .i64 0,.int .i64 0,.int .i64 0,.int .i64 0,.int .i64 0,.int .i64 0,.int .i64 0,.int .i64 0,.bool false,.bool false,.bool false,.slice none 0 0,.string (⟨#[]⟩:ByteArray)]) ?_ 14 _ rfl;refine kP (cs:=#[.int .i64 0,.int .i64 0,.int .i64 0,.int .i64 0,.int .i64 0,.int .i64 0,.int .i64 0,.int .i64 0,.int .i64 0,.int .i64 0,.int .i64 0,.bool false,.bool false,.bool false,.slice none 0 0,.string (⟨#[]⟩:ByteArray)]) ?_ 13 _ rfl;refine kP (cs:=#[.int .i64 0,.int .i64 0,.int .i64 0,.int .i64 0,.int .i64 0,.int .i64 0,.int .i64 0,.int .i64 0,.int .i64 0,.int .i64 0,.int .i64 0,.bool false,.bool false,.bool false,.slice none 0 0,.string (⟨#[]⟩:ByteArray)]) ?_ 12 _ rfl;refine kP (cs:=#[.int .i64 0,.int .i64 0,.int .i64 0,.int .i64 0,.int .i64 0,.int .i64 0,.int .i64 0,.int .i64 0,.int .i64 0,.int .i64 0,.int .i64 0,.bool false,.bool false,.bool false,.slice none 0 0,.string (⟨#[]⟩:ByteArray)]) ?_ 11 _ rfl;refine kP (cs:=#[.int .i64 0,.int .i64 0,.int .i64 0,.int .i64 0,.int .i64 0,.int .i64 0,.int .i64 0,.int .i64 0,.int .i64 0,.int .i64 0,.int .i64 0,.bool false,.bool false,.bool false,.slice none 0 0,.string (⟨#[]⟩:ByteArray)]) ?_ 10 _ rfl;refine kP (cs:=#[.int .i64 0,.int .i64 0,.int .i64 0,.int .i64 0,.int .i64 0,.int .i64 0,.int .i64 0,.int .i64 0,.int .i64 0,.int .i64 0,.int .i64 0,.bool false,.bool false,.bool false,.slice none 0 0,.string (⟨#[]⟩:ByteArray)]) ?_ 9 _ rfl;refine kP (cs:=#[.int .i64 0,.int .i64 0,.int .i64 0,.int .i64 0,.int .i64 0,.int .i64 0,.int .i64 0,.int .i64 0,.int .i64 0,.int .i64 0,.int .i64 0,.bool false,.bool false,.bool false,.slice none 0 0,.string (⟨#[]⟩:ByteArray)]) ?_ 8 _ rfl;refine kP (cs:=#[.int .i64 0,.int .i64 0,.int .i64 0,.int .i64 0,.int .i64 0,.int .i64 0,.int .i64 0,.int .i64 0,.int .i64 0,.int .i64 0,.int .i64 0,.bool false,.bool false,.bool false,.slice none 0 0,.string (⟨#[]⟩:ByteArray)]) ?_ 7 _ rfl;refine kP (cs:=#[.int .i64 0,.int .i64 0,.int .i64 0,.int .i64 0,.int .i64 0,.int .i64 0,.int .i64 0,.int .i64 0,.int .i64 0,.int .i64 0,.int .i64 0,.bool false,.bool false,.bool false,.slice none 0 0,.string (⟨#[]⟩:ByteArray)]) ?_ 6 _ rfl;refine kP (cs:=#[.int .i64 0,.int .i64 0,.int .i64 0,.int .i64 0,.int .i64 0,.int .i64 0,.int .i64 0,.int .i64 0,.int .i64 0,.int .i64 0,.int .i64 0,.bool false,.bool false,.bool false,.slice none 0 0,.string (⟨#[]⟩:ByteArray)]) ?_ 5 _ rfl;refine kP (cs:=#[.int .i64 0,.int .i64 0,.int .i64 0,.int .i64 0,.int .i64 0,.int .i64 0,.int .i64 0,.int .i64 0,.int .i64 0,.int .i64 0,.int .i64 0,.bool false,.bool false,.bool false,.slice none 0 0,.string (⟨#[]⟩:ByteArray)]) ?_ 4 _ rfl;refine kP (cs:=#[.int .i64 0,.int .i64 0,.int .i64 0,.int .i64 0,.int .i64 0,.int .i64 0,.int .i64 0,.int .i64 0,.int .i64 0,.int .i64 0,.int .i64 0,.bool false,.bool false,.bool false,.slice none 0 0,.string (⟨#[]⟩:ByteArray)]) ?_ 3 _ rfl;refine kP (cs:=#[.int .i64 0,.int .i64 0,.int .i64 0,.int .i64 0,.int .i64 0,.int .i64 0,.int .i64 0,.int .i64 0,.int .i64 0,.int .i64 0,.int .i64 0,.bool false,.bool false,.bool false,.slice none 0 0,.string (⟨#[]⟩:ByteArray)]) ?_ 2 _ rfl;refine kP (cs:=#[.int .i64 0,.int .i64 0,.int .i64 0,.int .i64 0,.int .i64 0,.int .i64 0,.int .i64 0,.int .i64 0,.int .i64 0,.int .i64 0,.int .i64 0,.bool false,.bool false,.bool false,.slice none 0 0,.string (⟨#[]⟩:ByteArray)]) ?_ 1 _ rfl;refine kP (cs:=#[.int .i64 0,.int .i64 0,.int .i64 0,.int .i64 0,.int .i64 0,.int .i64 0,.int .i64 0,.int .i64 0,.int .i64 0,.int .i64 0,.int .i64 0,.bool false,.bool false,.bool false,.slice none 0 0,.string (⟨#[]⟩:ByteArray)]) ?_ 0 _ rfl;(with_reducible repeat(first|refine kN ?_ _|refine kD ?_|refine kA ?_ _));exact BK241.out) Try.underlying26 rfl (by kernel_rfl)) rfl ?_
       exact⟨_,by first|rfl|(simp[errW_none,errW_some] <;> rfl)|(simp[*,errW_none,errW_some] <;> rfl),by first|exact Kd.R_nil _ _ _ _ _|exact Kd.N_nil _ _ _ _ _|exact Kd.V_nil _ _ _ _ _|exact Kd.Q_nil _ _ _ _ _|exact Kd.S_nil _ _ _ _ _,by repeat(first|(with_reducible first|exact HB.out|apply bA|apply bN|apply bD|refine bS ?_ GE241.out)|exact HB.out)⟩
      ·replace c13:=Bool.eq_false_iff.mpr c13
       subst c13
       have H1:(if 12 < (a2.size:Int) then (if (((Int.tdiv (bt a2 12) 16) % 256) * 4) < 20 then (sternpostref08_Decode.j2 kj10 a0 a1 a2 (((Int.tdiv (bt a2 12) 16) % 256) * 4) true 0 0 0 0 0 0 0 0 0 0 0 false false false (⟨#[]⟩:ByteArray)) else (sternpostref08_Decode.j2 kj10 a0 a1 a2 (((Int.tdiv (bt a2 12) 16) % 256) * 4) (decide ((((Int.tdiv (bt a2 12) 16) % 256) * 4) > (a2.size:Int))) 0 0 0 0 0 0 0 0 0 0 0 false false false (⟨#[]⟩:ByteArray))) else (none))=some (r1,r2,r3,r4,r5,r6,r7,r8,r9,r10,r11,r12,r13,r14,r15,r16,r17):=by rw[if_neg (show ¬ (false=true) by decide)] at H;exact H
       clear H
       have H:=H1
       clear H1
       by_cases c15:12 < (a2.size:Int)
       ·rw[if_pos c15] at H
        have c15b0:decide (12 < (a2.size:Int))=true:=decide_eq_true c15
        have c15b1:decide (12 < a2.size)=true:=decide_eq_true (by omega)
        clear c15
        have HC17:=mkA H
        clear H
        have p16:0≤(12:Int):=(by omega)
        have q16:12 < a2.size:=(by have:(12:Int) < (a2.size:Int):=of_decide_eq_true (by first|(with_reducible assumption)|assumption);omega)
        have hx16:∀ h:12 < a2.size,((a2[12]'h).toNat:Int)=bt a2 12:=bt_at a2 12
        clear p16
        have qi16:(12 < (a2.size:Int))=True:=eq_true (of_decide_eq_true (by first|(with_reducible assumption)|assumption))
        replace q16:=eq_true q16
        go_upto_region 6 with (fail)
        go_cut [44] (fun v44 wc=>∃ (kq:Nat) (x44_16:Bool),v44=.bool x44_16∧Aside0 (sternpostref08_Decode.j2 kq a0 a1 a2 (((Int.tdiv (bt a2 12) 16) % 256) * 4) x44_16 0 0 0 0 0 0 0 0 0 0 0 false false false (⟨#[]⟩:ByteArray)=some (r1,r2,r3,r4,r5,r6,r7,r8,r9,r10,r11,r12,r13,r14,r15,r16,r17))∧Aside0 (kq≤kj10)∧Aside0 (wc.heap[gb241]?=some (.cells #[.int .i64 0,.int .i64 0,.int .i64 0,.int .i64 0,.int .i64 0,.int .i64 0,.int .i64 0,.int .i64 0,.int .i64 0,.int .i64 0,.int .i64 0,.bool false,.bool false,.bool false,(.slice none 0 0),.string (⟨#[]⟩:ByteArray)] 26 (0,0)))∧Aside0 (Below w.heap.size w wc))
        case first =>
         have H:=HC17.out
         clear HC17
         by_cases c18:(((Int.tdiv (bt a2 12) 16) % 256) * 4) < 20
         ·rw[if_pos c18] at H
          have c18b0:decide ((((Int.tdiv (bt a2 12) 16) % 256) * 4) < 20)=true:=decide_eq_true c18
          clear c18
          (first|rw[c18b0]|(simp only[i64_w,i32_w];rw[c18b0])|rw[c18b1]|skip)
          have H':=mkA H
          clear H
          go_wp2
          go_meet
          case rel=>exact⟨_,(true),(by first|rfl|(simp;done)|(simp[*];done)),H',⟨by have:=HJ3.out;have:=HJ10.out;first|omega|exact Nat.le_refl _⟩,⟨by(with_reducible repeat(first|refine kN ?_ _|refine kD ?_|refine kA ?_ _));exact BK241.out⟩,⟨by repeat(first|(with_reducible first|exact HB.out|apply bA|apply bN|apply bD|refine bS ?_ GE241.out)|exact HB.out)⟩⟩
         ·rw[if_neg c18] at H
          have c18b0:decide ((((Int.tdiv (bt a2 12) 16) % 256) * 4) < 20)=false:=decide_eq_false c18
          clear c18
          (first|rw[c18b0]|(simp only[i64_w,i32_w];rw[c18b0])|rw[c18b1]|skip)
          have H':=mkA H
          clear H
          go_wp2
          go_meet
          case rel=>exact⟨_,(decide ((((Int.tdiv (bt a2 12) 16) % 256) * 4) > (a2.size:Int))),(by first|rfl|(simp;done)|(simp[*];done)),H',⟨by have:=HJ3.out;have:=HJ10.out;first|omega|exact Nat.le_refl _⟩,⟨by(with_reducible repeat(first|refine kN ?_ _|refine kD ?_|refine kA ?_ _));exact BK241.out⟩,⟨by repeat(first|(with_reducible first|exact HB.out|apply bA|apply bN|apply bD|refine bS ?_ GE241.out)|exact HB.out)⟩⟩
        case rest =>
         clear HC17
         try clear c1;try clear p1;try clear q1;try clear hx1;try clear qi1;try clear c2;try clear p2;try clear c3;try clear c7;try clear c7b0;try clear c7b1;try clear c9;try clear c12;try clear c12b0;try clear c12b1;try clear c13;try clear c15;try clear c15b0;try clear c15b1;try clear p16;try clear q16;try clear hx16;try clear qi16;try clear c18;try clear c18b0;try clear c18b1;try clear hcz10_0 hcz10_1 hcz10_10 hcz10_11 hcz10_12 hcz10_13 hcz10_14 hcz10_15 hcz10_2 hcz10_3 hcz10_4 hcz10_5 hcz10_6 hcz10_7 hcz10_8 hcz10_9;try clear hcz14_0 hcz14_1 hcz14_10 hcz14_11 hcz14_12 hcz14_13 hcz14_14 hcz14_15 hcz14_2 hcz14_3 hcz14_4 hcz14_5 hcz14_6 hcz14_7 hcz14_8 hcz14_9;try clear hfz10_0 hfz10_1 hfz10_10 hfz10_11 hfz10_12 hfz10_13 hfz10_14 hfz10_15 hfz10_2 hfz10_3 hfz10_4 hfz10_5 hfz10_6 hfz10_7 hfz10_8 hfz10_9;try clear hfz14_0 hfz14_1 hfz14_10 hfz14_11 hfz14_12 hfz14_13 hfz14_14 hfz14_15 hfz14_2 hfz14_3 hfz14_4 hfz14_5 hfz14_6 hfz14_7 hfz14_8 hfz14_9;try clear p16;try clear p2;try clear q16
         obtain⟨kq,x44_16,rfl,HA,HJ16,BK241,HB⟩:=hcut
         cases kq with
         | zero=>exact absurd HA.out (by simp[sternpostref08_Decode.j2])
         | succ kj16 =>
          have H:=HA.out
          clear HA
          simp only[sternpostref08_Decode.j2] at H
          by_cases c19:x44_16=true
          ·subst c19
           have H1:(some (0,0,0,0,0,0,0,0,0,0,0,false,false,false,([]:List (S73)),(⟨#[]⟩:ByteArray),80))=some (r1,r2,r3,r4,r5,r6,r7,r8,r9,r10,r11,r12,r13,r14,r15,r16,r17):=by rw[if_pos rfl] at H;exact H
           clear H
           have H:=H1
           clear H1
           simp only[Option.some.injEq,Prod.mk.injEq] at H
           obtain⟨rfl,rfl,rfl,rfl,rfl,rfl,rfl,rfl,rfl,rfl,rfl,rfl,rfl,rfl,rfl,rfl,rfl⟩:=H
           obtain⟨hcz20_0,hcz20_1,hcz20_2,hcz20_3,hcz20_4,hcz20_5,hcz20_6,hcz20_7,hcz20_8,hcz20_9,hcz20_10,hcz20_11,hcz20_12,hcz20_13,hcz20_14,hcz20_15⟩:=blk_cells16 BK241.out
           obtain⟨hfz20_0,hfz20_1,hfz20_2,hfz20_3,hfz20_4,hfz20_5,hfz20_6,hfz20_7,hfz20_8,hfz20_9,hfz20_10,hfz20_11,hfz20_12,hfz20_13,hfz20_14,hfz20_15⟩:=blk_frozens16 BK241.out
           go_wp2
           refine bodyPost_ret (results_ct rfl _ _ gb241 26 #[.int .i64 0,.int .i64 0,.int .i64 0,.int .i64 0,.int .i64 0,.int .i64 0,.int .i64 0,.int .i64 0,.int .i64 0,.int .i64 0,.int .i64 0,.bool false,.bool false,.bool false,.slice none 0 0,.string (⟨#[]⟩:ByteArray)] (0,0) _ rfl (by(with_reducible repeat(first|refine kN ?_ _|refine kD ?_|refine kA ?_ _));refine kP (cs:=#[.int .i64 0,.int .i64 0,.int .i64 0,.int .i64 0,.int .i64 0,.int .i64 0,.int .i64 0,.int .i64 0,.int .i64 0,.int .i64 0,.int .i64 0,.bool false,.bool false,.bool false,.slice none 0 0,.string (⟨#[]⟩:ByteArray)]) ?_ 15 _ rfl;refine kP (cs:=#[.int .i64 0,.int .i64 0,.int .i64 0,.int .i64 0,.int .i64 0,.int .i64 0,.int .i64 0,.int .i64 0,.int .i64 0,.int .i64 0,.int .i64 0,.bool false,.bool false,.bool false,.slice none 0 0,.string (⟨#[]⟩:ByteArray)]) ?_ 14 _ rfl;refine kP (cs:=#[.int .i64 0,.int .i64 0,.int .i64 0,.int .i64 0,.int .i64 0,.int .i64 0,.int .i64 0,.int .i64 0,.int .i64 0,.int .i64 0,.int .i64 0,.bool false,.bool false,.bool false,.slice none 0 0,.string (⟨#[]⟩:ByteArray)]) ?_ 13 _ rfl;refine kP (cs:=#[.int .i64 0,.int .i64 0,.int .i64 0,.int .i64 0,.int .i64 0,.int .i64 0,.int .i64 0,.int .i64 0,.int .i64 0,.int .i64 0,.int .i64 0,.bool false,.bool false,.bool false,.slice none 0 0,.string (⟨#[]⟩:ByteArray)]) ?_ 12 _ rfl;refine kP (cs:=#[.int .i64 0,.int .i64 0,.int .i64 0,.int .i64 0,.int .i64 0,.int .i64 0,.int .i64 0,.int .i64 0,.int .i64 0,.int .i64 0,.int .i64 0,.bool false,.bool false,.bool false,.slice none 0 0,.string (⟨#[]⟩:ByteArray)]) ?_ 11 _ rfl;refine kP (cs:=#[.int .i64 0,.int .i64 0,.int .i64 0,.int .i64 0,.int .i64 0,.int .i64 0,.int .i64 0,.int .i64 0,.int .i64 0,.int .i64 0,.int .i64 0,.bool false,.bool false,.bool false,.slice none 0 0,.string (⟨#[]⟩:ByteArray)]) ?_ 10 _ rfl;refine kP (cs:=#[.int .i64 0,.int .i64 0,.int .i64 0,.int .i64 0,.int .i64 0,.int .i64 0,.int .i64 0,.int .i64 0,.int .i64 0,.int .i64 0,.int .i64 0,.bool false,.bool false,.bool false,.slice none 0 0,.string (⟨#[]⟩:ByteArray)]) ?_ 9 _ rfl;refine kP (cs:=#[.int .i64 0,.int .i64 0,.int .i64 0,.int .i64 0,.int .i64 0,.int .i64 0,.int .i64 0,.int .i64 0,.int .i64 0,.int .i64 0,.int .i64 0,.bool false,.bool false,.bool false,.slice none 0 0,.string (⟨#[]⟩:ByteArray)]) ?_ 8 _ rfl;refine kP (cs:=#[.int .i64 0,.int .i64 0,.int .i64 0,.int .i64 0,.int .i64 0,.int .i64 0,.int .i64 0,.int .i64 0,.int .i64 0,.int .i64 0,.int .i64 0,.bool false,.bool false,.bool false,.slice none 0 0,.string (⟨#[]⟩:ByteArray)]) ?_ 7 _ rfl;refine kP (cs:=#[.int .i64 0,.int .i64 0,.int .i64 0,.int .i64 0,.int .i64 0,.int .i64 0,.int .i64 0,.int .i64 0,.int .i64 0,.int .i64 0,.int .i64 0,.bool false,.bool false,.bool false,.slice none 0 0,.string (⟨#[]⟩:ByteArray)]) ?_ 6 _ rfl;refine kP (cs:=#[.int .i64 0,.int .i64 0,.int .i64 0,.int .i64 0,.int .i64 0,.int .i64 0,.int .i64 0,.int .i64 0,.int .i64 0,.int .i64 0,.int .i64 0,.bool false,.bool false,.bool false,.slice none 0 0,.string (⟨#[]⟩:ByteArray)]) ?_ 5 _ rfl;refine kP (cs:=#[.int .i64 0,.int .i64 0,.int .i64 0,.int .i64 0,.int .i64 0,.int .i64 0,.int .i64 0,.int .i64 0,.int .i64 0,.int .i64 0,.int .i64 0,.bool false,.bool false,.bool false,.slice none 0 0,.string (⟨#[]⟩:ByteArray)]) ?_ 4 _ rfl;refine kP (cs:=#[.int .i64 0,.int .i64 0,.int .i64 0,.int .i64 0,.int .i64 0,.int .i64 0,.int .i64 0,.int .i64 0,.int .i64 0,.int .i64 0,.int .i64 0,.bool false,.bool false,.bool false,.slice none 0 0,.string (⟨#[]⟩:ByteArray)]) ?_ 3 _ rfl;refine kP (cs:=#[.int .i64 0,.int .i64 0,.int .i64 0,.int .i64 0,.int .i64 0,.int .i64 0,.int .i64 0,.int .i64 0,.int .i64 0,.int .i64 0,.int .i64 0,.bool false,.bool false,.bool false,.slice none 0 0,.string (⟨#[]⟩:ByteArray)]) ?_ 2 _ rfl;refine kP (cs:=#[.int .i64 0,.int .i64 0,.int .i64 0,.int .i64 0,.int .i64 0,.int .i64 0,.int .i64 0,.int .i64 0,.int .i64 0,.int .i64 0,.int .i64 0,.bool false,.bool false,.bool false,.slice none 0 0,.string (⟨#[]⟩:ByteArray)]) ?_ 1 _ rfl;refine kP (cs:=#[.int .i64 0,.int .i64 0,.int .i64 0,.int .i64 0,.int .i64 0,.int .i64 0,.int .i64 0,.int .i64 0,.int .i64 0,.int .i64 0,.int .i64 0,.bool false,.bool false,.bool false,.slice none 0 0,.string (⟨#[]⟩:ByteArray)]) ?_ 0 _ rfl;(with_reducible repeat(first|refine kN ?_ _|refine kD ?_|refine kA ?_ _));exact BK241.out) Try.underlying26 rfl (by kernel_rfl)) rfl ?_
           exact⟨_,by first|rfl|(simp[errW_none,errW_some] <;> rfl)|(simp[*,errW_none,errW_some] <;> rfl),by first|exact Kd.R_nil _ _ _ _ _|exact Kd.N_nil _ _ _ _ _|exact Kd.V_nil _ _ _ _ _|exact Kd.Q_nil _ _ _ _ _|exact Kd.S_nil _ _ _ _ _,by repeat(first|(with_reducible first|exact HB.out|apply bA|apply bN|apply bD|refine bS ?_ GE241.out)|exact HB.out)⟩
          ·replace c19:=Bool.eq_false_iff.mpr c19
           subst c19
           have H1:((sternpostref02_Pseudo.f kj16 a0 a1 6 (a2.size:Int)).bind fun bt244=>(if bt244.1.size+a2.size≤9223372036854775807 then ((sternpostref02_Whole.f kj16 (bt244.1++a2)).bind fun t246=>(if t246=true then (sternpostref08_Decode_tail.f kj16 a2 (((Int.tdiv (bt a2 12) 16) % 256) * 4) 0 0 0 0 0 0 0 0 0 0 0 false false false ([]:List (S73)) (⟨#[]⟩:ByteArray)) else (some (0,0,0,0,0,0,0,0,0,0,0,false,false,false,([]:List (S73)),(⟨#[]⟩:ByteArray),20)))) else (none)))=some (r1,r2,r3,r4,r5,r6,r7,r8,r9,r10,r11,r12,r13,r14,r15,r16,r17):=by rw[if_neg (show ¬ (false=true) by decide)] at H;exact H
           clear H
           have H:=H1
           clear H1
           replace H:=Option.bind_eq_some_iff.mp H
           obtain⟨⟨t244,t245⟩,A210,H⟩:=H
           replace H:(if t244.size+a2.size≤9223372036854775807 then ((sternpostref02_Whole.f kj16 (t244++a2)).bind fun t246=>(if t246=true then (sternpostref08_Decode_tail.f kj16 a2 (((Int.tdiv (bt a2 12) 16) % 256) * 4) 0 0 0 0 0 0 0 0 0 0 0 false false false ([]:List (S73)) (⟨#[]⟩:ByteArray)) else (some (0,0,0,0,0,0,0,0,0,0,0,false,false,false,([]:List (S73)),(⟨#[]⟩:ByteArray),20)))) else (none))=some (r1,r2,r3,r4,r5,r6,r7,r8,r9,r10,r11,r12,r13,r14,r15,r16,r17):=H
           have A21:=mkA A210
           clear A210
           by_cases c22:t244.size+a2.size≤9223372036854775807
           ·rw[if_pos c22] at H
            have c22b0:=eq_true c22
            have c22b1:decide (t244.size+a2.size≤9223372036854775807)=true:=decide_eq_true c22
            try have c22b2:(9223372036854775807 < t244.size+a2.size)=False:=eq_false (Nat.not_lt.2 c22)
            replace H:=Option.bind_eq_some_iff.mp H
            obtain⟨t246,A230,H⟩:=H
            replace H:(if t246=true then (sternpostref08_Decode_tail.f kj16 a2 (((Int.tdiv (bt a2 12) 16) % 256) * 4) 0 0 0 0 0 0 0 0 0 0 0 false false false ([]:List (S73)) (⟨#[]⟩:ByteArray)) else (some (0,0,0,0,0,0,0,0,0,0,0,false,false,false,([]:List (S73)),(⟨#[]⟩:ByteArray),20)))=some (r1,r2,r3,r4,r5,r6,r7,r8,r9,r10,r11,r12,r13,r14,r15,r16,r17):=H
            have A23:=mkA A230
            clear A230
            by_cases c24:t246=true
            ·subst c24
             have H1:(sternpostref08_Decode_tail.f kj16 a2 (((Int.tdiv (bt a2 12) 16) % 256) * 4) 0 0 0 0 0 0 0 0 0 0 0 false false false ([]:List (S73)) (⟨#[]⟩:ByteArray))=some (r1,r2,r3,r4,r5,r6,r7,r8,r9,r10,r11,r12,r13,r14,r15,r16,r17):=by rw[if_pos rfl] at H;exact H
             clear H
             have H:=H1
             clear H1
             go_upto_region 11 with (first|((with_reducible refine gate_callee (f:=45) rfl ?_);refine goesL_ (some 51) rfl rfl Try.func45 (by kernel_rfl) rfl #[.int .i64 a0,.int .i64 a1,.int .i64 6,.int .i64 (a2.size:Int)] rfl (by(try simp only[List.map_toArray,List.map_cons,List.map_nil]);first|done|rfl|(simp only[List.length_drop,List.length_take];rfl)) ?_;(with_reducible refine(sternpostref02_Pseudo.calls kj16 a0 a1 6 (a2.size:Int) t244 t245 _ A21.out).mono ?_);rintro e w25 ⟨rfl,hb⟩;refine⟨_,rfl,?_⟩;have n0_:=mkA (kB (g:=gb241) (o:=.cells #[.int .i64 0,.int .i64 0,.int .i64 0,.int .i64 0,.int .i64 0,.int .i64 0,.int .i64 0,.int .i64 0,.int .i64 0,.int .i64 0,.int .i64 0,.bool false,.bool false,.bool false,.slice none 0 0,.string (⟨#[]⟩:ByteArray)] 26 (0,0)) (by(with_reducible repeat(first|refine kN ?_ _|refine kD ?_|refine kA ?_ _));exact BK241.out) hb);have n1_:=mkA (bT (by repeat(first|(with_reducible first|exact HB.out|apply bA|apply bN|apply bD|refine bS ?_ GE241.out)|exact HB.out)) hb);clear BK241;clear HB;have BK241:=n0_;have HB:=n1_;clear n0_ n1_;(try clear hb);(try clear hb2);(try clear hk);(try clear hi))|((with_reducible refine gate_callee (f:=46) rfl ?_);refine goesL_ (some 57) rfl rfl Try.func46 (by kernel_rfl) rfl #[.string (t244++a2)] rfl (by(try simp only[List.map_toArray,List.map_cons,List.map_nil]);first|done|rfl|(simp only[List.length_drop,List.length_take];rfl)) ?_;(with_reducible refine(sternpostref02_Whole.calls kj16 (t244++a2) true _ A23.out).mono ?_);rintro e w' ⟨rfl,⟨nd,rfl⟩⟩;refine⟨_,rfl,?_⟩))
             have HBt:=mkA (show Below w.heap.size w _ from by repeat(first|(with_reducible first|exact HB.out|apply bA|apply bN|apply bD|refine bS ?_ GE241.out)|exact HB.out))
             -- UPTO
             have HBz_:=HBt;have BRz_:=BK241;have GRz_:=GE241;clear HB;have HB:=HBz_;have BR:=BRz_;have GR:=GRz_;clear HBt HBz_ BRz_ GRz_ BK241
             unfold sternpostref08_Decode_tail.f at H
             obtain⟨hd,hhd⟩:∃ hd_,(((Int.tdiv (bt a2 12) 16) % 256) * 4)=hd_:=⟨_,rfl⟩
             skip
             rw[hhd] at H
             by_cases hcT:20≤a2.size∧20≤hd∧hd≤(a2.size:Int)
             case neg=>rw[if_neg hcT] at H;cases H
             rw[if_pos hcT] at H
             obtain⟨hz20,hd20,hdle⟩:=hcT
             have HDQ:=mkA (show 20≤a2.size∧20≤hd∧hd≤(a2.size:Int) from ⟨hz20,hd20,hdle⟩)
             have sl0:(20≤hd)=True:=eq_true hd20
             have sl1:(hd≤(a2.size:Int))=True:=eq_true hdle
             have sl2:(hd < 20)=False:=eq_false (by omega)
             have sl3:((a2.size:Int) < hd)=False:=eq_false (by omega)
             have sl4:(0≤hd)=True:=eq_true (by omega)
             obtain⟨⟨m,sc,st,ec,sd,sk,sp,l,oe⟩,ho,H⟩:=Option.bind_eq_some_iff.mp H
             have HO:=mkA ho
             have HT:=mkA H
             clear ho H hz20 hd20 hdle
             try rw[hhd]
             go_wp2_with fail
             refine(sternpostref07_Decode.calls kj16 (cutS a2 20 hd.toNat) m sc st ec sd sk sp l oe _ HO.out).mono ?_
             rintro e W4 ⟨vo,rfl,hRo,hW⟩
             obtain⟨Ao,co,hvo,hlo,hCo⟩:=Kd.R_reads hRo
             generalize hln:l.length=ln at hvo hlo
             subst hvo
             have RO:=mkA (Kd.R_lower hRo (bZ (bN HB.out _)))
             have LN:=mkA hln
             have HLO:=mkA hlo
             clear hln hlo hCo hRo
             have n0_:=mkA (bT (bN HB.out nd) hW);have n2_:=mkA (kB (kN BR.out nd) hW);clear HB BR hW;have HB:=n0_;have BR:=n2_;clear n0_ n2_
             have H:=HT.out
             clear HT
             try dsimp only at H
             by_cases c6:oe=0
             case neg =>
              rw[if_neg c6] at H
              simp only[Option.some.injEq,Prod.mk.injEq] at H
              obtain⟨rfl,rfl,rfl,rfl,rfl,rfl,rfl,rfl,rfl,rfl,rfl,rfl,rfl,rfl,rfl,rfl,rfl⟩:=H
              have d6:(oe != 0)=true:=bne_iff_ne.mpr c6
              go_wp2_with (first|((with_reducible refine gate_dst (N:=11) rfl ?_);refine box_event ?hg (N:=11) ?hd (cs:=#[.int .i64 0,.int .i64 0,.int .i64 0,.int .i64 0,.bool false,.bool false,.bool false,.slice none 0 0]) (t:=24) ?hr ?_;(case hd=>rfl);(case hg=>rfl);(case hr=>first|(go_simp;done)|(go_simp;rfl));intro go hg w5 hbox hb;have n0_:=mkA (bT HB.out hb);have n2_:=mkA (kB BR.out hb);have n3_:=mkA (Kd.R_below RO.out hb);have GO:=mkA ((by rw[hg];exact bZ HB.out):w.heap.size≤go);have NGO:=mkA ((by rw[hg];exact Nat.ne_of_lt (blk_lt BR.out)):gb241≠go);have BO:=mkA hbox;clear HB BR RO hbox hb hg;have HB:=n0_;have BR:=n2_;have RO:=n3_;clear n0_ n2_ n3_;have hoc0:w5.cell? ⟨go,0,none⟩=some (.int .i64 0):=(kC BO.out 0).trans rfl;have hof0:=kF BO.out 0;have hoc1:w5.cell? ⟨go,1,none⟩=some (.int .i64 0):=(kC BO.out 1).trans rfl;have hof1:=kF BO.out 1;have hoc2:w5.cell? ⟨go,2,none⟩=some (.int .i64 0):=(kC BO.out 2).trans rfl;have hof2:=kF BO.out 2;have hoc3:w5.cell? ⟨go,3,none⟩=some (.int .i64 0):=(kC BO.out 3).trans rfl;have hof3:=kF BO.out 3;have hoc4:w5.cell? ⟨go,4,none⟩=some (.bool false):=(kC BO.out 4).trans rfl;have hof4:=kF BO.out 4;have hoc5:w5.cell? ⟨go,5,none⟩=some (.bool false):=(kC BO.out 5).trans rfl;have hof5:=kF BO.out 5;have hoc6:w5.cell? ⟨go,6,none⟩=some (.bool false):=(kC BO.out 6).trans rfl;have hof6:=kF BO.out 6;have hoc7:w5.cell? ⟨go,7,none⟩=some (.slice none 0 0):=(kC BO.out 7).trans rfl;have hof7:=kF BO.out 7)|((with_reducible refine gate_store (t:=26) rfl ?_);refine store_big rfl 26 _ _ rfl _ _ rfl rfl 26 _ (by(with_reducible repeat(first|(apply blk_farA;case hp=>assumption)));apply Aside0.out;assumption) (by kernel_rfl) (by rfl) (by rfl) _ (by simp only[World.setCells,Nat.reduceAdd];rfl) ?_;simp only[puts]))
              refine bodyPost_ret (results_ct rfl _ _ gb241 26 #[.int .i64 0,.int .i64 0,.int .i64 0,.int .i64 0,.int .i64 0,.int .i64 0,.int .i64 0,.int .i64 0,.int .i64 0,.int .i64 0,.int .i64 0,.bool false,.bool false,.bool false,.slice none 0 0,.string (⟨#[]⟩:ByteArray)] (0,0) _ rfl (sternpostref08_Decode_out (by rfl) (by(with_reducible repeat(first|(apply blk_farA;case hp=>assumption)));apply Aside0.out;assumption)).1 Try.underlying26 rfl (by kernel_rfl)) rfl ?_
              exact⟨_,rfl,Kd.R_nil _ _ _ _ _,by repeat(first|(with_reducible first|exact HB.out|apply bA|apply bN|apply bD|refine bS ?_ GR.out|refine bS ?_ GO.out)|exact HB.out)⟩
             rw[if_pos c6] at H
             have d6:(oe != 0)=false:=bne_eq_false_iff_eq.mpr c6
             unfold sternpostref08_Decode_f2 at H
             try dsimp only at H
             obtain⟨n1,hn_,H⟩:=Option.bind_eq_some_iff.mp H
             have N1:=mkA hn_
             clear hn_
             obtain⟨n2,hn_,H⟩:=Option.bind_eq_some_iff.mp H
             have N2:=mkA hn_
             clear hn_
             obtain⟨n3,hn_,H⟩:=Option.bind_eq_some_iff.mp H
             have N3:=mkA hn_
             clear hn_
             obtain⟨n4,hn_,H⟩:=Option.bind_eq_some_iff.mp H
             have N4:=mkA hn_
             clear hn_
             obtain⟨n5,hn_,H⟩:=Option.bind_eq_some_iff.mp H
             have N5:=mkA hn_
             clear hn_
             obtain⟨n6,hn_,H⟩:=Option.bind_eq_some_iff.mp H
             have N6:=mkA hn_
             clear hn_
             have HT:=mkA H
             clear H c6
             go_wp2_with (first|((with_reducible refine gate_dst (N:=11) rfl ?_);refine box_event ?hg (N:=11) ?hd (cs:=#[.int .i64 0,.int .i64 0,.int .i64 0,.int .i64 0,.bool false,.bool false,.bool false,.slice none 0 0]) (t:=24) ?hr ?_;(case hd=>rfl);(case hg=>rfl);(case hr=>first|(go_simp;done)|(go_simp;rfl));intro go hg w5 hbox hb;have n0_:=mkA (bT HB.out hb);have n2_:=mkA (kB BR.out hb);have n3_:=mkA (Kd.R_below RO.out hb);have GO:=mkA ((by rw[hg];exact bZ HB.out):w.heap.size≤go);have NGO:=mkA ((by rw[hg];exact Nat.ne_of_lt (blk_lt BR.out)):gb241≠go);have BO:=mkA hbox;clear HB BR RO hbox hb hg;have HB:=n0_;have BR:=n2_;have RO:=n3_;clear n0_ n2_ n3_;have hoc0:w5.cell? ⟨go,0,none⟩=some (.int .i64 0):=(kC BO.out 0).trans rfl;have hof0:=kF BO.out 0;have hoc1:w5.cell? ⟨go,1,none⟩=some (.int .i64 0):=(kC BO.out 1).trans rfl;have hof1:=kF BO.out 1;have hoc2:w5.cell? ⟨go,2,none⟩=some (.int .i64 0):=(kC BO.out 2).trans rfl;have hof2:=kF BO.out 2;have hoc3:w5.cell? ⟨go,3,none⟩=some (.int .i64 0):=(kC BO.out 3).trans rfl;have hof3:=kF BO.out 3;have hoc4:w5.cell? ⟨go,4,none⟩=some (.bool false):=(kC BO.out 4).trans rfl;have hof4:=kF BO.out 4;have hoc5:w5.cell? ⟨go,5,none⟩=some (.bool false):=(kC BO.out 5).trans rfl;have hof5:=kF BO.out 5;have hoc6:w5.cell? ⟨go,6,none⟩=some (.bool false):=(kC BO.out 6).trans rfl;have hof6:=kF BO.out 6;have hoc7:w5.cell? ⟨go,7,none⟩=some (.slice none 0 0):=(kC BO.out 7).trans rfl;have hof7:=kF BO.out 7))
             have O8:=sternpostref08_Decode_out8 (y0:=.int .i64 m) (y1:=.int .i64 sc) (y2:=.int .i64 st) (y3:=.int .i64 ec) (y4:=.bool sd) (y5:=.bool sk) (y6:=.bool sp) (y7:=.slice Ao ln co) rfl HB.out GO.out BO.out
             have BO6:=O8.1
             have HB6:=O8.2.1
             have RO6:=O8.2.2 _ _ _ RO.out
             have BR6:((((((((w5.setCell ⟨go,0,none⟩ (.int .i64 m)).setCell ⟨go,1,none⟩ (.int .i64 sc)).setCell ⟨go,2,none⟩ (.int .i64 st)).setCell ⟨go,3,none⟩ (.int .i64 ec)).setCell ⟨go,4,none⟩ (.bool sd)).setCell ⟨go,5,none⟩ (.bool sk)).setCell ⟨go,6,none⟩ (.bool sp)).setCell ⟨go,7,none⟩ (.slice Ao ln co)).heap[gb241]?=some (.cells #[.int .i64 0,.int .i64 0,.int .i64 0,.int .i64 0,.int .i64 0,.int .i64 0,.int .i64 0,.int .i64 0,.int .i64 0,.int .i64 0,.int .i64 0,.bool false,.bool false,.bool false,.slice none 0 0,.string (⟨#[]⟩:ByteArray)] 26 (0,0)):=by(with_reducible repeat(first|(apply blk_farA;case hp=>assumption)));apply Aside0.out;assumption
             clear O8 hoc0 hof0 hoc1 hof1 hoc2 hof2 hoc3 hof3 hoc4 hof4 hoc5 hof5 hoc6 hof6 hoc7 hof7 HB BR RO BO
             generalize (((((((w5.setCell ⟨go,0,none⟩ (.int .i64 m)).setCell ⟨go,1,none⟩ (.int .i64 sc)).setCell ⟨go,2,none⟩ (.int .i64 st)).setCell ⟨go,3,none⟩ (.int .i64 ec)).setCell ⟨go,4,none⟩ (.bool sd)).setCell ⟨go,5,none⟩ (.bool sk)).setCell ⟨go,6,none⟩ (.bool sp)).setCell ⟨go,7,none⟩ (.slice Ao ln co)=W6 at BO6 HB6 RO6 BR6 ⊢
             have HB:=mkA HB6;have BR:=mkA BR6;have RO:=mkA RO6;have BO:=mkA BO6;clear HB6 BR6 RO6 BO6
             have same:∀ W',Below W6.heap.size W6 W'→Below W'.heap.size W' W':=fun W' _=>Below.refl _ _
             have q13:(13 < a2.size)=True:=eq_true (by have:=HDQ.out.1;omega)
             have hx13:∀ h:13 < a2.size,((a2[13]'h).toNat:Int)=bt a2 13:=bt_at a2 13
             refine AnyOrder.region_then 27 (C:=fun W'=>Below W6.heap.size W6 W') (G:=fun W1 W2=>Below W1.heap.size W1 W2) (T:=[26]) (R:=fun _ w v=>∃ g,v=.pointer (some ⟨g,0,none⟩)∧W6.heap.size≤g∧w.heap[g]?=some (.cells #[.int .i64 0,.int .i64 0,.int .i64 0,.int .i64 0,.int .i64 0,.int .i64 0,.int .i64 0,.int .i64 0,.int .i64 0,.int .i64 0,.int .i64 0,.bool false,.bool false,.bool false,.slice none 0 0,.string (⟨#[]⟩:ByteArray)] 26 (0,0))) (vs:=[(.string a2),(.string (cutS a2 0 2)),(.int .i64 n1),(.string a2),(.string (cutS a2 2 4)),(.int .i64 n2),(.string a2),(.string (cutS a2 4 8)),(.int .i64 n3),(.string a2),(.string (cutS a2 8 12)),(.int .i64 n4),(.string a2),(.int .u8 (bt a2 13)),(.int .i64 (wrap64 (bt a2 13))),(.string a2),(.string (cutS a2 14 16)),(.int .i64 n5),(.string a2),(.string (cutS a2 18 20)),(.int .i64 n6),(.agg #[.int .i64 m,.int .i64 sc,.int .i64 st,.int .i64 ec,.bool sd,.bool sk,.bool sp,.slice Ao ln co]),(.string a2),(.int .i64 hd),(.string (cutS a2 hd.toNat a2.size)),(.agg #[.int .i64 n1,.int .i64 n2,.int .i64 n3,.int .i64 n4,.int .i64 (wrap64 (bt a2 13)),.int .i64 n5,.int .i64 n6,.int .i64 m,.int .i64 sc,.int .i64 st,.int .i64 ec,.bool sd,.bool sk,.bool sp,.slice Ao ln co,.string (cutS a2 hd.toNat a2.size)]),undef]) (by kernel_rfl) rfl (by kernel_rfl) (bD (Below.refl _ _)) same (fun i w w' v h1 h2=>?keep) (fun x=>?obs) ?fin
             case keep=>exact h2.elim fun g h=>⟨g,h.1,h.2.1,kB h.2.2 h1⟩
             case obs =>
              refine AnyOrder.obs_cons (.string a2) rfl (AnyOrder.ob_quiet (d:=71) rfl (show (71:Nat) < 108 by omega) rfl rfl same (fun _=>by first|exact⟨_,rfl⟩|exact⟨pure _,rfl⟩) ?_) ?_
              ·have q12:((12:Int) < (a2.size:Int))=True:=eq_true (by have:=HDQ.out;omega);have q13:((13:Int) < (a2.size:Int))=True:=eq_true (by have:=HDQ.out;omega);go_big_quiet_op;first|rfl|exact⟨_,fun _ _=>rfl,rfl⟩
              try simp only[puts]
              refine AnyOrder.obs_cons (.string (cutS a2 0 2)) rfl (AnyOrder.ob_plain rfl rfl same rfl (fun W' hW=>sternpostref08_Decode_sl_to (j:=2) Try.underlying9 rfl rfl rfl (by have:=HDQ.out;omega))) ?_
              try simp only[puts]
              refine AnyOrder.obs_cons (.int .i64 n1) rfl (AnyOrder.ob_call rfl rfl rfl 48 #[.string (cutS a2 0 2)] (fun W' hW=>?_) (fun W' hW=>?_)) ?_
              ·go_simp
              ·exact(sternpostref02_Num.calls kj16 (cutS a2 0 2) n1 W' N1.out).mono fun e w2 h2=>⟨h2.1,bT hW h2.2.below,h2.2.below⟩
              try simp only[puts]
              refine AnyOrder.obs_cons (.string a2) rfl (AnyOrder.ob_quiet (d:=74) rfl (show (74:Nat) < 108 by omega) rfl rfl same (fun _=>by first|exact⟨_,rfl⟩|exact⟨pure _,rfl⟩) ?_) ?_
              ·have q12:((12:Int) < (a2.size:Int))=True:=eq_true (by have:=HDQ.out;omega);have q13:((13:Int) < (a2.size:Int))=True:=eq_true (by have:=HDQ.out;omega);go_big_quiet_op;first|rfl|exact⟨_,fun _ _=>rfl,rfl⟩
              try simp only[puts]
              refine AnyOrder.obs_cons (.string (cutS a2 2 4)) rfl (AnyOrder.ob_plain rfl rfl same rfl (fun W' hW=>sternpostref08_Decode_sl_at (i:=2) (j:=4) Try.underlying9 rfl rfl rfl rfl (by omega) (by have:=HDQ.out;omega))) ?_
              try simp only[puts]
              refine AnyOrder.obs_cons (.int .i64 n2) rfl (AnyOrder.ob_call rfl rfl rfl 48 #[.string (cutS a2 2 4)] (fun W' hW=>?_) (fun W' hW=>?_)) ?_
              ·go_simp
              ·exact(sternpostref02_Num.calls kj16 (cutS a2 2 4) n2 W' N2.out).mono fun e w2 h2=>⟨h2.1,bT hW h2.2.below,h2.2.below⟩
              try simp only[puts]
              refine AnyOrder.obs_cons (.string a2) rfl (AnyOrder.ob_quiet (d:=77) rfl (show (77:Nat) < 108 by omega) rfl rfl same (fun _=>by first|exact⟨_,rfl⟩|exact⟨pure _,rfl⟩) ?_) ?_
              ·have q12:((12:Int) < (a2.size:Int))=True:=eq_true (by have:=HDQ.out;omega);have q13:((13:Int) < (a2.size:Int))=True:=eq_true (by have:=HDQ.out;omega);go_big_quiet_op;first|rfl|exact⟨_,fun _ _=>rfl,rfl⟩
              try simp only[puts]
              refine AnyOrder.obs_cons (.string (cutS a2 4 8)) rfl (AnyOrder.ob_plain rfl rfl same rfl (fun W' hW=>sternpostref08_Decode_sl_at (i:=4) (j:=8) Try.underlying9 rfl rfl rfl rfl (by omega) (by have:=HDQ.out;omega))) ?_
              try simp only[puts]
              refine AnyOrder.obs_cons (.int .i64 n3) rfl (AnyOrder.ob_call rfl rfl rfl 48 #[.string (cutS a2 4 8)] (fun W' hW=>?_) (fun W' hW=>?_)) ?_
              ·go_simp
              ·exact(sternpostref02_Num.calls kj16 (cutS a2 4 8) n3 W' N3.out).mono fun e w2 h2=>⟨h2.1,bT hW h2.2.below,h2.2.below⟩
              try simp only[puts]
              refine AnyOrder.obs_cons (.string a2) rfl (AnyOrder.ob_quiet (d:=80) rfl (show (80:Nat) < 108 by omega) rfl rfl same (fun _=>by first|exact⟨_,rfl⟩|exact⟨pure _,rfl⟩) ?_) ?_
              ·have q12:((12:Int) < (a2.size:Int))=True:=eq_true (by have:=HDQ.out;omega);have q13:((13:Int) < (a2.size:Int))=True:=eq_true (by have:=HDQ.out;omega);go_big_quiet_op;first|rfl|exact⟨_,fun _ _=>rfl,rfl⟩
              try simp only[puts]
              refine AnyOrder.obs_cons (.string (cutS a2 8 12)) rfl (AnyOrder.ob_plain rfl rfl same rfl (fun W' hW=>sternpostref08_Decode_sl_at (i:=8) (j:=12) Try.underlying9 rfl rfl rfl rfl (by omega) (by have:=HDQ.out;omega))) ?_
              try simp only[puts]
              refine AnyOrder.obs_cons (.int .i64 n4) rfl (AnyOrder.ob_call rfl rfl rfl 48 #[.string (cutS a2 8 12)] (fun W' hW=>?_) (fun W' hW=>?_)) ?_
              ·go_simp
              ·exact(sternpostref02_Num.calls kj16 (cutS a2 8 12) n4 W' N4.out).mono fun e w2 h2=>⟨h2.1,bT hW h2.2.below,h2.2.below⟩
              try simp only[puts]
              refine AnyOrder.obs_cons (.string a2) rfl (AnyOrder.ob_quiet (d:=83) rfl (show (83:Nat) < 108 by omega) rfl rfl same (fun _=>by first|exact⟨_,rfl⟩|exact⟨pure _,rfl⟩) ?_) ?_
              ·have q12:((12:Int) < (a2.size:Int))=True:=eq_true (by have:=HDQ.out;omega);have q13:((13:Int) < (a2.size:Int))=True:=eq_true (by have:=HDQ.out;omega);go_big_quiet_op;first|rfl|exact⟨_,fun _ _=>rfl,rfl⟩
              try simp only[puts]
              refine AnyOrder.obs_cons (.int .u8 (bt a2 13)) rfl (AnyOrder.ob_quiet (d:=84) rfl (show (84:Nat) < 108 by omega) rfl rfl same (fun _=>by first|exact⟨_,rfl⟩|exact⟨pure _,rfl⟩) ?_) ?_
              ·have q12:((12:Int) < (a2.size:Int))=True:=eq_true (by have:=HDQ.out;omega);have q13:((13:Int) < (a2.size:Int))=True:=eq_true (by have:=HDQ.out;omega);go_big_quiet_op;first|rfl|exact⟨_,fun _ _=>rfl,rfl⟩
              try simp only[puts]
              refine AnyOrder.obs_cons (.int .i64 (wrap64 (bt a2 13))) rfl (AnyOrder.ob_quiet (d:=85) rfl (show (85:Nat) < 108 by omega) rfl rfl same (fun _=>by first|exact⟨_,rfl⟩|exact⟨pure _,rfl⟩) ?_) ?_
              ·have q12:((12:Int) < (a2.size:Int))=True:=eq_true (by have:=HDQ.out;omega);have q13:((13:Int) < (a2.size:Int))=True:=eq_true (by have:=HDQ.out;omega);go_big_quiet_op;first|rfl|exact⟨_,fun _ _=>rfl,rfl⟩
              try simp only[puts]
              refine AnyOrder.obs_cons (.string a2) rfl (AnyOrder.ob_quiet (d:=86) rfl (show (86:Nat) < 108 by omega) rfl rfl same (fun _=>by first|exact⟨_,rfl⟩|exact⟨pure _,rfl⟩) ?_) ?_
              ·have q12:((12:Int) < (a2.size:Int))=True:=eq_true (by have:=HDQ.out;omega);have q13:((13:Int) < (a2.size:Int))=True:=eq_true (by have:=HDQ.out;omega);go_big_quiet_op;first|rfl|exact⟨_,fun _ _=>rfl,rfl⟩
              try simp only[puts]
              refine AnyOrder.obs_cons (.string (cutS a2 14 16)) rfl (AnyOrder.ob_plain rfl rfl same rfl (fun W' hW=>sternpostref08_Decode_sl_at (i:=14) (j:=16) Try.underlying9 rfl rfl rfl rfl (by omega) (by have:=HDQ.out;omega))) ?_
              try simp only[puts]
              refine AnyOrder.obs_cons (.int .i64 n5) rfl (AnyOrder.ob_call rfl rfl rfl 48 #[.string (cutS a2 14 16)] (fun W' hW=>?_) (fun W' hW=>?_)) ?_
              ·go_simp
              ·exact(sternpostref02_Num.calls kj16 (cutS a2 14 16) n5 W' N5.out).mono fun e w2 h2=>⟨h2.1,bT hW h2.2.below,h2.2.below⟩
              try simp only[puts]
              refine AnyOrder.obs_cons (.string a2) rfl (AnyOrder.ob_quiet (d:=89) rfl (show (89:Nat) < 108 by omega) rfl rfl same (fun _=>by first|exact⟨_,rfl⟩|exact⟨pure _,rfl⟩) ?_) ?_
              ·have q12:((12:Int) < (a2.size:Int))=True:=eq_true (by have:=HDQ.out;omega);have q13:((13:Int) < (a2.size:Int))=True:=eq_true (by have:=HDQ.out;omega);go_big_quiet_op;first|rfl|exact⟨_,fun _ _=>rfl,rfl⟩
              try simp only[puts]
              refine AnyOrder.obs_cons (.string (cutS a2 18 20)) rfl (AnyOrder.ob_plain rfl rfl same rfl (fun W' hW=>sternpostref08_Decode_sl_at (i:=18) (j:=20) Try.underlying9 rfl rfl rfl rfl (by omega) (by have:=HDQ.out;omega))) ?_
              try simp only[puts]
              refine AnyOrder.obs_cons (.int .i64 n6) rfl (AnyOrder.ob_call rfl rfl rfl 48 #[.string (cutS a2 18 20)] (fun W' hW=>?_) (fun W' hW=>?_)) ?_
              ·go_simp
              ·exact(sternpostref02_Num.calls kj16 (cutS a2 18 20) n6 W' N6.out).mono fun e w2 h2=>⟨h2.1,bT hW h2.2.below,h2.2.below⟩
              try simp only[puts]
              refine AnyOrder.obs_cons (.agg #[.int .i64 m,.int .i64 sc,.int .i64 st,.int .i64 ec,.bool sd,.bool sk,.bool sp,.slice Ao ln co]) rfl (AnyOrder.ob_quiet (d:=92) rfl (show (92:Nat) < 108 by omega) rfl rfl same (fun _=>by first|exact⟨_,rfl⟩|exact⟨pure _,rfl⟩) ?_) ?_
              ·refine⟨_,fun W' hW=>?_,rfl⟩;obtain⟨ho0,ho1,ho2,ho3,ho4,ho5,ho6,ho7⟩:=blk_cells8 (kB BO.out hW);unfold Oper.quietAt;go_simp;first|done|rfl|exact⟨rfl,rfl⟩
              try simp only[puts]
              refine AnyOrder.obs_cons (.string a2) rfl (AnyOrder.ob_quiet (d:=93) rfl (show (93:Nat) < 108 by omega) rfl rfl same (fun _=>by first|exact⟨_,rfl⟩|exact⟨pure _,rfl⟩) ?_) ?_
              ·have q12:((12:Int) < (a2.size:Int))=True:=eq_true (by have:=HDQ.out;omega);have q13:((13:Int) < (a2.size:Int))=True:=eq_true (by have:=HDQ.out;omega);go_big_quiet_op;first|rfl|exact⟨_,fun _ _=>rfl,rfl⟩
              try simp only[puts]
              refine AnyOrder.obs_cons (.int .i64 hd) rfl (AnyOrder.ob_quiet (d:=94) rfl (show (94:Nat) < 108 by omega) rfl rfl same (fun _=>by first|exact⟨_,rfl⟩|exact⟨pure _,rfl⟩) ?_) ?_
              ·have q12:((12:Int) < (a2.size:Int))=True:=eq_true (by have:=HDQ.out;omega);have q13:((13:Int) < (a2.size:Int))=True:=eq_true (by have:=HDQ.out;omega);go_big_quiet_op;first|rfl|exact⟨_,fun _ _=>rfl,rfl⟩
              try simp only[puts]
              refine AnyOrder.obs_cons (.string (cutS a2 hd.toNat a2.size)) rfl (AnyOrder.ob_plain rfl rfl same rfl (fun W' hW=>sternpostref08_Decode_sl_from Try.underlying9 rfl rfl rfl (by have:=HDQ.out;omega) HDQ.out.2.2)) ?_
              try simp only[puts]
              refine AnyOrder.obs_cons (.agg #[.int .i64 n1,.int .i64 n2,.int .i64 n3,.int .i64 n4,.int .i64 (wrap64 (bt a2 13)),.int .i64 n5,.int .i64 n6,.int .i64 m,.int .i64 sc,.int .i64 st,.int .i64 ec,.bool sd,.bool sk,.bool sp,.slice Ao ln co,.string (cutS a2 hd.toNat a2.size)]) rfl (AnyOrder.ob_quiet (d:=96) rfl (show (96:Nat) < 108 by omega) rfl rfl same (fun _=>by first|exact⟨_,rfl⟩|exact⟨pure _,rfl⟩) ?_) ?_
              ·have q12:((12:Int) < (a2.size:Int))=True:=eq_true (by have:=HDQ.out;omega);have q13:((13:Int) < (a2.size:Int))=True:=eq_true (by have:=HDQ.out;omega);go_big_quiet_op;first|rfl|exact⟨_,fun _ _=>rfl,rfl⟩
              try simp only[puts]
              refine AnyOrder.obs_cons (x 26) rfl (AnyOrder.ob_token rfl rfl (fun W' hW=>⟨.pointer (some ⟨W'.heap.size,0,none⟩),W'.alloc (.cells #[.int .i64 0,.int .i64 0,.int .i64 0,.int .i64 0,.int .i64 0,.int .i64 0,.int .i64 0,.int .i64 0,.int .i64 0,.int .i64 0,.int .i64 0,.bool false,.bool false,.bool false,.slice none 0 0,.string (⟨#[]⟩:ByteArray)] 26 (0,0)),by first|(go_simp;done)|(go_simp;rfl),bA hW _,bA (Below.refl _ _) _,W'.heap.size,rfl,bZ hW,blk_new _ _⟩)) ?_
              try simp only[puts]
              trivial
             case fin =>
              intro x W hW hR
              simp only[List.take_succ_cons,List.take_zero,List.drop_succ_cons,List.drop_zero]
              rw[AnyOrder.lexAt_cons (.string a2) rfl]
              try simp only[puts]
              rw[AnyOrder.lexAt_cons (.string (cutS a2 0 2)) rfl]
              try simp only[puts]
              rw[AnyOrder.lexAt_cons (.int .i64 n1) rfl]
              try simp only[puts]
              rw[AnyOrder.lexAt_cons (.string a2) rfl]
              try simp only[puts]
              rw[AnyOrder.lexAt_cons (.string (cutS a2 2 4)) rfl]
              try simp only[puts]
              rw[AnyOrder.lexAt_cons (.int .i64 n2) rfl]
              try simp only[puts]
              rw[AnyOrder.lexAt_cons (.string a2) rfl]
              try simp only[puts]
              rw[AnyOrder.lexAt_cons (.string (cutS a2 4 8)) rfl]
              try simp only[puts]
              rw[AnyOrder.lexAt_cons (.int .i64 n3) rfl]
              try simp only[puts]
              rw[AnyOrder.lexAt_cons (.string a2) rfl]
              try simp only[puts]
              rw[AnyOrder.lexAt_cons (.string (cutS a2 8 12)) rfl]
              try simp only[puts]
              rw[AnyOrder.lexAt_cons (.int .i64 n4) rfl]
              try simp only[puts]
              rw[AnyOrder.lexAt_cons (.string a2) rfl]
              try simp only[puts]
              rw[AnyOrder.lexAt_cons (.int .u8 (bt a2 13)) rfl]
              try simp only[puts]
              rw[AnyOrder.lexAt_cons (.int .i64 (wrap64 (bt a2 13))) rfl]
              try simp only[puts]
              rw[AnyOrder.lexAt_cons (.string a2) rfl]
              try simp only[puts]
              rw[AnyOrder.lexAt_cons (.string (cutS a2 14 16)) rfl]
              try simp only[puts]
              rw[AnyOrder.lexAt_cons (.int .i64 n5) rfl]
              try simp only[puts]
              rw[AnyOrder.lexAt_cons (.string a2) rfl]
              try simp only[puts]
              rw[AnyOrder.lexAt_cons (.string (cutS a2 18 20)) rfl]
              try simp only[puts]
              rw[AnyOrder.lexAt_cons (.int .i64 n6) rfl]
              try simp only[puts]
              rw[AnyOrder.lexAt_cons (.agg #[.int .i64 m,.int .i64 sc,.int .i64 st,.int .i64 ec,.bool sd,.bool sk,.bool sp,.slice Ao ln co]) rfl]
              try simp only[puts]
              rw[AnyOrder.lexAt_cons (.string a2) rfl]
              try simp only[puts]
              rw[AnyOrder.lexAt_cons (.int .i64 hd) rfl]
              try simp only[puts]
              rw[AnyOrder.lexAt_cons (.string (cutS a2 hd.toNat a2.size)) rfl]
              try simp only[puts]
              rw[AnyOrder.lexAt_cons (.agg #[.int .i64 n1,.int .i64 n2,.int .i64 n3,.int .i64 n4,.int .i64 (wrap64 (bt a2 13)),.int .i64 n5,.int .i64 n6,.int .i64 m,.int .i64 sc,.int .i64 st,.int .i64 ec,.bool sd,.bool sk,.bool sp,.slice Ao ln co,.string (cutS a2 hd.toNat a2.size)]) rfl]
              try simp only[puts]
              rw[AnyOrder.lexAt_cons (x 26) rfl]
              try simp only[puts]
              rw[AnyOrder.lexAt_nil]
              obtain⟨gp,hx,hge,hbp⟩:=hR 26 _ 13 (by omega) rfl rfl rfl
              rw[hx]
              clear hR same
              generalize hQQ:Exit.then _ _=QQ
              go_wp2_with (first|((with_reducible refine gate_store (t:=26) rfl ?_);refine store_big rfl 26 _ _ rfl _ _ rfl rfl 26 _ (hbp) (by kernel_rfl) (by rfl) (by rfl) _ (by simp only[World.setCells,Nat.reduceAdd];rfl) ?_;simp only[puts]))
              generalize hq:World.setCell _ _ _=W7
              have hb7:Below W6.heap.size W6 W7:=by rw[← hq];repeat(first|(with_reducible exact hW)|(with_reducible refine bS ?_ hge))
              have BP:=mkA (show W7.heap[gp]?=some (.cells #[.int .i64 n1,.int .i64 n2,.int .i64 n3,.int .i64 n4,.int .i64 (wrap64 (bt a2 13)),.int .i64 n5,.int .i64 n6,.int .i64 m,.int .i64 sc,.int .i64 st,.int .i64 ec,.bool sd,.bool sk,.bool sp,.slice Ao ln co,.string (cutS a2 hd.toNat a2.size)] 26 (0,0)) from by rw[← hq];exact(sternpostref08_Decode_out (by rfl) hbp).1)
              subst hQQ
              have NPR:=mkA (Nat.ne_of_lt (Nat.lt_of_lt_of_le (blk_lt BR.out) hge))
              have GP:=mkA (Nat.le_trans (bZ HB.out) hge)
              clear hq hx hW hbp hge
              have n0_:=mkA (bT HB.out hb7);have n2_:=mkA (kB BR.out hb7);have n3_:=mkA (Kd.R_below RO.out hb7);clear HB BR RO;have HB:=n0_;have BR:=n2_;have RO:=n3_;clear n0_ n2_ n3_
              clear hb7 BO
              have q12:(12 < a2.size)=True:=eq_true (by have:=HDQ.out.1;omega)
              have hx12:∀ h:12 < a2.size,((a2[12]'h).toNat:Int)=bt a2 12:=bt_at a2 12
              have H:=HT.out
              clear HT
              try dsimp only at H
              by_cases c7:Int.tmod (bt a2 12) 16=0
              rotate_left
              ·rw[if_neg c7] at H
               simp only[Option.some.injEq,Prod.mk.injEq] at H
               obtain⟨rfl,rfl,rfl,rfl,rfl,rfl,rfl,rfl,rfl,rfl,rfl,rfl,rfl,rfl,rfl,rfl,rfl⟩:=H
               have d7:(Int.tmod (bt a2 12) 16 != 0)=true:=bne_iff_ne.mpr c7
               go_wp2_with (first|((with_reducible refine gate_store (t:=26) rfl ?_);refine store_big rfl 26 _ _ rfl _ _ rfl rfl 26 _ (BR.out) (by kernel_rfl) (by rfl) (by rfl) _ (by simp only[World.setCells,Nat.reduceAdd];rfl) ?_;simp only[puts]))
               refine bodyPost_ret (results_ct rfl _ _ gb241 26 #[.int .i64 0,.int .i64 0,.int .i64 0,.int .i64 0,.int .i64 0,.int .i64 0,.int .i64 0,.int .i64 0,.int .i64 0,.int .i64 0,.int .i64 0,.bool false,.bool false,.bool false,.slice none 0 0,.string (⟨#[]⟩:ByteArray)] (0,0) _ rfl (sternpostref08_Decode_out (by rfl) BR.out).1 Try.underlying26 rfl (by kernel_rfl)) rfl ?_
               exact⟨_,rfl,Kd.R_nil _ _ _ _ _,by repeat(first|(with_reducible first|exact HB.out|apply bA|apply bN|apply bD|refine bS ?_ GR.out)|exact HB.out)⟩
              rw[if_pos c7] at H
              have d7:(Int.tmod (bt a2 12) 16 != 0)=false:=bne_eq_false_iff_eq.mpr c7
              obtain⟨cc,hcc,H⟩:=Option.bind_eq_some_iff.mp H
              have HC:=mkA hcc
              have HT:=mkA H
              clear hcc H c7
              go_wp2_with (first|((with_reducible refine gate_load (t:=26) rfl ?_);refine gate_wanted ?hw (fun hw_=>?_);(case hw=>first|rfl|(go_simp;done));refine load_big hw_ 26 _ rfl _ rfl 26 _ (0,0) _ (BP.out) Try.underlying26 rfl (by kernel_rfl) ?_;clear hw_;simp only[puts]))
              have hck:=sternpostref08_Check.calls kj16 n1 n2 n3 n4 (wrap64 (bt a2 13)) n5 n6 m sc st ec sd sk sp Ao co l (cutS a2 hd.toNat a2.size) cc W7 (by have h:=(Kd.R_reads' (xs:=l) (by first|exact RO.out|(rw[LN.out];exact RO.out))).2.2;exact h) (by rw[LN.out];exact HLO.out) HC.out
              rw[LN.out] at hck
              refine hck.mono ?_
              rintro e W8 ⟨rfl,hW⟩
              clear hck
              have BP8:=mkA (kB BP.out hW);clear BP;have BP:=BP8;clear BP8
              have n0_:=mkA (bT HB.out hW);have n2_:=mkA (kB BR.out hW);have n3_:=mkA (Kd.R_below RO.out hW);clear HB BR RO;have HB:=n0_;have BR:=n2_;have RO:=n3_;clear n0_ n2_ n3_
              clear hW
              have H:=HT.out
              clear HT
              by_cases c8:cc=0
              case neg =>
               rw[if_neg c8] at H
               simp only[Option.some.injEq,Prod.mk.injEq] at H
               obtain⟨rfl,rfl,rfl,rfl,rfl,rfl,rfl,rfl,rfl,rfl,rfl,rfl,rfl,rfl,rfl,rfl,rfl⟩:=H
               have d8:(cc != 0)=true:=bne_iff_ne.mpr c8
               go_wp2_with (first|((with_reducible refine gate_store (t:=26) rfl ?_);refine store_big rfl 26 _ _ rfl _ _ rfl rfl 26 _ (BR.out) (by kernel_rfl) (by rfl) (by rfl) _ (by simp only[World.setCells,Nat.reduceAdd];rfl) ?_;simp only[puts]))
               refine bodyPost_ret (results_ct rfl _ _ gb241 26 #[.int .i64 0,.int .i64 0,.int .i64 0,.int .i64 0,.int .i64 0,.int .i64 0,.int .i64 0,.int .i64 0,.int .i64 0,.int .i64 0,.int .i64 0,.bool false,.bool false,.bool false,.slice none 0 0,.string (⟨#[]⟩:ByteArray)] (0,0) _ rfl (sternpostref08_Decode_out (by rfl) BR.out).1 Try.underlying26 rfl (by kernel_rfl)) rfl ?_
               exact⟨_,rfl,Kd.R_nil _ _ _ _ _,by repeat(first|(with_reducible first|exact HB.out|apply bA|apply bN|apply bD|refine bS ?_ GR.out)|exact HB.out)⟩
              rw[if_pos c8] at H
              simp only[Option.some.injEq,Prod.mk.injEq] at H
              obtain⟨rfl,rfl,rfl,rfl,rfl,rfl,rfl,rfl,rfl,rfl,rfl,rfl,rfl,rfl,rfl,rfl,rfl⟩:=H
              have d8:(cc != 0)=false:=bne_eq_false_iff_eq.mpr c8
              clear c8
              go_wp2_with (first|((with_reducible refine gate_load (t:=26) rfl ?_);refine gate_wanted ?hw (fun hw_=>?_);(case hw=>first|rfl|(go_simp;done));refine load_big hw_ 26 _ rfl _ rfl 26 _ (0,0) _ (BP.out) Try.underlying26 rfl (by kernel_rfl) ?_;clear hw_;simp only[puts])|((with_reducible refine gate_store (t:=26) rfl ?_);refine store_big rfl 26 _ _ rfl _ _ rfl rfl 26 _ (BR.out) (by kernel_rfl) (by rfl) (by rfl) _ (by simp only[World.setCells,Nat.reduceAdd];rfl) ?_;simp only[puts]))
              refine bodyPost_ret (results_ct rfl _ _ gb241 26 #[.int .i64 n1,.int .i64 n2,.int .i64 n3,.int .i64 n4,.int .i64 (wrap64 (bt a2 13)),.int .i64 n5,.int .i64 n6,.int .i64 m,.int .i64 sc,.int .i64 st,.int .i64 ec,.bool sd,.bool sk,.bool sp,.slice Ao ln co,.string (cutS a2 hd.toNat a2.size)] (0,0) _ rfl (sternpostref08_Decode_out (by rfl) BR.out).1 Try.underlying26 rfl (by kernel_rfl)) rfl ?_
              exact⟨_,rfl,(sternpostref08_Decode_out (by rfl) BR.out).2 _ _ _ RO.out,by repeat(first|(with_reducible first|exact HB.out|apply bA|apply bN|apply bD|refine bS ?_ GR.out)|exact HB.out)⟩
            ·replace c24:=Bool.eq_false_iff.mpr c24
             subst c24
             have H1:(some (0,0,0,0,0,0,0,0,0,0,0,false,false,false,([]:List (S73)),(⟨#[]⟩:ByteArray),20))=some (r1,r2,r3,r4,r5,r6,r7,r8,r9,r10,r11,r12,r13,r14,r15,r16,r17):=by rw[if_neg (show ¬ (false=true) by decide)] at H;exact H
             clear H
             have H:=H1
             clear H1
             simp only[Option.some.injEq,Prod.mk.injEq] at H
             obtain⟨rfl,rfl,rfl,rfl,rfl,rfl,rfl,rfl,rfl,rfl,rfl,rfl,rfl,rfl,rfl,rfl,rfl⟩:=H
             go_wp2_with (first|((with_reducible refine gate_callee (f:=45) rfl ?_);refine goesL_ (some 51) rfl rfl Try.func45 (by kernel_rfl) rfl #[.int .i64 a0,.int .i64 a1,.int .i64 6,.int .i64 (a2.size:Int)] rfl (by(try simp only[List.map_toArray,List.map_cons,List.map_nil]);first|done|rfl|(simp only[List.length_drop,List.length_take];rfl)) ?_;(with_reducible refine(sternpostref02_Pseudo.calls kj16 a0 a1 6 (a2.size:Int) t244 t245 _ A21.out).mono ?_);rintro e w26 ⟨rfl,hb⟩;refine⟨_,rfl,?_⟩;have n0_:=mkA (kB (g:=gb241) (o:=.cells #[.int .i64 0,.int .i64 0,.int .i64 0,.int .i64 0,.int .i64 0,.int .i64 0,.int .i64 0,.int .i64 0,.int .i64 0,.int .i64 0,.int .i64 0,.bool false,.bool false,.bool false,.slice none 0 0,.string (⟨#[]⟩:ByteArray)] 26 (0,0)) (by(with_reducible repeat(first|refine kN ?_ _|refine kD ?_|refine kA ?_ _));exact BK241.out) hb);have n1_:=mkA (bT (by repeat(first|(with_reducible first|exact HB.out|apply bA|apply bN|apply bD|refine bS ?_ GE241.out)|exact HB.out)) hb);clear BK241;clear HB;have BK241:=n0_;have HB:=n1_;clear n0_ n1_;(try clear hb);(try clear hb2);(try clear hk);(try clear hi))|((with_reducible refine gate_callee (f:=46) rfl ?_);refine goesL_ (some 57) rfl rfl Try.func46 (by kernel_rfl) rfl #[.string (t244++a2)] rfl (by(try simp only[List.map_toArray,List.map_cons,List.map_nil]);first|done|rfl|(simp only[List.length_drop,List.length_take];rfl)) ?_;(with_reducible refine(sternpostref02_Whole.calls kj16 (t244++a2) false _ A23.out).mono ?_);rintro e w' ⟨rfl,⟨nd,rfl⟩⟩;refine⟨_,rfl,?_⟩;(try(rw[drewN_self w26];generalize hq_:World.drewN w26 _=w26;have n0_:Aside0 (w26.heap[gb241]?=some (.cells #[.int .i64 0,.int .i64 0,.int .i64 0,.int .i64 0,.int .i64 0,.int .i64 0,.int .i64 0,.int .i64 0,.int .i64 0,.int .i64 0,.int .i64 0,.bool false,.bool false,.bool false,.slice none 0 0,.string (⟨#[]⟩:ByteArray)] 26 (0,0))):=⟨by rw[← hq_];exact(by(with_reducible repeat(first|refine kN ?_ _|refine kD ?_|refine kA ?_ _));exact BK241.out)⟩;have n1_:Aside0 (Below w.heap.size w w26):=⟨by rw[← hq_];exact(by repeat(first|(with_reducible first|exact HB.out|apply bA|apply bN|apply bD|refine bS ?_ GE241.out)|exact HB.out))⟩;clear BK241 HB hq_;have BK241:=n0_;have HB:=n1_;clear n0_ n1_));obtain⟨hcz27_0,hcz27_1,hcz27_2,hcz27_3,hcz27_4,hcz27_5,hcz27_6,hcz27_7,hcz27_8,hcz27_9,hcz27_10,hcz27_11,hcz27_12,hcz27_13,hcz27_14,hcz27_15⟩:=blk_cells16 BK241.out;obtain⟨hfz27_0,hfz27_1,hfz27_2,hfz27_3,hfz27_4,hfz27_5,hfz27_6,hfz27_7,hfz27_8,hfz27_9,hfz27_10,hfz27_11,hfz27_12,hfz27_13,hfz27_14,hfz27_15⟩:=blk_frozens16 BK241.out))
             refine bodyPost_ret (results_ct rfl _ _ gb241 26 #[.int .i64 0,.int .i64 0,.int .i64 0,.int .i64 0,.int .i64 0,.int .i64 0,.int .i64 0,.int .i64 0,.int .i64 0,.int .i64 0,.int .i64 0,.bool false,.bool false,.bool false,.slice none 0 0,.string (⟨#[]⟩:ByteArray)] (0,0) _ rfl (by(with_reducible repeat(first|refine kN ?_ _|refine kD ?_|refine kA ?_ _));refine kP (cs:=#[.int .i64 0,.int .i64 0,.int .i64 0,.int .i64 0,.int .i64 0,.int .i64 0,.int .i64 0,.int .i64 0,.int .i64 0,.int .i64 0,.int .i64 0,.bool false,.bool false,.bool false,.slice none 0 0,.string (⟨#[]⟩:ByteArray)]) ?_ 15 _ rfl;refine kP (cs:=#[.int .i64 0,.int .i64 0,.int .i64 0,.int .i64 0,.int .i64 0,.int .i64 0,.int .i64 0,.int .i64 0,.int .i64 0,.int .i64 0,.int .i64 0,.bool false,.bool false,.bool false,.slice none 0 0,.string (⟨#[]⟩:ByteArray)]) ?_ 14 _ rfl;refine kP (cs:=#[.int .i64 0,.int .i64 0,.int .i64 0,.int .i64 0,.int .i64 0,.int .i64 0,.int .i64 0,.int .i64 0,.int .i64 0,.int .i64 0,.int .i64 0,.bool false,.bool false,.bool false,.slice none 0 0,.string (⟨#[]⟩:ByteArray)]) ?_ 13 _ rfl;refine kP (cs:=#[.int .i64 0,.int .i64 0,.int .i64 0,.int .i64 0,.int .i64 0,.int .i64 0,.int .i64 0,.int .i64 0,.int .i64 0,.int .i64 0,.int .i64 0,.bool false,.bool false,.bool false,.slice none 0 0,.string (⟨#[]⟩:ByteArray)]) ?_ 12 _ rfl;refine kP (cs:=#[.int .i64 0,.int .i64 0,.int .i64 0,.int .i64 0,.int .i64 0,.int .i64 0,.int .i64 0,.int .i64 0,.int .i64 0,.int .i64 0,.int .i64 0,.bool false,.bool false,.bool false,.slice none 0 0,.string (⟨#[]⟩:ByteArray)]) ?_ 11 _ rfl;refine kP (cs:=#[.int .i64 0,.int .i64 0,.int .i64 0,.int .i64 0,.int .i64 0,.int .i64 0,.int .i64 0,.int .i64 0,.int .i64 0,.int .i64 0,.int .i64 0,.bool false,.bool false,.bool false,.slice none 0 0,.string (⟨#[]⟩:ByteArray)]) ?_ 10 _ rfl;refine kP (cs:=#[.int .i64 0,.int .i64 0,.int .i64 0,.int .i64 0,.int .i64 0,.int .i64 0,.int .i64 0,.int .i64 0,.int .i64 0,.int .i64 0,.int .i64 0,.bool false,.bool false,.bool false,.slice none 0 0,.string (⟨#[]⟩:ByteArray)]) ?_ 9 _ rfl;refine kP (cs:=#[.int .i64 0,.int .i64 0,.int .i64 0,.int .i64 0,.int .i64 0,.int .i64 0,.int .i64 0,.int .i64 0,.int .i64 0,.int .i64 0,.int .i64 0,.bool false,.bool false,.bool false,.slice none 0 0,.string (⟨#[]⟩:ByteArray)]) ?_ 8 _ rfl;refine kP (cs:=#[.int .i64 0,.int .i64 0,.int .i64 0,.int .i64 0,.int .i64 0,.int .i64 0,.int .i64 0,.int .i64 0,.int .i64 0,.int .i64 0,.int .i64 0,.bool false,.bool false,.bool false,.slice none 0 0,.string (⟨#[]⟩:ByteArray)]) ?_ 7 _ rfl;refine kP (cs:=#[.int .i64 0,.int .i64 0,.int .i64 0,.int .i64 0,.int .i64 0,.int .i64 0,.int .i64 0,.int .i64 0,.int .i64 0,.int .i64 0,.int .i64 0,.bool false,.bool false,.bool false,.slice none 0 0,.string (⟨#[]⟩:ByteArray)]) ?_ 6 _ rfl;refine kP (cs:=#[.int .i64 0,.int .i64 0,.int .i64 0,.int .i64 0,.int .i64 0,.int .i64 0,.int .i64 0,.int .i64 0,.int .i64 0,.int .i64 0,.int .i64 0,.bool false,.bool false,.bool false,.slice none 0 0,.string (⟨#[]⟩:ByteArray)]) ?_ 5 _ rfl;refine kP (cs:=#[.int .i64 0,.int .i64 0,.int .i64 0,.int .i64 0,.int .i64 0,.int .i64 0,.int .i64 0,.int .i64 0,.int .i64 0,.int .i64 0,.int .i64 0,.bool false,.bool false,.bool false,.slice none 0 0,.string (⟨#[]⟩:ByteArray)]) ?_ 4 _ rfl;refine kP (cs:=#[.int .i64 0,.int .i64 0,.int .i64 0,.int .i64 0,.int .i64 0,.int .i64 0,.int .i64 0,.int .i64 0,.int .i64 0,.int .i64 0,.int .i64 0,.bool false,.bool false,.bool false,.slice none 0 0,.string (⟨#[]⟩:ByteArray)]) ?_ 3 _ rfl;refine kP (cs:=#[.int .i64 0,.int .i64 0,.int .i64 0,.int .i64 0,.int .i64 0,.int .i64 0,.int .i64 0,.int .i64 0,.int .i64 0,.int .i64 0,.int .i64 0,.bool false,.bool false,.bool false,.slice none 0 0,.string (⟨#[]⟩:ByteArray)]) ?_ 2 _ rfl;refine kP (cs:=#[.int .i64 0,.int .i64 0,.int .i64 0,.int .i64 0,.int .i64 0,.int .i64 0,.int .i64 0,.int .i64 0,.int .i64 0,.int .i64 0,.int .i64 0,.bool false,.bool false,.bool false,.slice none 0 0,.string (⟨#[]⟩:ByteArray)]) ?_ 1 _ rfl;refine kP (cs:=#[.int .i64 0,.int .i64 0,.int .i64 0,.int .i64 0,.int .i64 0,.int .i64 0,.int .i64 0,.int .i64 0,.int .i64 0,.int .i64 0,.int .i64 0,.bool false,.bool false,.bool false,.slice none 0 0,.string (⟨#[]⟩:ByteArray)]) ?_ 0 _ rfl;(with_reducible repeat(first|refine kN ?_ _|refine kD ?_|refine kA ?_ _));exact BK241.out) Try.underlying26 rfl (by kernel_rfl)) rfl ?_
             exact⟨_,by first|rfl|(simp[errW_none,errW_some] <;> rfl)|(simp[*,errW_none,errW_some] <;> rfl),by first|exact Kd.R_nil _ _ _ _ _|exact Kd.N_nil _ _ _ _ _|exact Kd.V_nil _ _ _ _ _|exact Kd.Q_nil _ _ _ _ _|exact Kd.S_nil _ _ _ _ _,by repeat(first|(with_reducible first|exact HB.out|apply bA|apply bN|apply bD|refine bS ?_ GE241.out)|exact HB.out)⟩
           ·rw[if_neg c22] at H
            exact absurd H (by simp)
       ·rw[if_neg c15] at H
        exact absurd H (by simp)

end Go.Proofs.Ytakajeoeijnmhaa.PSegReads

-- Laid by this claim's own program over the print's words.
import Derived.Test.YtakajeoeijnmhaaVSegReads
import Derived.Test.YtakajeoeijnmhaaProg
import Derived.Below
import Derived.Deep.Draws
import Derived.Deep.AppendLies
import Derived.Maps.AppendAt
import Derived.OwnWalk
import Derived.Laws.BytesArg
import Derived.Laws.MakeOwn
import Derived.Laws.OwnMore
import Derived.Deep.OwnRows
import Derived.Tactics
import Derived.Lib.ConvBytes
import Derived.Laws.Slices
import Derived.WalkKit
import Derived.KernelRfl
import Derived.RowKit3
import Derived.Deep.LoopGhost
import Derived.Deep.QuietTactic
import Derived.BigQuiet
import Derived.WideLaws
import Derived.Deep.DeepCutAuto
import Derived.Deep.CutBlock
import Derived.Deep.RegionHeld3
import Derived.Laws.Rows
import Derived.Lib.AppendStr
import Derived.ArgAppend
import Derived.Laws.IdiomCopy
import Derived.OrdersHeld
import Derived.Laws.BitsLemmas
import Derived.RowKit
import Derived.Shelf.Strings.Repeat
namespace Go.Proofs.Ytakajeoeijnmhaa.PSegReads
open Go.RowKit Go.Proofs.YtakajeoeijnmhaaW.PrintWords Go.Proofs.YtakajeoeijnmhaaW.PrintLast Go.Proofs.YtakajeoeijnmhaaW.PrintMore
attribute [local go_sem] max2_int min2_int max_two min_two max_three min_three max_four min_four max_five min_five extract_cut tmod_nat_lit   -- for this text's walks alone
set_option linter.unusedVariables false
set_option linter.unusedSimpArgs false



def errW:Option Int→Value
 | none=>.nilIface
 | some c=>.iface 0 (.int .i64 c)
theorem errW_none:errW none=.nilIface:=rfl
theorem errW_some (c:Int):errW (some c)=.iface 0 (.int .i64 c):=rfl

theorem info3:(Try.prog.info? 3).map (fun i=>(i.zero,i.size,i.bytes))=some (some (.int .i64 0),1,8):=by kernel_rfl
theorem info5:(Try.prog.info? 5).map (fun i=>(i.zero,i.size,i.bytes))=some (some (.int .u8 0),1,1):=by kernel_rfl
theorem info9:(Try.prog.info? 9).map (fun i=>(i.zero,i.size,i.bytes))=some (some (.string ⟨#[]⟩),1,16):=by kernel_rfl
theorem info73:(Try.prog.info? 73).map (fun i=>(i.zero,i.size,i.bytes))=some (some (.agg #[(.int .i64 0),(.int .i64 0)]),2,16):=by kernel_rfl
-- the values' own types
/-! #### struct type 73 -/
structure S73 where
 f0:Int
 f1:Int
def z73:S73:=⟨(0:Int),(0:Int)⟩
def k73:Kd S73:=Kd.iso (Kd.pair (Kd.int .i64) (Kd.int .i64)) (fun x:S73=>(x.f0,x.f1))
theorem k73_open {w:World} {x:S73} {cs:List Value} (h:k73.K w x cs):cs=[.int .i64 x.f0,.int .i64 x.f1]:=by
 obtain⟨_,_,rfl,rfl,rfl⟩:=h
 exact rfl
theorem k73_openM {w:World} {base:Nat} {ok:Nat→Prop} {x:S73} {cs:List Value} (h:k73.M w base ok x cs):cs=[.int .i64 x.f0,.int .i64 x.f1]:=by
 obtain⟨_,_,rfl,rfl,rfl⟩:=h
 exact rfl
theorem k73_mk (w:World) (x:S73)  : k73.K w x [.int .i64 x.f0,.int .i64 x.f1]:=⟨[.int .i64 x.f0],[.int .i64 x.f1],rfl,rfl,rfl⟩
theorem k73_mkM (w:World) (base:Nat) (ok:Nat→Prop) (x:S73)  : k73.M w base ok x [.int .i64 x.f0,.int .i64 x.f1]:=⟨[.int .i64 x.f0],[.int .i64 x.f1],rfl,rfl,rfl⟩
def rd_T73 (xs:List S73) (i:Int):S73:=xs.getD i.toNat z73
theorem at_T73 {w:World} {A:Option Addr} {n:Nat} {xs:List S73} (h:Kd.C k73 w A n xs) (i:Int) (h0:0≤i) (h1:i < n):∃ ad ,A=some ad∧w.cell? (ad.add (i.toNat * 2))=some (.int .i64 (rd_T73 xs i).f0)∧w.cell? ⟨(ad.add (i.toNat * 2)).block,(ad.add (i.toNat * 2)).off+1,none⟩=some (.int .i64 (rd_T73 xs i).f1):=by
 obtain⟨ad,c,e,_,hK,hc0⟩:=Kd.C_get h z73 i h0 h1
 have hc:∀ j u,c[j]?=some u→w.cell? (ad.add (i.toNat * 2+j))=some u:=hc0
 obtain rfl:=k73_open hK
 exact⟨ad,e,hc 0 _ rfl,by rw[← add_field _ _ 1 (by omega)];exact hc 1 _ rfl⟩

def rd_L2 (xs:List (List S73)) (i:Int):(List S73):=xs.getD i.toNat ([]:List S73)
theorem at_L2 {w:World} {A:Option Addr} {n:Nat} {xs:List (List S73)} (h:Kd.C (Kd.slice 73 k73) w A n xs) (i:Int) (h0:0≤i) (h1:i < n):∃ ad A0 c0,A=some ad∧w.cell? (ad.add i.toNat)=some (.slice A0 (rd_L2 xs i).length c0)∧(rd_L2 xs i).length≤c0∧k73.C w A0 (rd_L2 xs i).length (rd_L2 xs i):=by
 obtain⟨ad,c,e,_,hK,hc0⟩:=Kd.C_get h ([]:List S73) i h0 h1
 have hc:∀ j u,c[j]?=some u→w.cell? (ad.add (i.toNat * 1+j))=some u:=hc0
 obtain⟨A0,c0,rfl,l0,g0⟩:=hK
 exact⟨ad,A0,c0,e,by have hq:=hc 0 _ rfl;rwa [Nat.mul_one,Nat.add_zero] at hq,l0,g0⟩

/-! #### struct type 24 -/
structure S24 where
 f0:Int
 f1:Int
 f2:Int
 f3:Int
 f4:Bool
 f5:Bool
 f6:Bool
 f7:(List S73)
def z24:S24:=⟨(0:Int),(0:Int),(0:Int),(0:Int),false,false,false,([]:List S73)⟩
def k24:Kd S24:=Kd.iso (Kd.pair (Kd.int .i64) (Kd.pair (Kd.int .i64) (Kd.pair (Kd.int .i64) (Kd.pair (Kd.int .i64) (Kd.pair Kd.bool (Kd.pair Kd.bool (Kd.pair Kd.bool (Kd.slice 73 k73)))))))) (fun x:S24=>(x.f0,x.f1,x.f2,x.f3,x.f4,x.f5,x.f6,x.f7))
theorem k24_open {w:World} {x:S24} {cs:List Value} (h:k24.K w x cs):∃ A7 c7,cs=[.int .i64 x.f0,.int .i64 x.f1,.int .i64 x.f2,.int .i64 x.f3,.bool x.f4,.bool x.f5,.bool x.f6,.slice A7 x.f7.length c7]∧x.f7.length≤c7∧k73.C w A7 x.f7.length x.f7:=by
 obtain⟨_,_,rfl,rfl,⟨_,_,rfl,rfl,⟨_,_,rfl,rfl,⟨_,_,rfl,rfl,⟨_,_,rfl,rfl,⟨_,_,rfl,rfl,⟨_,_,rfl,rfl,⟨A7,c7,rfl,l7,g7⟩⟩⟩⟩⟩⟩⟩⟩:=h
 exact⟨A7,c7,rfl,l7,g7⟩
theorem k24_openM {w:World} {base:Nat} {ok:Nat→Prop} {x:S24} {cs:List Value} (h:k24.M w base ok x cs):∃ v7,cs=[.int .i64 x.f0,.int .i64 x.f1,.int .i64 x.f2,.int .i64 x.f3,.bool x.f4,.bool x.f5,.bool x.f6,v7]∧k73.R 73 w base ok v7 x.f7:=by
 obtain⟨_,_,rfl,rfl,⟨_,_,rfl,rfl,⟨_,_,rfl,rfl,⟨_,_,rfl,rfl,⟨_,_,rfl,rfl,⟨_,_,rfl,rfl,⟨_,_,rfl,rfl,⟨v7,rfl,g7⟩⟩⟩⟩⟩⟩⟩⟩:=h
 exact⟨v7,rfl,g7⟩
theorem k24_mk (w:World) (x:S24) {A7:Option Addr} {c7:Nat} (l7:x.f7.length≤c7) (g7:k73.C w A7 x.f7.length x.f7):k24.K w x [.int .i64 x.f0,.int .i64 x.f1,.int .i64 x.f2,.int .i64 x.f3,.bool x.f4,.bool x.f5,.bool x.f6,.slice A7 x.f7.length c7]:=⟨[.int .i64 x.f0],[.int .i64 x.f1,.int .i64 x.f2,.int .i64 x.f3,.bool x.f4,.bool x.f5,.bool x.f6,.slice A7 x.f7.length c7],rfl,rfl,⟨[.int .i64 x.f1],[.int .i64 x.f2,.int .i64 x.f3,.bool x.f4,.bool x.f5,.bool x.f6,.slice A7 x.f7.length c7],rfl,rfl,⟨[.int .i64 x.f2],[.int .i64 x.f3,.bool x.f4,.bool x.f5,.bool x.f6,.slice A7 x.f7.length c7],rfl,rfl,⟨[.int .i64 x.f3],[.bool x.f4,.bool x.f5,.bool x.f6,.slice A7 x.f7.length c7],rfl,rfl,⟨[.bool x.f4],[.bool x.f5,.bool x.f6,.slice A7 x.f7.length c7],rfl,rfl,⟨[.bool x.f5],[.bool x.f6,.slice A7 x.f7.length c7],rfl,rfl,⟨[.bool x.f6],[.slice A7 x.f7.length c7],rfl,rfl,⟨A7,c7,rfl,l7,g7⟩⟩⟩⟩⟩⟩⟩⟩
theorem k24_mkM (w:World) (base:Nat) (ok:Nat→Prop) (x:S24) {v7:Value} (g7:k73.R 73 w base ok v7 x.f7):k24.M w base ok x [.int .i64 x.f0,.int .i64 x.f1,.int .i64 x.f2,.int .i64 x.f3,.bool x.f4,.bool x.f5,.bool x.f6,v7]:=⟨[.int .i64 x.f0],[.int .i64 x.f1,.int .i64 x.f2,.int .i64 x.f3,.bool x.f4,.bool x.f5,.bool x.f6,v7],rfl,rfl,⟨[.int .i64 x.f1],[.int .i64 x.f2,.int .i64 x.f3,.bool x.f4,.bool x.f5,.bool x.f6,v7],rfl,rfl,⟨[.int .i64 x.f2],[.int .i64 x.f3,.bool x.f4,.bool x.f5,.bool x.f6,v7],rfl,rfl,⟨[.int .i64 x.f3],[.bool x.f4,.bool x.f5,.bool x.f6,v7],rfl,rfl,⟨[.bool x.f4],[.bool x.f5,.bool x.f6,v7],rfl,rfl,⟨[.bool x.f5],[.bool x.f6,v7],rfl,rfl,⟨[.bool x.f6],[v7],rfl,rfl,⟨v7,rfl,g7⟩⟩⟩⟩⟩⟩⟩⟩
def rd_T24 (xs:List S24) (i:Int):S24:=xs.getD i.toNat z24
theorem at_T24 {w:World} {A:Option Addr} {n:Nat} {xs:List S24} (h:Kd.C k24 w A n xs) (i:Int) (h0:0≤i) (h1:i < n):∃ ad A7 c7,A=some ad∧w.cell? (ad.add (i.toNat * 8))=some (.int .i64 (rd_T24 xs i).f0)∧w.cell? ⟨(ad.add (i.toNat * 8)).block,(ad.add (i.toNat * 8)).off+1,none⟩=some (.int .i64 (rd_T24 xs i).f1)∧w.cell? ⟨(ad.add (i.toNat * 8)).block,(ad.add (i.toNat * 8)).off+2,none⟩=some (.int .i64 (rd_T24 xs i).f2)∧w.cell? ⟨(ad.add (i.toNat * 8)).block,(ad.add (i.toNat * 8)).off+3,none⟩=some (.int .i64 (rd_T24 xs i).f3)∧w.cell? ⟨(ad.add (i.toNat * 8)).block,(ad.add (i.toNat * 8)).off+4,none⟩=some (.bool (rd_T24 xs i).f4)∧w.cell? ⟨(ad.add (i.toNat * 8)).block,(ad.add (i.toNat * 8)).off+5,none⟩=some (.bool (rd_T24 xs i).f5)∧w.cell? ⟨(ad.add (i.toNat * 8)).block,(ad.add (i.toNat * 8)).off+6,none⟩=some (.bool (rd_T24 xs i).f6)∧w.cell? ⟨(ad.add (i.toNat * 8)).block,(ad.add (i.toNat * 8)).off+7,none⟩=some (.slice A7 (rd_T24 xs i).f7.length c7)∧(rd_T24 xs i).f7.length≤c7∧k73.C w A7 (rd_T24 xs i).f7.length (rd_T24 xs i).f7:=by
 obtain⟨ad,c,e,_,hK,hc0⟩:=Kd.C_get h z24 i h0 h1
 have hc:∀ j u,c[j]?=some u→w.cell? (ad.add (i.toNat * 8+j))=some u:=hc0
 obtain⟨A7,c7,rfl,l7,g7⟩:=k24_open hK
 exact⟨ad,A7,c7,e,hc 0 _ rfl,by rw[← add_field _ _ 1 (by omega)];exact hc 1 _ rfl,by rw[← add_field _ _ 2 (by omega)];exact hc 2 _ rfl,by rw[← add_field _ _ 3 (by omega)];exact hc 3 _ rfl,by rw[← add_field _ _ 4 (by omega)];exact hc 4 _ rfl,by rw[← add_field _ _ 5 (by omega)];exact hc 5 _ rfl,by rw[← add_field _ _ 6 (by omega)];exact hc 6 _ rfl,by rw[← add_field _ _ 7 (by omega)];exact hc 7 _ rfl,l7,g7⟩

/-! #### struct type 26 -/
structure S26 where
 f0:Int
 f1:Int
 f2:Int
 f3:Int
 f4:Int
 f5:Int
 f6:Int
 f7:S24
 f8:ByteArray
def z26:S26:=⟨(0:Int),(0:Int),(0:Int),(0:Int),(0:Int),(0:Int),(0:Int),z24,(⟨#[]⟩:ByteArray)⟩
def k26:Kd S26:=Kd.iso (Kd.pair (Kd.int .i64) (Kd.pair (Kd.int .i64) (Kd.pair (Kd.int .i64) (Kd.pair (Kd.int .i64) (Kd.pair (Kd.int .i64) (Kd.pair (Kd.int .i64) (Kd.pair (Kd.int .i64) (Kd.pair k24 Kd.string)))))))) (fun x:S26=>(x.f0,x.f1,x.f2,x.f3,x.f4,x.f5,x.f6,x.f7,x.f8))
theorem k26_open {w:World} {x:S26} {cs:List Value} (h:k26.K w x cs):∃ A14 c14,cs=[.int .i64 x.f0,.int .i64 x.f1,.int .i64 x.f2,.int .i64 x.f3,.int .i64 x.f4,.int .i64 x.f5,.int .i64 x.f6,.int .i64 x.f7.f0,.int .i64 x.f7.f1,.int .i64 x.f7.f2,.int .i64 x.f7.f3,.bool x.f7.f4,.bool x.f7.f5,.bool x.f7.f6,.slice A14 x.f7.f7.length c14,.string x.f8]∧x.f7.f7.length≤c14∧k73.C w A14 x.f7.f7.length x.f7.f7:=by
 obtain⟨_,_,rfl,rfl,⟨_,_,rfl,rfl,⟨_,_,rfl,rfl,⟨_,_,rfl,rfl,⟨_,_,rfl,rfl,⟨_,_,rfl,rfl,⟨_,_,rfl,rfl,⟨_,_,rfl,s7,rfl⟩⟩⟩⟩⟩⟩⟩⟩:=h
 obtain⟨A14,c14,rfl,l14,g14⟩:=k24_open s7
 exact⟨A14,c14,rfl,l14,g14⟩
theorem k26_openM {w:World} {base:Nat} {ok:Nat→Prop} {x:S26} {cs:List Value} (h:k26.M w base ok x cs):∃ v14,cs=[.int .i64 x.f0,.int .i64 x.f1,.int .i64 x.f2,.int .i64 x.f3,.int .i64 x.f4,.int .i64 x.f5,.int .i64 x.f6,.int .i64 x.f7.f0,.int .i64 x.f7.f1,.int .i64 x.f7.f2,.int .i64 x.f7.f3,.bool x.f7.f4,.bool x.f7.f5,.bool x.f7.f6,v14,.string x.f8]∧k73.R 73 w base ok v14 x.f7.f7:=by
 obtain⟨_,_,rfl,rfl,⟨_,_,rfl,rfl,⟨_,_,rfl,rfl,⟨_,_,rfl,rfl,⟨_,_,rfl,rfl,⟨_,_,rfl,rfl,⟨_,_,rfl,rfl,⟨_,_,rfl,s7,rfl⟩⟩⟩⟩⟩⟩⟩⟩:=h
 obtain⟨v14,rfl,g14⟩:=k24_openM s7
 exact⟨v14,rfl,g14⟩
theorem k26_mk (w:World) (x:S26) {A14:Option Addr} {c14:Nat} (l14:x.f7.f7.length≤c14) (g14:k73.C w A14 x.f7.f7.length x.f7.f7):k26.K w x [.int .i64 x.f0,.int .i64 x.f1,.int .i64 x.f2,.int .i64 x.f3,.int .i64 x.f4,.int .i64 x.f5,.int .i64 x.f6,.int .i64 x.f7.f0,.int .i64 x.f7.f1,.int .i64 x.f7.f2,.int .i64 x.f7.f3,.bool x.f7.f4,.bool x.f7.f5,.bool x.f7.f6,.slice A14 x.f7.f7.length c14,.string x.f8]:=⟨[.int .i64 x.f0],[.int .i64 x.f1,.int .i64 x.f2,.int .i64 x.f3,.int .i64 x.f4,.int .i64 x.f5,.int .i64 x.f6,.int .i64 x.f7.f0,.int .i64 x.f7.f1,.int .i64 x.f7.f2,.int .i64 x.f7.f3,.bool x.f7.f4,.bool x.f7.f5,.bool x.f7.f6,.slice A14 x.f7.f7.length c14,.string x.f8],rfl,rfl,⟨[.int .i64 x.f1],[.int .i64 x.f2,.int .i64 x.f3,.int .i64 x.f4,.int .i64 x.f5,.int .i64 x.f6,.int .i64 x.f7.f0,.int .i64 x.f7.f1,.int .i64 x.f7.f2,.int .i64 x.f7.f3,.bool x.f7.f4,.bool x.f7.f5,.bool x.f7.f6,.slice A14 x.f7.f7.length c14,.string x.f8],rfl,rfl,⟨[.int .i64 x.f2],[.int .i64 x.f3,.int .i64 x.f4,.int .i64 x.f5,.int .i64 x.f6,.int .i64 x.f7.f0,.int .i64 x.f7.f1,.int .i64 x.f7.f2,.int .i64 x.f7.f3,.bool x.f7.f4,.bool x.f7.f5,.bool x.f7.f6,.slice A14 x.f7.f7.length c14,.string x.f8],rfl,rfl,⟨[.int .i64 x.f3],[.int .i64 x.f4,.int .i64 x.f5,.int .i64 x.f6,.int .i64 x.f7.f0,.int .i64 x.f7.f1,.int .i64 x.f7.f2,.int .i64 x.f7.f3,.bool x.f7.f4,.bool x.f7.f5,.bool x.f7.f6,.slice A14 x.f7.f7.length c14,.string x.f8],rfl,rfl,⟨[.int .i64 x.f4],[.int .i64 x.f5,.int .i64 x.f6,.int .i64 x.f7.f0,.int .i64 x.f7.f1,.int .i64 x.f7.f2,.int .i64 x.f7.f3,.bool x.f7.f4,.bool x.f7.f5,.bool x.f7.f6,.slice A14 x.f7.f7.length c14,.string x.f8],rfl,rfl,⟨[.int .i64 x.f5],[.int .i64 x.f6,.int .i64 x.f7.f0,.int .i64 x.f7.f1,.int .i64 x.f7.f2,.int .i64 x.f7.f3,.bool x.f7.f4,.bool x.f7.f5,.bool x.f7.f6,.slice A14 x.f7.f7.length c14,.string x.f8],rfl,rfl,⟨[.int .i64 x.f6],[.int .i64 x.f7.f0,.int .i64 x.f7.f1,.int .i64 x.f7.f2,.int .i64 x.f7.f3,.bool x.f7.f4,.bool x.f7.f5,.bool x.f7.f6,.slice A14 x.f7.f7.length c14,.string x.f8],rfl,rfl,⟨[.int .i64 x.f7.f0,.int .i64 x.f7.f1,.int .i64 x.f7.f2,.int .i64 x.f7.f3,.bool x.f7.f4,.bool x.f7.f5,.bool x.f7.f6,.slice A14 x.f7.f7.length c14],[.string x.f8],rfl,(k24_mk w x.f7 l14 g14),rfl⟩⟩⟩⟩⟩⟩⟩⟩
theorem k26_mkM (w:World) (base:Nat) (ok:Nat→Prop) (x:S26) {v14:Value} (g14:k73.R 73 w base ok v14 x.f7.f7):k26.M w base ok x [.int .i64 x.f0,.int .i64 x.f1,.int .i64 x.f2,.int .i64 x.f3,.int .i64 x.f4,.int .i64 x.f5,.int .i64 x.f6,.int .i64 x.f7.f0,.int .i64 x.f7.f1,.int .i64 x.f7.f2,.int .i64 x.f7.f3,.bool x.f7.f4,.bool x.f7.f5,.bool x.f7.f6,v14,.string x.f8]:=⟨[.int .i64 x.f0],[.int .i64 x.f1,.int .i64 x.f2,.int .i64 x.f3,.int .i64 x.f4,.int .i64 x.f5,.int .i64 x.f6,.int .i64 x.f7.f0,.int .i64 x.f7.f1,.int .i64 x.f7.f2,.int .i64 x.f7.f3,.bool x.f7.f4,.bool x.f7.f5,.bool x.f7.f6,v14,.string x.f8],rfl,rfl,⟨[.int .i64 x.f1],[.int .i64 x.f2,.int .i64 x.f3,.int .i64 x.f4,.int .i64 x.f5,.int .i64 x.f6,.int .i64 x.f7.f0,.int .i64 x.f7.f1,.int .i64 x.f7.f2,.int .i64 x.f7.f3,.bool x.f7.f4,.bool x.f7.f5,.bool x.f7.f6,v14,.string x.f8],rfl,rfl,⟨[.int .i64 x.f2],[.int .i64 x.f3,.int .i64 x.f4,.int .i64 x.f5,.int .i64 x.f6,.int .i64 x.f7.f0,.int .i64 x.f7.f1,.int .i64 x.f7.f2,.int .i64 x.f7.f3,.bool x.f7.f4,.bool x.f7.f5,.bool x.f7.f6,v14,.string x.f8],rfl,rfl,⟨[.int .i64 x.f3],[.int .i64 x.f4,.int .i64 x.f5,.int .i64 x.f6,.int .i64 x.f7.f0,.int .i64 x.f7.f1,.int .i64 x.f7.f2,.int .i64 x.f7.f3,.bool x.f7.f4,.bool x.f7.f5,.bool x.f7.f6,v14,.string x.f8],rfl,rfl,⟨[.int .i64 x.f4],[.int .i64 x.f5,.int .i64 x.f6,.int .i64 x.f7.f0,.int .i64 x.f7.f1,.int .i64 x.f7.f2,.int .i64 x.f7.f3,.bool x.f7.f4,.bool x.f7.f5,.bool x.f7.f6,v14,.string x.f8],rfl,rfl,⟨[.int .i64 x.f5],[.int .i64 x.f6,.int .i64 x.f7.f0,.int .i64 x.f7.f1,.int .i64 x.f7.f2,.int .i64 x.f7.f3,.bool x.f7.f4,.bool x.f7.f5,.bool x.f7.f6,v14,.string x.f8],rfl,rfl,⟨[.int .i64 x.f6],[.int .i64 x.f7.f0,.int .i64 x.f7.f1,.int .i64 x.f7.f2,.int .i64 x.f7.f3,.bool x.f7.f4,.bool x.f7.f5,.bool x.f7.f6,v14,.string x.f8],rfl,rfl,⟨[.int .i64 x.f7.f0,.int .i64 x.f7.f1,.int .i64 x.f7.f2,.int .i64 x.f7.f3,.bool x.f7.f4,.bool x.f7.f5,.bool x.f7.f6,v14],[.string x.f8],rfl,(k24_mkM w base ok x.f7 g14),rfl⟩⟩⟩⟩⟩⟩⟩⟩
def rd_T26 (xs:List S26) (i:Int):S26:=xs.getD i.toNat z26
theorem at_T26 {w:World} {A:Option Addr} {n:Nat} {xs:List S26} (h:Kd.C k26 w A n xs) (i:Int) (h0:0≤i) (h1:i < n):∃ ad A14 c14,A=some ad∧w.cell? (ad.add (i.toNat * 16))=some (.int .i64 (rd_T26 xs i).f0)∧w.cell? ⟨(ad.add (i.toNat * 16)).block,(ad.add (i.toNat * 16)).off+1,none⟩=some (.int .i64 (rd_T26 xs i).f1)∧w.cell? ⟨(ad.add (i.toNat * 16)).block,(ad.add (i.toNat * 16)).off+2,none⟩=some (.int .i64 (rd_T26 xs i).f2)∧w.cell? ⟨(ad.add (i.toNat * 16)).block,(ad.add (i.toNat * 16)).off+3,none⟩=some (.int .i64 (rd_T26 xs i).f3)∧w.cell? ⟨(ad.add (i.toNat * 16)).block,(ad.add (i.toNat * 16)).off+4,none⟩=some (.int .i64 (rd_T26 xs i).f4)∧w.cell? ⟨(ad.add (i.toNat * 16)).block,(ad.add (i.toNat * 16)).off+5,none⟩=some (.int .i64 (rd_T26 xs i).f5)∧w.cell? ⟨(ad.add (i.toNat * 16)).block,(ad.add (i.toNat * 16)).off+6,none⟩=some (.int .i64 (rd_T26 xs i).f6)∧w.cell? ⟨(ad.add (i.toNat * 16)).block,(ad.add (i.toNat * 16)).off+7,none⟩=some (.int .i64 (rd_T26 xs i).f7.f0)∧w.cell? ⟨(ad.add (i.toNat * 16)).block,(ad.add (i.toNat * 16)).off+8,none⟩=some (.int .i64 (rd_T26 xs i).f7.f1)∧w.cell? ⟨(ad.add (i.toNat * 16)).block,(ad.add (i.toNat * 16)).off+9,none⟩=some (.int .i64 (rd_T26 xs i).f7.f2)∧w.cell? ⟨(ad.add (i.toNat * 16)).block,(ad.add (i.toNat * 16)).off+10,none⟩=some (.int .i64 (rd_T26 xs i).f7.f3)∧w.cell? ⟨(ad.add (i.toNat * 16)).block,(ad.add (i.toNat * 16)).off+11,none⟩=some (.bool (rd_T26 xs i).f7.f4)∧w.cell? ⟨(ad.add (i.toNat * 16)).block,(ad.add (i.toNat * 16)).off+12,none⟩=some (.bool (rd_T26 xs i).f7.f5)∧w.cell? ⟨(ad.add (i.toNat * 16)).block,(ad.add (i.toNat * 16)).off+13,none⟩=some (.bool (rd_T26 xs i).f7.f6)∧w.cell? ⟨(ad.add (i.toNat * 16)).block,(ad.add (i.toNat * 16)).off+14,none⟩=some (.slice A14 (rd_T26 xs i).f7.f7.length c14)∧w.cell? ⟨(ad.add (i.toNat * 16)).block,(ad.add (i.toNat * 16)).off+15,none⟩=some (.string (rd_T26 xs i).f8)∧(rd_T26 xs i).f7.f7.length≤c14∧k73.C w A14 (rd_T26 xs i).f7.f7.length (rd_T26 xs i).f7.f7:=by
 obtain⟨ad,c,e,_,hK,hc0⟩:=Kd.C_get h z26 i h0 h1
 have hc:∀ j u,c[j]?=some u→w.cell? (ad.add (i.toNat * 16+j))=some u:=hc0
 obtain⟨A14,c14,rfl,l14,g14⟩:=k26_open hK
 exact⟨ad,A14,c14,e,hc 0 _ rfl,by rw[← add_field _ _ 1 (by omega)];exact hc 1 _ rfl,by rw[← add_field _ _ 2 (by omega)];exact hc 2 _ rfl,by rw[← add_field _ _ 3 (by omega)];exact hc 3 _ rfl,by rw[← add_field _ _ 4 (by omega)];exact hc 4 _ rfl,by rw[← add_field _ _ 5 (by omega)];exact hc 5 _ rfl,by rw[← add_field _ _ 6 (by omega)];exact hc 6 _ rfl,by rw[← add_field _ _ 7 (by omega)];exact hc 7 _ rfl,by rw[← add_field _ _ 8 (by omega)];exact hc 8 _ rfl,by rw[← add_field _ _ 9 (by omega)];exact hc 9 _ rfl,by rw[← add_field _ _ 10 (by omega)];exact hc 10 _ rfl,by rw[← add_field _ _ 11 (by omega)];exact hc 11 _ rfl,by rw[← add_field _ _ 12 (by omega)];exact hc 12 _ rfl,by rw[← add_field _ _ 13 (by omega)];exact hc 13 _ rfl,by rw[← add_field _ _ 14 (by omega)];exact hc 14 _ rfl,by rw[← add_field _ _ 15 (by omega)];exact hc 15 _ rfl,l14,g14⟩

def rd_L8 (xs:List (List Bool)) (i:Int):(List Bool):=xs.getD i.toNat ([]:List Bool)
theorem at_L8 {w:World} {A:Option Addr} {n:Nat} {xs:List (List Bool)} (h:Kd.C (Kd.slice 4 Kd.bool) w A n xs) (i:Int) (h0:0≤i) (h1:i < n):∃ ad A0 c0,A=some ad∧w.cell? (ad.add i.toNat)=some (.slice A0 (rd_L8 xs i).length c0)∧(rd_L8 xs i).length≤c0∧Kd.bool.C w A0 (rd_L8 xs i).length (rd_L8 xs i):=by
 obtain⟨ad,c,e,_,hK,hc0⟩:=Kd.C_get h ([]:List Bool) i h0 h1
 have hc:∀ j u,c[j]?=some u→w.cell? (ad.add (i.toNat * 1+j))=some u:=hc0
 obtain⟨A0,c0,rfl,l0,g0⟩:=hK
 exact⟨ad,A0,c0,e,by have hq:=hc 0 _ rfl;rwa [Nat.mul_one,Nat.add_zero] at hq,l0,g0⟩

/-! #### struct type 37 -/
structure S37 where
 f0:Int
 f1:Int
def z37:S37:=⟨(0:Int),(0:Int)⟩
def k37:Kd S37:=Kd.iso (Kd.pair (Kd.int .i64) (Kd.int .i64)) (fun x:S37=>(x.f0,x.f1))
theorem k37_open {w:World} {x:S37} {cs:List Value} (h:k37.K w x cs):cs=[.int .i64 x.f0,.int .i64 x.f1]:=by
 obtain⟨_,_,rfl,rfl,rfl⟩:=h
 exact rfl
theorem k37_openM {w:World} {base:Nat} {ok:Nat→Prop} {x:S37} {cs:List Value} (h:k37.M w base ok x cs):cs=[.int .i64 x.f0,.int .i64 x.f1]:=by
 obtain⟨_,_,rfl,rfl,rfl⟩:=h
 exact rfl
theorem k37_mk (w:World) (x:S37)  : k37.K w x [.int .i64 x.f0,.int .i64 x.f1]:=⟨[.int .i64 x.f0],[.int .i64 x.f1],rfl,rfl,rfl⟩
theorem k37_mkM (w:World) (base:Nat) (ok:Nat→Prop) (x:S37)  : k37.M w base ok x [.int .i64 x.f0,.int .i64 x.f1]:=⟨[.int .i64 x.f0],[.int .i64 x.f1],rfl,rfl,rfl⟩
def rd_T37 (xs:List S37) (i:Int):S37:=xs.getD i.toNat z37
theorem at_T37 {w:World} {A:Option Addr} {n:Nat} {xs:List S37} (h:Kd.C k37 w A n xs) (i:Int) (h0:0≤i) (h1:i < n):∃ ad ,A=some ad∧w.cell? (ad.add (i.toNat * 2))=some (.int .i64 (rd_T37 xs i).f0)∧w.cell? ⟨(ad.add (i.toNat * 2)).block,(ad.add (i.toNat * 2)).off+1,none⟩=some (.int .i64 (rd_T37 xs i).f1):=by
 obtain⟨ad,c,e,_,hK,hc0⟩:=Kd.C_get h z37 i h0 h1
 have hc:∀ j u,c[j]?=some u→w.cell? (ad.add (i.toNat * 2+j))=some u:=hc0
 obtain rfl:=k37_open hK
 exact⟨ad,e,hc 0 _ rfl,by rw[← add_field _ _ 1 (by omega)];exact hc 1 _ rfl⟩

end Go.Proofs.Ytakajeoeijnmhaa.PSegReads

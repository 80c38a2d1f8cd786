-- Laid by this claim's own program over the print's words.
import Derived.Test.YtakajeoeijnmhaaPSegReadsx0
import Derived.Test.YtakajeoeijnmhaaPSegReadsx8
namespace Go.Proofs.Ytakajeoeijnmhaa.PSegReads
open Go.RowKit Go.Proofs.YtakajeoeijnmhaaW.PrintWords Go.Proofs.YtakajeoeijnmhaaW.PrintLast Go.Proofs.YtakajeoeijnmhaaW.PrintMore
attribute [local go_sem] max2_int min2_int max_two min_two max_three min_three max_four min_four max_five min_five extract_cut tmod_nat_lit   -- for this text's walks alone
set_option linter.unusedVariables false
set_option linter.unusedSimpArgs false

/-- A state of type 24 at block g of W; what its slices lead to came in by w0. -/
def IsS24 (w0 W:World) (g:Nat) (f0:Int) (f1:Int) (f2:Int) (f3:Int) (f4:Bool) (f5:Bool) (f6:Bool) (f7:List (S73)):Prop:=∃ A7 c7,W.heap[g]?=some (.cells #[.int .i64 f0,.int .i64 f1,.int .i64 f2,.int .i64 f3,.bool f4,.bool f5,.bool f6,.slice A7 f7.length c7] 24 (0,0))∧w0.heap.size≤g∧Kd.C k73 w0 A7 f7.length f7
theorem IsS24.grown {w0 W:World} {g:Nat} {f0:Int} {f1:Int} {f2:Int} {f3:Int} {f4:Bool} {f5:Bool} {f6:Bool} {f7:List (S73)} {W1:World} {row:Option Nat} (h:IsS24 w0 W g f0 f1 f2 f3 f4 f5 f6 f7) (hw:W.grownBy W1 row) (hne:some g≠row):IsS24 w0 W1 g f0 f1 f2 f3 f4 f5 f6 f7:=by
 obtain⟨A7,c7,hb,hg,hr7⟩:=h
 exact⟨A7,c7,blk_grown hb hw hne,hg,hr7⟩
theorem IsS24.own_neN {w0 W:World} {g:Nat} {f0:Int} {f1:Int} {f2:Int} {f3:Int} {f4:Bool} {f5:Bool} {f6:Bool} {f7:List (S73)} {α : Type} {d:Kd α} {e:Nat} {base:Nat} {ok:Nat→Prop} {v:Value} {xs:List α} (h:IsS24 w0 W g f0 f1 f2 f3 f4 f5 f6 f7) (ho:Kd.N d e W base ok v xs) (ht:e≠24):some g≠v.ownBlock:=by
 obtain⟨A7,c7,hb,hg,hr7⟩:=h
 exact Kd.N_ne ho hb ht
theorem IsS24.fresh {w0 W:World} {g:Nat} {f0:Int} {f1:Int} {f2:Int} {f3:Int} {f4:Bool} {f5:Bool} {f6:Bool} {f7:List (S73)} (h:IsS24 w0 W g f0 f1 f2 f3 f4 f5 f6 f7):∀ k,W.heap.size≤k→k≠g:=by
 obtain⟨A7,c7,hb,hg,hr7⟩:=h
 exact Kd.freshB hb
theorem IsS24.kept {w0 W:World} {g:Nat} {f0:Int} {f1:Int} {f2:Int} {f3:Int} {f4:Bool} {f5:Bool} {f6:Bool} {f7:List (S73)} {W1:World} {S:Nat→Prop} (h:IsS24 w0 W g f0 f1 f2 f3 f4 f5 f6 f7) (hk:Kept W W1 S) (hne:¬ S g):IsS24 w0 W1 g f0 f1 f2 f3 f4 f5 f6 f7:=by
 obtain⟨A7,c7,hb,hg,hr7⟩:=h
 exact⟨A7,c7,blk_kept hb hk hne,hg,hr7⟩
theorem IsS24.below {w0 W:World} {g:Nat} {f0:Int} {f1:Int} {f2:Int} {f3:Int} {f4:Bool} {f5:Bool} {f6:Bool} {f7:List (S73)} {W1:World} (h:IsS24 w0 W g f0 f1 f2 f3 f4 f5 f6 f7) (hw:Below W.heap.size W W1):IsS24 w0 W1 g f0 f1 f2 f3 f4 f5 f6 f7:=h.grown (grown_of_below hw none) (by simp)
theorem IsS24.alloc {w0 W:World} {g:Nat} {f0:Int} {f1:Int} {f2:Int} {f3:Int} {f4:Bool} {f5:Bool} {f6:Bool} {f7:List (S73)} (h:IsS24 w0 W g f0 f1 f2 f3 f4 f5 f6 f7) (o:Obj):IsS24 w0 (W.alloc o) g f0 f1 f2 f3 f4 f5 f6 f7:=h.below (bA (Below.refl _ _) o)
theorem IsS24.drewN {w0 W:World} {g:Nat} {f0:Int} {f1:Int} {f2:Int} {f3:Int} {f4:Bool} {f5:Bool} {f6:Bool} {f7:List (S73)} (h:IsS24 w0 W g f0 f1 f2 f3 f4 f5 f6 f7) (m:Nat):IsS24 w0 (W.drewN m) g f0 f1 f2 f3 f4 f5 f6 f7:=h
theorem IsS24.drew {w0 W:World} {g:Nat} {f0:Int} {f1:Int} {f2:Int} {f3:Int} {f4:Bool} {f5:Bool} {f6:Bool} {f7:List (S73)} (h:IsS24 w0 W g f0 f1 f2 f3 f4 f5 f6 f7):IsS24 w0 W.drew g f0 f1 f2 f3 f4 f5 f6 f7:=h
theorem IsS24.at_ {w0 W:World} {g:Nat} {f0:Int} {f1:Int} {f2:Int} {f3:Int} {f4:Bool} {f5:Bool} {f6:Bool} {f7:List (S73)} {w':World} {m:Nat} (hq:W.drewN m=w') (h:IsS24 w0 W g f0 f1 f2 f3 f4 f5 f6 f7):IsS24 w0 w' g f0 f1 f2 f3 f4 f5 f6 f7:=by subst hq;exact IsS24.drewN h m
theorem IsS24.apart {w0 W:World} {g:Nat} {f0:Int} {f1:Int} {f2:Int} {f3:Int} {f4:Bool} {f5:Bool} {f6:Bool} {f7:List (S73)} {α : Type} {d:Kd α} {e:Nat} {base:Nat} {ok:Nat→Prop} {v:Value} {xs:List α} (h:IsS24 w0 W g f0 f1 f2 f3 f4 f5 f6 f7) (ho:d.R e W base ok v xs) (ht:∀ q,q∈e :: d.E→q≠24):d.R e W base (fun k=>ok k∧k≠g) v xs:=by
 obtain⟨A7,c7,hb,hg,hr7⟩:=h
 exact Kd.R_types ho hb ht
theorem IsS24.own_ne {w0 W:World} {g:Nat} {f0:Int} {f1:Int} {f2:Int} {f3:Int} {f4:Bool} {f5:Bool} {f6:Bool} {f7:List (S73)} {α : Type} {d:Kd α} {e:Nat} {base:Nat} {ok:Nat→Prop} {v:Value} {xs:List α} (h:IsS24 w0 W g f0 f1 f2 f3 f4 f5 f6 f7) (ho:d.R e W base ok v xs) (ht:e≠24):some g≠v.ownBlock:=by
 obtain⟨A7,c7,hb,hg,hr7⟩:=h
 exact Kd.R_ne ho hb ht
theorem IsS24.apartQ {w0 W:World} {g:Nat} {f0:Int} {f1:Int} {f2:Int} {f3:Int} {f4:Bool} {f5:Bool} {f6:Bool} {f7:List (S73)} {α : Type} {d:Kd α} {e:Nat} {base:Nat} {ok:Nat→Prop} {v:Value} {xs:List α} (h:IsS24 w0 W g f0 f1 f2 f3 f4 f5 f6 f7) (ho:d.Q e W base ok v xs) (ht:∀ q,q∈e :: d.E→q≠24):d.Q e W base (fun k=>ok k∧k≠g) v xs:=by
 obtain⟨A7,c7,hb,hg,hr7⟩:=h
 exact Kd.Q_types ho hb ht
theorem IsS24.own_neQ {w0 W:World} {g:Nat} {f0:Int} {f1:Int} {f2:Int} {f3:Int} {f4:Bool} {f5:Bool} {f6:Bool} {f7:List (S73)} {α : Type} {d:Kd α} {e:Nat} {base:Nat} {ok:Nat→Prop} {v:Value} {xs:List α} (h:IsS24 w0 W g f0 f1 f2 f3 f4 f5 f6 f7) (ho:d.Q e W base ok v xs) (ht:e≠24):some g≠v.ownBlock:=by
 obtain⟨A7,c7,hb,hg,hr7⟩:=h
 exact Kd.Q_ne ho hb ht
theorem IsS24.apartS {w0 W:World} {g:Nat} {f0:Int} {f1:Int} {f2:Int} {f3:Int} {f4:Bool} {f5:Bool} {f6:Bool} {f7:List (S73)} {α : Type} {d:Kd α} {e:Nat} {base:Nat} {ok:Nat→Prop} {v:Value} {xs:List α} (h:IsS24 w0 W g f0 f1 f2 f3 f4 f5 f6 f7) (ho:d.S e W base ok v xs) (ht:∀ q,q∈e :: d.E→q≠24):d.S e W base (fun k=>ok k∧k≠g) v xs:=by
 obtain⟨A7,c7,hb,hg,hr7⟩:=h
 exact Kd.S_types ho hb ht
theorem IsS24.own_neS {w0 W:World} {g:Nat} {f0:Int} {f1:Int} {f2:Int} {f3:Int} {f4:Bool} {f5:Bool} {f6:Bool} {f7:List (S73)} {α : Type} {d:Kd α} {e:Nat} {base:Nat} {ok:Nat→Prop} {v:Value} {xs:List α} (h:IsS24 w0 W g f0 f1 f2 f3 f4 f5 f6 f7) (ho:d.S e W base ok v xs) (ht:e≠24):some g≠v.ownBlock:=by
 obtain⟨A7,c7,hb,hg,hr7⟩:=h
 exact Kd.S_ne ho hb ht
theorem IsS24.lt {w0 W:World} {g:Nat} {f0:Int} {f1:Int} {f2:Int} {f3:Int} {f4:Bool} {f5:Bool} {f6:Bool} {f7:List (S73)} (h:IsS24 w0 W g f0 f1 f2 f3 f4 f5 f6 f7):g < W.heap.size:=by
 obtain⟨A7,c7,hb,hg,hr7⟩:=h
 exact blk_lt hb
theorem IsS24.ge {w0 W:World} {g:Nat} {f0:Int} {f1:Int} {f2:Int} {f3:Int} {f4:Bool} {f5:Bool} {f6:Bool} {f7:List (S73)} (h:IsS24 w0 W g f0 f1 f2 f3 f4 f5 f6 f7):w0.heap.size≤g:=by
 obtain⟨A7,c7,hb,hg,hr7⟩:=h
 exact hg
theorem IsS24.ne_blk {w0 W:World} {g:Nat} {f0:Int} {f1:Int} {f2:Int} {f3:Int} {f4:Bool} {f5:Bool} {f6:Bool} {f7:List (S73)} {a:Nat} {cs:Array Value} {t:TypeId} {fr:Nat × Nat} (h:IsS24 w0 W g f0 f1 f2 f3 f4 f5 f6 f7) (hb2:W.heap[a]?=some (.cells cs t fr)) (ht:t≠24):g≠a:=by
 obtain⟨A7,c7,hb,hg,hr7⟩:=h
 rintro rfl
 rw[hb] at hb2
 injection hb2 with hb2
 injection hb2 with _ ht2
 exact ht ht2.symm
theorem IsS24.far {w0 W:World} {g:Nat} {f0:Int} {f1:Int} {f2:Int} {f3:Int} {f4:Bool} {f5:Bool} {f6:Bool} {f7:List (S73)} {p:Addr} (h:IsS24 w0 W g f0 f1 f2 f3 f4 f5 f6 f7) (hne:g≠p.block) (u:Value):IsS24 w0 (W.setCell p u) g f0 f1 f2 f3 f4 f5 f6 f7:=by
 obtain⟨A7,c7,hb,hg,hr7⟩:=h
 exact⟨A7,c7,kW hb hne u,hg,hr7⟩
theorem cellS24_0 {W:World} {g:Nat} {A7:Option Addr} {c7:Nat} {f0:Int} {f1:Int} {f2:Int} {f3:Int} {f4:Bool} {f5:Bool} {f6:Bool} {f7:List (S73)} (h:W.heap[g]?=some (.cells #[.int .i64 f0,.int .i64 f1,.int .i64 f2,.int .i64 f3,.bool f4,.bool f5,.bool f6,.slice A7 f7.length c7] 24 (0,0))):W.cell? ⟨g,0,none⟩=some (.int .i64 f0):=(kC h 0).trans rfl
theorem IsS24.set_0 {w0 W:World} {g:Nat} {f0:Int} {f1:Int} {f2:Int} {f3:Int} {f4:Bool} {f5:Bool} {f6:Bool} {f7:List (S73)} (h:IsS24 w0 W g f0 f1 f2 f3 f4 f5 f6 f7) (x:Int):IsS24 w0 (W.setCell ⟨g,0,none⟩ (.int .i64 x)) g x f1 f2 f3 f4 f5 f6 f7:=by
 obtain⟨A7,c7,hb,hg,hr7⟩:=h
 exact⟨A7,c7,by simpa using blk_set hb 0 (.int .i64 x),hg,hr7⟩
theorem cellS24_1 {W:World} {g:Nat} {A7:Option Addr} {c7:Nat} {f0:Int} {f1:Int} {f2:Int} {f3:Int} {f4:Bool} {f5:Bool} {f6:Bool} {f7:List (S73)} (h:W.heap[g]?=some (.cells #[.int .i64 f0,.int .i64 f1,.int .i64 f2,.int .i64 f3,.bool f4,.bool f5,.bool f6,.slice A7 f7.length c7] 24 (0,0))):W.cell? ⟨g,1,none⟩=some (.int .i64 f1):=(kC h 1).trans rfl
theorem IsS24.set_1 {w0 W:World} {g:Nat} {f0:Int} {f1:Int} {f2:Int} {f3:Int} {f4:Bool} {f5:Bool} {f6:Bool} {f7:List (S73)} (h:IsS24 w0 W g f0 f1 f2 f3 f4 f5 f6 f7) (x:Int):IsS24 w0 (W.setCell ⟨g,1,none⟩ (.int .i64 x)) g f0 x f2 f3 f4 f5 f6 f7:=by
 obtain⟨A7,c7,hb,hg,hr7⟩:=h
 exact⟨A7,c7,by simpa using blk_set hb 1 (.int .i64 x),hg,hr7⟩
theorem cellS24_2 {W:World} {g:Nat} {A7:Option Addr} {c7:Nat} {f0:Int} {f1:Int} {f2:Int} {f3:Int} {f4:Bool} {f5:Bool} {f6:Bool} {f7:List (S73)} (h:W.heap[g]?=some (.cells #[.int .i64 f0,.int .i64 f1,.int .i64 f2,.int .i64 f3,.bool f4,.bool f5,.bool f6,.slice A7 f7.length c7] 24 (0,0))):W.cell? ⟨g,2,none⟩=some (.int .i64 f2):=(kC h 2).trans rfl
theorem IsS24.set_2 {w0 W:World} {g:Nat} {f0:Int} {f1:Int} {f2:Int} {f3:Int} {f4:Bool} {f5:Bool} {f6:Bool} {f7:List (S73)} (h:IsS24 w0 W g f0 f1 f2 f3 f4 f5 f6 f7) (x:Int):IsS24 w0 (W.setCell ⟨g,2,none⟩ (.int .i64 x)) g f0 f1 x f3 f4 f5 f6 f7:=by
 obtain⟨A7,c7,hb,hg,hr7⟩:=h
 exact⟨A7,c7,by simpa using blk_set hb 2 (.int .i64 x),hg,hr7⟩
theorem cellS24_3 {W:World} {g:Nat} {A7:Option Addr} {c7:Nat} {f0:Int} {f1:Int} {f2:Int} {f3:Int} {f4:Bool} {f5:Bool} {f6:Bool} {f7:List (S73)} (h:W.heap[g]?=some (.cells #[.int .i64 f0,.int .i64 f1,.int .i64 f2,.int .i64 f3,.bool f4,.bool f5,.bool f6,.slice A7 f7.length c7] 24 (0,0))):W.cell? ⟨g,3,none⟩=some (.int .i64 f3):=(kC h 3).trans rfl
theorem IsS24.set_3 {w0 W:World} {g:Nat} {f0:Int} {f1:Int} {f2:Int} {f3:Int} {f4:Bool} {f5:Bool} {f6:Bool} {f7:List (S73)} (h:IsS24 w0 W g f0 f1 f2 f3 f4 f5 f6 f7) (x:Int):IsS24 w0 (W.setCell ⟨g,3,none⟩ (.int .i64 x)) g f0 f1 f2 x f4 f5 f6 f7:=by
 obtain⟨A7,c7,hb,hg,hr7⟩:=h
 exact⟨A7,c7,by simpa using blk_set hb 3 (.int .i64 x),hg,hr7⟩
theorem cellS24_4 {W:World} {g:Nat} {A7:Option Addr} {c7:Nat} {f0:Int} {f1:Int} {f2:Int} {f3:Int} {f4:Bool} {f5:Bool} {f6:Bool} {f7:List (S73)} (h:W.heap[g]?=some (.cells #[.int .i64 f0,.int .i64 f1,.int .i64 f2,.int .i64 f3,.bool f4,.bool f5,.bool f6,.slice A7 f7.length c7] 24 (0,0))):W.cell? ⟨g,4,none⟩=some (.bool f4):=(kC h 4).trans rfl
theorem IsS24.set_4 {w0 W:World} {g:Nat} {f0:Int} {f1:Int} {f2:Int} {f3:Int} {f4:Bool} {f5:Bool} {f6:Bool} {f7:List (S73)} (h:IsS24 w0 W g f0 f1 f2 f3 f4 f5 f6 f7) (x:Bool):IsS24 w0 (W.setCell ⟨g,4,none⟩ (.bool x)) g f0 f1 f2 f3 x f5 f6 f7:=by
 obtain⟨A7,c7,hb,hg,hr7⟩:=h
 exact⟨A7,c7,by simpa using blk_set hb 4 (.bool x),hg,hr7⟩
theorem cellS24_5 {W:World} {g:Nat} {A7:Option Addr} {c7:Nat} {f0:Int} {f1:Int} {f2:Int} {f3:Int} {f4:Bool} {f5:Bool} {f6:Bool} {f7:List (S73)} (h:W.heap[g]?=some (.cells #[.int .i64 f0,.int .i64 f1,.int .i64 f2,.int .i64 f3,.bool f4,.bool f5,.bool f6,.slice A7 f7.length c7] 24 (0,0))):W.cell? ⟨g,5,none⟩=some (.bool f5):=(kC h 5).trans rfl
theorem IsS24.set_5 {w0 W:World} {g:Nat} {f0:Int} {f1:Int} {f2:Int} {f3:Int} {f4:Bool} {f5:Bool} {f6:Bool} {f7:List (S73)} (h:IsS24 w0 W g f0 f1 f2 f3 f4 f5 f6 f7) (x:Bool):IsS24 w0 (W.setCell ⟨g,5,none⟩ (.bool x)) g f0 f1 f2 f3 f4 x f6 f7:=by
 obtain⟨A7,c7,hb,hg,hr7⟩:=h
 exact⟨A7,c7,by simpa using blk_set hb 5 (.bool x),hg,hr7⟩
theorem cellS24_6 {W:World} {g:Nat} {A7:Option Addr} {c7:Nat} {f0:Int} {f1:Int} {f2:Int} {f3:Int} {f4:Bool} {f5:Bool} {f6:Bool} {f7:List (S73)} (h:W.heap[g]?=some (.cells #[.int .i64 f0,.int .i64 f1,.int .i64 f2,.int .i64 f3,.bool f4,.bool f5,.bool f6,.slice A7 f7.length c7] 24 (0,0))):W.cell? ⟨g,6,none⟩=some (.bool f6):=(kC h 6).trans rfl
theorem IsS24.set_6 {w0 W:World} {g:Nat} {f0:Int} {f1:Int} {f2:Int} {f3:Int} {f4:Bool} {f5:Bool} {f6:Bool} {f7:List (S73)} (h:IsS24 w0 W g f0 f1 f2 f3 f4 f5 f6 f7) (x:Bool):IsS24 w0 (W.setCell ⟨g,6,none⟩ (.bool x)) g f0 f1 f2 f3 f4 f5 x f7:=by
 obtain⟨A7,c7,hb,hg,hr7⟩:=h
 exact⟨A7,c7,by simpa using blk_set hb 6 (.bool x),hg,hr7⟩
theorem cellS24_7 {W:World} {g:Nat} {A7:Option Addr} {c7:Nat} {f0:Int} {f1:Int} {f2:Int} {f3:Int} {f4:Bool} {f5:Bool} {f6:Bool} {f7:List (S73)} (h:W.heap[g]?=some (.cells #[.int .i64 f0,.int .i64 f1,.int .i64 f2,.int .i64 f3,.bool f4,.bool f5,.bool f6,.slice A7 f7.length c7] 24 (0,0))):W.cell? ⟨g,7,none⟩=some (.slice A7 f7.length c7):=(kC h 7).trans rfl
theorem IsS24.new (w0 W:World) (A7:Option Addr) (c7:Nat) (f0:Int) (f1:Int) (f2:Int) (f3:Int) (f4:Bool) (f5:Bool) (f6:Bool) (f7:List (S73)) (hB:Below w0.heap.size w0 W) (hr7:Kd.C k73 w0 A7 f7.length f7):IsS24 w0 (W.alloc (.cells #[.int .i64 f0,.int .i64 f1,.int .i64 f2,.int .i64 f3,.bool f4,.bool f5,.bool f6,.slice A7 f7.length c7] 24)) W.heap.size f0 f1 f2 f3 f4 f5 f6 f7:=⟨A7,c7,by simpa using heap_alloc_new W _,hB.size,hr7⟩

/-! ### opts_read: function 59 (by hand) -/
set_option maxHeartbeats 1000000 in
set_option maxRecDepth 100000 in
theorem opts_read.get (a0:ByteArray) (g:Nat) (a1 a2:Int) (r1 r2:Int) (w:World) (hb:w.heap[g]?=some (.cells #[.string a0] 9 (0,0))) (h:sum_Get.f a0 a1 a2=some (r1,r2)) :
  Calls Try.prog 67 #[.int .i64 a1,.int .i64 a2,.pointer (some ⟨g,0,none⟩)] w fun e w'=>e=.returned (.int .i64 r1)∧Below w.heap.size w w':=by
 have hcz:w.cell? ⟨g,0,none⟩=some (.string a0):=(kC hb 0).trans rfl
 go_enter Try.func67,Try.ntmps67
 go_wp2_with fail
 refine(sum_Get.calls a0 a1 a2 r1 r2 _ h).mono ?_
 rintro e w3 ⟨rfl,hb3⟩
 go_wp2
 go_ret
 exact⟨by first|rfl|simp,hb3⟩
/-- options in memory -/
def OptAt (w:World) (g:Nat) (m sc st ec:Int) (sd sk sp:Bool) (v:Value):Prop:=w.heap[g]?=some (.cells #[.int .i64 m,.int .i64 sc,.int .i64 st,.int .i64 ec,.bool sd,.bool sk,.bool sp,v] 24 (0,0))
def opts_read.sl:Nat→ByteArray→Int→List S73→Option (List S73)
 | 0,_,_,_=>none
 | k+1,s,at_,l=>if wrap64 (at_+8)≤(s.size:Int) then (sum_Get.f s at_ 4).bind fun g1=>(sum_Get.f s (wrap64 (at_+4)) 4).bind fun g2=>if l.length < 8796093022207 then opts_read.sl k s (wrap64 (at_+8)) (l++[⟨g1.1,g2.1⟩]) else none else some l
def opts_read.f (k:Nat) (m sc st ec:Int) (sd sk sp:Bool) (l:List S73) (kd:Int) (s:ByteArray):Option (Int × Int × Int × Int × Bool × Bool × Bool × List S73 × Bool) :=
 if kd=2 then (sum_Get.f s 0 2).bind fun g=>some (g.1,sc,st,ec,sd,sk,sp,l,decide ((s.size:Int)=2) && decide (g.1 > 0))
 else if kd=3 then (sum_Get.f s 0 1).bind fun g=>some (m,g.1,st,ec,true,sk,sp,l,decide ((s.size:Int)=1))
 else if kd=4 then some (m,sc,st,ec,sd,true,sp,l,s.toList.isEmpty)
 else if kd=5 then (opts_read.sl k s 0 l).bind fun l'=>some (m,sc,st,ec,sd,sk,sp,l',decide ((s.size:Int) > 0) && (decide ((s.size:Int)=wrap64 (8 * (l'.length:Int))) && decide ((l'.length:Int)≤4)))
 else if kd=8 then (sum_Get.f s 0 4).bind fun g1=>(sum_Get.f s 4 4).bind fun g2=>some (m,sc,g1.1,g2.1,sd,sk,true,l,decide ((s.size:Int)=8))
 else some (m,sc,st,ec,sd,sk,sp,l,true)
/-- what a call of read leaves -/
def opts_read.Post (g:Nat) (v:Value) (w0 w:World) (m' sc' st' ec':Int) (sd' sk' sp':Bool) (l':List S73) (w':World):Prop :=
 Below w0.heap.size w0 w'∧Kept w w' (fun k=>k=g∨some k=v.ownBlock)∧∃ v',OptAt w' g m' sc' st' ec' sd' sk' sp' v'∧(v'.ownBlock=v.ownBlock∨∃ b,v'.ownBlock=some b∧w.heap.size≤b)∧Kd.R k73 73 w' w0.heap.size (fun _=>True) v' l'
theorem opts_read.Post.refl {g:Nat} {v:Value} {w0 w:World} {m sc st ec:Int} {sd sk sp:Bool} {l:List S73} (hB:Below w0.heap.size w0 w) (hb:OptAt w g m sc st ec sd sk sp v) (hR:Kd.R k73 73 w w0.heap.size (fun _=>True) v l):opts_read.Post g v w0 w m sc st ec sd sk sp l w :=
 ⟨hB,Kept.refl _ _,v,hb,.inl rfl,hR⟩
theorem opts_read.Post.below {g:Nat} {v:Value} {w0 w W W':World} {m sc st ec:Int} {sd sk sp:Bool} {l:List S73} (h:opts_read.Post g v w0 w m sc st ec sd sk sp l W) (hb:Below W.heap.size W W'):opts_read.Post g v w0 w m sc st ec sd sk sp l W':=by
 obtain⟨h1,h2,v',h3,h5,h4⟩:=h
 exact⟨bT h1 hb,h2.below hb,v',kB h3 hb,h5,Kd.R_below h4 hb⟩
theorem opts_read.Post.set0 {g:Nat} {v:Value} {w0 w W:World} {m sc st ec:Int} {sd sk sp:Bool} {l:List S73} (hg:w0.heap.size≤g) (y:Int) (h:opts_read.Post g v w0 w m sc st ec sd sk sp l W):opts_read.Post g v w0 w y sc st ec sd sk sp l (W.setCell ⟨g,0,none⟩ (.int .i64 y)):=by
 obtain⟨h1,h2,v',h3,h5,h4⟩:=h
 exact⟨bS h1 hg,h2.setCell (.inl (.inl rfl)) _,v',kP h3 0 _ rfl,h5,Kd.R_set h4 h3 (by decide) 0 _⟩
theorem opts_read.Post.set1 {g:Nat} {v:Value} {w0 w W:World} {m sc st ec:Int} {sd sk sp:Bool} {l:List S73} (hg:w0.heap.size≤g) (y:Int) (h:opts_read.Post g v w0 w m sc st ec sd sk sp l W):opts_read.Post g v w0 w m y st ec sd sk sp l (W.setCell ⟨g,1,none⟩ (.int .i64 y)):=by
 obtain⟨h1,h2,v',h3,h5,h4⟩:=h
 exact⟨bS h1 hg,h2.setCell (.inl (.inl rfl)) _,v',kP h3 1 _ rfl,h5,Kd.R_set h4 h3 (by decide) 1 _⟩
theorem opts_read.Post.set2 {g:Nat} {v:Value} {w0 w W:World} {m sc st ec:Int} {sd sk sp:Bool} {l:List S73} (hg:w0.heap.size≤g) (y:Int) (h:opts_read.Post g v w0 w m sc st ec sd sk sp l W):opts_read.Post g v w0 w m sc y ec sd sk sp l (W.setCell ⟨g,2,none⟩ (.int .i64 y)):=by
 obtain⟨h1,h2,v',h3,h5,h4⟩:=h
 exact⟨bS h1 hg,h2.setCell (.inl (.inl rfl)) _,v',kP h3 2 _ rfl,h5,Kd.R_set h4 h3 (by decide) 2 _⟩
theorem opts_read.Post.set3 {g:Nat} {v:Value} {w0 w W:World} {m sc st ec:Int} {sd sk sp:Bool} {l:List S73} (hg:w0.heap.size≤g) (y:Int) (h:opts_read.Post g v w0 w m sc st ec sd sk sp l W):opts_read.Post g v w0 w m sc st y sd sk sp l (W.setCell ⟨g,3,none⟩ (.int .i64 y)):=by
 obtain⟨h1,h2,v',h3,h5,h4⟩:=h
 exact⟨bS h1 hg,h2.setCell (.inl (.inl rfl)) _,v',kP h3 3 _ rfl,h5,Kd.R_set h4 h3 (by decide) 3 _⟩
theorem opts_read.Post.set4 {g:Nat} {v:Value} {w0 w W:World} {m sc st ec:Int} {sd sk sp:Bool} {l:List S73} (hg:w0.heap.size≤g) (y:Bool) (h:opts_read.Post g v w0 w m sc st ec sd sk sp l W):opts_read.Post g v w0 w m sc st ec y sk sp l (W.setCell ⟨g,4,none⟩ (.bool y)):=by
 obtain⟨h1,h2,v',h3,h5,h4⟩:=h
 exact⟨bS h1 hg,h2.setCell (.inl (.inl rfl)) _,v',kP h3 4 _ rfl,h5,Kd.R_set h4 h3 (by decide) 4 _⟩
theorem opts_read.Post.set5 {g:Nat} {v:Value} {w0 w W:World} {m sc st ec:Int} {sd sk sp:Bool} {l:List S73} (hg:w0.heap.size≤g) (y:Bool) (h:opts_read.Post g v w0 w m sc st ec sd sk sp l W):opts_read.Post g v w0 w m sc st ec sd y sp l (W.setCell ⟨g,5,none⟩ (.bool y)):=by
 obtain⟨h1,h2,v',h3,h5,h4⟩:=h
 exact⟨bS h1 hg,h2.setCell (.inl (.inl rfl)) _,v',kP h3 5 _ rfl,h5,Kd.R_set h4 h3 (by decide) 5 _⟩
theorem opts_read.Post.set6 {g:Nat} {v:Value} {w0 w W:World} {m sc st ec:Int} {sd sk sp:Bool} {l:List S73} (hg:w0.heap.size≤g) (y:Bool) (h:opts_read.Post g v w0 w m sc st ec sd sk sp l W):opts_read.Post g v w0 w m sc st ec sd sk y l (W.setCell ⟨g,6,none⟩ (.bool y)):=by
 obtain⟨h1,h2,v',h3,h5,h4⟩:=h
 exact⟨bS h1 hg,h2.setCell (.inl (.inl rfl)) _,v',kP h3 6 _ rfl,h5,Kd.R_set h4 h3 (by decide) 6 _⟩
theorem opts_read.Post.put7 {g:Nat} {v vx v1:Value} {w0 w W:World} {m sc st ec:Int} {sd sk sp:Bool} {l:List S73} (hg:w0.heap.size≤g) (h:Below w0.heap.size w0 W∧Kept w W (fun k=>k=g∨some k=v.ownBlock)∧OptAt W g m sc st ec sd sk sp vx∧Kd.R k73 73 W w0.heap.size (fun _=>True) v1 l∧(v1.ownBlock=v.ownBlock∨∃ b,v1.ownBlock=some b∧w.heap.size≤b)):opts_read.Post g v w0 w m sc st ec sd sk sp l (W.setCell ⟨g,7,none⟩ v1):=by
 obtain⟨h1,h2,h3,h4,h5⟩:=h
 exact⟨bS h1 hg,h2.setCell (.inl (.inl rfl)) _,v1,kP h3 7 _ rfl,h5,Kd.R_set h4 h3 (by decide) 7 _⟩
section
variable (g:Nat) (m sc st ec:Int) (sd sk sp:Bool) (l:List S73) (v:Value) (s:ByteArray) (w0 w:World)
set_option maxHeartbeats 4000000 in
set_option maxRecDepth 100000 in
theorem opts_read.sack (hB:Below w0.heap.size w0 w) (hg:w0.heap.size≤g) (hb:OptAt w g m sc st ec sd sk sp v) (hR:Kd.R k73 73 w w0.heap.size (fun _=>True) v l) :
  Calls Try.prog 59 #[.pointer (some ⟨g,0,none⟩),.int .i64 4,.string s] w fun e w'=>e=.returned (.bool (s.toList.isEmpty))∧opts_read.Post g v w0 w m sc st ec sd true sp l w':=by
 have HB:=mkA hB
 have HG:=mkA hg
 have BK:=mkA hb
 have HR:=mkA hR
 have hu24:=Try.underlying24
 clear hB hg hb hR
 have hmf:∀ (fn:Fn) (first cap:Array Value) (w:World),(Instr.makeFunc fn first cap).run Try.prog w=.ok (.func fn first cap) w:=fun _ _ _ _=>rfl
 go_enter Try.func59,Try.ntmps59
 go_wp2_with (first|((with_reducible refine gate_dst (N:=5) rfl ?_);refine box_event ?hg (N:=5) ?hd (cs:=#[.string s]) (t:=9) ?hr ?_;(case hd=>rfl);(case hg=>rfl);(case hr=>first|(go_simp;done)|(go_simp;rfl));intro gs hgs w1 hbox hb1;have HS:=mkA hbox;have H1:=mkA hb1;have HGS:=mkA (show w.heap.size≤gs by omega);have hcs0:w1.cell? ⟨gs,0,none⟩=some (.string s):=(kC hbox 0).trans rfl;have hcg5:w1.cell? ⟨g,5,none⟩=some (.bool sk):=(kC (kB BK.out hb1) 5).trans rfl;have hfg5:=kF (kB BK.out hb1) 5;have hne:gs≠g:=(by rw[hgs];exact Nat.ne_of_gt (blk_lt BK.out));have hne2:=Ne.symm hne;clear hbox hb1 hgs))
 have PP:=mkA (opts_read.Post.set5 HG.out true (opts_read.Post.below (opts_read.Post.refl HB.out BK.out HR.out) H1.out))
 all_goals (go_ret;exact⟨by first|rfl|(simp;done)|(simp_all;done),PP.out⟩)
set_option maxHeartbeats 4000000 in
set_option maxRecDepth 100000 in
theorem opts_read.mss (hB:Below w0.heap.size w0 w) (hg:w0.heap.size≤g) (hb:OptAt w g m sc st ec sd sk sp v) (hR:Kd.R k73 73 w w0.heap.size (fun _=>True) v l) (n e1:Int) (h:sum_Get.f s 0 2=some (n,e1)) :
  Calls Try.prog 59 #[.pointer (some ⟨g,0,none⟩),.int .i64 2,.string s] w fun e w'=>e=.returned (.bool (decide ((s.size:Int)=2) && decide (n > 0)))∧opts_read.Post g v w0 w n sc st ec sd sk sp l w':=by
 have HB:=mkA hB
 have HG:=mkA hg
 have BK:=mkA hb
 have HR:=mkA hR
 have hu24:=Try.underlying24
 have HQ:=mkA h
 clear h
 clear hB hg hb hR
 have hmf:∀ (fn:Fn) (first cap:Array Value) (w:World),(Instr.makeFunc fn first cap).run Try.prog w=.ok (.func fn first cap) w:=fun _ _ _ _=>rfl
 go_enter Try.func59,Try.ntmps59
 go_wp2_with (first|((with_reducible refine gate_dst (N:=5) rfl ?_);refine box_event ?hg (N:=5) ?hd (cs:=#[.string s]) (t:=9) ?hr ?_;(case hd=>rfl);(case hg=>rfl);(case hr=>first|(go_simp;done)|(go_simp;rfl));intro gs hgs w1 hbox hb1;have HS:=mkA hbox;have H1:=mkA hb1;have HGS:=mkA (show w.heap.size≤gs by omega);have hcs0:w1.cell? ⟨gs,0,none⟩=some (.string s):=(kC hbox 0).trans rfl;have hcg0:w1.cell? ⟨g,0,none⟩=some (.int .i64 m):=(kC (kB BK.out hb1) 0).trans rfl;have hfg0:=kF (kB BK.out hb1) 0;have hne:gs≠g:=(by rw[hgs];exact Nat.ne_of_gt (blk_lt BK.out));have hne2:=Ne.symm hne;clear hbox hb1 hgs))
 have PP:=mkA (opts_read.Post.below (opts_read.Post.refl HB.out BK.out HR.out) H1.out)
 have BKn:=mkA (kB BK.out H1.out)
 refine(opts_read.get s gs 0 2 n e1 _ HS.out HQ.out).mono ?_
 rintro e w2 ⟨rfl,hbq⟩
 clear hcs0 hcg0 hfg0
 have n0_:=mkA (kB HS.out hbq);have n1_:=mkA (kB BKn.out hbq);have n2_:=mkA (opts_read.Post.below PP.out hbq);clear HS BKn PP hbq;have HS:=n0_;have BKn:=n1_;have PP:=n2_;clear n0_ n1_ n2_
 have hcs0:w2.cell? ⟨gs,0,none⟩=some (.string s):=(kC HS.out 0).trans rfl
 have hcg0:w2.cell? ⟨g,0,none⟩=some (.int .i64 m):=(kC BKn.out 0).trans rfl
 have hfg0:=kF BKn.out 0
 have n0_:=mkA (opts_read.Post.set0 HG.out n PP.out);clear PP;have PP:=n0_;clear n0_
 go_wp2
 all_goals (go_ret;exact⟨by first|rfl|(simp;done)|(simp_all;done),PP.out⟩)
set_option maxHeartbeats 4000000 in
set_option maxRecDepth 100000 in
theorem opts_read.scale (hB:Below w0.heap.size w0 w) (hg:w0.heap.size≤g) (hb:OptAt w g m sc st ec sd sk sp v) (hR:Kd.R k73 73 w w0.heap.size (fun _=>True) v l) (n e1:Int) (h:sum_Get.f s 0 1=some (n,e1)) :
  Calls Try.prog 59 #[.pointer (some ⟨g,0,none⟩),.int .i64 3,.string s] w fun e w'=>e=.returned (.bool (decide ((s.size:Int)=1)))∧opts_read.Post g v w0 w m n st ec true sk sp l w':=by
 have HB:=mkA hB
 have HG:=mkA hg
 have BK:=mkA hb
 have HR:=mkA hR
 have hu24:=Try.underlying24
 have HQ:=mkA h
 clear h
 clear hB hg hb hR
 have hmf:∀ (fn:Fn) (first cap:Array Value) (w:World),(Instr.makeFunc fn first cap).run Try.prog w=.ok (.func fn first cap) w:=fun _ _ _ _=>rfl
 go_enter Try.func59,Try.ntmps59
 go_wp2_with (first|((with_reducible refine gate_dst (N:=5) rfl ?_);refine box_event ?hg (N:=5) ?hd (cs:=#[.string s]) (t:=9) ?hr ?_;(case hd=>rfl);(case hg=>rfl);(case hr=>first|(go_simp;done)|(go_simp;rfl));intro gs hgs w1 hbox hb1;have HS:=mkA hbox;have H1:=mkA hb1;have HGS:=mkA (show w.heap.size≤gs by omega);have hcs0:w1.cell? ⟨gs,0,none⟩=some (.string s):=(kC hbox 0).trans rfl;have hcg1:w1.cell? ⟨g,1,none⟩=some (.int .i64 sc):=(kC (kB BK.out hb1) 1).trans rfl;have hfg1:=kF (kB BK.out hb1) 1;have hcg4:w1.cell? ⟨g,4,none⟩=some (.bool sd):=(kC (kB BK.out hb1) 4).trans rfl;have hfg4:=kF (kB BK.out hb1) 4;have hne:gs≠g:=(by rw[hgs];exact Nat.ne_of_gt (blk_lt BK.out));have hne2:=Ne.symm hne;clear hbox hb1 hgs))
 have PP:=mkA (opts_read.Post.below (opts_read.Post.refl HB.out BK.out HR.out) H1.out)
 have BKn:=mkA (kB BK.out H1.out)
 refine(opts_read.get s gs 0 1 n e1 _ HS.out HQ.out).mono ?_
 rintro e w2 ⟨rfl,hbq⟩
 clear hcs0 hcg1 hfg1 hcg4 hfg4
 have n0_:=mkA (kB HS.out hbq);have n1_:=mkA (kB BKn.out hbq);have n2_:=mkA (opts_read.Post.below PP.out hbq);clear HS BKn PP hbq;have HS:=n0_;have BKn:=n1_;have PP:=n2_;clear n0_ n1_ n2_
 have hcs0:w2.cell? ⟨gs,0,none⟩=some (.string s):=(kC HS.out 0).trans rfl
 have hcg1:w2.cell? ⟨g,1,none⟩=some (.int .i64 sc):=(kC BKn.out 1).trans rfl
 have hfg1:=kF BKn.out 1
 have hcg4:w2.cell? ⟨g,4,none⟩=some (.bool sd):=(kC BKn.out 4).trans rfl
 have hfg4:=kF BKn.out 4
 have n0_:=mkA (opts_read.Post.set1 HG.out n (opts_read.Post.set4 HG.out true PP.out));clear PP;have PP:=n0_;clear n0_
 go_wp2
 all_goals (go_ret;exact⟨by first|rfl|(simp;done)|(simp_all;done),PP.out⟩)
set_option maxHeartbeats 4000000 in
set_option maxRecDepth 100000 in
theorem opts_read.stamps (hB:Below w0.heap.size w0 w) (hg:w0.heap.size≤g) (hb:OptAt w g m sc st ec sd sk sp v) (hR:Kd.R k73 73 w w0.heap.size (fun _=>True) v l) (n1 e1 n2 e2:Int) (h:sum_Get.f s 0 4=some (n1,e1)) (h2:sum_Get.f s 4 4=some (n2,e2)) :
  Calls Try.prog 59 #[.pointer (some ⟨g,0,none⟩),.int .i64 8,.string s] w fun e w'=>e=.returned (.bool (decide ((s.size:Int)=8)))∧opts_read.Post g v w0 w m sc n1 n2 sd sk true l w':=by
 have HB:=mkA hB
 have HG:=mkA hg
 have BK:=mkA hb
 have HR:=mkA hR
 have hu24:=Try.underlying24
 have HQ:=mkA h
 have HQ2:=mkA h2
 clear h h2
 clear hB hg hb hR
 have hmf:∀ (fn:Fn) (first cap:Array Value) (w:World),(Instr.makeFunc fn first cap).run Try.prog w=.ok (.func fn first cap) w:=fun _ _ _ _=>rfl
 go_enter Try.func59,Try.ntmps59
 go_wp2_with (first|((with_reducible refine gate_dst (N:=5) rfl ?_);refine box_event ?hg (N:=5) ?hd (cs:=#[.string s]) (t:=9) ?hr ?_;(case hd=>rfl);(case hg=>rfl);(case hr=>first|(go_simp;done)|(go_simp;rfl));intro gs hgs w1 hbox hb1;have HS:=mkA hbox;have H1:=mkA hb1;have HGS:=mkA (show w.heap.size≤gs by omega);have hcs0:w1.cell? ⟨gs,0,none⟩=some (.string s):=(kC hbox 0).trans rfl;have hcg2:w1.cell? ⟨g,2,none⟩=some (.int .i64 st):=(kC (kB BK.out hb1) 2).trans rfl;have hfg2:=kF (kB BK.out hb1) 2;have hcg3:w1.cell? ⟨g,3,none⟩=some (.int .i64 ec):=(kC (kB BK.out hb1) 3).trans rfl;have hfg3:=kF (kB BK.out hb1) 3;have hcg6:w1.cell? ⟨g,6,none⟩=some (.bool sp):=(kC (kB BK.out hb1) 6).trans rfl;have hfg6:=kF (kB BK.out hb1) 6;have hne:gs≠g:=(by rw[hgs];exact Nat.ne_of_gt (blk_lt BK.out));have hne2:=Ne.symm hne;clear hbox hb1 hgs))
 have PP:=mkA (opts_read.Post.below (opts_read.Post.refl HB.out BK.out HR.out) H1.out)
 have BKn:=mkA (kB BK.out H1.out)
 refine(opts_read.get s gs 0 4 n1 e1 _ HS.out HQ.out).mono ?_
 rintro e w2 ⟨rfl,hbq⟩
 clear hcs0 hcg2 hfg2 hcg3 hfg3 hcg6 hfg6
 have n0_:=mkA (kB HS.out hbq);have n1_:=mkA (kB BKn.out hbq);have n2_:=mkA (opts_read.Post.below PP.out hbq);clear HS BKn PP hbq;have HS:=n0_;have BKn:=n1_;have PP:=n2_;clear n0_ n1_ n2_
 have hcs0:w2.cell? ⟨gs,0,none⟩=some (.string s):=(kC HS.out 0).trans rfl
 have hcg2:w2.cell? ⟨g,2,none⟩=some (.int .i64 st):=(kC BKn.out 2).trans rfl
 have hfg2:=kF BKn.out 2
 have hcg3:w2.cell? ⟨g,3,none⟩=some (.int .i64 ec):=(kC BKn.out 3).trans rfl
 have hfg3:=kF BKn.out 3
 have hcg6:w2.cell? ⟨g,6,none⟩=some (.bool sp):=(kC BKn.out 6).trans rfl
 have hfg6:=kF BKn.out 6
 go_wp2_with fail
 refine(opts_read.get s gs 4 4 n2 e2 _ HS.out HQ2.out).mono ?_
 rintro e w3 ⟨rfl,hbq⟩
 clear hcs0 hcg2 hfg2 hcg3 hfg3 hcg6 hfg6
 have n0_:=mkA (kB HS.out hbq);have n1_:=mkA (kB BKn.out hbq);have n2_:=mkA (opts_read.Post.below PP.out hbq);clear HS BKn PP hbq;have HS:=n0_;have BKn:=n1_;have PP:=n2_;clear n0_ n1_ n2_
 have hcs0:w3.cell? ⟨gs,0,none⟩=some (.string s):=(kC HS.out 0).trans rfl
 have hcg2:w3.cell? ⟨g,2,none⟩=some (.int .i64 st):=(kC BKn.out 2).trans rfl
 have hfg2:=kF BKn.out 2
 have hcg3:w3.cell? ⟨g,3,none⟩=some (.int .i64 ec):=(kC BKn.out 3).trans rfl
 have hfg3:=kF BKn.out 3
 have hcg6:w3.cell? ⟨g,6,none⟩=some (.bool sp):=(kC BKn.out 6).trans rfl
 have hfg6:=kF BKn.out 6
 have n0_:=mkA (opts_read.Post.set3 HG.out n2 (opts_read.Post.set2 HG.out n1 (opts_read.Post.set6 HG.out true PP.out)));clear PP;have PP:=n0_;clear n0_
 go_wp2
 all_goals (go_ret;exact⟨by first|rfl|(simp;done)|(simp_all;done),PP.out⟩)
set_option maxHeartbeats 4000000 in
set_option maxRecDepth 100000 in
theorem opts_read.other (hB:Below w0.heap.size w0 w) (hg:w0.heap.size≤g) (hb:OptAt w g m sc st ec sd sk sp v) (hR:Kd.R k73 73 w w0.heap.size (fun _=>True) v l) (kd:Int) (c2:¬ kd=2) (c3:¬ kd=3) (c4:¬ kd=4) (c5:¬ kd=5) (c8:¬ kd=8) :
  Calls Try.prog 59 #[.pointer (some ⟨g,0,none⟩),.int .i64 kd,.string s] w fun e w'=>e=.returned (.bool (true))∧opts_read.Post g v w0 w m sc st ec sd sk sp l w':=by
 have HB:=mkA hB
 have HG:=mkA hg
 have BK:=mkA hb
 have HR:=mkA hR
 have hu24:=Try.underlying24
 replace c2:(kd == 2)=false:=beq_eq_false_iff_ne.mpr c2
 replace c3:(kd == 3)=false:=beq_eq_false_iff_ne.mpr c3
 replace c4:(kd == 4)=false:=beq_eq_false_iff_ne.mpr c4
 replace c5:(kd == 5)=false:=beq_eq_false_iff_ne.mpr c5
 replace c8:(kd == 8)=false:=beq_eq_false_iff_ne.mpr c8
 clear hB hg hb hR
 have hmf:∀ (fn:Fn) (first cap:Array Value) (w:World),(Instr.makeFunc fn first cap).run Try.prog w=.ok (.func fn first cap) w:=fun _ _ _ _=>rfl
 go_enter Try.func59,Try.ntmps59
 go_wp2_with (first|((with_reducible refine gate_dst (N:=5) rfl ?_);refine box_event ?hg (N:=5) ?hd (cs:=#[.string s]) (t:=9) ?hr ?_;(case hd=>rfl);(case hg=>rfl);(case hr=>first|(go_simp;done)|(go_simp;rfl));intro gs hgs w1 hbox hb1;have HS:=mkA hbox;have H1:=mkA hb1;have HGS:=mkA (show w.heap.size≤gs by omega);have hcs0:w1.cell? ⟨gs,0,none⟩=some (.string s):=(kC hbox 0).trans rfl;have hne:gs≠g:=(by rw[hgs];exact Nat.ne_of_gt (blk_lt BK.out));have hne2:=Ne.symm hne;clear hbox hb1 hgs))
 have PP:=mkA (opts_read.Post.below (opts_read.Post.refl HB.out BK.out HR.out) H1.out)
 all_goals (go_ret;exact⟨by first|rfl|(simp;done)|(simp_all;done),PP.out⟩)
end
/-! a range appended, in a region that draws its order -/
def opts_read.RC (g gs:Nat) (m sc st ec:Int) (sd sk sp:Bool) (v vx:Value) (s:ByteArray) (w0 w:World) (lx:List S73) (b:Bool) (W:World):Prop :=
 Below w0.heap.size w0 W∧Kept w W (fun k=>k=g∨some k=v.ownBlock)∧OptAt W g m sc st ec sd sk sp vx∧W.heap[gs]?=some (.cells #[.string s] 9 (0,0))∧(b=false→Kd.R k73 73 W w0.heap.size (fun _=>True) vx lx)
def opts_read.RG (vx:Value) (c:Bool) (W1 W2:World):Prop:=if c=true then W1.grownBy W2 vx.ownBlock else Below W1.heap.size W1 W2
def opts_read.RR (v:Value) (w0 w:World) (lx:List S73) (p:S73) (b:Bool) (j:Nat) (W:World) (x:Value):Prop :=
 if j=13 then (b=false→∃ q,x=.slice (some ⟨q,0,none⟩) 1 1∧W.heap[q]?=some (.cells #[.int .i64 p.f0,.int .i64 p.f1] 73 (0,0))) else if j=14 then Kd.R k73 73 W w0.heap.size (fun _=>True) x (lx++[p])∧(x.ownBlock=v.ownBlock∨∃ q,x.ownBlock=some q∧w.heap.size≤q) else True
theorem opts_read.RG.of {vx:Value} {W1 W2:World} (h:Below W1.heap.size W1 W2):opts_read.RG vx false W1 W2:=h
theorem opts_read.RC.below {g gs:Nat} {m sc st ec:Int} {sd sk sp:Bool} {v vx:Value} {s:ByteArray} {w0 w W W':World} {lx:List S73} {b:Bool} (h:opts_read.RC g gs m sc st ec sd sk sp v vx s w0 w lx b W) (hb:Below W.heap.size W W'):opts_read.RC g gs m sc st ec sd sk sp v vx s w0 w lx b W':=by
 obtain⟨h1,h2,h3,h4,h5⟩:=h
 exact⟨bT h1 hb,h2.below hb,kB h3 hb,kB h4 hb,fun hb'=>Kd.R_below (h5 hb') hb⟩
theorem opts_read.RR.keep {v vx:Value} {w0 w:World} {lx:List S73} {p:S73} (c b:Bool) (j:Nat) (W W':World) (x:Value) (hc:c=true→b=false∧j≠14) (hg:opts_read.RG vx c W W') (h:opts_read.RR v w0 w lx p b j W x):opts_read.RR v w0 w lx p (b || c) j W' x:=by
 unfold opts_read.RR at h ⊢
 cases c with
 | false =>
  have hb:Below W.heap.size W W':=hg
  rw[Bool.or_false]
  by_cases h13:j=13
  ·rw[if_pos h13] at h ⊢
   intro hb'
   obtain⟨q,h1,h2⟩:=h hb'
   exact⟨q,h1,kB h2 hb⟩
  ·rw[if_neg h13] at h ⊢
   by_cases h14:j=14
   ·rw[if_pos h14] at h ⊢
    exact⟨Kd.R_below h.1 hb,h.2⟩
   ·rw[if_neg h14];trivial
 | true =>
  obtain⟨_,h14⟩:=hc rfl
  rw[Bool.or_true]
  by_cases h13:j=13
  ·rw[if_pos h13];intro hb';exact absurd hb' (by decide)
  ·rw[if_neg h13,if_neg h14];trivial
theorem opts_read.RC.append {g gs:Nat} {m sc st ec:Int} {sd sk sp:Bool} {v vx x:Value} {s:ByteArray} {w0 w W:World} {lx:List S73} {p:S73} (h:opts_read.RC g gs m sc st ec sd sk sp v vx s w0 w lx false W) (hx:opts_read.RR v w0 w lx p false 13 W x) (hat0:vx.ownBlock=v.ownBlock∨∃ q,vx.ownBlock=some q∧w.heap.size≤q) (hl:lx.length < 8796093022207) :
  ∃ v1 W1,(Builtin.append_ #[22,22] 22 #[vx,x]).run Try.prog W=.ok v1 W1∧opts_read.RC g gs m sc st ec sd sk sp v vx s w0 w lx true W1∧opts_read.RG vx true W W1∧opts_read.RR v w0 w lx p true 14 W1 v1:=by
 obtain⟨h1,h2,h3,h4,h5⟩:=h
 obtain⟨h0,inner,hown,hr⟩:=h5 rfl
 unfold opts_read.RR at hx
 rw[if_pos rfl] at hx
 obtain⟨q,rfl,hq⟩:=hx rfl
 obtain⟨i0,hi,hzz⟩:=Option.map_eq_some_iff.1 info73
 simp only[Prod.mk.injEq] at hzz
 obtain⟨hz0,hz1,hz2⟩:=hzz
 obtain⟨v1,w1,hrun,hown1,hg,_,hat⟩:=run_append_own_at (P:=Try.prog) W w0.heap.size 22 22 73 i0 (.agg #[.int .i64 0,.int .i64 0]) k73.sz 16 Try.underlying22 hi hz0 hz1 hz2 rfl (by decide) vx lx.length inner hown ⟨q,0,none⟩ 1 1 [.int .i64 p.f0,.int .i64 p.f1] rfl
  (by simpa using World.news_of_block (cs:=#[.int .i64 p.f0,.int .i64 p.f1]) (t:=73) (fr:=(0,0)) hq) (by intro u hu;simp only[List.mem_cons,List.not_mem_nil,or_false] at hu;rcases hu with rfl|rfl <;> rfl) (by simp only[maxLen];omega) (by omega) h1.size
 have hne1:some g≠vx.ownBlock:=own_ne hown h3 (by decide)
 have hne2:some gs≠vx.ownBlock:=own_ne hown h4 (by decide)
 have hat':v1.ownBlock=vx.ownBlock∨∃ b,v1.ownBlock=some b∧W.heap.size≤b:=hat.imp id fun e=>⟨_,e,Nat.le_refl _⟩
 refine⟨v1,w1,hrun,⟨h1.grown hg h1.size (own_base hown),Kept.of_grown hg h2 (fun k hk=>?_),blk_grown h3 hg hne1,blk_grown h4 hg hne2,fun hb=>absurd hb (by decide)⟩,hg,?_⟩
 ·rcases hat0 with e|⟨b,e,hb⟩
  ·exact .inl (.inr (by rw[← e,hk]))
  ·rw[e] at hk;injection hk with hk;exact .inr (by omega)
 ·unfold opts_read.RR
  rw[if_neg (by decide),if_pos rfl]
  refine⟨Kd.R_appended h0 hr (k73_mkM W w0.heap.size (fun _=>False) p) (fun _ hk=>hk.elim) (fun _ _=>trivial) hown1 hg hat',?_⟩
  rcases hat' with e|⟨b,e,hb⟩
  ·rw[e];exact hat0
  ·exact .inr ⟨b,e,Nat.le_trans h2.1 hb⟩
theorem exec_append {P:Program} {ρ : Operand→Value} {o:Oper} {W W1:World} {s x:Operand} {t:TypeId} {v y v1:Value} (ho:o.op=.call { callee:=.builtin .append,args:=#[s,x],argTypes:=#[t,t] }) (hs : ρ s=v) (hx : ρ x=y) (hr:(Builtin.append_ #[t,t] o.type #[v,y]).run P W=.ok v1 W1):(execOp ρ o).run P W=.ok (.value v1) W1:=by
 unfold execOp
 simp only[ho,resolve,invoke,builtin,Sem.run_bind,Sem.run_pure,Result.andThen_ok,List.map_toArray,List.map_cons,List.map_nil,hs,hx,hr]
section
variable (g:Nat) (m sc st ec:Int) (sd sk sp:Bool) (l:List S73) (v:Value) (s:ByteArray) (w0 w:World)
set_option maxHeartbeats 4000000 in
set_option maxRecDepth 100000 in
theorem opts_read.sacks (hB:Below w0.heap.size w0 w) (hg:w0.heap.size≤g) (hb:OptAt w g m sc st ec sd sk sp v) (hR:Kd.R k73 73 w w0.heap.size (fun _=>True) v l) (k:Nat) (l':List S73) (h:opts_read.sl k s 0 l=some l') :
  Calls Try.prog 59 #[.pointer (some ⟨g,0,none⟩),.int .i64 5,.string s] w fun e w'=>e=.returned (.bool (decide ((s.size:Int) > 0) && (decide ((s.size:Int)=wrap64 (8 * (l'.length:Int))) && decide ((l'.length:Int)≤4))))∧opts_read.Post g v w0 w m sc st ec sd sk sp l' w':=by
 have HB:=mkA hB
 have HG:=mkA hg
 have BK:=mkA hb
 have HR:=mkA hR
 have hu24:=Try.underlying24
 have H':=mkA h
 have hu35:=Try.underlying73
 clear h
 clear hB hg hb hR
 have hmf:∀ (fn:Fn) (first cap:Array Value) (w:World),(Instr.makeFunc fn first cap).run Try.prog w=.ok (.func fn first cap) w:=fun _ _ _ _=>rfl
 go_enter Try.func59,Try.ntmps59
 go_wp2_with (first|((with_reducible refine gate_dst (N:=5) rfl ?_);refine box_event ?hg (N:=5) ?hd (cs:=#[.string s]) (t:=9) ?hr ?_;(case hd=>rfl);(case hg=>rfl);(case hr=>first|(go_simp;done)|(go_simp;rfl));intro gs hgs w1 hbox hb1;have HS:=mkA hbox;have H1:=mkA hb1;have HGS:=mkA (show w.heap.size≤gs by omega);have hcs0:w1.cell? ⟨gs,0,none⟩=some (.string s):=(kC hbox 0).trans rfl;have hne:gs≠g:=(by rw[hgs];exact Nat.ne_of_gt (blk_lt BK.out));have hne2:=Ne.symm hne;clear hbox hb1 hgs))
 have PP:=mkA (opts_read.Post.below (opts_read.Post.refl HB.out BK.out HR.out) H1.out)
 go_loopg [8] k (fun kq v8 W=>∃ (x8:Int) (lx:List S73),v8=.int .i64 x8∧Aside0 (opts_read.sl kq s x8 lx=some l')∧Aside0 (kq≤k)∧Aside0 (W.heap[gs]?=some (.cells #[.string s] 9 (0,0)))∧Aside0 (opts_read.Post g v w0 w m sc st ec sd sk sp lx W))
 case atStart=>exact⟨0,l,rfl,H',⟨Nat.le_refl _⟩,HS,PP⟩
 case round =>
  clear hcs0 PP HS H1 H' HB BK HR
  obtain⟨x8,lx,rfl,HA,HK1,HS,PP⟩:=hrel
  cases gk with
  | zero=>exact absurd HA.out (by simp[opts_read.sl])
  | succ k1 =>
   have H:=HA.out
   clear HA
   simp only[opts_read.sl] at H
   obtain⟨P1,P2,vx,P3,P4,P5⟩:=PP.out
   have hcs0:wr.cell? ⟨gs,0,none⟩=some (.string s):=(kC HS.out 0).trans rfl
   have hcg7:wr.cell? ⟨g,7,none⟩=some vx:=(kC P3 7).trans rfl
   have hfg7:=kF P3 7
   have Q1:=mkA P1;have Q2:=mkA P2;have Q3:=mkA P3;have Q4:=mkA P4;have Q5:=mkA P5
   clear P1 P2 P3 P4 P5
   by_cases c:wrap64 (x8+8)≤(s.size:Int)
   ·rw[if_pos c] at H
    clear PP
    have cb:=decide_eq_true c
    clear c
    obtain⟨⟨n1,e1⟩,hg1,H⟩:=Option.bind_eq_some_iff.mp H
    have G1:=mkA hg1
    clear hg1
    replace H:((sum_Get.f s (wrap64 (x8+4)) 4).bind fun g2=>if lx.length < 8796093022207 then opts_read.sl k1 s (wrap64 (x8+8)) (lx++[⟨n1,g2.1⟩]) else none)=some l':=H
    obtain⟨⟨n2,e2⟩,hg2,H⟩:=Option.bind_eq_some_iff.mp H
    have G2:=mkA hg2
    clear hg2
    replace H:(if lx.length < 8796093022207 then opts_read.sl k1 s (wrap64 (x8+8)) (lx++[⟨n1,n2⟩]) else none)=some l':=H
    by_cases c2:lx.length < 8796093022207
    ·rw[if_pos c2] at H
     have HT:=mkA H
     have HL:=mkA c2
     clear H c2
     go_wp2
     have same:∀ b W,opts_read.RC g gs m sc st ec sd sk sp v vx s w0 w lx b W→opts_read.RG vx false W W:=fun _ _ _=>opts_read.RG.of (Below.refl _ _)
     refine AnyPhase.region_then 15 (e:=14) (C:=opts_read.RC g gs m sc st ec sd sk sp v vx s w0 w lx) (G:=opts_read.RG vx) (T:=[13,14]) (R:=opts_read.RR v w0 w lx ⟨n1,n2⟩) (vs:=[(.pointer (some ⟨g,0,none⟩)),(.pointer (some ⟨g,0,none⟩)),(.pointer (some ⟨g,0,none⟩)),(.pointer (some ⟨g,7,none⟩)),vx,(.func (.func 67) #[] #[.pointer (some ⟨gs,0,none⟩)]),(.int .i64 x8),(.int .i64 n1),(.func (.func 67) #[] #[.pointer (some ⟨gs,0,none⟩)]),(.int .i64 x8),(.int .i64 (wrap64 (x8+4))),(.int .i64 n2),(.agg #[.int .i64 n1,.int .i64 n2]),undef,undef]) (by kernel_rfl) rfl (by kernel_rfl) (opts_read.RC.below (b:=false) ⟨Q1.out,Q2.out,Q3.out,HS.out,fun _=>Q5.out⟩ (bD (Below.refl _ _))) same opts_read.RR.keep (by decide) (by decide) (fun x=>?obs) ?fin
     case obs =>
      refine AnyPhase.obs_cons (.pointer (some ⟨g,0,none⟩)) rfl (AnyPhase.ob_quiet (d:=57) (by decide) rfl (show (57:Nat) < 114 by omega) rfl rfl same (fun _=>by first|exact⟨_,rfl⟩|exact⟨pure _,rfl⟩) (fun b=>?_)) ?_
      ·go_big_quiet_op;first|rfl|exact⟨_,fun _ _=>rfl,rfl⟩
      try simp only[puts]
      refine AnyPhase.obs_cons (.pointer (some ⟨g,0,none⟩)) rfl (AnyPhase.ob_quiet (d:=58) (by decide) rfl (show (58:Nat) < 114 by omega) rfl rfl same (fun _=>by first|exact⟨_,rfl⟩|exact⟨pure _,rfl⟩) (fun b=>?_)) ?_
      ·go_big_quiet_op;first|rfl|exact⟨_,fun _ _=>rfl,rfl⟩
      try simp only[puts]
      refine AnyPhase.obs_cons (.pointer (some ⟨g,0,none⟩)) rfl (AnyPhase.ob_plain (by decide) rfl rfl same rfl (fun b W' hW=>by go_simp)) ?_
      try simp only[puts]
      refine AnyPhase.obs_cons (.pointer (some ⟨g,7,none⟩)) rfl (AnyPhase.ob_quiet (d:=60) (by decide) rfl (show (60:Nat) < 114 by omega) rfl rfl same (fun _=>by first|exact⟨_,rfl⟩|exact⟨pure _,rfl⟩) (fun b=>?_)) ?_
      ·go_big_quiet_op;first|rfl|exact⟨_,fun _ _=>rfl,rfl⟩
      try simp only[puts]
      refine AnyPhase.obs_cons vx rfl (AnyPhase.ob_quiet (d:=61) (by decide) rfl (show (61:Nat) < 114 by omega) rfl rfl same (fun _=>by first|exact⟨_,rfl⟩|exact⟨pure _,rfl⟩) (fun b=>?_)) ?_
      ·refine⟨_,fun W' hW=>?_,rfl⟩;obtain⟨z1,z2,z3,z4,z5⟩:=hW;have hcz:=(kC z3 7).trans rfl;unfold Oper.quietAt;go_simp;first|done|rfl|exact⟨rfl,rfl⟩
      try simp only[puts]
      refine AnyPhase.obs_cons (.func (.func 67) #[] #[.pointer (some ⟨gs,0,none⟩)]) rfl (AnyPhase.ob_quiet (d:=62) (by decide) rfl (show (62:Nat) < 114 by omega) rfl rfl same (fun _=>by first|exact⟨_,rfl⟩|exact⟨pure _,rfl⟩) (fun b=>?_)) ?_
      ·go_big_quiet_op;first|rfl|exact⟨_,fun _ _=>rfl,rfl⟩
      try simp only[puts]
      refine AnyPhase.obs_cons (.int .i64 x8) rfl (AnyPhase.ob_quiet (d:=63) (by decide) rfl (show (63:Nat) < 114 by omega) rfl rfl same (fun _=>by first|exact⟨_,rfl⟩|exact⟨pure _,rfl⟩) (fun b=>?_)) ?_
      ·go_big_quiet_op;first|rfl|exact⟨_,fun _ _=>rfl,rfl⟩
      try simp only[puts]
      refine AnyPhase.obs_cons (.int .i64 n1) rfl (AnyPhase.ob_call (by decide) rfl rfl rfl 67 #[.int .i64 x8,.int .i64 4,.pointer (some ⟨gs,0,none⟩)] (fun b W' hW=>?_) (fun b W' hW=>?_)) ?_
      ·go_simp
      ·exact(opts_read.get s gs x8 4 n1 e1 W' hW.2.2.2.1 G1.out).mono fun r w2 h2=>⟨h2.1,opts_read.RC.below hW h2.2,opts_read.RG.of h2.2⟩
      try simp only[puts]
      refine AnyPhase.obs_cons (.func (.func 67) #[] #[.pointer (some ⟨gs,0,none⟩)]) rfl (AnyPhase.ob_quiet (d:=65) (by decide) rfl (show (65:Nat) < 114 by omega) rfl rfl same (fun _=>by first|exact⟨_,rfl⟩|exact⟨pure _,rfl⟩) (fun b=>?_)) ?_
      ·go_big_quiet_op;first|rfl|exact⟨_,fun _ _=>rfl,rfl⟩
      try simp only[puts]
      refine AnyPhase.obs_cons (.int .i64 x8) rfl (AnyPhase.ob_quiet (d:=66) (by decide) rfl (show (66:Nat) < 114 by omega) rfl rfl same (fun _=>by first|exact⟨_,rfl⟩|exact⟨pure _,rfl⟩) (fun b=>?_)) ?_
      ·go_big_quiet_op;first|rfl|exact⟨_,fun _ _=>rfl,rfl⟩
      try simp only[puts]
      refine AnyPhase.obs_cons (.int .i64 (wrap64 (x8+4))) rfl (AnyPhase.ob_quiet (d:=67) (by decide) rfl (show (67:Nat) < 114 by omega) rfl rfl same (fun _=>by first|exact⟨_,rfl⟩|exact⟨pure _,rfl⟩) (fun b=>?_)) ?_
      ·go_big_quiet_op;first|rfl|exact⟨_,fun _ _=>rfl,rfl⟩
      try simp only[puts]
      refine AnyPhase.obs_cons (.int .i64 n2) rfl (AnyPhase.ob_call (by decide) rfl rfl rfl 67 #[.int .i64 (wrap64 (x8+4)),.int .i64 4,.pointer (some ⟨gs,0,none⟩)] (fun b W' hW=>?_) (fun b W' hW=>?_)) ?_
      ·go_simp
      ·exact(opts_read.get s gs (wrap64 (x8+4)) 4 n2 e2 W' hW.2.2.2.1 G2.out).mono fun r w2 h2=>⟨h2.1,opts_read.RC.below hW h2.2,opts_read.RG.of h2.2⟩
      try simp only[puts]
      refine AnyPhase.obs_cons (.agg #[.int .i64 n1,.int .i64 n2]) rfl (AnyPhase.ob_quiet (d:=69) (by decide) rfl (show (69:Nat) < 114 by omega) rfl rfl same (fun _=>by first|exact⟨_,rfl⟩|exact⟨pure _,rfl⟩) (fun b=>?_)) ?_
      ·go_big_quiet_op;first|rfl|exact⟨_,fun _ _=>rfl,rfl⟩
      try simp only[puts]
      refine AnyPhase.obs_cons (x 13) rfl (AnyPhase.ob_token (by decide) rfl rfl (fun b W' hW=>⟨.slice (some ⟨W'.heap.size,0,none⟩) 1 1,W'.alloc (.cells #[.int .i64 n1,.int .i64 n2] 73),?run,opts_read.RC.below hW (bA (Below.refl _ _) _),opts_read.RG.of (bA (Below.refl _ _) _),fun _=>⟨W'.heap.size,rfl,heap_alloc_new W' _⟩⟩)) ?_
      case run=>clear same HT;(first|(go_simp;done)|(go_simp;rfl)|(simp[execOp,Act.eval,go_sem];done)|skip)
      try simp only[puts]
      refine AnyPhase.obs_cons (x 14) rfl (AnyPhase.ob_event rfl rfl 13 _ _ rfl rfl rfl (by kernel_rfl) (fun W' hW hR=>?_)) ?_
      ·obtain⟨v1,W1,hr,z1,z2,z3⟩:=opts_read.RC.append hW hR Q4.out HL.out
       exact⟨v1,W1,exec_append rfl rfl rfl hr,z1,z2,z3⟩
      try simp only[puts]
      trivial
     case fin =>
      intro x W hW hR
      simp only[List.take_succ_cons,List.take_zero,List.drop_succ_cons,List.drop_zero]
      rw[AnyOrder.lexAt_cons (.pointer (some ⟨g,0,none⟩)) rfl]
      try simp only[puts]
      rw[AnyOrder.lexAt_cons (.pointer (some ⟨g,0,none⟩)) rfl]
      try simp only[puts]
      rw[AnyOrder.lexAt_cons (.pointer (some ⟨g,0,none⟩)) rfl]
      try simp only[puts]
      rw[AnyOrder.lexAt_cons (.pointer (some ⟨g,7,none⟩)) rfl]
      try simp only[puts]
      rw[AnyOrder.lexAt_cons vx rfl]
      try simp only[puts]
      rw[AnyOrder.lexAt_cons (.func (.func 67) #[] #[.pointer (some ⟨gs,0,none⟩)]) rfl]
      try simp only[puts]
      rw[AnyOrder.lexAt_cons (.int .i64 x8) rfl]
      try simp only[puts]
      rw[AnyOrder.lexAt_cons (.int .i64 n1) rfl]
      try simp only[puts]
      rw[AnyOrder.lexAt_cons (.func (.func 67) #[] #[.pointer (some ⟨gs,0,none⟩)]) rfl]
      try simp only[puts]
      rw[AnyOrder.lexAt_cons (.int .i64 x8) rfl]
      try simp only[puts]
      rw[AnyOrder.lexAt_cons (.int .i64 (wrap64 (x8+4))) rfl]
      try simp only[puts]
      rw[AnyOrder.lexAt_cons (.int .i64 n2) rfl]
      try simp only[puts]
      rw[AnyOrder.lexAt_cons (.agg #[.int .i64 n1,.int .i64 n2]) rfl]
      try simp only[puts]
      rw[AnyOrder.lexAt_cons (x 13) rfl]
      try simp only[puts]
      rw[AnyOrder.lexAt_cons (x 14) rfl]
      try simp only[puts]
      rw[AnyOrder.lexAt_nil]
      have hR14:=hR 14 _ _ (by omega) rfl rfl rfl
      generalize x 14=v1 at hR14 ⊢
      generalize x 13=v0 at hR14 ⊢
      unfold opts_read.RR at hR14
      rw[if_neg (by decide),if_pos rfl] at hR14
      obtain⟨z1,z2,z3,z4,z5⟩:=hW
      have Z1:=mkA (opts_read.Post.put7 HG.out ⟨z1,z2,z3,hR14.1,hR14.2⟩);have Z2:=mkA (kW z4 (p:=⟨g,7,none⟩) hne v1)
      obtain⟨A1,c1,he1,_,_⟩:=Kd.R_reads hR14.1
      generalize (lx++[(⟨n1,n2⟩:S73)]).length=n3 at he1
      subst he1
      clear hcs0 hcg7 hfg7 hR same Q1 Q2 Q3 Q4 Q5 z1 z2 z4 z5 HS
      have hcg7:W.cell? ⟨g,7,none⟩=some vx:=(kC z3 7).trans rfl
      have hfg7:=kF z3 7
      clear z3 hR14
      go_wp2
      go_roundg k1
      case measure=>have:=HK1.out;omega
      case rel=>exact⟨wrap64 (x8+8),lx++[⟨n1,n2⟩],(by first|rfl|(simp;done)),HT,⟨by have:=HK1.out;omega⟩,Z2,Z1⟩
    ·rw[if_neg c2] at H
     exact absurd H (by simp)
   ·rw[if_neg c] at H
    have cb:=decide_eq_false c
    clear c
    obtain rfl:=Option.some.inj H
    clear H
    obtain⟨Ax,cx,rfl,hlx,hCx⟩:=Kd.R_reads Q5.out
    clear hCx hlx Q1 Q2 Q3 Q4 Q5
    have hcs0:wr.cell? ⟨gs,0,none⟩=some (.string s):=(kC HS.out 0).trans rfl
    have fin:∀ W',Below wr.heap.size wr W'→opts_read.Post g v w0 w m sc st ec sd sk sp lx W':=fun W' hb=>opts_read.Post.below PP.out hb
    by_cases d1:(s.size:Int) > 0
    ·have d1a:=decide_eq_true d1
     have d1b:decide (0 < s.size)=true:=decide_eq_true (by omega)
     by_cases d2:(s.size:Int)=wrap64 (8 * (lx.length:Int))
     ·have d2a:((s.size:Int) == wrap64 (8 * (lx.length:Int)))=true:=beq_iff_eq.mpr d2
      by_cases d3:(lx.length:Int)≤4
      ·have d3a:=decide_eq_true d3
       have d3b:decide (lx.length≤4)=true:=decide_eq_true (by omega)
       have HD:=mkA (show (decide ((s.size:Int) > 0) && (decide ((s.size:Int)=wrap64 (8 * (lx.length:Int))) && decide ((lx.length:Int)≤4)))=true by rw[d1a,decide_eq_true d2,d3a];rfl)
       clear d1 d2 d3
       go_wp2
       repeat(go_quiet (fail);try go_wp2)
       go_ret
       exact⟨by rw[HD.out];rfl,fin _ (by repeat(first|exact Below.refl _ _|apply bN|apply bD))⟩
      ·have d3a:=decide_eq_false d3
       have d3b:decide (lx.length≤4)=false:=decide_eq_false (by omega)
       have HD:=mkA (show (decide ((s.size:Int) > 0) && (decide ((s.size:Int)=wrap64 (8 * (lx.length:Int))) && decide ((lx.length:Int)≤4)))=false by rw[d1a,decide_eq_true d2,d3a];rfl)
       clear d1 d2 d3
       go_wp2
       repeat(go_quiet (fail);try go_wp2)
       go_ret
       exact⟨by rw[HD.out];rfl,fin _ (by repeat(first|exact Below.refl _ _|apply bN|apply bD))⟩
     ·have d2a:((s.size:Int) == wrap64 (8 * (lx.length:Int)))=false:=beq_eq_false_iff_ne.mpr d2
      have HD:=mkA (show (decide ((s.size:Int) > 0) && (decide ((s.size:Int)=wrap64 (8 * (lx.length:Int))) && decide ((lx.length:Int)≤4)))=false by rw[d1a,decide_eq_false d2];rfl)
      clear d1 d2
      go_wp2
      repeat(go_quiet (fail);try go_wp2)
      go_ret
      exact⟨by rw[HD.out];rfl,fin _ (by repeat(first|exact Below.refl _ _|apply bN|apply bD))⟩
    ·have d1a:=decide_eq_false d1
     have d1b:decide (0 < s.size)=false:=decide_eq_false (by omega)
     have HD:=mkA (show (decide ((s.size:Int) > 0) && (decide ((s.size:Int)=wrap64 (8 * (lx.length:Int))) && decide ((lx.length:Int)≤4)))=false by rw[d1a];rfl)
     clear d1
     go_wp2
     repeat(go_quiet (fail);try go_wp2)
     go_ret
     exact⟨by rw[HD.out];rfl,fin _ (by repeat(first|exact Below.refl _ _|apply bN|apply bD))⟩
end
theorem opts_read.calls (k g:Nat) (m sc st ec:Int) (sd sk sp:Bool) (l:List S73) (v:Value) (kd:Int) (s:ByteArray) (m' sc' st' ec':Int) (sd' sk' sp':Bool) (l':List S73) (r:Bool) (w0 w:World) (hB:Below w0.heap.size w0 w) (hg:w0.heap.size≤g) (hb:OptAt w g m sc st ec sd sk sp v) (hR:Kd.R k73 73 w w0.heap.size (fun _=>True) v l) (h:opts_read.f k m sc st ec sd sk sp l kd s=some (m',sc',st',ec',sd',sk',sp',l',r)) :
  Calls Try.prog 59 #[.pointer (some ⟨g,0,none⟩),.int .i64 kd,.string s] w fun e w'=>e=.returned (.bool r)∧opts_read.Post g v w0 w m' sc' st' ec' sd' sk' sp' l' w':=by
 unfold opts_read.f at h
 by_cases c2:kd=2
 ·rw[if_pos c2] at h
  subst c2
  obtain⟨⟨n,e1⟩,hg1,h⟩:=Option.bind_eq_some_iff.mp h
  simp only[Option.some.injEq,Prod.mk.injEq] at h
  obtain⟨rfl,rfl,rfl,rfl,rfl,rfl,rfl,rfl,rfl⟩:=h
  exact opts_read.mss g m sc st ec sd sk sp l v s w0 w hB hg hb hR n e1 hg1
 rw[if_neg c2] at h
 by_cases c3:kd=3
 ·rw[if_pos c3] at h
  subst c3
  obtain⟨⟨n,e1⟩,hg1,h⟩:=Option.bind_eq_some_iff.mp h
  simp only[Option.some.injEq,Prod.mk.injEq] at h
  obtain⟨rfl,rfl,rfl,rfl,rfl,rfl,rfl,rfl,rfl⟩:=h
  exact opts_read.scale g m sc st ec sd sk sp l v s w0 w hB hg hb hR n e1 hg1
 rw[if_neg c3] at h
 by_cases c4:kd=4
 ·rw[if_pos c4] at h
  subst c4
  simp only[Option.some.injEq,Prod.mk.injEq] at h
  obtain⟨rfl,rfl,rfl,rfl,rfl,rfl,rfl,rfl,rfl⟩:=h
  exact opts_read.sack g m sc st ec sd sk sp l v s w0 w hB hg hb hR
 rw[if_neg c4] at h
 by_cases c5:kd=5
 ·rw[if_pos c5] at h
  subst c5
  obtain⟨lx,hl,h⟩:=Option.bind_eq_some_iff.mp h
  simp only[Option.some.injEq,Prod.mk.injEq] at h
  obtain⟨rfl,rfl,rfl,rfl,rfl,rfl,rfl,rfl,rfl⟩:=h
  exact opts_read.sacks g m sc st ec sd sk sp l v s w0 w hB hg hb hR k lx hl
 rw[if_neg c5] at h
 by_cases c8:kd=8
 ·rw[if_pos c8] at h
  subst c8
  obtain⟨⟨n,e1⟩,hg1,h⟩:=Option.bind_eq_some_iff.mp h
  obtain⟨⟨n2,e2⟩,hg2,h⟩:=Option.bind_eq_some_iff.mp h
  simp only[Option.some.injEq,Prod.mk.injEq] at h
  obtain⟨rfl,rfl,rfl,rfl,rfl,rfl,rfl,rfl,rfl⟩:=h
  exact opts_read.stamps g m sc st ec sd sk sp l v s w0 w hB hg hb hR n e1 n2 e2 hg1 hg2
 rw[if_neg c8] at h
 simp only[Option.some.injEq,Prod.mk.injEq] at h
 obtain⟨rfl,rfl,rfl,rfl,rfl,rfl,rfl,rfl,rfl⟩:=h
 exact opts_read.other g m sc st ec sd sk sp l v s w0 w hB hg hb hR kd c2 c3 c4 c5 c8
theorem opts_read.sl_mono:∀ k s a l,LeO (opts_read.sl k s a l) (opts_read.sl (k+1) s a l)
 | 0=>fun _ _ _ r h=>by simp[opts_read.sl] at h
 | k+1=>fun s a l=>by
  unfold opts_read.sl
  exact LeO.ite (LeO.bind (LeO.refl _) fun _=>LeO.bind (LeO.refl _) fun _=>LeO.ite (opts_read.sl_mono k _ _ _) (LeO.none _)) (LeO.refl _)
theorem opts_read.mono:∀ k m sc st ec sd sk sp l kd s,LeO (opts_read.f k m sc st ec sd sk sp l kd s) (opts_read.f (k+1) m sc st ec sd sk sp l kd s):=by
 intro k m sc st ec sd sk sp l kd s
 unfold opts_read.f
 exact LeO.ite (LeO.refl _) (LeO.ite (LeO.refl _) (LeO.ite (LeO.refl _) (LeO.ite (LeO.bind (opts_read.sl_mono k _ _ _) fun _=>LeO.refl _) (LeO.refl _))))
section
end


end Go.Proofs.Ytakajeoeijnmhaa.PSegReads

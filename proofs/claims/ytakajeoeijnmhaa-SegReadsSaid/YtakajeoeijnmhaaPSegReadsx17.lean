-- Laid by this claim's own program over the print's words.
import Derived.Test.YtakajeoeijnmhaaPSegReadsx0
import Derived.Test.YtakajeoeijnmhaaPSegReadsx9
import Derived.Test.YtakajeoeijnmhaaPSegReadsx16
namespace Go.Proofs.Ytakajeoeijnmhaa.PSegReads
open Go.RowKit Go.Proofs.YtakajeoeijnmhaaW.PrintWords Go.Proofs.YtakajeoeijnmhaaW.PrintLast Go.Proofs.YtakajeoeijnmhaaW.PrintMore
attribute [local go_sem] max2_int min2_int max_two min_two max_three min_three max_four min_four max_five min_five extract_cut tmod_nat_lit   -- for this text's walks alone
set_option linter.unusedVariables false
set_option linter.unusedSimpArgs false


/-! ### sternpostref07_part: function 60 (by hand) -/
/-- which kinds were there, in memory -/
def sternpostref07_part.At (w:World) (q:Nat) (s2 s3 s4 s5 s8:Bool):Prop:=w.heap[q]?=some (.cells #[.bool false,.bool false,.bool s2,.bool s3,.bool s4,.bool s5,.bool false,.bool false,.bool s8] 4 (0,0))
def sternpostref07_part.sl:Nat→ByteArray→Nat→List S73→Option (List S73)
 | 0,_,_,_=>none
 | k+1,s,i,l=>if (i:Int) < (s.size:Int) then if i+8≤s.size then (sternpostref02_Num.f k (cutS s i (i+4))).bind fun n1=>(sternpostref02_Num.f k (cutS s (i+4) (i+8))).bind fun n2=>if l.length < 8796093022207 then sternpostref07_part.sl k s (i+8) (l++[⟨n1,n2⟩]) else none else none else some l
def sternpostref07_part.f (k:Nat) (m sc st ec:Int) (sd sk sp:Bool) (l:List S73) (kd:Int) (s:ByteArray) (b:Bool):Option (Int × Int × Int × Int × Bool × Bool × Bool × List S73 × Bool) :=
 if kd=2 then if b=true then some (m,sc,st,ec,sd,sk,sp,l,false) else if (s.size:Int)=2 then (sternpostref02_Num.f k s).bind fun n=>some (n,sc,st,ec,sd,sk,sp,l,decide (n≠0)) else some (m,sc,st,ec,sd,sk,sp,l,false)
 else if kd=3 then if b=true then some (m,sc,st,ec,sd,sk,sp,l,false) else if (s.size:Int)=1 then some (m,bt s 0,st,ec,true,sk,sp,l,true) else some (m,sc,st,ec,sd,sk,sp,l,false)
 else if kd=4 then if b=true then some (m,sc,st,ec,sd,sk,sp,l,false) else some (m,sc,st,ec,sd,true,sp,l,s.toList.isEmpty)
 else if kd=5 then if b=true then some (m,sc,st,ec,sd,sk,sp,l,false) else if (s.size:Int) % 8=0∧8≤(s.size:Int)∧(s.size:Int)≤32 then (sternpostref07_part.sl k s 0 l).bind fun l'=>some (m,sc,st,ec,sd,sk,sp,l',true) else some (m,sc,st,ec,sd,sk,sp,l,false)
 else if kd=8 then if b=true then some (m,sc,st,ec,sd,sk,sp,l,false) else if (s.size:Int)=8 then (sternpostref02_Num.f k (cutS s 0 4)).bind fun n1=>(sternpostref02_Num.f k (cutS s 4 s.size)).bind fun n2=>some (m,sc,n1,n2,sd,sk,true,l,true) else some (m,sc,st,ec,sd,sk,sp,l,false)
 else some (m,sc,st,ec,sd,sk,sp,l,true)
/-- what a call of part leaves -/
def sternpostref07_part.Post (g q:Nat) (v:Value) (w0 w:World) (m sc st ec:Int) (sd sk sp:Bool) (l:List S73) (s2 s3 s4 s5 s8:Bool) (w':World):Prop :=
 Below w0.heap.size w0 w'∧Kept w w' (fun k=>(k=g∨k=q)∨some k=v.ownBlock)∧(∃ v',OptAt w' g m sc st ec sd sk sp v'∧(v'.ownBlock=v.ownBlock∨∃ b,v'.ownBlock=some b∧w.heap.size≤b)∧Kd.R k73 73 w' w0.heap.size (fun _=>True) v' l)∧sternpostref07_part.At w' q s2 s3 s4 s5 s8
theorem sternpostref07_part.Post.refl {g q:Nat} {v:Value} {w0 w:World} {m sc st ec:Int} {sd sk sp s2 s3 s4 s5 s8:Bool} {l:List S73} (hB:Below w0.heap.size w0 w) (hb:OptAt w g m sc st ec sd sk sp v) (hR:Kd.R k73 73 w w0.heap.size (fun _=>True) v l) (hq:sternpostref07_part.At w q s2 s3 s4 s5 s8):sternpostref07_part.Post g q v w0 w m sc st ec sd sk sp l s2 s3 s4 s5 s8 w :=
 ⟨hB,Kept.refl _ _,⟨v,hb,.inl rfl,hR⟩,hq⟩
theorem sternpostref07_part.Post.below {g q:Nat} {v:Value} {w0 w W:World} {m sc st ec:Int} {sd sk sp s2 s3 s4 s5 s8:Bool} {l:List S73} {W':World} (h:sternpostref07_part.Post g q v w0 w m sc st ec sd sk sp l s2 s3 s4 s5 s8 W) (hb:Below W.heap.size W W'):sternpostref07_part.Post g q v w0 w m sc st ec sd sk sp l s2 s3 s4 s5 s8 W':=by
 obtain⟨h1,h2,⟨v',h3,h5,h4⟩,h6⟩:=h
 exact⟨bT h1 hb,h2.below hb,⟨v',kB h3 hb,h5,Kd.R_below h4 hb⟩,kB h6 hb⟩
theorem sternpostref07_part.Post.set0 {g q:Nat} {v:Value} {w0 w W:World} {m sc st ec:Int} {sd sk sp s2 s3 s4 s5 s8:Bool} {l:List S73} (hg:w0.heap.size≤g) (hqg:q≠g) (y:Int) (h:sternpostref07_part.Post g q v w0 w m sc st ec sd sk sp l s2 s3 s4 s5 s8 W):sternpostref07_part.Post g q v w0 w y sc st ec sd sk sp l s2 s3 s4 s5 s8 (W.setCell ⟨g,0,none⟩ (.int .i64 y)):=by
 obtain⟨h1,h2,⟨v',h3,h5,h4⟩,h6⟩:=h
 exact⟨bS h1 hg,h2.setCell (.inl (.inl (.inl rfl))) _,⟨v',kP h3 0 _ rfl,h5,Kd.R_set h4 h3 (by decide) 0 _⟩,kW h6 hqg _⟩
theorem sternpostref07_part.Post.set1 {g q:Nat} {v:Value} {w0 w W:World} {m sc st ec:Int} {sd sk sp s2 s3 s4 s5 s8:Bool} {l:List S73} (hg:w0.heap.size≤g) (hqg:q≠g) (y:Int) (h:sternpostref07_part.Post g q v w0 w m sc st ec sd sk sp l s2 s3 s4 s5 s8 W):sternpostref07_part.Post g q v w0 w m y st ec sd sk sp l s2 s3 s4 s5 s8 (W.setCell ⟨g,1,none⟩ (.int .i64 y)):=by
 obtain⟨h1,h2,⟨v',h3,h5,h4⟩,h6⟩:=h
 exact⟨bS h1 hg,h2.setCell (.inl (.inl (.inl rfl))) _,⟨v',kP h3 1 _ rfl,h5,Kd.R_set h4 h3 (by decide) 1 _⟩,kW h6 hqg _⟩
theorem sternpostref07_part.Post.set2 {g q:Nat} {v:Value} {w0 w W:World} {m sc st ec:Int} {sd sk sp s2 s3 s4 s5 s8:Bool} {l:List S73} (hg:w0.heap.size≤g) (hqg:q≠g) (y:Int) (h:sternpostref07_part.Post g q v w0 w m sc st ec sd sk sp l s2 s3 s4 s5 s8 W):sternpostref07_part.Post g q v w0 w m sc y ec sd sk sp l s2 s3 s4 s5 s8 (W.setCell ⟨g,2,none⟩ (.int .i64 y)):=by
 obtain⟨h1,h2,⟨v',h3,h5,h4⟩,h6⟩:=h
 exact⟨bS h1 hg,h2.setCell (.inl (.inl (.inl rfl))) _,⟨v',kP h3 2 _ rfl,h5,Kd.R_set h4 h3 (by decide) 2 _⟩,kW h6 hqg _⟩
theorem sternpostref07_part.Post.set3 {g q:Nat} {v:Value} {w0 w W:World} {m sc st ec:Int} {sd sk sp s2 s3 s4 s5 s8:Bool} {l:List S73} (hg:w0.heap.size≤g) (hqg:q≠g) (y:Int) (h:sternpostref07_part.Post g q v w0 w m sc st ec sd sk sp l s2 s3 s4 s5 s8 W):sternpostref07_part.Post g q v w0 w m sc st y sd sk sp l s2 s3 s4 s5 s8 (W.setCell ⟨g,3,none⟩ (.int .i64 y)):=by
 obtain⟨h1,h2,⟨v',h3,h5,h4⟩,h6⟩:=h
 exact⟨bS h1 hg,h2.setCell (.inl (.inl (.inl rfl))) _,⟨v',kP h3 3 _ rfl,h5,Kd.R_set h4 h3 (by decide) 3 _⟩,kW h6 hqg _⟩
theorem sternpostref07_part.Post.set4 {g q:Nat} {v:Value} {w0 w W:World} {m sc st ec:Int} {sd sk sp s2 s3 s4 s5 s8:Bool} {l:List S73} (hg:w0.heap.size≤g) (hqg:q≠g) (y:Bool) (h:sternpostref07_part.Post g q v w0 w m sc st ec sd sk sp l s2 s3 s4 s5 s8 W):sternpostref07_part.Post g q v w0 w m sc st ec y sk sp l s2 s3 s4 s5 s8 (W.setCell ⟨g,4,none⟩ (.bool y)):=by
 obtain⟨h1,h2,⟨v',h3,h5,h4⟩,h6⟩:=h
 exact⟨bS h1 hg,h2.setCell (.inl (.inl (.inl rfl))) _,⟨v',kP h3 4 _ rfl,h5,Kd.R_set h4 h3 (by decide) 4 _⟩,kW h6 hqg _⟩
theorem sternpostref07_part.Post.set5 {g q:Nat} {v:Value} {w0 w W:World} {m sc st ec:Int} {sd sk sp s2 s3 s4 s5 s8:Bool} {l:List S73} (hg:w0.heap.size≤g) (hqg:q≠g) (y:Bool) (h:sternpostref07_part.Post g q v w0 w m sc st ec sd sk sp l s2 s3 s4 s5 s8 W):sternpostref07_part.Post g q v w0 w m sc st ec sd y sp l s2 s3 s4 s5 s8 (W.setCell ⟨g,5,none⟩ (.bool y)):=by
 obtain⟨h1,h2,⟨v',h3,h5,h4⟩,h6⟩:=h
 exact⟨bS h1 hg,h2.setCell (.inl (.inl (.inl rfl))) _,⟨v',kP h3 5 _ rfl,h5,Kd.R_set h4 h3 (by decide) 5 _⟩,kW h6 hqg _⟩
theorem sternpostref07_part.Post.set6 {g q:Nat} {v:Value} {w0 w W:World} {m sc st ec:Int} {sd sk sp s2 s3 s4 s5 s8:Bool} {l:List S73} (hg:w0.heap.size≤g) (hqg:q≠g) (y:Bool) (h:sternpostref07_part.Post g q v w0 w m sc st ec sd sk sp l s2 s3 s4 s5 s8 W):sternpostref07_part.Post g q v w0 w m sc st ec sd sk y l s2 s3 s4 s5 s8 (W.setCell ⟨g,6,none⟩ (.bool y)):=by
 obtain⟨h1,h2,⟨v',h3,h5,h4⟩,h6⟩:=h
 exact⟨bS h1 hg,h2.setCell (.inl (.inl (.inl rfl))) _,⟨v',kP h3 6 _ rfl,h5,Kd.R_set h4 h3 (by decide) 6 _⟩,kW h6 hqg _⟩
theorem sternpostref07_part.Post.mark2 {g q:Nat} {v:Value} {w0 w W:World} {m sc st ec:Int} {sd sk sp s2 s3 s4 s5 s8:Bool} {l:List S73} (hq:w0.heap.size≤q) (hqg:q≠g) (h:sternpostref07_part.Post g q v w0 w m sc st ec sd sk sp l s2 s3 s4 s5 s8 W):sternpostref07_part.Post g q v w0 w m sc st ec sd sk sp l true s3 s4 s5 s8 (W.setCell ⟨q,2,none⟩ (.bool true)):=by
 obtain⟨h1,h2,⟨v',h3,h5,h4⟩,h6⟩:=h
 exact⟨bS h1 hq,h2.setCell (.inl (.inl (.inr rfl))) _,⟨v',kW h3 (Ne.symm hqg) _,h5,Kd.R_set h4 h6 (by decide) 2 _⟩,kP h6 2 _ rfl⟩
theorem sternpostref07_part.Post.mark3 {g q:Nat} {v:Value} {w0 w W:World} {m sc st ec:Int} {sd sk sp s2 s3 s4 s5 s8:Bool} {l:List S73} (hq:w0.heap.size≤q) (hqg:q≠g) (h:sternpostref07_part.Post g q v w0 w m sc st ec sd sk sp l s2 s3 s4 s5 s8 W):sternpostref07_part.Post g q v w0 w m sc st ec sd sk sp l s2 true s4 s5 s8 (W.setCell ⟨q,3,none⟩ (.bool true)):=by
 obtain⟨h1,h2,⟨v',h3,h5,h4⟩,h6⟩:=h
 exact⟨bS h1 hq,h2.setCell (.inl (.inl (.inr rfl))) _,⟨v',kW h3 (Ne.symm hqg) _,h5,Kd.R_set h4 h6 (by decide) 3 _⟩,kP h6 3 _ rfl⟩
theorem sternpostref07_part.Post.mark4 {g q:Nat} {v:Value} {w0 w W:World} {m sc st ec:Int} {sd sk sp s2 s3 s4 s5 s8:Bool} {l:List S73} (hq:w0.heap.size≤q) (hqg:q≠g) (h:sternpostref07_part.Post g q v w0 w m sc st ec sd sk sp l s2 s3 s4 s5 s8 W):sternpostref07_part.Post g q v w0 w m sc st ec sd sk sp l s2 s3 true s5 s8 (W.setCell ⟨q,4,none⟩ (.bool true)):=by
 obtain⟨h1,h2,⟨v',h3,h5,h4⟩,h6⟩:=h
 exact⟨bS h1 hq,h2.setCell (.inl (.inl (.inr rfl))) _,⟨v',kW h3 (Ne.symm hqg) _,h5,Kd.R_set h4 h6 (by decide) 4 _⟩,kP h6 4 _ rfl⟩
theorem sternpostref07_part.Post.mark5 {g q:Nat} {v:Value} {w0 w W:World} {m sc st ec:Int} {sd sk sp s2 s3 s4 s5 s8:Bool} {l:List S73} (hq:w0.heap.size≤q) (hqg:q≠g) (h:sternpostref07_part.Post g q v w0 w m sc st ec sd sk sp l s2 s3 s4 s5 s8 W):sternpostref07_part.Post g q v w0 w m sc st ec sd sk sp l s2 s3 s4 true s8 (W.setCell ⟨q,5,none⟩ (.bool true)):=by
 obtain⟨h1,h2,⟨v',h3,h5,h4⟩,h6⟩:=h
 exact⟨bS h1 hq,h2.setCell (.inl (.inl (.inr rfl))) _,⟨v',kW h3 (Ne.symm hqg) _,h5,Kd.R_set h4 h6 (by decide) 5 _⟩,kP h6 5 _ rfl⟩
theorem sternpostref07_part.Post.mark8 {g q:Nat} {v:Value} {w0 w W:World} {m sc st ec:Int} {sd sk sp s2 s3 s4 s5 s8:Bool} {l:List S73} (hq:w0.heap.size≤q) (hqg:q≠g) (h:sternpostref07_part.Post g q v w0 w m sc st ec sd sk sp l s2 s3 s4 s5 s8 W):sternpostref07_part.Post g q v w0 w m sc st ec sd sk sp l s2 s3 s4 s5 true (W.setCell ⟨q,8,none⟩ (.bool true)):=by
 obtain⟨h1,h2,⟨v',h3,h5,h4⟩,h6⟩:=h
 exact⟨bS h1 hq,h2.setCell (.inl (.inl (.inr rfl))) _,⟨v',kW h3 (Ne.symm hqg) _,h5,Kd.R_set h4 h6 (by decide) 8 _⟩,kP h6 8 _ rfl⟩
section
variable (g q:Nat) (m sc st ec:Int) (sd sk sp:Bool) (l:List S73) (v:Value) (s:ByteArray) (s2 s3 s4 s5 s8:Bool) (w0 w:World)
set_option maxHeartbeats 4000000 in
set_option maxRecDepth 100000 in
theorem sternpostref07_part.other (hB:Below w0.heap.size w0 w) (hg:w0.heap.size≤g) (hq:w0.heap.size≤q) (hqg:q≠g) (hb:OptAt w g m sc st ec sd sk sp v) (hR:Kd.R k73 73 w w0.heap.size (fun _=>True) v l) (ha:sternpostref07_part.At w q s2 s3 s4 s5 s8) (kd:Int) (c2:¬ kd=2) (c3:¬ kd=3) (c4:¬ kd=4) (c5:¬ kd=5) (c8:¬ kd=8) :
  Calls Try.prog 60 #[.pointer (some ⟨g,0,none⟩),.int .i64 kd,.string s,.slice (some ⟨q,0,none⟩) 9 9] w fun e w'=>e=.returned (.bool (true))∧sternpostref07_part.Post g q v w0 w m sc st ec sd sk sp l s2 s3 s4 s5 s8 w':=by
 have HB:=mkA hB
 have HG:=mkA hg
 have HQG:=mkA hq
 have BK:=mkA hb
 have HR:=mkA hR
 have HA:=mkA ha
 have hu24:=Try.underlying24
 have hne:=Ne.symm hqg
 clear hB hg hq hb hR ha
 have PP:=mkA (sternpostref07_part.Post.refl HB.out BK.out HR.out HA.out)
 by_cases d1:kd > 8
 ·have d1b:decide (8 < kd)=true:=decide_eq_true d1
  clear d1 c2 c3 c4 c5 c8
  go_enter Try.func60,Try.ntmps60
  go_wp2
  all_goals (go_ret;exact⟨by first|rfl|(simp;done)|(simp_all;done),PP.out⟩)
 by_cases d2:kd < 2
 ·have d1b:decide (8 < kd)=false:=decide_eq_false (by omega)
  have d2b:decide (kd < 2)=true:=decide_eq_true d2
  clear d1 d2 c2 c3 c4 c5 c8
  go_enter Try.func60,Try.ntmps60
  go_wp2
  all_goals (go_ret;exact⟨by first|rfl|(simp;done)|(simp_all;done),PP.out⟩)
 have d1b:decide (8 < kd)=false:=decide_eq_false (by omega)
 have d2b:decide (kd < 2)=false:=decide_eq_false (by omega)
 have d3b:decide (5 < kd)=true:=decide_eq_true (by omega)
 have d4b:decide (kd < 8)=true:=decide_eq_true (by omega)
 clear d1 d2 c2 c3 c4 c5 c8
 go_enter Try.func60,Try.ntmps60
 go_wp2
 all_goals (go_ret;exact⟨by first|rfl|(simp;done)|(simp_all;done),PP.out⟩)
set_option maxHeartbeats 4000000 in
set_option maxRecDepth 100000 in
theorem sternpostref07_part.twice2 (hB:Below w0.heap.size w0 w) (hg:w0.heap.size≤g) (hq:w0.heap.size≤q) (hqg:q≠g) (hb:OptAt w g m sc st ec sd sk sp v) (hR:Kd.R k73 73 w w0.heap.size (fun _=>True) v l) (ha:sternpostref07_part.At w q s2 s3 s4 s5 s8) (hs:s2=true) :
  Calls Try.prog 60 #[.pointer (some ⟨g,0,none⟩),.int .i64 2,.string s,.slice (some ⟨q,0,none⟩) 9 9] w fun e w'=>e=.returned (.bool (false))∧sternpostref07_part.Post g q v w0 w m sc st ec sd sk sp l s2 s3 s4 s5 s8 w':=by
 have HB:=mkA hB
 have HG:=mkA hg
 have HQG:=mkA hq
 have BK:=mkA hb
 have HR:=mkA hR
 have HA:=mkA ha
 have hu24:=Try.underlying24
 have hne:=Ne.symm hqg
 clear hB hg hq hb hR ha
 have PP:=mkA (sternpostref07_part.Post.refl HB.out BK.out HR.out HA.out)
 have hcq:w.cell? ⟨q,2,none⟩=some (.bool true):=(kC HA.out 2).trans (by rw[hs];rfl)
 clear hs
 go_enter Try.func60,Try.ntmps60
 go_wp2
 all_goals (go_ret;exact⟨by first|rfl|(simp;done)|(simp_all;done),PP.out⟩)
set_option maxHeartbeats 4000000 in
set_option maxRecDepth 100000 in
theorem sternpostref07_part.twice3 (hB:Below w0.heap.size w0 w) (hg:w0.heap.size≤g) (hq:w0.heap.size≤q) (hqg:q≠g) (hb:OptAt w g m sc st ec sd sk sp v) (hR:Kd.R k73 73 w w0.heap.size (fun _=>True) v l) (ha:sternpostref07_part.At w q s2 s3 s4 s5 s8) (hs:s3=true) :
  Calls Try.prog 60 #[.pointer (some ⟨g,0,none⟩),.int .i64 3,.string s,.slice (some ⟨q,0,none⟩) 9 9] w fun e w'=>e=.returned (.bool (false))∧sternpostref07_part.Post g q v w0 w m sc st ec sd sk sp l s2 s3 s4 s5 s8 w':=by
 have HB:=mkA hB
 have HG:=mkA hg
 have HQG:=mkA hq
 have BK:=mkA hb
 have HR:=mkA hR
 have HA:=mkA ha
 have hu24:=Try.underlying24
 have hne:=Ne.symm hqg
 clear hB hg hq hb hR ha
 have PP:=mkA (sternpostref07_part.Post.refl HB.out BK.out HR.out HA.out)
 have hcq:w.cell? ⟨q,3,none⟩=some (.bool true):=(kC HA.out 3).trans (by rw[hs];rfl)
 clear hs
 go_enter Try.func60,Try.ntmps60
 go_wp2
 all_goals (go_ret;exact⟨by first|rfl|(simp;done)|(simp_all;done),PP.out⟩)
set_option maxHeartbeats 4000000 in
set_option maxRecDepth 100000 in
theorem sternpostref07_part.twice4 (hB:Below w0.heap.size w0 w) (hg:w0.heap.size≤g) (hq:w0.heap.size≤q) (hqg:q≠g) (hb:OptAt w g m sc st ec sd sk sp v) (hR:Kd.R k73 73 w w0.heap.size (fun _=>True) v l) (ha:sternpostref07_part.At w q s2 s3 s4 s5 s8) (hs:s4=true) :
  Calls Try.prog 60 #[.pointer (some ⟨g,0,none⟩),.int .i64 4,.string s,.slice (some ⟨q,0,none⟩) 9 9] w fun e w'=>e=.returned (.bool (false))∧sternpostref07_part.Post g q v w0 w m sc st ec sd sk sp l s2 s3 s4 s5 s8 w':=by
 have HB:=mkA hB
 have HG:=mkA hg
 have HQG:=mkA hq
 have BK:=mkA hb
 have HR:=mkA hR
 have HA:=mkA ha
 have hu24:=Try.underlying24
 have hne:=Ne.symm hqg
 clear hB hg hq hb hR ha
 have PP:=mkA (sternpostref07_part.Post.refl HB.out BK.out HR.out HA.out)
 have hcq:w.cell? ⟨q,4,none⟩=some (.bool true):=(kC HA.out 4).trans (by rw[hs];rfl)
 clear hs
 go_enter Try.func60,Try.ntmps60
 go_wp2
 all_goals (go_ret;exact⟨by first|rfl|(simp;done)|(simp_all;done),PP.out⟩)
set_option maxHeartbeats 4000000 in
set_option maxRecDepth 100000 in
theorem sternpostref07_part.twice5 (hB:Below w0.heap.size w0 w) (hg:w0.heap.size≤g) (hq:w0.heap.size≤q) (hqg:q≠g) (hb:OptAt w g m sc st ec sd sk sp v) (hR:Kd.R k73 73 w w0.heap.size (fun _=>True) v l) (ha:sternpostref07_part.At w q s2 s3 s4 s5 s8) (hs:s5=true) :
  Calls Try.prog 60 #[.pointer (some ⟨g,0,none⟩),.int .i64 5,.string s,.slice (some ⟨q,0,none⟩) 9 9] w fun e w'=>e=.returned (.bool (false))∧sternpostref07_part.Post g q v w0 w m sc st ec sd sk sp l s2 s3 s4 s5 s8 w':=by
 have HB:=mkA hB
 have HG:=mkA hg
 have HQG:=mkA hq
 have BK:=mkA hb
 have HR:=mkA hR
 have HA:=mkA ha
 have hu24:=Try.underlying24
 have hne:=Ne.symm hqg
 clear hB hg hq hb hR ha
 have PP:=mkA (sternpostref07_part.Post.refl HB.out BK.out HR.out HA.out)
 have hcq:w.cell? ⟨q,5,none⟩=some (.bool true):=(kC HA.out 5).trans (by rw[hs];rfl)
 clear hs
 go_enter Try.func60,Try.ntmps60
 go_wp2
 all_goals (go_ret;exact⟨by first|rfl|(simp;done)|(simp_all;done),PP.out⟩)
set_option maxHeartbeats 4000000 in
set_option maxRecDepth 100000 in
theorem sternpostref07_part.twice8 (hB:Below w0.heap.size w0 w) (hg:w0.heap.size≤g) (hq:w0.heap.size≤q) (hqg:q≠g) (hb:OptAt w g m sc st ec sd sk sp v) (hR:Kd.R k73 73 w w0.heap.size (fun _=>True) v l) (ha:sternpostref07_part.At w q s2 s3 s4 s5 s8) (hs:s8=true) :
  Calls Try.prog 60 #[.pointer (some ⟨g,0,none⟩),.int .i64 8,.string s,.slice (some ⟨q,0,none⟩) 9 9] w fun e w'=>e=.returned (.bool (false))∧sternpostref07_part.Post g q v w0 w m sc st ec sd sk sp l s2 s3 s4 s5 s8 w':=by
 have HB:=mkA hB
 have HG:=mkA hg
 have HQG:=mkA hq
 have BK:=mkA hb
 have HR:=mkA hR
 have HA:=mkA ha
 have hu24:=Try.underlying24
 have hne:=Ne.symm hqg
 clear hB hg hq hb hR ha
 have PP:=mkA (sternpostref07_part.Post.refl HB.out BK.out HR.out HA.out)
 have hcq:w.cell? ⟨q,8,none⟩=some (.bool true):=(kC HA.out 8).trans (by rw[hs];rfl)
 clear hs
 go_enter Try.func60,Try.ntmps60
 go_wp2
 all_goals (go_ret;exact⟨by first|rfl|(simp;done)|(simp_all;done),PP.out⟩)
set_option maxHeartbeats 4000000 in
set_option maxRecDepth 100000 in
theorem sternpostref07_part.long2 (hB:Below w0.heap.size w0 w) (hg:w0.heap.size≤g) (hq:w0.heap.size≤q) (hqg:q≠g) (hb:OptAt w g m sc st ec sd sk sp v) (hR:Kd.R k73 73 w w0.heap.size (fun _=>True) v l) (ha:sternpostref07_part.At w q s2 s3 s4 s5 s8) (hs:s2=false) (hc:¬ (s.size:Int)=2) :
  Calls Try.prog 60 #[.pointer (some ⟨g,0,none⟩),.int .i64 2,.string s,.slice (some ⟨q,0,none⟩) 9 9] w fun e w'=>e=.returned (.bool (false))∧sternpostref07_part.Post g q v w0 w m sc st ec sd sk sp l true s3 s4 s5 s8 w':=by
 have HB:=mkA hB
 have HG:=mkA hg
 have HQG:=mkA hq
 have BK:=mkA hb
 have HR:=mkA hR
 have HA:=mkA ha
 have hu24:=Try.underlying24
 have hne:=Ne.symm hqg
 clear hB hg hq hb hR ha
 subst hs
 have hcq2:w.cell? ⟨q,2,none⟩=some (.bool false):=(kC HA.out 2).trans rfl
 have hfq2:=kF HA.out 2
 have PP:=mkA (sternpostref07_part.Post.mark2 HQG.out hqg (sternpostref07_part.Post.refl HB.out BK.out HR.out HA.out))
 have cb:((s.size:Int) != 2)=true:=bne_iff_ne.mpr hc
 have cn:(s.size != 2)=true:=bne_iff_ne.mpr (by omega)
 clear hc
 go_enter Try.func60,Try.ntmps60
 go_wp2
 all_goals (go_ret;exact⟨by first|rfl|(simp;done)|(simp_all;done),PP.out⟩)
set_option maxHeartbeats 4000000 in
set_option maxRecDepth 100000 in
theorem sternpostref07_part.long3 (hB:Below w0.heap.size w0 w) (hg:w0.heap.size≤g) (hq:w0.heap.size≤q) (hqg:q≠g) (hb:OptAt w g m sc st ec sd sk sp v) (hR:Kd.R k73 73 w w0.heap.size (fun _=>True) v l) (ha:sternpostref07_part.At w q s2 s3 s4 s5 s8) (hs:s3=false) (hc:¬ (s.size:Int)=1) :
  Calls Try.prog 60 #[.pointer (some ⟨g,0,none⟩),.int .i64 3,.string s,.slice (some ⟨q,0,none⟩) 9 9] w fun e w'=>e=.returned (.bool (false))∧sternpostref07_part.Post g q v w0 w m sc st ec sd sk sp l s2 true s4 s5 s8 w':=by
 have HB:=mkA hB
 have HG:=mkA hg
 have HQG:=mkA hq
 have BK:=mkA hb
 have HR:=mkA hR
 have HA:=mkA ha
 have hu24:=Try.underlying24
 have hne:=Ne.symm hqg
 clear hB hg hq hb hR ha
 subst hs
 have hcq3:w.cell? ⟨q,3,none⟩=some (.bool false):=(kC HA.out 3).trans rfl
 have hfq3:=kF HA.out 3
 have PP:=mkA (sternpostref07_part.Post.mark3 HQG.out hqg (sternpostref07_part.Post.refl HB.out BK.out HR.out HA.out))
 have cb:((s.size:Int) != 1)=true:=bne_iff_ne.mpr hc
 have cn:(s.size != 1)=true:=bne_iff_ne.mpr (by omega)
 clear hc
 go_enter Try.func60,Try.ntmps60
 go_wp2
 all_goals (go_ret;exact⟨by first|rfl|(simp;done)|(simp_all;done),PP.out⟩)
set_option maxHeartbeats 4000000 in
set_option maxRecDepth 100000 in
theorem sternpostref07_part.long8 (hB:Below w0.heap.size w0 w) (hg:w0.heap.size≤g) (hq:w0.heap.size≤q) (hqg:q≠g) (hb:OptAt w g m sc st ec sd sk sp v) (hR:Kd.R k73 73 w w0.heap.size (fun _=>True) v l) (ha:sternpostref07_part.At w q s2 s3 s4 s5 s8) (hs:s8=false) (hc:¬ (s.size:Int)=8) :
  Calls Try.prog 60 #[.pointer (some ⟨g,0,none⟩),.int .i64 8,.string s,.slice (some ⟨q,0,none⟩) 9 9] w fun e w'=>e=.returned (.bool (false))∧sternpostref07_part.Post g q v w0 w m sc st ec sd sk sp l s2 s3 s4 s5 true w':=by
 have HB:=mkA hB
 have HG:=mkA hg
 have HQG:=mkA hq
 have BK:=mkA hb
 have HR:=mkA hR
 have HA:=mkA ha
 have hu24:=Try.underlying24
 have hne:=Ne.symm hqg
 clear hB hg hq hb hR ha
 subst hs
 have hcq8:w.cell? ⟨q,8,none⟩=some (.bool false):=(kC HA.out 8).trans rfl
 have hfq8:=kF HA.out 8
 have PP:=mkA (sternpostref07_part.Post.mark8 HQG.out hqg (sternpostref07_part.Post.refl HB.out BK.out HR.out HA.out))
 have cb:((s.size:Int) != 8)=true:=bne_iff_ne.mpr hc
 have cn:(s.size != 8)=true:=bne_iff_ne.mpr (by omega)
 clear hc
 go_enter Try.func60,Try.ntmps60
 go_wp2
 all_goals (go_ret;exact⟨by first|rfl|(simp;done)|(simp_all;done),PP.out⟩)
set_option maxHeartbeats 4000000 in
set_option maxRecDepth 100000 in
theorem sternpostref07_part.sack (hB:Below w0.heap.size w0 w) (hg:w0.heap.size≤g) (hq:w0.heap.size≤q) (hqg:q≠g) (hb:OptAt w g m sc st ec sd sk sp v) (hR:Kd.R k73 73 w w0.heap.size (fun _=>True) v l) (ha:sternpostref07_part.At w q s2 s3 s4 s5 s8) (hs:s4=false) :
  Calls Try.prog 60 #[.pointer (some ⟨g,0,none⟩),.int .i64 4,.string s,.slice (some ⟨q,0,none⟩) 9 9] w fun e w'=>e=.returned (.bool (s.toList.isEmpty))∧sternpostref07_part.Post g q v w0 w m sc st ec sd true sp l s2 s3 true s5 s8 w':=by
 have HB:=mkA hB
 have HG:=mkA hg
 have HQG:=mkA hq
 have BK:=mkA hb
 have HR:=mkA hR
 have HA:=mkA ha
 have hu24:=Try.underlying24
 have hne:=Ne.symm hqg
 clear hB hg hq hb hR ha
 subst hs
 have hcq4:w.cell? ⟨q,4,none⟩=some (.bool false):=(kC HA.out 4).trans rfl
 have hfq4:=kF HA.out 4
 have hcg5:w.cell? ⟨g,5,none⟩=some (.bool sk):=(kC BK.out 5).trans rfl
 have hfg5:=kF BK.out 5
 have PP:=mkA (sternpostref07_part.Post.set5 HG.out hqg true (sternpostref07_part.Post.mark4 HQG.out hqg (sternpostref07_part.Post.refl HB.out BK.out HR.out HA.out)))
 go_enter Try.func60,Try.ntmps60
 go_wp2
 all_goals (go_ret;exact⟨by first|rfl|(simp;done)|(simp_all;done),PP.out⟩)
set_option maxHeartbeats 4000000 in
set_option maxRecDepth 100000 in
theorem sternpostref07_part.scale (hB:Below w0.heap.size w0 w) (hg:w0.heap.size≤g) (hq:w0.heap.size≤q) (hqg:q≠g) (hb:OptAt w g m sc st ec sd sk sp v) (hR:Kd.R k73 73 w w0.heap.size (fun _=>True) v l) (ha:sternpostref07_part.At w q s2 s3 s4 s5 s8) (hs:s3=false) (hc:(s.size:Int)=1) :
  Calls Try.prog 60 #[.pointer (some ⟨g,0,none⟩),.int .i64 3,.string s,.slice (some ⟨q,0,none⟩) 9 9] w fun e w'=>e=.returned (.bool (true))∧sternpostref07_part.Post g q v w0 w m (bt s 0) st ec true sk sp l s2 true s4 s5 s8 w':=by
 have HB:=mkA hB
 have HG:=mkA hg
 have HQG:=mkA hq
 have BK:=mkA hb
 have HR:=mkA hR
 have HA:=mkA ha
 have hu24:=Try.underlying24
 have hne:=Ne.symm hqg
 clear hB hg hq hb hR ha
 subst hs
 have hcq3:w.cell? ⟨q,3,none⟩=some (.bool false):=(kC HA.out 3).trans rfl
 have hfq3:=kF HA.out 3
 have hcg1:w.cell? ⟨g,1,none⟩=some (.int .i64 sc):=(kC BK.out 1).trans rfl
 have hfg1:=kF BK.out 1
 have hcg4:w.cell? ⟨g,4,none⟩=some (.bool sd):=(kC BK.out 4).trans rfl
 have hfg4:=kF BK.out 4
 have PP:=mkA (sternpostref07_part.Post.set4 HG.out hqg true (sternpostref07_part.Post.set1 HG.out hqg (bt s 0) (sternpostref07_part.Post.mark3 HQG.out hqg (sternpostref07_part.Post.refl HB.out BK.out HR.out HA.out))))
 have cb:((s.size:Int) != 1)=false:=bne_eq_false_iff_eq.mpr hc
 have cn:(s.size != 1)=false:=bne_eq_false_iff_eq.mpr (by omega)
 have c0n:(0 < s.size)=True:=eq_true (by omega)
 have hx0:∀ h:0 < s.size,((s[0]'h).toNat:Int)=bt s 0:=bt_at s 0
 have b0:0≤bt s 0∧bt s 0≤255:=bt_range s 0
 have hw0:wrap64 (bt s 0)=bt s 0:=by unfold wrap64;omega
 clear hc
 go_enter Try.func60,Try.ntmps60
 go_wp2
 all_goals (go_ret;exact⟨by first|rfl|(simp;done)|(simp_all;done),PP.out⟩)
set_option maxHeartbeats 4000000 in
set_option maxRecDepth 100000 in
theorem sternpostref07_part.mss (hB:Below w0.heap.size w0 w) (hg:w0.heap.size≤g) (hq:w0.heap.size≤q) (hqg:q≠g) (hb:OptAt w g m sc st ec sd sk sp v) (hR:Kd.R k73 73 w w0.heap.size (fun _=>True) v l) (ha:sternpostref07_part.At w q s2 s3 s4 s5 s8) (hs:s2=false) (hc:(s.size:Int)=2) (k:Nat) (n:Int) (h:sternpostref02_Num.f k s=some n) :
  Calls Try.prog 60 #[.pointer (some ⟨g,0,none⟩),.int .i64 2,.string s,.slice (some ⟨q,0,none⟩) 9 9] w fun e w'=>e=.returned (.bool (decide (n≠0)))∧sternpostref07_part.Post g q v w0 w n sc st ec sd sk sp l true s3 s4 s5 s8 w':=by
 have HB:=mkA hB
 have HG:=mkA hg
 have HQG:=mkA hq
 have BK:=mkA hb
 have HR:=mkA hR
 have HA:=mkA ha
 have hu24:=Try.underlying24
 have hne:=Ne.symm hqg
 have HN:=mkA h
 clear h
 clear hB hg hq hb hR ha
 subst hs
 have hcq2:w.cell? ⟨q,2,none⟩=some (.bool false):=(kC HA.out 2).trans rfl
 have hfq2:=kF HA.out 2
 have cb:((s.size:Int) != 2)=false:=bne_eq_false_iff_eq.mpr hc
 have cn:(s.size != 2)=false:=bne_eq_false_iff_eq.mpr (by omega)
 clear hc
 have PP:=mkA (sternpostref07_part.Post.mark2 HQG.out hqg (sternpostref07_part.Post.refl HB.out BK.out HR.out HA.out))
 go_enter Try.func60,Try.ntmps60
 go_wp2_with fail
 refine(sternpostref02_Num.calls k s n _ HN.out).mono ?_
 rintro e w2 ⟨rfl,hd⟩
 have hb2:Below (w.setCell ⟨q,2,none⟩ (.bool true)).heap.size (w.setCell ⟨q,2,none⟩ (.bool true)) w2:=by obtain⟨nd,rfl⟩:=hd;exact bN (Below.refl _ _) nd
 have n0_:=mkA (kB (kW BK.out (p:=⟨q,2,none⟩) hne (.bool true)) hb2);have n1_:=mkA (sternpostref07_part.Post.below PP.out hb2);clear hcq2 hfq2 BK PP hb2 hd HR HA;have BK:=n0_;have PP:=n1_;clear n0_ n1_
 have hcg0:w2.cell? ⟨g,0,none⟩=some (.int .i64 m):=(kC BK.out 0).trans rfl
 have hfg0:=kF BK.out 0
 have n0_:=mkA (sternpostref07_part.Post.set0 HG.out hqg n PP.out);clear PP;have PP:=n0_;clear n0_
 by_cases z:n=0
 ·subst z
  go_wp2
  all_goals (go_ret;exact⟨by first|rfl|(simp;done)|(simp_all;done),PP.out⟩)
 have zb:(n != 0)=true:=bne_iff_ne.mpr z
 have HZ:=mkA (decide_eq_true z)
 clear z
 go_wp2
 all_goals (go_ret;exact⟨by rw[HZ.out];rfl,PP.out⟩)
set_option maxHeartbeats 4000000 in
set_option maxRecDepth 100000 in
theorem sternpostref07_part.stamps (hB:Below w0.heap.size w0 w) (hg:w0.heap.size≤g) (hq:w0.heap.size≤q) (hqg:q≠g) (hb:OptAt w g m sc st ec sd sk sp v) (hR:Kd.R k73 73 w w0.heap.size (fun _=>True) v l) (ha:sternpostref07_part.At w q s2 s3 s4 s5 s8) (hs:s8=false) (hc:(s.size:Int)=8) (k:Nat) (n1 n2:Int) (h1:sternpostref02_Num.f k (cutS s 0 4)=some n1) (h2:sternpostref02_Num.f k (cutS s 4 s.size)=some n2) :
  Calls Try.prog 60 #[.pointer (some ⟨g,0,none⟩),.int .i64 8,.string s,.slice (some ⟨q,0,none⟩) 9 9] w fun e w'=>e=.returned (.bool (true))∧sternpostref07_part.Post g q v w0 w m sc n1 n2 sd sk true l s2 s3 s4 s5 true w':=by
 have HB:=mkA hB
 have HG:=mkA hg
 have HQG:=mkA hq
 have BK:=mkA hb
 have HR:=mkA hR
 have HA:=mkA ha
 have hu24:=Try.underlying24
 have hne:=Ne.symm hqg
 have HN1:=mkA h1
 have HN2:=mkA h2
 clear h1 h2
 clear hB hg hq hb hR ha
 subst hs
 have hcq8:w.cell? ⟨q,8,none⟩=some (.bool false):=(kC HA.out 8).trans rfl
 have hfq8:=kF HA.out 8
 have cb:((s.size:Int) != 8)=false:=bne_eq_false_iff_eq.mpr hc
 have cn:(s.size != 8)=false:=bne_eq_false_iff_eq.mpr (by omega)
 have c4n:(4≤s.size)=True:=eq_true (by omega)
 have c4a:((4:Int)≤(s.size:Int))=True:=eq_true (by omega)
 have c4b:((s.size:Int) < 4)=False:=eq_false (by omega)
 clear hc
 have PP:=mkA (sternpostref07_part.Post.mark8 HQG.out hqg (sternpostref07_part.Post.refl HB.out BK.out HR.out HA.out))
 go_enter Try.func60,Try.ntmps60
 go_wp2_with fail
 refine(sternpostref02_Num.calls k (cutS s 0 4) n1 _ HN1.out).mono ?_
 rintro e w2 ⟨rfl,hd⟩
 have hb2:=show Below (w.setCell ⟨q,8,none⟩ (.bool true)).heap.size (w.setCell ⟨q,8,none⟩ (.bool true)) w2 by obtain⟨nd,rfl⟩:=hd;exact bN (Below.refl _ _) nd
 have n0_:=mkA (kB (kW BK.out (p:=⟨q,8,none⟩) hne (.bool true)) hb2);have n1_:=mkA (sternpostref07_part.Post.below PP.out hb2);clear BK PP hb2 hd hcq8 hfq8 HR HA;have BK:=n0_;have PP:=n1_;clear n0_ n1_
 have hcg2:w2.cell? ⟨g,2,none⟩=some (.int .i64 st):=(kC BK.out 2).trans rfl
 have hfg2:=kF BK.out 2
 have n0_:=mkA (sternpostref07_part.Post.set2 HG.out hqg n1 PP.out);clear PP;have PP:=n0_;clear n0_
 go_wp2_with fail
 refine(sternpostref02_Num.calls k (cutS s 4 s.size) n2 _ HN2.out).mono ?_
 rintro e w3 ⟨rfl,hd⟩
 have hb2:=show Below (w2.setCell ⟨g,2,none⟩ (.int .i64 n1)).heap.size (w2.setCell ⟨g,2,none⟩ (.int .i64 n1)) w3 by obtain⟨nd,rfl⟩:=hd;exact bN (Below.refl _ _) nd
 have n0_:=mkA (kB (kP BK.out 2 (.int .i64 n1) rfl) hb2);have n1_:=mkA (sternpostref07_part.Post.below PP.out hb2);clear hcg2 hfg2 BK PP hb2 hd;have BK:=n0_;have PP:=n1_;clear n0_ n1_
 have hcg3:w3.cell? ⟨g,3,none⟩=some (.int .i64 ec):=(kC BK.out 3).trans rfl
 have hfg3:=kF BK.out 3
 have hcg6:w3.cell? ⟨g,6,none⟩=some (.bool sp):=(kC BK.out 6).trans rfl
 have hfg6:=kF BK.out 6
 have n0_:=mkA (sternpostref07_part.Post.set6 HG.out hqg true (sternpostref07_part.Post.set3 HG.out hqg n2 PP.out));clear PP;have PP:=n0_;clear n0_
 go_wp2
 all_goals (go_ret;exact⟨by first|rfl|(simp;done)|(simp_all;done),PP.out⟩)
end
theorem slice_str {P:Program} {ρ : Operand→Value} {o:Oper} {W:World} {t:TypeId} {x a b:Operand} {s:ByteArray} {i j:Nat} (hu:P.underlying t=some .string) (ho:o.op=.slice t x (some a) (some b) none) (hx : ρ x=.string s) (ha : ρ a=.int .i64 (i:Int)) (hb : ρ b=.int .i64 (j:Int)) (h1:i≤j) (h2:j≤s.size):(execOp ρ o).run P W=.ok (.value (.string (cutS s i j))) W:=by
 have e1:¬ ((j:Int) < (i:Int)):=by omega
 have e2:¬ ((s.size:Int) < (j:Int)):=by omega
 have e3:(i:Int)≤(j:Int):=by omega
 have e4:(j:Int)≤(s.size:Int):=by omega
 have e5:¬ ((s.size:Int) < (i:Int)):=by omega
 have e6:(i:Int)≤(s.size:Int):=by omega
 unfold execOp
 simp only[ho]
 go_simp
/-! a range appended, in a region that draws its order -/
def sternpostref07_part.RC (g q:Nat) (m sc st ec:Int) (sd sk sp:Bool) (v vx:Value) (s2 s3 s4 s5 s8:Bool) (w0 w:World) (lx:List S73) (b:Bool) (W:World):Prop :=
 Below w0.heap.size w0 W∧Kept w W (fun k=>(k=g∨k=q)∨some k=v.ownBlock)∧OptAt W g m sc st ec sd sk sp vx∧sternpostref07_part.At W q s2 s3 s4 s5 s8∧(b=false→Kd.R k73 73 W w0.heap.size (fun _=>True) vx lx)
def sternpostref07_part.RG (vx:Value) (c:Bool) (W1 W2:World):Prop:=if c=true then W1.grownBy W2 vx.ownBlock else Below W1.heap.size W1 W2
def sternpostref07_part.RR (v:Value) (w0 w:World) (lx:List S73) (p:S73) (b:Bool) (j:Nat) (W:World) (x:Value):Prop :=
 if j=19 then (b=false→∃ q,x=.slice (some ⟨q,0,none⟩) 1 1∧W.heap[q]?=some (.cells #[.int .i64 p.f0,.int .i64 p.f1] 73 (0,0))) else if j=20 then Kd.R k73 73 W w0.heap.size (fun _=>True) x (lx++[p])∧(x.ownBlock=v.ownBlock∨∃ q,x.ownBlock=some q∧w.heap.size≤q) else True
theorem sternpostref07_part.RG.of {vx:Value} {W1 W2:World} (h:Below W1.heap.size W1 W2):sternpostref07_part.RG vx false W1 W2:=h
theorem sternpostref07_part.RC.below {g q:Nat} {m sc st ec:Int} {sd sk sp:Bool} {v vx:Value} {s2 s3 s4 s5 s8:Bool} {w0 w W W':World} {lx:List S73} {b:Bool} (h:sternpostref07_part.RC g q m sc st ec sd sk sp v vx s2 s3 s4 s5 s8 w0 w lx b W) (hb:Below W.heap.size W W'):sternpostref07_part.RC g q m sc st ec sd sk sp v vx s2 s3 s4 s5 s8 w0 w lx b W':=by
 obtain⟨h1,h2,h3,h4,h5⟩:=h
 exact⟨bT h1 hb,h2.below hb,kB h3 hb,kB h4 hb,fun hb'=>Kd.R_below (h5 hb') hb⟩
theorem sternpostref07_part.RR.keep {v vx:Value} {w0 w:World} {lx:List S73} {p:S73} (c b:Bool) (j:Nat) (W W':World) (x:Value) (hc:c=true→b=false∧j≠20) (hg:sternpostref07_part.RG vx c W W') (h:sternpostref07_part.RR v w0 w lx p b j W x):sternpostref07_part.RR v w0 w lx p (b || c) j W' x:=by
 unfold sternpostref07_part.RR at h ⊢
 cases c with
 | false =>
  have hb:Below W.heap.size W W':=hg
  rw[Bool.or_false]
  by_cases h13:j=19
  ·rw[if_pos h13] at h ⊢
   intro hb'
   obtain⟨q,h1,h2⟩:=h hb'
   exact⟨q,h1,kB h2 hb⟩
  ·rw[if_neg h13] at h ⊢
   by_cases h14:j=20
   ·rw[if_pos h14] at h ⊢
    exact⟨Kd.R_below h.1 hb,h.2⟩
   ·rw[if_neg h14];trivial
 | true =>
  obtain⟨_,h14⟩:=hc rfl
  rw[Bool.or_true]
  by_cases h13:j=19
  ·rw[if_pos h13];intro hb';exact absurd hb' (by decide)
  ·rw[if_neg h13,if_neg h14];trivial
theorem sternpostref07_part.RC.append {g q:Nat} {m sc st ec:Int} {sd sk sp:Bool} {v vx x:Value} {s2 s3 s4 s5 s8:Bool} {w0 w W:World} {lx:List S73} {p:S73} (h:sternpostref07_part.RC g q m sc st ec sd sk sp v vx s2 s3 s4 s5 s8 w0 w lx false W) (hx:sternpostref07_part.RR v w0 w lx p false 19 W x) (hat0:vx.ownBlock=v.ownBlock∨∃ q,vx.ownBlock=some q∧w.heap.size≤q) (hl:lx.length < 8796093022207) :
  ∃ v1 W1,(Builtin.append_ #[22,22] 22 #[vx,x]).run Try.prog W=.ok v1 W1∧sternpostref07_part.RC g q m sc st ec sd sk sp v vx s2 s3 s4 s5 s8 w0 w lx true W1∧sternpostref07_part.RG vx true W W1∧sternpostref07_part.RR v w0 w lx p true 20 W1 v1:=by
 obtain⟨h1,h2,h3,h4,h5⟩:=h
 obtain⟨h0,inner,hown,hr⟩:=h5 rfl
 unfold sternpostref07_part.RR at hx
 rw[if_pos rfl] at hx
 obtain⟨q',rfl,hq⟩:=hx rfl
 obtain⟨i0,hi,hzz⟩:=Option.map_eq_some_iff.1 info73
 simp only[Prod.mk.injEq] at hzz
 obtain⟨hz0,hz1,hz2⟩:=hzz
 obtain⟨v1,w1,hrun,hown1,hg,_,hat⟩:=run_append_own_at (P:=Try.prog) W w0.heap.size 22 22 73 i0 (.agg #[.int .i64 0,.int .i64 0]) k73.sz 16 Try.underlying22 hi hz0 hz1 hz2 rfl (by decide) vx lx.length inner hown ⟨q',0,none⟩ 1 1 [.int .i64 p.f0,.int .i64 p.f1] rfl
  (by simpa using World.news_of_block (cs:=#[.int .i64 p.f0,.int .i64 p.f1]) (t:=73) (fr:=(0,0)) hq) (by intro u hu;simp only[List.mem_cons,List.not_mem_nil,or_false] at hu;rcases hu with rfl|rfl <;> rfl) (by simp only[maxLen];omega) (by omega) h1.size
 have hne1:some g≠vx.ownBlock:=own_ne hown h3 (by decide)
 have hne2:some q≠vx.ownBlock:=own_ne hown h4 (by decide)
 have hat':v1.ownBlock=vx.ownBlock∨∃ b,v1.ownBlock=some b∧W.heap.size≤b:=hat.imp id fun e=>⟨_,e,Nat.le_refl _⟩
 refine⟨v1,w1,hrun,⟨h1.grown hg h1.size (own_base hown),Kept.of_grown hg h2 (fun k hk=>?_),blk_grown h3 hg hne1,blk_grown h4 hg hne2,fun hb=>absurd hb (by decide)⟩,hg,?_⟩
 ·rcases hat0 with e|⟨b,e,hb⟩
  ·exact .inl (.inr (by rw[← e,hk]))
  ·rw[e] at hk;injection hk with hk;exact .inr (by omega)
 ·unfold sternpostref07_part.RR
  rw[if_neg (by decide),if_pos rfl]
  refine⟨Kd.R_appended h0 hr (k73_mkM W w0.heap.size (fun _=>False) p) (fun _ hk=>hk.elim) (fun _ _=>trivial) hown1 hg hat',?_⟩
  rcases hat' with e|⟨b,e,hb⟩
  ·rw[e];exact hat0
  ·exact .inr ⟨b,e,Nat.le_trans h2.1 hb⟩
theorem sternpostref07_part.Post.put7 {g q:Nat} {v vx v1:Value} {w0 w W:World} {m sc st ec:Int} {sd sk sp s2 s3 s4 s5 s8:Bool} {l:List S73} (hg:w0.heap.size≤g) (hqg:q≠g) (h:Below w0.heap.size w0 W∧Kept w W (fun k=>(k=g∨k=q)∨some k=v.ownBlock)∧OptAt W g m sc st ec sd sk sp vx∧Kd.R k73 73 W w0.heap.size (fun _=>True) v1 l∧(v1.ownBlock=v.ownBlock∨∃ b,v1.ownBlock=some b∧w.heap.size≤b)) (ha:sternpostref07_part.At W q s2 s3 s4 s5 s8):sternpostref07_part.Post g q v w0 w m sc st ec sd sk sp l s2 s3 s4 s5 s8 (W.setCell ⟨g,7,none⟩ v1):=by
 obtain⟨h1,h2,h3,h4,h5⟩:=h
 exact⟨bS h1 hg,h2.setCell (.inl (.inl (.inl rfl))) _,⟨v1,kP h3 7 _ rfl,h5,Kd.R_set h4 h3 (by decide) 7 _⟩,kW ha hqg _⟩
section
variable (g q:Nat) (m sc st ec:Int) (sd sk sp:Bool) (l:List S73) (v:Value) (s:ByteArray) (s2 s3 s4 s5 s8:Bool) (w0 w:World)
set_option maxHeartbeats 4000000 in
set_option maxRecDepth 100000 in
theorem sternpostref07_part.long5 (hB:Below w0.heap.size w0 w) (hg:w0.heap.size≤g) (hq:w0.heap.size≤q) (hqg:q≠g) (hb:OptAt w g m sc st ec sd sk sp v) (hR:Kd.R k73 73 w w0.heap.size (fun _=>True) v l) (ha:sternpostref07_part.At w q s2 s3 s4 s5 s8) (hs:s5=false) (hc:¬ ((s.size:Int) % 8=0∧8≤(s.size:Int)∧(s.size:Int)≤32)) :
  Calls Try.prog 60 #[.pointer (some ⟨g,0,none⟩),.int .i64 5,.string s,.slice (some ⟨q,0,none⟩) 9 9] w fun e w'=>e=.returned (.bool (false))∧sternpostref07_part.Post g q v w0 w m sc st ec sd sk sp l s2 s3 s4 true s8 w':=by
 have HB:=mkA hB
 have HG:=mkA hg
 have HQG:=mkA hq
 have BK:=mkA hb
 have HR:=mkA hR
 have HA:=mkA ha
 have hu24:=Try.underlying24
 have hne:=Ne.symm hqg
 clear hB hg hq hb hR ha
 subst hs
 have hcq5:w.cell? ⟨q,5,none⟩=some (.bool false):=(kC HA.out 5).trans rfl
 have hfq5:=kF HA.out 5
 have PP:=mkA (sternpostref07_part.Post.mark5 HQG.out hqg (sternpostref07_part.Post.refl HB.out BK.out HR.out HA.out))
 by_cases h1:(s.size:Int) % 8=0
 ·have c1:((s.size:Int) % 8 != 0)=false:=bne_eq_false_iff_eq.mpr h1
  by_cases h2:(s.size:Int) < 8
  ·have c2:decide ((s.size:Int) < 8)=true:=decide_eq_true h2
   clear h1 h2 hc
   go_enter Try.func60,Try.ntmps60
   go_wp2
   all_goals (go_ret;exact⟨by first|rfl|(simp;done)|(simp_all;done),PP.out⟩)
  ·have c2:decide ((s.size:Int) < 8)=false:=decide_eq_false h2
   have c3:decide (32 < (s.size:Int))=true:=decide_eq_true (by omega)
   clear h1 h2 hc
   go_enter Try.func60,Try.ntmps60
   go_wp2
   all_goals (go_ret;exact⟨by first|rfl|(simp;done)|(simp_all;done),PP.out⟩)
 ·have c1:((s.size:Int) % 8 != 0)=true:=bne_iff_ne.mpr h1
  clear h1 hc
  go_enter Try.func60,Try.ntmps60
  go_wp2
  all_goals (go_ret;exact⟨by first|rfl|(simp;done)|(simp_all;done),PP.out⟩)
set_option maxHeartbeats 4000000 in
set_option maxRecDepth 100000 in
theorem sternpostref07_part.sacks (hB:Below w0.heap.size w0 w) (hg:w0.heap.size≤g) (hq:w0.heap.size≤q) (hqg:q≠g) (hb:OptAt w g m sc st ec sd sk sp v) (hR:Kd.R k73 73 w w0.heap.size (fun _=>True) v l) (ha:sternpostref07_part.At w q s2 s3 s4 s5 s8) (hs:s5=false) (hc:(s.size:Int) % 8=0∧8≤(s.size:Int)∧(s.size:Int)≤32) (k:Nat) (l':List S73) (h:sternpostref07_part.sl k s 0 l=some l') :
  Calls Try.prog 60 #[.pointer (some ⟨g,0,none⟩),.int .i64 5,.string s,.slice (some ⟨q,0,none⟩) 9 9] w fun e w'=>e=.returned (.bool (true))∧sternpostref07_part.Post g q v w0 w m sc st ec sd sk sp l' s2 s3 s4 true s8 w':=by
 have HB:=mkA hB
 have HG:=mkA hg
 have HQG:=mkA hq
 have BK:=mkA hb
 have HR:=mkA hR
 have HA:=mkA ha
 have hu24:=Try.underlying24
 have hne:=Ne.symm hqg
 have H':=mkA h
 have hu35:=Try.underlying73
 clear h
 clear hB hg hq hb hR ha
 subst hs
 have hcq5:w.cell? ⟨q,5,none⟩=some (.bool false):=(kC HA.out 5).trans rfl
 have hfq5:=kF HA.out 5
 have PP:=mkA (sternpostref07_part.Post.mark5 HQG.out hqg (sternpostref07_part.Post.refl HB.out BK.out HR.out HA.out))
 have c1:((s.size:Int) % 8 != 0)=false:=bne_eq_false_iff_eq.mpr hc.1
 have c2:decide ((s.size:Int) < 8)=false:=decide_eq_false (by omega)
 have c3:decide (32 < (s.size:Int))=false:=decide_eq_false (by omega)
 have SZ:=mkA hc.2.2
 clear hc
 go_enter Try.func60,Try.ntmps60
 go_wp2
 go_loopg [9] k (fun kq v9 W=>∃ (i:Nat) (lx:List S73),v9=.int .i64 (i:Int)∧Aside0 (sternpostref07_part.sl kq s i lx=some l')∧Aside0 (kq≤k)∧Aside0 (sternpostref07_part.Post g q v w0 w m sc st ec sd sk sp lx s2 s3 s4 true s8 W))
 case atStart=>exact⟨0,l,rfl,H',⟨Nat.le_refl _⟩,PP⟩
 case round =>
  clear PP H' HB BK HR HA hcq5 hfq5
  obtain⟨i,lx,rfl,HI,HK1,PP⟩:=hrel
  cases gk with
  | zero=>exact absurd HI.out (by simp[sternpostref07_part.sl])
  | succ k1 =>
   have H:=HI.out
   clear HI
   simp only[sternpostref07_part.sl] at H
   by_cases c:(i:Int) < (s.size:Int)
   ·rw[if_pos c] at H
    obtain⟨P1,P2,⟨vx,P3,P4,P5⟩,P6⟩:=PP.out
    have hcg7:wr.cell? ⟨g,7,none⟩=some vx:=(kC P3 7).trans rfl
    have hfg7:=kF P3 7
    have Q1:=mkA P1;have Q2:=mkA P2;have Q3:=mkA P3;have Q4:=mkA P4;have Q5:=mkA P5;have Q6:=mkA P6
    clear P1 P2 P3 P4 P5 P6 PP
    have cb:=decide_eq_true c
    have cbn:decide (i < s.size)=true:=decide_eq_true (by omega)
    by_cases c8:i+8≤s.size
    ·rw[if_pos c8] at H
     obtain⟨n1,hg1,H⟩:=Option.bind_eq_some_iff.mp H
     have G1:=mkA hg1
     clear hg1
     obtain⟨n2,hg2,H⟩:=Option.bind_eq_some_iff.mp H
     have G2:=mkA hg2
     clear hg2
     by_cases c2:lx.length < 8796093022207
     ·rw[if_pos c2] at H
      have HT:=mkA H
      have HL:=mkA c2
      clear H c2
      have hi4:wrap64 ((i:Int)+4)=((i+4:Nat):Int):=by have:=SZ.out;unfold wrap64;omega
      have hi8:wrap64 ((i:Int)+8)=((i+8:Nat):Int):=by have:=SZ.out;unfold wrap64;omega
      have hi4a:IntKind.i64.wrap ((i:Int)+4)=(i:Int)+4:=by have:=SZ.out;simp only[i64_w];unfold wrap64;omega
      have hi8a:IntKind.i64.wrap ((i:Int)+8)=(i:Int)+8:=by have:=SZ.out;simp only[i64_w];unfold wrap64;omega
      clear c
      go_wp2
      have same:∀ b W,sternpostref07_part.RC g q m sc st ec sd sk sp v vx s2 s3 s4 true s8 w0 w lx b W→sternpostref07_part.RG vx false W W:=fun _ _ _=>sternpostref07_part.RG.of (Below.refl _ _)
      refine AnyPhase.region_then 21 (e:=20) (C:=sternpostref07_part.RC g q m sc st ec sd sk sp v vx s2 s3 s4 true s8 w0 w lx) (G:=sternpostref07_part.RG vx) (T:=[19,20]) (R:=sternpostref07_part.RR v w0 w lx ⟨n1,n2⟩) (vs:=[(.pointer (some ⟨g,0,none⟩)),(.pointer (some ⟨g,0,none⟩)),(.pointer (some ⟨g,0,none⟩)),(.pointer (some ⟨g,7,none⟩)),vx,(.string s),(.int .i64 ((i:Nat):Int)),(.int .i64 ((i:Nat):Int)),(.int .i64 ((i+4:Nat):Int)),(.string (cutS s i (i+4))),(.int .i64 n1),(.string s),(.int .i64 ((i:Nat):Int)),(.int .i64 ((i+4:Nat):Int)),(.int .i64 ((i:Nat):Int)),(.int .i64 ((i+8:Nat):Int)),(.string (cutS s (i+4) (i+8))),(.int .i64 n2),(.agg #[.int .i64 n1,.int .i64 n2]),undef,undef]) (by kernel_rfl) rfl (by kernel_rfl) (sternpostref07_part.RC.below (b:=false) ⟨Q1.out,Q2.out,Q3.out,Q6.out,fun _=>Q5.out⟩ (bD (Below.refl _ _))) same sternpostref07_part.RR.keep (by decide) (by decide) (fun x=>?obs) ?fin
      case obs =>
       refine AnyPhase.obs_cons (.pointer (some ⟨g,0,none⟩)) rfl (AnyPhase.ob_quiet (d:=90) (by decide) rfl (show (90:Nat) < 133 by omega) rfl rfl same (fun _=>by first|exact⟨_,rfl⟩|exact⟨pure _,rfl⟩) (fun b=>?_)) ?_
       ·go_big_quiet_op;first|rfl|exact⟨_,fun _ _=>rfl,rfl⟩
       try simp only[puts]
       refine AnyPhase.obs_cons (.pointer (some ⟨g,0,none⟩)) rfl (AnyPhase.ob_quiet (d:=91) (by decide) rfl (show (91:Nat) < 133 by omega) rfl rfl same (fun _=>by first|exact⟨_,rfl⟩|exact⟨pure _,rfl⟩) (fun b=>?_)) ?_
       ·go_big_quiet_op;first|rfl|exact⟨_,fun _ _=>rfl,rfl⟩
       try simp only[puts]
       refine AnyPhase.obs_cons (.pointer (some ⟨g,0,none⟩)) rfl (AnyPhase.ob_plain (by decide) rfl rfl same rfl (fun b W' hW=>by go_simp)) ?_
       try simp only[puts]
       refine AnyPhase.obs_cons (.pointer (some ⟨g,7,none⟩)) rfl (AnyPhase.ob_quiet (d:=93) (by decide) rfl (show (93:Nat) < 133 by omega) rfl rfl same (fun _=>by first|exact⟨_,rfl⟩|exact⟨pure _,rfl⟩) (fun b=>?_)) ?_
       ·go_big_quiet_op;first|rfl|exact⟨_,fun _ _=>rfl,rfl⟩
       try simp only[puts]
       refine AnyPhase.obs_cons vx rfl (AnyPhase.ob_quiet (d:=94) (by decide) rfl (show (94:Nat) < 133 by omega) rfl rfl same (fun _=>by first|exact⟨_,rfl⟩|exact⟨pure _,rfl⟩) (fun b=>?_)) ?_
       ·refine⟨_,fun W' hW=>?_,rfl⟩;obtain⟨z1,z2,z3,z4,z5⟩:=hW;have hcz:=(kC z3 7).trans rfl;unfold Oper.quietAt;go_simp;first|done|rfl|exact⟨rfl,rfl⟩
       try simp only[puts]
       refine AnyPhase.obs_cons (.string s) rfl (AnyPhase.ob_quiet (d:=95) (by decide) rfl (show (95:Nat) < 133 by omega) rfl rfl same (fun _=>by first|exact⟨_,rfl⟩|exact⟨pure _,rfl⟩) (fun b=>?_)) ?_
       ·go_big_quiet_op;first|rfl|exact⟨_,fun _ _=>rfl,rfl⟩
       try simp only[puts]
       refine AnyPhase.obs_cons (.int .i64 ((i:Nat):Int)) rfl (AnyPhase.ob_quiet (d:=96) (by decide) rfl (show (96:Nat) < 133 by omega) rfl rfl same (fun _=>by first|exact⟨_,rfl⟩|exact⟨pure _,rfl⟩) (fun b=>?_)) ?_
       ·go_big_quiet_op;first|rfl|exact⟨_,fun _ _=>rfl,rfl⟩
       try simp only[puts]
       refine AnyPhase.obs_cons (.int .i64 ((i:Nat):Int)) rfl (AnyPhase.ob_quiet (d:=97) (by decide) rfl (show (97:Nat) < 133 by omega) rfl rfl same (fun _=>by first|exact⟨_,rfl⟩|exact⟨pure _,rfl⟩) (fun b=>?_)) ?_
       ·go_big_quiet_op;first|rfl|exact⟨_,fun _ _=>rfl,rfl⟩
       try simp only[puts]
       refine AnyPhase.obs_cons (.int .i64 ((i+4:Nat):Int)) rfl (AnyPhase.ob_plain (by decide) rfl rfl same rfl (fun b W' hW=>by go_simp;first|done|(first|exact hi4a|exact hi8a))) ?_
       try simp only[puts]
       refine AnyPhase.obs_cons (.string (cutS s i (i+4))) rfl (AnyPhase.ob_plain (by decide) rfl rfl same rfl (fun b W' hW=>slice_str Try.underlying9 rfl rfl rfl rfl (by omega) (by omega))) ?_
       try simp only[puts]
       refine AnyPhase.obs_cons (.int .i64 n1) rfl (AnyPhase.ob_call (by decide) rfl rfl rfl 48 #[.string (cutS s i (i+4))] (fun b W' hW=>?_) (fun b W' hW=>?_)) ?_
       ·go_simp
       ·exact(sternpostref02_Num.calls k1 (cutS s i (i+4)) n1 W' G1.out).mono fun r w2 h2=>have hb:Below W'.heap.size W' w2:=(by obtain⟨nd,e⟩:=h2.2;rw[e];exact bN (Below.refl _ _) nd);⟨h2.1,sternpostref07_part.RC.below hW hb,sternpostref07_part.RG.of hb⟩
       try simp only[puts]
       refine AnyPhase.obs_cons (.string s) rfl (AnyPhase.ob_quiet (d:=101) (by decide) rfl (show (101:Nat) < 133 by omega) rfl rfl same (fun _=>by first|exact⟨_,rfl⟩|exact⟨pure _,rfl⟩) (fun b=>?_)) ?_
       ·go_big_quiet_op;first|rfl|exact⟨_,fun _ _=>rfl,rfl⟩
       try simp only[puts]
       refine AnyPhase.obs_cons (.int .i64 ((i:Nat):Int)) rfl (AnyPhase.ob_quiet (d:=102) (by decide) rfl (show (102:Nat) < 133 by omega) rfl rfl same (fun _=>by first|exact⟨_,rfl⟩|exact⟨pure _,rfl⟩) (fun b=>?_)) ?_
       ·go_big_quiet_op;first|rfl|exact⟨_,fun _ _=>rfl,rfl⟩
       try simp only[puts]
       refine AnyPhase.obs_cons (.int .i64 ((i+4:Nat):Int)) rfl (AnyPhase.ob_plain (by decide) rfl rfl same rfl (fun b W' hW=>by go_simp;first|done|(first|exact hi4a|exact hi8a))) ?_
       try simp only[puts]
       refine AnyPhase.obs_cons (.int .i64 ((i:Nat):Int)) rfl (AnyPhase.ob_quiet (d:=104) (by decide) rfl (show (104:Nat) < 133 by omega) rfl rfl same (fun _=>by first|exact⟨_,rfl⟩|exact⟨pure _,rfl⟩) (fun b=>?_)) ?_
       ·go_big_quiet_op;first|rfl|exact⟨_,fun _ _=>rfl,rfl⟩
       try simp only[puts]
       refine AnyPhase.obs_cons (.int .i64 ((i+8:Nat):Int)) rfl (AnyPhase.ob_plain (by decide) rfl rfl same rfl (fun b W' hW=>by go_simp;first|done|(first|exact hi4a|exact hi8a))) ?_
       try simp only[puts]
       refine AnyPhase.obs_cons (.string (cutS s (i+4) (i+8))) rfl (AnyPhase.ob_plain (by decide) rfl rfl same rfl (fun b W' hW=>slice_str Try.underlying9 rfl rfl rfl rfl (by omega) (by omega))) ?_
       try simp only[puts]
       refine AnyPhase.obs_cons (.int .i64 n2) rfl (AnyPhase.ob_call (by decide) rfl rfl rfl 48 #[.string (cutS s (i+4) (i+8))] (fun b W' hW=>?_) (fun b W' hW=>?_)) ?_
       ·go_simp
       ·exact(sternpostref02_Num.calls k1 (cutS s (i+4) (i+8)) n2 W' G2.out).mono fun r w2 h2=>have hb:Below W'.heap.size W' w2:=(by obtain⟨nd,e⟩:=h2.2;rw[e];exact bN (Below.refl _ _) nd);⟨h2.1,sternpostref07_part.RC.below hW hb,sternpostref07_part.RG.of hb⟩
       try simp only[puts]
       refine AnyPhase.obs_cons (.agg #[.int .i64 n1,.int .i64 n2]) rfl (AnyPhase.ob_quiet (d:=108) (by decide) rfl (show (108:Nat) < 133 by omega) rfl rfl same (fun _=>by first|exact⟨_,rfl⟩|exact⟨pure _,rfl⟩) (fun b=>?_)) ?_
       ·go_big_quiet_op;first|rfl|exact⟨_,fun _ _=>rfl,rfl⟩
       try simp only[puts]
       refine AnyPhase.obs_cons (x 19) rfl (AnyPhase.ob_token (by decide) rfl rfl (fun b W' hW=>⟨.slice (some ⟨W'.heap.size,0,none⟩) 1 1,W'.alloc (.cells #[.int .i64 n1,.int .i64 n2] 73),?run,sternpostref07_part.RC.below hW (bA (Below.refl _ _) _),sternpostref07_part.RG.of (bA (Below.refl _ _) _),fun _=>⟨W'.heap.size,rfl,heap_alloc_new W' _⟩⟩)) ?_
       case run=>clear same HT;(first|(go_simp;done)|(go_simp;rfl)|(simp[execOp,Act.eval,go_sem];done)|skip)
       try simp only[puts]
       refine AnyPhase.obs_cons (x 20) rfl (AnyPhase.ob_event rfl rfl 19 _ _ rfl rfl rfl (by kernel_rfl) (fun W' hW hR=>?_)) ?_
       ·obtain⟨v1,W1,hr,z1,z2,z3⟩:=sternpostref07_part.RC.append hW hR Q4.out HL.out
        exact⟨v1,W1,exec_append rfl rfl rfl hr,z1,z2,z3⟩
       try simp only[puts]
       trivial
      case fin =>
       intro x W hW hR
       simp only[List.take_succ_cons,List.take_zero,List.drop_succ_cons,List.drop_zero]
       rw[AnyOrder.lexAt_cons (.pointer (some ⟨g,0,none⟩)) rfl]
       try simp only[puts]
       rw[AnyOrder.lexAt_cons (.pointer (some ⟨g,0,none⟩)) rfl]
       try simp only[puts]
       rw[AnyOrder.lexAt_cons (.pointer (some ⟨g,0,none⟩)) rfl]
       try simp only[puts]
       rw[AnyOrder.lexAt_cons (.pointer (some ⟨g,7,none⟩)) rfl]
       try simp only[puts]
       rw[AnyOrder.lexAt_cons vx rfl]
       try simp only[puts]
       rw[AnyOrder.lexAt_cons (.string s) rfl]
       try simp only[puts]
       rw[AnyOrder.lexAt_cons (.int .i64 ((i:Nat):Int)) rfl]
       try simp only[puts]
       rw[AnyOrder.lexAt_cons (.int .i64 ((i:Nat):Int)) rfl]
       try simp only[puts]
       rw[AnyOrder.lexAt_cons (.int .i64 ((i+4:Nat):Int)) rfl]
       try simp only[puts]
       rw[AnyOrder.lexAt_cons (.string (cutS s i (i+4))) rfl]
       try simp only[puts]
       rw[AnyOrder.lexAt_cons (.int .i64 n1) rfl]
       try simp only[puts]
       rw[AnyOrder.lexAt_cons (.string s) rfl]
       try simp only[puts]
       rw[AnyOrder.lexAt_cons (.int .i64 ((i:Nat):Int)) rfl]
       try simp only[puts]
       rw[AnyOrder.lexAt_cons (.int .i64 ((i+4:Nat):Int)) rfl]
       try simp only[puts]
       rw[AnyOrder.lexAt_cons (.int .i64 ((i:Nat):Int)) rfl]
       try simp only[puts]
       rw[AnyOrder.lexAt_cons (.int .i64 ((i+8:Nat):Int)) rfl]
       try simp only[puts]
       rw[AnyOrder.lexAt_cons (.string (cutS s (i+4) (i+8))) rfl]
       try simp only[puts]
       rw[AnyOrder.lexAt_cons (.int .i64 n2) rfl]
       try simp only[puts]
       rw[AnyOrder.lexAt_cons (.agg #[.int .i64 n1,.int .i64 n2]) rfl]
       try simp only[puts]
       rw[AnyOrder.lexAt_cons (x 19) rfl]
       try simp only[puts]
       rw[AnyOrder.lexAt_cons (x 20) rfl]
       try simp only[puts]
       rw[AnyOrder.lexAt_nil]
       have hR20:=hR 20 _ _ (by omega) rfl rfl rfl
       generalize x 20=v1 at hR20 ⊢
       generalize x 19=v0 at hR20 ⊢
       unfold sternpostref07_part.RR at hR20
       rw[if_neg (by decide),if_pos rfl] at hR20
       obtain⟨z1,z2,z3,z4,z5⟩:=hW
       have Z1:=mkA (sternpostref07_part.Post.put7 HG.out hqg ⟨z1,z2,z3,hR20.1,hR20.2⟩ z4)
       obtain⟨A1,c1_,he1,_,_⟩:=Kd.R_reads hR20.1
       generalize (lx++[(⟨n1,n2⟩:S73)]).length=n3 at he1
       subst he1
       clear hcg7 hfg7 hR same Q1 Q2 Q3 Q4 Q5 Q6 z1 z2 z4 z5
       have hcg7:W.cell? ⟨g,7,none⟩=some vx:=(kC z3 7).trans rfl
       have hfg7:=kF z3 7
       clear z3 hR20
       go_wp2
       go_roundg k1
       case measure=>have:=HK1.out;omega
       case rel=>exact⟨i+8,lx++[⟨n1,n2⟩],(by first|rfl|(rw[hi8])|(simp;done)),HT,⟨by have:=HK1.out;omega⟩,Z1⟩
     ·rw[if_neg c2] at H
      exact absurd H (by simp)
    ·rw[if_neg c8] at H
     exact absurd H (by simp)
   ·rw[if_neg c] at H
    have cb:=decide_eq_false c
    have cbn:decide (i < s.size)=false:=decide_eq_false (by omega)
    clear c
    obtain rfl:=Option.some.inj H
    clear H
    go_wp2
    all_goals (go_ret;exact⟨by first|rfl|(simp;done)|(simp_all;done),PP.out⟩)
end
def sternpostref07_part.fl (kd:Int) (s2 s3 s4 s5 s8:Bool):Bool:=if kd=2 then s2 else if kd=3 then s3 else if kd=4 then s4 else if kd=5 then s5 else if kd=8 then s8 else false
theorem sternpostref07_part.calls (k g q:Nat) (m sc st ec:Int) (sd sk sp:Bool) (l:List S73) (v:Value) (kd:Int) (s:ByteArray) (s2 s3 s4 s5 s8:Bool) (m' sc' st' ec':Int) (sd' sk' sp':Bool) (l':List S73) (r:Bool) (w0 w:World) (hB:Below w0.heap.size w0 w) (hg:w0.heap.size≤g) (hq:w0.heap.size≤q) (hqg:q≠g) (hb:OptAt w g m sc st ec sd sk sp v) (hR:Kd.R k73 73 w w0.heap.size (fun _=>True) v l) (ha:sternpostref07_part.At w q s2 s3 s4 s5 s8) (h:sternpostref07_part.f k m sc st ec sd sk sp l kd s (sternpostref07_part.fl kd s2 s3 s4 s5 s8)=some (m',sc',st',ec',sd',sk',sp',l',r)) :
  Calls Try.prog 60 #[.pointer (some ⟨g,0,none⟩),.int .i64 kd,.string s,.slice (some ⟨q,0,none⟩) 9 9] w fun e w'=>e=.returned (.bool r)∧sternpostref07_part.Post g q v w0 w m' sc' st' ec' sd' sk' sp' l' (s2 || decide (kd=2)) (s3 || decide (kd=3)) (s4 || decide (kd=4)) (s5 || decide (kd=5)) (s8 || decide (kd=8)) w':=by
 unfold sternpostref07_part.f at h
 by_cases c2:kd=2
 ·subst c2
  rw[if_pos rfl] at h
  rw[show sternpostref07_part.fl 2 s2 s3 s4 s5 s8=s2 from by unfold sternpostref07_part.fl;rw[if_pos rfl]] at h
  rw[decide_eq_true (show (2:Int)=2 by decide)];rw[decide_eq_false (show ¬ (2:Int)=3 by decide)];rw[decide_eq_false (show ¬ (2:Int)=4 by decide)];rw[decide_eq_false (show ¬ (2:Int)=5 by decide)];rw[decide_eq_false (show ¬ (2:Int)=8 by decide)];simp only[Bool.or_false,Bool.or_true]
  by_cases hs:s2=true
  ·rw[if_pos hs] at h
   simp only[Option.some.injEq,Prod.mk.injEq] at h
   obtain⟨rfl,rfl,rfl,rfl,rfl,rfl,rfl,rfl,rfl⟩:=h
   have:=sternpostref07_part.twice2 g q m sc st ec sd sk sp l v s s2 s3 s4 s5 s8 w0 w hB hg hq hqg hb hR ha hs
   simp only[hs] at this ⊢
   exact this
  ·rw[if_neg hs] at h
   have hs:=Bool.eq_false_iff.mpr hs
   split at h
   ·rename_i hc
    obtain⟨n,hn,h⟩:=Option.bind_eq_some_iff.mp h
    simp only[Option.some.injEq,Prod.mk.injEq] at h
    obtain⟨rfl,rfl,rfl,rfl,rfl,rfl,rfl,rfl,rfl⟩:=h
    exact sternpostref07_part.mss g q m sc st ec sd sk sp l v s s2 s3 s4 s5 s8 w0 w hB hg hq hqg hb hR ha hs hc k n hn
   ·rename_i hc
    simp only[Option.some.injEq,Prod.mk.injEq] at h
    obtain⟨rfl,rfl,rfl,rfl,rfl,rfl,rfl,rfl,rfl⟩:=h
    exact sternpostref07_part.long2 g q m sc st ec sd sk sp l v s s2 s3 s4 s5 s8 w0 w hB hg hq hqg hb hR ha hs hc
 by_cases c3:kd=3
 ·subst c3
  rw[if_neg (show ¬ (3:Int)=2 by decide),if_pos rfl] at h
  rw[show sternpostref07_part.fl 3 s2 s3 s4 s5 s8=s3 from by unfold sternpostref07_part.fl;rw[if_neg (show ¬ (3:Int)=2 by decide),if_pos rfl]] at h
  rw[decide_eq_false (show ¬ (3:Int)=2 by decide)];rw[decide_eq_true (show (3:Int)=3 by decide)];rw[decide_eq_false (show ¬ (3:Int)=4 by decide)];rw[decide_eq_false (show ¬ (3:Int)=5 by decide)];rw[decide_eq_false (show ¬ (3:Int)=8 by decide)];simp only[Bool.or_false,Bool.or_true]
  by_cases hs:s3=true
  ·rw[if_pos hs] at h
   simp only[Option.some.injEq,Prod.mk.injEq] at h
   obtain⟨rfl,rfl,rfl,rfl,rfl,rfl,rfl,rfl,rfl⟩:=h
   have:=sternpostref07_part.twice3 g q m sc st ec sd sk sp l v s s2 s3 s4 s5 s8 w0 w hB hg hq hqg hb hR ha hs
   simp only[hs] at this ⊢
   exact this
  ·rw[if_neg hs] at h
   have hs:=Bool.eq_false_iff.mpr hs
   split at h
   ·rename_i hc
    simp only[Option.some.injEq,Prod.mk.injEq] at h
    obtain⟨rfl,rfl,rfl,rfl,rfl,rfl,rfl,rfl,rfl⟩:=h
    exact sternpostref07_part.scale g q m sc st ec sd sk sp l v s s2 s3 s4 s5 s8 w0 w hB hg hq hqg hb hR ha hs hc
   ·rename_i hc
    simp only[Option.some.injEq,Prod.mk.injEq] at h
    obtain⟨rfl,rfl,rfl,rfl,rfl,rfl,rfl,rfl,rfl⟩:=h
    exact sternpostref07_part.long3 g q m sc st ec sd sk sp l v s s2 s3 s4 s5 s8 w0 w hB hg hq hqg hb hR ha hs hc
 by_cases c4:kd=4
 ·subst c4
  rw[if_neg (show ¬ (4:Int)=2 by decide),if_neg (show ¬ (4:Int)=3 by decide),if_pos rfl] at h
  rw[show sternpostref07_part.fl 4 s2 s3 s4 s5 s8=s4 from by unfold sternpostref07_part.fl;rw[if_neg (show ¬ (4:Int)=2 by decide),if_neg (show ¬ (4:Int)=3 by decide),if_pos rfl]] at h
  rw[decide_eq_false (show ¬ (4:Int)=2 by decide)];rw[decide_eq_false (show ¬ (4:Int)=3 by decide)];rw[decide_eq_true (show (4:Int)=4 by decide)];rw[decide_eq_false (show ¬ (4:Int)=5 by decide)];rw[decide_eq_false (show ¬ (4:Int)=8 by decide)];simp only[Bool.or_false,Bool.or_true]
  by_cases hs:s4=true
  ·rw[if_pos hs] at h
   simp only[Option.some.injEq,Prod.mk.injEq] at h
   obtain⟨rfl,rfl,rfl,rfl,rfl,rfl,rfl,rfl,rfl⟩:=h
   have:=sternpostref07_part.twice4 g q m sc st ec sd sk sp l v s s2 s3 s4 s5 s8 w0 w hB hg hq hqg hb hR ha hs
   simp only[hs] at this ⊢
   exact this
  ·rw[if_neg hs] at h
   have hs:=Bool.eq_false_iff.mpr hs
   simp only[Option.some.injEq,Prod.mk.injEq] at h
   obtain⟨rfl,rfl,rfl,rfl,rfl,rfl,rfl,rfl,rfl⟩:=h
   exact sternpostref07_part.sack g q m sc st ec sd sk sp l v s s2 s3 s4 s5 s8 w0 w hB hg hq hqg hb hR ha hs
 by_cases c5:kd=5
 ·subst c5
  rw[if_neg (show ¬ (5:Int)=2 by decide),if_neg (show ¬ (5:Int)=3 by decide),if_neg (show ¬ (5:Int)=4 by decide),if_pos rfl] at h
  rw[show sternpostref07_part.fl 5 s2 s3 s4 s5 s8=s5 from by unfold sternpostref07_part.fl;rw[if_neg (show ¬ (5:Int)=2 by decide),if_neg (show ¬ (5:Int)=3 by decide),if_neg (show ¬ (5:Int)=4 by decide),if_pos rfl]] at h
  rw[decide_eq_false (show ¬ (5:Int)=2 by decide)];rw[decide_eq_false (show ¬ (5:Int)=3 by decide)];rw[decide_eq_false (show ¬ (5:Int)=4 by decide)];rw[decide_eq_true (show (5:Int)=5 by decide)];rw[decide_eq_false (show ¬ (5:Int)=8 by decide)];simp only[Bool.or_false,Bool.or_true]
  by_cases hs:s5=true
  ·rw[if_pos hs] at h
   simp only[Option.some.injEq,Prod.mk.injEq] at h
   obtain⟨rfl,rfl,rfl,rfl,rfl,rfl,rfl,rfl,rfl⟩:=h
   have:=sternpostref07_part.twice5 g q m sc st ec sd sk sp l v s s2 s3 s4 s5 s8 w0 w hB hg hq hqg hb hR ha hs
   simp only[hs] at this ⊢
   exact this
  ·rw[if_neg hs] at h
   have hs:=Bool.eq_false_iff.mpr hs
   split at h
   ·rename_i hc
    obtain⟨lx,hl,h⟩:=Option.bind_eq_some_iff.mp h
    simp only[Option.some.injEq,Prod.mk.injEq] at h
    obtain⟨rfl,rfl,rfl,rfl,rfl,rfl,rfl,rfl,rfl⟩:=h
    exact sternpostref07_part.sacks g q m sc st ec sd sk sp l v s s2 s3 s4 s5 s8 w0 w hB hg hq hqg hb hR ha hs hc k lx hl
   ·rename_i hc
    simp only[Option.some.injEq,Prod.mk.injEq] at h
    obtain⟨rfl,rfl,rfl,rfl,rfl,rfl,rfl,rfl,rfl⟩:=h
    exact sternpostref07_part.long5 g q m sc st ec sd sk sp l v s s2 s3 s4 s5 s8 w0 w hB hg hq hqg hb hR ha hs hc
 by_cases c8:kd=8
 ·subst c8
  rw[if_neg (show ¬ (8:Int)=2 by decide),if_neg (show ¬ (8:Int)=3 by decide),if_neg (show ¬ (8:Int)=4 by decide),if_neg (show ¬ (8:Int)=5 by decide),if_pos rfl] at h
  rw[show sternpostref07_part.fl 8 s2 s3 s4 s5 s8=s8 from by unfold sternpostref07_part.fl;rw[if_neg (show ¬ (8:Int)=2 by decide),if_neg (show ¬ (8:Int)=3 by decide),if_neg (show ¬ (8:Int)=4 by decide),if_neg (show ¬ (8:Int)=5 by decide),if_pos rfl]] at h
  rw[decide_eq_false (show ¬ (8:Int)=2 by decide)];rw[decide_eq_false (show ¬ (8:Int)=3 by decide)];rw[decide_eq_false (show ¬ (8:Int)=4 by decide)];rw[decide_eq_false (show ¬ (8:Int)=5 by decide)];rw[decide_eq_true (show (8:Int)=8 by decide)];simp only[Bool.or_false,Bool.or_true]
  by_cases hs:s8=true
  ·rw[if_pos hs] at h
   simp only[Option.some.injEq,Prod.mk.injEq] at h
   obtain⟨rfl,rfl,rfl,rfl,rfl,rfl,rfl,rfl,rfl⟩:=h
   have:=sternpostref07_part.twice8 g q m sc st ec sd sk sp l v s s2 s3 s4 s5 s8 w0 w hB hg hq hqg hb hR ha hs
   simp only[hs] at this ⊢
   exact this
  ·rw[if_neg hs] at h
   have hs:=Bool.eq_false_iff.mpr hs
   split at h
   ·rename_i hc
    obtain⟨n,hn,h⟩:=Option.bind_eq_some_iff.mp h
    obtain⟨n2,hn2,h⟩:=Option.bind_eq_some_iff.mp h
    simp only[Option.some.injEq,Prod.mk.injEq] at h
    obtain⟨rfl,rfl,rfl,rfl,rfl,rfl,rfl,rfl,rfl⟩:=h
    exact sternpostref07_part.stamps g q m sc st ec sd sk sp l v s s2 s3 s4 s5 s8 w0 w hB hg hq hqg hb hR ha hs hc k n n2 hn hn2
   ·rename_i hc
    simp only[Option.some.injEq,Prod.mk.injEq] at h
    obtain⟨rfl,rfl,rfl,rfl,rfl,rfl,rfl,rfl,rfl⟩:=h
    exact sternpostref07_part.long8 g q m sc st ec sd sk sp l v s s2 s3 s4 s5 s8 w0 w hB hg hq hqg hb hR ha hs hc
 rw[if_neg c2,if_neg c3,if_neg c4,if_neg c5,if_neg c8] at h
 simp only[Option.some.injEq,Prod.mk.injEq] at h
 obtain⟨rfl,rfl,rfl,rfl,rfl,rfl,rfl,rfl,rfl⟩:=h
 rw[decide_eq_false c2];rw[decide_eq_false c3];rw[decide_eq_false c4];rw[decide_eq_false c5];rw[decide_eq_false c8];simp only[Bool.or_false]
 exact sternpostref07_part.other g q m sc st ec sd sk sp l v s s2 s3 s4 s5 s8 w0 w hB hg hq hqg hb hR ha kd c2 c3 c4 c5 c8
theorem sternpostref07_part.sl_mono:∀ k s i l,LeO (sternpostref07_part.sl k s i l) (sternpostref07_part.sl (k+1) s i l)
 | 0=>fun _ _ _ r h=>by simp[sternpostref07_part.sl] at h
 | k+1=>fun s i l=>by
  unfold sternpostref07_part.sl
  exact LeO.ite (LeO.ite (LeO.bind (sternpostref02_Num.mono _ _) fun _=>LeO.bind (sternpostref02_Num.mono _ _) fun _=>LeO.ite (sternpostref07_part.sl_mono k _ _ _) (LeO.none _)) (LeO.none _)) (LeO.refl _)
theorem sternpostref07_part.mono:∀ k m sc st ec sd sk sp l kd s b,LeO (sternpostref07_part.f k m sc st ec sd sk sp l kd s b) (sternpostref07_part.f (k+1) m sc st ec sd sk sp l kd s b):=by
 intro k m sc st ec sd sk sp l kd s b
 unfold sternpostref07_part.f
 have N:=@sternpostref02_Num.mono
 exact LeO.ite (LeO.ite (LeO.refl _) (LeO.ite (LeO.bind (N _ _) fun _=>LeO.refl _) (LeO.refl _))) (LeO.ite (LeO.refl _) (LeO.ite (LeO.refl _) (LeO.ite (LeO.ite (LeO.refl _) (LeO.ite (LeO.bind (sternpostref07_part.sl_mono k _ _ _) fun _=>LeO.refl _) (LeO.refl _))) (LeO.ite (LeO.ite (LeO.refl _) (LeO.ite (LeO.bind (N _ _) fun _=>LeO.bind (N _ _) fun _=>LeO.refl _) (LeO.refl _))) (LeO.refl _)))))
section
end


end Go.Proofs.Ytakajeoeijnmhaa.PSegReads

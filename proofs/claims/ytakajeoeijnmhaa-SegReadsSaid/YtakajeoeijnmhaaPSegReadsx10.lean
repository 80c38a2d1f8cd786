-- Laid by this claim's own program over the print's words.
import Derived.Maps.OwnOps
import Derived.Maps.Views
import Derived.Test.YtakajeoeijnmhaaPSegReadsx0
import Derived.Test.YtakajeoeijnmhaaPSegReadsx5
import Derived.Test.YtakajeoeijnmhaaPSegReadsx8
import Derived.Test.YtakajeoeijnmhaaPSegReadsx9
namespace Go.Proofs.Ytakajeoeijnmhaa.PSegReads
open Go.RowKit Go.Proofs.YtakajeoeijnmhaaW.PrintWords Go.Proofs.YtakajeoeijnmhaaW.PrintLast Go.Proofs.YtakajeoeijnmhaaW.PrintMore
attribute [local go_sem] max2_int min2_int max_two min_two max_three min_three max_four min_four max_five min_five extract_cut tmod_nat_lit   -- for this text's walks alone
set_option linter.unusedVariables false
set_option linter.unusedSimpArgs false


/-! ### opts_Decode: function 42 (by hand) -/
/-- which kinds were seen, in memory -/
def SeenAt (w:World) (gm n:Nat) (l:List Int):Prop:=∃ D:DataW Unit,w.ownsMap Try.prog 3 (plainElem Try.prog 4) gm n D∧(∃ es,D=.map es)∧∀ x:Int,0≤x→x≤255→D.atKey (.int .i64 x) (.lit (.bool false))=.lit (.bool (decide (x∈l)))
theorem SeenAt.heap {w w':World} {gm n:Nat} {l:List Int} (h:SeenAt w gm n l) (hb:w'.heap[gm]?=w.heap[gm]?):SeenAt w' gm n l:=by
 obtain⟨D,⟨es,clock,h1,F⟩,h2⟩:=h
 exact⟨D,⟨es,clock,hb.trans h1,F⟩,h2⟩
theorem SeenAt.lt {w:World} {gm n:Nat} {l:List Int} (h:SeenAt w gm n l):gm < w.heap.size:=h.choose_spec.1.lt
theorem SeenAt.below {w w':World} {gm n:Nat} {l:List Int} (h:SeenAt w gm n l) (hb:Below w.heap.size w w'):SeenAt w' gm n l:=h.heap (hb.block gm h.lt)
theorem SeenAt.far {w:World} {gm n:Nat} {l:List Int} (h:SeenAt w gm n l) {p:Addr} (hp:gm≠p.block) (u:Value):SeenAt (w.setCell p u) gm n l:=h.heap (Below.heap_setCell w p u gm hp)
theorem SeenAt.made (w:World):SeenAt (w.alloc (.map #[] 0)) w.heap.size 0 []:=⟨.map [],World.ownsMap_made w _ _ _,⟨[],rfl⟩,fun x _ _=>rfl⟩
theorem key_wf {x:Int} (h0:0≤x) (h1:x≤255):(Lit.int .i64 x).wf=true:=by
 have e:(Lit.int .i64 x).wf=decide (IntKind.i64.min≤x∧x≤9223372036854775807):=by simp[Lit.wf]
 have e2:IntKind.i64.min = -9223372036854775808:=by decide
 rw[e,e2];exact decide_eq_true (by omega)
theorem cut_rest (s:ByteArray) (i:Nat):(cutS s i s.size).size=s.size - i:=by simp[cutS,ByteArray.size_extract]
set_option maxRecDepth 100000 in
theorem zero_bool (w:World):(zeroValue 4).run Try.prog w=.ok (.bool false) w:=by kernel_rfl
set_option maxRecDepth 100000 in
theorem SeenAt.look {w:World} {gm n:Nat} {l:List Int} (h:SeenAt w gm n l) (x:Int) (h0:0≤x) (h1:x≤255):(Instr.lookup 78 (.map (some gm)) (.int .i64 x) false).run Try.prog w=.ok (.bool (decide (x∈l))) w:=by
 obtain⟨D,hD,_,hat⟩:=h
 obtain⟨v,ps,hrun,hv⟩:=hD.lookup (Go.Maps.int_keyed Try.underlying3) Try.underlying78 (zero_bool w) (plainElem_bool Try.underlying4 false) (Go.Maps.keyOf_int_mk Try.underlying3 (key_wf h0 h1))
 rw[hat x h0 h1] at hv
 unfold plainElem at hv
 rw[Try.underlying4] at hv
 cases v <;> simp at hv
 rw[hrun,hv.1]
set_option maxRecDepth 100000 in
theorem SeenAt.put {w:World} {gm n:Nat} {l:List Int} (h:SeenAt w gm n l) (x:Int) (h0:0≤x) (h1:x≤255) (hn:n < maxLen):∃ w',(Instr.mapUpdate 78 (.map (some gm)) (.int .i64 x) (.bool true)).run Try.prog w=.ok () w'∧SeenAt w' gm (n+1) (x :: l)∧w.grownBy w' (some gm):=by
 obtain⟨D,hD,⟨es,he⟩,hat⟩:=h
 obtain⟨w',hrun,hown,hg⟩:=hD.update (Go.Maps.int_keyed Try.underlying3) Try.underlying78 hn (Go.Maps.keyOf_int_mk Try.underlying3 (key_wf h0 h1)) (plainElem_bool Try.underlying4 true)
 refine⟨w',hrun,⟨_,hown,?_,fun y hy0 hy1=>?_⟩,hg⟩
 ·subst he;exact⟨_,rfl⟩
 ·by_cases e:y=x
  ·subst e
   rw[Go.Maps.atKey_put_same ⟨es,he⟩ (by trivial)]
   simp
  ·rw[Go.Maps.atKey_put_other (fun hh=>e (by injection hh)),hat y hy0 hy1]
   simp[e]
theorem row_not {w:World} {g:Nat} {v:Value} {t e:TypeId} {cs:Array Value} (h:w.heap[g]?=some (.cells cs t (0,0))) (hR:∀ k,v.ownBlock=some k→∃ cells,w.heap[k]?=some (.cells cells e (0,0))) (hne:t≠e):¬ some g=v.ownBlock:=fun hh=>by
 obtain⟨cells,hc⟩:=hR g hh.symm
 rw[h] at hc
 injection hc with hc
 injection hc with h1 h2 h3
 exact hne h2
theorem SeenAt.not_row {w:World} {gm n:Nat} {l:List Int} {v:Value} {e:TypeId} (h:SeenAt w gm n l) (hR:∀ k,v.ownBlock=some k→∃ cells,w.heap[k]?=some (.cells cells e (0,0))):¬ some gm=v.ownBlock:=fun hh=>by
 obtain⟨D,⟨es,clock,h1,F⟩,h2⟩:=h
 obtain⟨cells,hc⟩:=hR gm hh.symm
 rw[h1] at hc
 injection hc with hc
 cases hc
theorem SeenAt.kept {w w':World} {gm g n:Nat} {l:List Int} {v:Value} {e:TypeId} (h:SeenAt w gm n l) (hk:Kept w w' (fun k=>k=g∨some k=v.ownBlock)) (hne:gm≠g) (hR:∀ k,v.ownBlock=some k→∃ cells,w.heap[k]?=some (.cells cells e (0,0))):SeenAt w' gm n l:=h.heap (hk.2 gm h.lt (fun hh=>hh.elim hne (h.not_row hR)))
def opts_Decode.lp:Nat→ByteArray→List Int→Int→Int→Int→Int→Bool→Bool→Bool→List S73→Option (Option (Int × Int × Int × Int × Bool × Bool × Bool × List S73))
 | 0,_,_,_,_,_,_,_,_,_,_=>none
 | k+1,s,seen,m,sc,st,ec,sd,sk,sp,l =>
  if 0 < (s.size:Int) then if bt s 0=0 then some (some (m,sc,st,ec,sd,sk,sp,l)) else
   if bt s 0=1 then opts_Decode.lp k (cutS s 1 s.size) seen m sc st ec sd sk sp l else
   if (s.size:Int) < 2 then some none else if bt s 1 < 2 then some none else if bt s 1 > (s.size:Int) then some none else
   (opts_known.f k (bt s 0)).bind fun kn=>if (decide (bt s 0∈seen) && kn)=true then some none else
    (opts_read.f k m sc st ec sd sk sp l (bt s 0) (cutS s 2 (bt s 1).toNat)).bind fun r=>if r.2.2.2.2.2.2.2.2=true then opts_Decode.lp k (cutS s (bt s 1).toNat s.size) (bt s 0 :: seen) r.1 r.2.1 r.2.2.1 r.2.2.2.1 r.2.2.2.2.1 r.2.2.2.2.2.1 r.2.2.2.2.2.2.1 r.2.2.2.2.2.2.2.1 else some none
  else some (some (m,sc,st,ec,sd,sk,sp,l))
def opts_Decode.fin (k:Nat) (o:Option (Int × Int × Int × Int × Bool × Bool × Bool × List S73)):Option (Int × Int × Int × Int × Bool × Bool × Bool × List S73 × Int) :=
 match o with
 | none=>some (0,0,0,0,false,false,false,[],70)
 | some o=>(opts_Check.f k o.1 o.2.1 o.2.2.1 o.2.2.2.1 o.2.2.2.2.1 o.2.2.2.2.2.1 o.2.2.2.2.2.2.1 o.2.2.2.2.2.2.2).bind fun c=>if c=0 then some (o.1,o.2.1,o.2.2.1,o.2.2.2.1,o.2.2.2.2.1,o.2.2.2.2.2.1,o.2.2.2.2.2.2.1,o.2.2.2.2.2.2.2,0) else some (0,0,0,0,false,false,false,[],70)
def opts_Decode.f (k:Nat) (a0:ByteArray):Option (Int × Int × Int × Int × Bool × Bool × Bool × List S73 × Int) :=
 if (a0.size:Int) > 40 then some (0,0,0,0,false,false,false,[],70) else (opts_Decode.lp k a0 [] 0 0 0 0 false false false []).bind fun o=>opts_Decode.fin k o
theorem opts_Decode.out8 {w0 W:World} {g:Nat} {t:TypeId} {c0 c1 c2 c3 c4 c5 c6 c7 y0 y1 y2 y3 y4 y5 y6 y7:Value} (ht:t=24) (hB:Below w0.heap.size w0 W) (hg:w0.heap.size≤g) (hb:W.heap[g]?=some (.cells #[c0,c1,c2,c3,c4,c5,c6,c7] t (0,0))) :
  ((((((((W.setCell ⟨g,0,none⟩ y0).setCell ⟨g,1,none⟩ y1).setCell ⟨g,2,none⟩ y2).setCell ⟨g,3,none⟩ y3).setCell ⟨g,4,none⟩ y4).setCell ⟨g,5,none⟩ y5).setCell ⟨g,6,none⟩ y6).setCell ⟨g,7,none⟩ y7).heap[g]?=some (.cells #[y0,y1,y2,y3,y4,y5,y6,y7] t (0,0))∧Below w0.heap.size w0 ((((((((W.setCell ⟨g,0,none⟩ y0).setCell ⟨g,1,none⟩ y1).setCell ⟨g,2,none⟩ y2).setCell ⟨g,3,none⟩ y3).setCell ⟨g,4,none⟩ y4).setCell ⟨g,5,none⟩ y5).setCell ⟨g,6,none⟩ y6).setCell ⟨g,7,none⟩ y7)∧∀ (v:Value) (l:List S73) ,Kd.R k73 73 W w0.heap.size (fun _=>True) v l→Kd.R k73 73 ((((((((W.setCell ⟨g,0,none⟩ y0).setCell ⟨g,1,none⟩ y1).setCell ⟨g,2,none⟩ y2).setCell ⟨g,3,none⟩ y3).setCell ⟨g,4,none⟩ y4).setCell ⟨g,5,none⟩ y5).setCell ⟨g,6,none⟩ y6).setCell ⟨g,7,none⟩ y7) w0.heap.size (fun _=>True) v l:=by
 refine⟨by refine kP (cs:=#[y0,y1,y2,y3,y4,y5,y6,c7]) ?_ 7 _ rfl;refine kP (cs:=#[y0,y1,y2,y3,y4,y5,c6,c7]) ?_ 6 _ rfl;refine kP (cs:=#[y0,y1,y2,y3,y4,c5,c6,c7]) ?_ 5 _ rfl;refine kP (cs:=#[y0,y1,y2,y3,c4,c5,c6,c7]) ?_ 4 _ rfl;refine kP (cs:=#[y0,y1,y2,c3,c4,c5,c6,c7]) ?_ 3 _ rfl;refine kP (cs:=#[y0,y1,c2,c3,c4,c5,c6,c7]) ?_ 2 _ rfl;refine kP (cs:=#[y0,c1,c2,c3,c4,c5,c6,c7]) ?_ 1 _ rfl;refine kP (cs:=#[c0,c1,c2,c3,c4,c5,c6,c7]) ?_ 0 _ rfl;exact hb,bS (bS (bS (bS (bS (bS (bS (bS (hB) hg) hg) hg) hg) hg) hg) hg) hg,fun v l h=>?_⟩
 subst ht
 have h1:=Kd.R_types h hb (by decide)
 exact Kd.R_mono (Kd.R_far (p:=⟨g,7,none⟩) (Kd.R_far (p:=⟨g,6,none⟩) (Kd.R_far (p:=⟨g,5,none⟩) (Kd.R_far (p:=⟨g,4,none⟩) (Kd.R_far (p:=⟨g,3,none⟩) (Kd.R_far (p:=⟨g,2,none⟩) (Kd.R_far (p:=⟨g,1,none⟩) (Kd.R_far (p:=⟨g,0,none⟩) (h1) (fun _ hk=>hk.2) y0) (fun _ hk=>hk.2) y1) (fun _ hk=>hk.2) y2) (fun _ hk=>hk.2) y3) (fun _ hk=>hk.2) y4) (fun _ hk=>hk.2) y5) (fun _ hk=>hk.2) y6) (fun _ hk=>hk.2) y7) (fun _ _=>trivial)
set_option maxHeartbeats 4000000 in
set_option maxRecDepth 100000 in
theorem opts_Decode.calls (k:Nat) (a0:ByteArray) (r1 r2 r3 r4:Int) (r5 r6 r7:Bool) (r8:List S73) (r9:Int) (w:World) (h:opts_Decode.f k a0=some (r1,r2,r3,r4,r5,r6,r7,r8,r9)) :
  Calls Try.prog 42 #[.string a0] w fun e w'=>∃ v7_:Value,e=.returned (.tuple #[.agg #[.int .i64 r1,.int .i64 r2,.int .i64 r3,.int .i64 r4,.bool r5,.bool r6,.bool r7,v7_],.int .i64 r9])∧Kd.R k73 73 w' w.heap.size (fun _=>True) v7_ r8∧Below w.heap.size w w':=by
 have hu24:=Try.underlying24
 have hmm:=@run_makeMap Try.prog
 unfold opts_Decode.f at h
 by_cases c1:(a0.size:Int) > 40
 ·rw[if_pos c1] at h
  simp only[Option.some.injEq,Prod.mk.injEq] at h
  obtain⟨rfl,rfl,rfl,rfl,rfl,rfl,rfl,rfl,rfl⟩:=h
  have c1b:=decide_eq_true c1
  clear c1
  go_enter Try.func42,Try.ntmps42
  go_wp2_with (first|((with_reducible refine gate_dst (N:=2) rfl ?_);refine box_event ?hg (N:=2) ?hd (cs:=#[.int .i64 0,.int .i64 0,.int .i64 0,.int .i64 0,.bool false,.bool false,.bool false,.slice none 0 0]) (t:=24) ?hr ?_;(case hd=>rfl);(case hg=>rfl);(case hr=>first|(go_simp;done)|(go_simp;rfl));intro gr hgr w1 hbox hb1;have H1:=mkA hb1;have GR:=mkA (show w.heap.size≤gr by omega);have BR:=mkA hbox;obtain⟨hrc0,hrc1,hrc2,hrc3,hrc4,hrc5,hrc6,hrc7⟩:=blk_cells8 hbox;obtain⟨hrf0,hrf1,hrf2,hrf3,hrf4,hrf5,hrf6,hrf7⟩:=blk_frozens8 hbox;clear hbox hb1 hgr))
  refine bodyPost_ret (results_ct rfl _ _ gr 24 #[.int .i64 0,.int .i64 0,.int .i64 0,.int .i64 0,.bool false,.bool false,.bool false,.slice none 0 0] (0,0) _ rfl (by(with_reducible repeat(first|apply kN|apply kD|apply kA|apply kP));exact BR.out;all_goals (simp only[List.setIfInBounds_toArray,List.set_cons_zero,List.set_cons_succ];try rfl)) Try.underlying24 rfl (by kernel_rfl)) rfl ?_
  exact⟨_,rfl,Kd.R_nil _ _ _ _ _,by repeat(first|(with_reducible first|exact H1.out|refine bS ?_ GR.out)|exact H1.out)⟩
 ·rw[if_neg c1] at h
  have c1b:=decide_eq_false c1
  obtain⟨oo,hlp,hfin⟩:=Option.bind_eq_some_iff.mp h
  have HLP:=mkA hlp
  have HF:=mkA hfin
  have HN:=mkA (show 0+a0.size≤40 by omega)
  clear c1 h hlp hfin
  go_enter Try.func42,Try.ntmps42
  go_wp2_with (first|((with_reducible refine gate_dst (N:=2) rfl ?_);refine box_event ?hg (N:=2) ?hd (cs:=#[.int .i64 0,.int .i64 0,.int .i64 0,.int .i64 0,.bool false,.bool false,.bool false,.slice none 0 0]) (t:=24) ?hr ?_;(case hd=>rfl);(case hg=>rfl);(case hr=>first|(go_simp;done)|(go_simp;rfl));intro gr hgr w1 hbox hb1;have H1:=mkA hb1;have GR:=mkA (show w.heap.size≤gr by omega);have BR:=mkA hbox;obtain⟨hrc0,hrc1,hrc2,hrc3,hrc4,hrc5,hrc6,hrc7⟩:=blk_cells8 hbox;obtain⟨hrf0,hrf1,hrf2,hrf3,hrf4,hrf5,hrf6,hrf7⟩:=blk_frozens8 hbox;clear hbox hb1 hgr))
  have hsz:(w1.alloc (.cells #[.int .i64 0,.int .i64 0,.int .i64 0,.int .i64 0,.bool false,.bool false,.bool false,.slice none 0 0] 24)).heap.size=w1.heap.size+1:=by show (w1.heap.push _).size=_;rw[Array.size_push]
  have GO:=mkA (bZ H1.out)
  have NE1:=mkA (Nat.ne_of_gt (blk_lt BR.out))
  have LT1:=mkA (blk_lt BR.out)
  have OA0:OptAt ((w1.alloc (.cells #[.int .i64 0,.int .i64 0,.int .i64 0,.int .i64 0,.bool false,.bool false,.bool false,.slice none 0 0] 24)).alloc (.map #[] 0)) w1.heap.size 0 0 0 0 false false false (.slice none 0 0):=kA (blk_new w1 _) _
  have SA0:=SeenAt.made (w1.alloc (.cells #[.int .i64 0,.int .i64 0,.int .i64 0,.int .i64 0,.bool false,.bool false,.bool false,.slice none 0 0] 24))
  have RA0:Kd.R k73 73 ((w1.alloc (.cells #[.int .i64 0,.int .i64 0,.int .i64 0,.int .i64 0,.bool false,.bool false,.bool false,.slice none 0 0] 24)).alloc (.map #[] 0)) w.heap.size (fun _=>True) (.slice none 0 0) []:=Kd.R_nil _ _ _ _ _
  have HB0:Below w.heap.size w ((w1.alloc (.cells #[.int .i64 0,.int .i64 0,.int .i64 0,.int .i64 0,.bool false,.bool false,.bool false,.slice none 0 0] 24)).alloc (.map #[] 0)):=bA (bA H1.out _) _
  have BR0:=kA (kA BR.out (.cells #[.int .i64 0,.int .i64 0,.int .i64 0,.int .i64 0,.bool false,.bool false,.bool false,.slice none 0 0] 24)) (.map #[] 0)
  rw[hsz] at SA0
  have OA:=mkA OA0;have SA:=mkA SA0;have RA:=mkA RA0;have HB:=mkA HB0;clear BR;have BR:=mkA BR0
  clear OA0 SA0 RA0 HB0 BR0 hsz H1 hrc0 hrc1 hrc2 hrc3 hrc4 hrc5 hrc6 hrc7 hrf0 hrf1 hrf2 hrf3 hrf4 hrf5 hrf6 hrf7
  generalize (w1.alloc (.cells #[.int .i64 0,.int .i64 0,.int .i64 0,.int .i64 0,.bool false,.bool false,.bool false,.slice none 0 0] 24)).alloc (.map #[] 0)=W1 at OA SA RA HB BR ⊢
  generalize w1.heap.size=go at OA SA GO NE1 LT1 ⊢
  go_loopg [0] k (fun kq v0 W=>∃ (x0:ByteArray) (seen:List Int) (n:Nat) (m sc st ec:Int) (sd sk sp:Bool) (l:List S73) (v:Value),v0=.string x0∧Aside0 (opts_Decode.lp kq x0 seen m sc st ec sd sk sp l=some oo)∧Aside0 (kq≤k)∧Aside0 (n+x0.size≤40)∧Aside0 (SeenAt W (go+1) n seen)∧Aside0 (OptAt W go m sc st ec sd sk sp v)∧Aside0 (Kd.R k73 73 W w.heap.size (fun _=>True) v l)∧Aside0 (Below w.heap.size w W)∧Aside0 (W.heap[gr]?=some (.cells #[.int .i64 0,.int .i64 0,.int .i64 0,.int .i64 0,.bool false,.bool false,.bool false,.slice none 0 0] 24 (0,0))))
  case atStart=>exact⟨a0,[],0,0,0,0,0,false,false,false,[],.slice none 0 0,rfl,HLP,⟨Nat.le_refl _⟩,HN,SA,OA,RA,HB,BR⟩
  case round =>
   clear HLP HN SA OA RA HB BR c1b
   obtain⟨x0,seen,n,m,sc,st,ec,sd,sk,sp,l,v,rfl,HA,HK1,HN,SA,OA,RA,HB,BR⟩:=hrel
   cases gk with
   | zero=>exact absurd HA.out (by simp[opts_Decode.lp])
   | succ k1 =>
    have H:=HA.out
    clear HA
    simp only[opts_Decode.lp] at H
    obtain⟨Av,cv,hv,hlv,hCv⟩:=Kd.R_reads RA.out
    generalize hln:l.length=ln at hv hlv
    subst hv
    have LN:=mkA hln
    have HLV:=mkA hlv
    have HCV:=mkA hCv
    clear hln hlv hCv
    have hx0:∀ h:0 < x0.size,((x0[0]'h).toNat:Int)=bt x0 0:=bt_at x0 0
    have hx1:∀ h:1 < x0.size,((x0[1]'h).toNat:Int)=bt x0 1:=bt_at x0 1
    obtain⟨hrc0,hrc1,hrc2,hrc3,hrc4,hrc5,hrc6,hrc7⟩:=blk_cells8 BR.out
    obtain⟨hrf0,hrf1,hrf2,hrf3,hrf4,hrf5,hrf6,hrf7⟩:=blk_frozens8 BR.out
    obtain⟨hoc0,hoc1,hoc2,hoc3,hoc4,hoc5,hoc6,hoc7⟩:=blk_cells8 OA.out
    obtain⟨hof0,hof1,hof2,hof3,hof4,hof5,hof6,hof7⟩:=blk_frozens8 OA.out
    have hne:=NE1.out
    have hne2:=Ne.symm NE1.out
    by_cases c0:0 < (x0.size:Int)
    ·rw[if_pos c0] at H
     have c0b:=decide_eq_true c0
     have c0n:(0 < x0.size)=True:=eq_true (by omega)
     have b0:0≤bt x0 0∧bt x0 0≤255:=bt_range x0 0
     have hw0:wrap64 (bt x0 0)=bt x0 0:=by unfold wrap64;omega
     by_cases z0:bt x0 0=0
     ·rw[if_pos z0] at H
      have z0b:(bt x0 0 != 0)=false:=bne_eq_false_iff_eq.mpr z0
      obtain rfl:=Option.some.inj H
      clear H z0 b0 c0
      obtain⟨cc,hcc,hff⟩:=Option.bind_eq_some_iff.mp (show (opts_Check.f k m sc st ec sd sk sp l).bind (fun c=>if c=0 then some (m,sc,st,ec,sd,sk,sp,l,(0:Int)) else some (0,0,0,0,false,false,false,[],70))=some (r1,r2,r3,r4,r5,r6,r7,r8,r9) from HF.out)
      have HFF:=mkA hff
      have HC:=mkA hcc
      clear hff hcc
      go_wp2_with fail
      have hck:=opts_Check.calls k m sc st ec sd sk sp Av cv l cc wr (Kd.C_below HCV.out (Below.refl _ _)) (by rw[LN.out];exact HLV.out) HC.out
      rw[LN.out] at hck
      refine hck.mono ?_
      rintro e w2 ⟨rfl,hb2⟩
      clear hrc0 hrc1 hrc2 hrc3 hrc4 hrc5 hrc6 hrc7 hrf0 hrf1 hrf2 hrf3 hrf4 hrf5 hrf6 hrf7 hoc0 hoc1 hoc2 hoc3 hoc4 hoc5 hoc6 hoc7 hof0 hof1 hof2 hof3 hof4 hof5 hof6 hof7 hck
      have BR2:=mkA (kB BR.out hb2);have OA2:=mkA (kB OA.out hb2);have HB2:=mkA (bT HB.out hb2);have RA2:=mkA (Kd.R_below RA.out hb2)
      obtain⟨hrc0,hrc1,hrc2,hrc3,hrc4,hrc5,hrc6,hrc7⟩:=blk_cells8 BR2.out
      obtain⟨hrf0,hrf1,hrf2,hrf3,hrf4,hrf5,hrf6,hrf7⟩:=blk_frozens8 BR2.out
      obtain⟨hoc0,hoc1,hoc2,hoc3,hoc4,hoc5,hoc6,hoc7⟩:=blk_cells8 OA2.out
      obtain⟨hof0,hof1,hof2,hof3,hof4,hof5,hof6,hof7⟩:=blk_frozens8 OA2.out
      clear hb2
      by_cases ce:cc=0
      ·have ceb:(cc != 0)=false:=bne_eq_false_iff_eq.mpr ce
       have h:=HFF.out
       rw[if_pos ce] at h
       simp only[Option.some.injEq,Prod.mk.injEq] at h
       obtain⟨rfl,rfl,rfl,rfl,rfl,rfl,rfl,rfl,rfl⟩:=h
       clear ce HFF HF
       have OUT:=mkA (opts_Decode.out8 (y0:=.int .i64 m) (y1:=.int .i64 sc) (y2:=.int .i64 st) (y3:=.int .i64 ec) (y4:=.bool sd) (y5:=.bool sk) (y6:=.bool sp) (y7:=.slice Av ln cv) rfl HB2.out GR.out BR2.out)
       go_wp2
       refine bodyPost_ret (results_ct rfl _ _ gr 24 #[.int .i64 m,.int .i64 sc,.int .i64 st,.int .i64 ec,.bool sd,.bool sk,.bool sp,.slice Av ln cv] (0,0) _ rfl OUT.out.1 Try.underlying24 rfl (by kernel_rfl)) rfl ?_
       exact⟨_,rfl,OUT.out.2.2 _ _ RA2.out,OUT.out.2.1⟩
      ·have ceb:(cc != 0)=true:=bne_iff_ne.mpr ce
       have h:=HFF.out
       rw[if_neg ce] at h
       simp only[Option.some.injEq,Prod.mk.injEq] at h
       obtain⟨rfl,rfl,rfl,rfl,rfl,rfl,rfl,rfl,rfl⟩:=h
       clear ce HFF HF
       have OUT:=mkA (opts_Decode.out8 (y0:=.int .i64 0) (y1:=.int .i64 0) (y2:=.int .i64 0) (y3:=.int .i64 0) (y4:=.bool false) (y5:=.bool false) (y6:=.bool false) (y7:=.slice none 0 0) rfl HB2.out GR.out BR2.out)
       go_wp2
       refine bodyPost_ret (results_ct rfl _ _ gr 24 #[.int .i64 0,.int .i64 0,.int .i64 0,.int .i64 0,.bool false,.bool false,.bool false,.slice none 0 0] (0,0) _ rfl OUT.out.1 Try.underlying24 rfl (by kernel_rfl)) rfl ?_
       exact⟨_,rfl,Kd.R_nil _ _ _ _ _,OUT.out.2.1⟩
     ·rw[if_neg z0] at H
      have z0b:(bt x0 0 != 0)=true:=bne_iff_ne.mpr z0
      by_cases z1:bt x0 0=1
      ·rw[if_pos z1] at H
       have z1b:(bt x0 0 == 1)=true:=beq_iff_eq.mpr z1
       have H':=mkA H
       clear H z0 b0
       go_wp2
       go_roundg k1
       case measure=>have:=HK1.out;omega
       case rel=>exact⟨cutS x0 1 x0.size,seen,n,m,sc,st,ec,sd,sk,sp,l,.slice Av ln cv,rfl,H',⟨by have:=HK1.out;omega⟩,⟨by have:=HN.out;have:=cut_rest x0 1;omega⟩,SA,OA,RA,HB,BR⟩
      ·rw[if_neg z1] at H
       have z1b:(bt x0 0 == 1)=false:=beq_eq_false_iff_ne.mpr z1
       by_cases t2:(x0.size:Int) < 2
       ·rw[if_pos t2] at H
        have t2b:decide ((x0.size:Int) < 2)=true:=decide_eq_true t2
        clear z0 z1 b0
        obtain rfl:=Option.some.inj H
        clear H
        have HFN:=HF.out
        simp only[opts_Decode.fin,Option.some.injEq,Prod.mk.injEq] at HFN
        obtain⟨rfl,rfl,rfl,rfl,rfl,rfl,rfl,rfl,rfl⟩:=HFN
        clear HF
        have OUT:=mkA (opts_Decode.out8 (y0:=.int .i64 0) (y1:=.int .i64 0) (y2:=.int .i64 0) (y3:=.int .i64 0) (y4:=.bool false) (y5:=.bool false) (y6:=.bool false) (y7:=.slice none 0 0) rfl HB.out GR.out BR.out)
        go_wp2
        refine bodyPost_ret (results_ct rfl _ _ gr 24 #[.int .i64 0,.int .i64 0,.int .i64 0,.int .i64 0,.bool false,.bool false,.bool false,.slice none 0 0] (0,0) _ rfl OUT.out.1 Try.underlying24 rfl (by kernel_rfl)) rfl ?_
        exact⟨_,rfl,Kd.R_nil _ _ _ _ _,OUT.out.2.1⟩
       ·rw[if_neg t2] at H
        have t2b:decide ((x0.size:Int) < 2)=false:=decide_eq_false t2
        have c1n:(1 < x0.size)=True:=eq_true (by omega)
        have b1:0≤bt x0 1∧bt x0 1≤255:=bt_range x0 1
        have hw1:wrap64 (bt x0 1)=bt x0 1:=by unfold wrap64;omega
        by_cases t3:bt x0 1 < 2
        ·rw[if_pos t3] at H
         have t3b:decide (bt x0 1 < 2)=true:=decide_eq_true t3
         clear z0 z1 b0 b1
         obtain rfl:=Option.some.inj H
         clear H
         have HFN:=HF.out
         simp only[opts_Decode.fin,Option.some.injEq,Prod.mk.injEq] at HFN
         obtain⟨rfl,rfl,rfl,rfl,rfl,rfl,rfl,rfl,rfl⟩:=HFN
         clear HF
         have OUT:=mkA (opts_Decode.out8 (y0:=.int .i64 0) (y1:=.int .i64 0) (y2:=.int .i64 0) (y3:=.int .i64 0) (y4:=.bool false) (y5:=.bool false) (y6:=.bool false) (y7:=.slice none 0 0) rfl HB.out GR.out BR.out)
         go_wp2
         refine bodyPost_ret (results_ct rfl _ _ gr 24 #[.int .i64 0,.int .i64 0,.int .i64 0,.int .i64 0,.bool false,.bool false,.bool false,.slice none 0 0] (0,0) _ rfl OUT.out.1 Try.underlying24 rfl (by kernel_rfl)) rfl ?_
         exact⟨_,rfl,Kd.R_nil _ _ _ _ _,OUT.out.2.1⟩
        ·rw[if_neg t3] at H
         have t3b:decide (bt x0 1 < 2)=false:=decide_eq_false t3
         by_cases t4:bt x0 1 > (x0.size:Int)
         ·rw[if_pos t4] at H
          have t4b:decide ((x0.size:Int) < bt x0 1)=true:=decide_eq_true t4
          clear z0 z1 b0 b1
          obtain rfl:=Option.some.inj H
          clear H
          have HFN:=HF.out
          simp only[opts_Decode.fin,Option.some.injEq,Prod.mk.injEq] at HFN
          obtain⟨rfl,rfl,rfl,rfl,rfl,rfl,rfl,rfl,rfl⟩:=HFN
          clear HF
          have OUT:=mkA (opts_Decode.out8 (y0:=.int .i64 0) (y1:=.int .i64 0) (y2:=.int .i64 0) (y3:=.int .i64 0) (y4:=.bool false) (y5:=.bool false) (y6:=.bool false) (y7:=.slice none 0 0) rfl HB.out GR.out BR.out)
          go_wp2
          refine bodyPost_ret (results_ct rfl _ _ gr 24 #[.int .i64 0,.int .i64 0,.int .i64 0,.int .i64 0,.bool false,.bool false,.bool false,.slice none 0 0] (0,0) _ rfl OUT.out.1 Try.underlying24 rfl (by kernel_rfl)) rfl ?_
          exact⟨_,rfl,Kd.R_nil _ _ _ _ _,OUT.out.2.1⟩
         ·rw[if_neg t4] at H
          have t4b:decide ((x0.size:Int) < bt x0 1)=false:=decide_eq_false t4
          obtain⟨kn,hkn,H⟩:=Option.bind_eq_some_iff.mp H
          have HKN:=mkA hkn
          have hlook:=SeenAt.look SA.out (bt x0 0) b0.1 b0.2
          clear hkn
          by_cases hsn:bt x0 0∈seen
          ·rw[decide_eq_true hsn] at hlook
           simp only[decide_eq_true hsn,Bool.true_and] at H
           have H':=mkA H
           clear H z0 z1
           go_wp2_with fail
           refine(opts_known.calls k1 (bt x0 0) kn _ HKN.out).mono ?_
           rintro e w2 ⟨rfl,hd⟩
           have H:=H'.out
           clear H' hlook
           have hb2:Below wr.heap.size wr w2:=by obtain⟨nd,rfl⟩:=hd;exact bN (Below.refl _ _) nd
           have n0_:=mkA (kB BR.out hb2);have n1_:Aside0 (OptAt w2 go m sc st ec sd sk sp (.slice Av ln cv)):=mkA (kB OA.out hb2);have n2_:=mkA (bT HB.out hb2);have n3_:=mkA (Kd.R_below RA.out hb2);have n4_:=mkA (SeenAt.below SA.out hb2)
           clear BR OA HB RA SA hrc0 hrc1 hrc2 hrc3 hrc4 hrc5 hrc6 hrc7 hrf0 hrf1 hrf2 hrf3 hrf4 hrf5 hrf6 hrf7 hoc0 hoc1 hoc2 hoc3 hoc4 hoc5 hoc6 hoc7 hof0 hof1 hof2 hof3 hof4 hof5 hof6 hof7 hb2 hd
           have BR:=n0_;have OA:=n1_;have HB:=n2_;have RA:=n3_;have SA:=n4_
           clear n0_ n1_ n2_ n3_ n4_
           obtain⟨hrc0,hrc1,hrc2,hrc3,hrc4,hrc5,hrc6,hrc7⟩:=blk_cells8 BR.out
           obtain⟨hrf0,hrf1,hrf2,hrf3,hrf4,hrf5,hrf6,hrf7⟩:=blk_frozens8 BR.out
           cases kn with
           | true =>
            rw[if_pos rfl] at H
            obtain rfl:=Option.some.inj H
            clear H
            have HFN:=HF.out
            simp only[opts_Decode.fin,Option.some.injEq,Prod.mk.injEq] at HFN
            obtain⟨rfl,rfl,rfl,rfl,rfl,rfl,rfl,rfl,rfl⟩:=HFN
            clear HF
            have OUT:=mkA (opts_Decode.out8 (y0:=.int .i64 0) (y1:=.int .i64 0) (y2:=.int .i64 0) (y3:=.int .i64 0) (y4:=.bool false) (y5:=.bool false) (y6:=.bool false) (y7:=.slice none 0 0) rfl HB.out GR.out BR.out)
            go_wp2
            refine bodyPost_ret (results_ct rfl _ _ gr 24 #[.int .i64 0,.int .i64 0,.int .i64 0,.int .i64 0,.bool false,.bool false,.bool false,.slice none 0 0] (0,0) _ rfl OUT.out.1 Try.underlying24 rfl (by kernel_rfl)) rfl ?_
            exact⟨_,rfl,Kd.R_nil _ _ _ _ _,OUT.out.2.1⟩
           | false =>
            rw[if_neg (by decide)] at H
            obtain⟨w3,hput,hsa3,hgrown⟩:=SeenAt.put SA.out (bt x0 0) b0.1 b0.2 (Nat.lt_of_le_of_lt (by have:=HN.out;omega:n≤40) (by decide +kernel))
            have HT:=mkA (Kd.R_typed RA.out)
            have SA3:=mkA hsa3
            have OA3:Aside0 (OptAt w3 go m sc st ec sd sk sp (.slice Av ln cv)):=mkA (blk_grown OA.out hgrown (by simp))
            have BR3:=mkA (blk_grown BR.out hgrown (by have:=LT1.out;simp;omega))
            have HB3:=mkA (Below.grown HB.out hgrown (bZ HB.out) (fun k e=>by have:=GO.out;cases e;omega))
            have RA3:=mkA (Kd.R_grown2 RA.out rfl hgrown (fun k e=>by cases e;exact SeenAt.not_row SA.out HT.out))
            obtain⟨⟨m',sc',st',ec',sd',sk',sp',l',rr⟩,hrd,H⟩:=Option.bind_eq_some_iff.mp H
            have HRD:=mkA hrd
            have H':=mkA H
            clear H hrd hsa3 hgrown HT BR OA HB RA SA hrc0 hrc1 hrc2 hrc3 hrc4 hrc5 hrc6 hrc7 hrf0 hrf1 hrf2 hrf3 hrf4 hrf5 hrf6 hrf7
            (try clear hoc0 hoc1 hoc2 hoc3 hoc4 hoc5 hoc6 hoc7 hof0 hof1 hof2 hof3 hof4 hof5 hof6 hof7)
            go_wp2_with fail
            refine(opts_read.calls k1 go m sc st ec sd sk sp l (.slice Av ln cv) (bt x0 0) (cutS x0 2 (bt x0 1).toNat) m' sc' st' ec' sd' sk' sp' l' rr w w3 HB3.out GO.out OA3.out RA3.out HRD.out).mono ?_
            rintro e w4 ⟨rfl,hB4,hK4,v',hO4,_,hR4⟩
            have HT:=mkA (Kd.R_typed RA3.out)
            have BR4:=mkA ((hK4.2 gr (blk_lt BR3.out) (fun hh=>hh.elim (fun e=>NE1.out e.symm) (row_not BR3.out HT.out (by decide)))).trans BR3.out)
            have SA4:=mkA (SeenAt.kept SA3.out hK4 (by omega) HT.out)
            have OA4:=mkA hO4;have RA4:=mkA hR4;have HB4:=mkA hB4
            clear hB4 hK4 hO4 hR4 HT BR3 SA3 OA3 RA3 HB3 HRD hput
            have H:=H'.out
            clear H'
            obtain⟨hrc0,hrc1,hrc2,hrc3,hrc4,hrc5,hrc6,hrc7⟩:=blk_cells8 BR4.out
            obtain⟨hrf0,hrf1,hrf2,hrf3,hrf4,hrf5,hrf6,hrf7⟩:=blk_frozens8 BR4.out
            cases rr with
            | true =>
             rw[if_pos rfl] at H
             have H':=mkA H
             clear H
             go_wp2
             go_roundg k1
             case measure=>have:=HK1.out;omega
             case rel=>exact⟨cutS x0 (bt x0 1).toNat x0.size,bt x0 0 :: seen,n+1,m',sc',st',ec',sd',sk',sp',l',v',rfl,H',⟨by have:=HK1.out;omega⟩,⟨by have:=HN.out;have:=cut_rest x0 (bt x0 1).toNat;omega⟩,SA4,OA4,RA4,HB4,BR4⟩
            | false =>
             rw[if_neg (by decide)] at H
             have HB:=HB4;have BR:=BR4
             clear HB4 BR4
             obtain rfl:=Option.some.inj H
             clear H
             have HFN:=HF.out
             simp only[opts_Decode.fin,Option.some.injEq,Prod.mk.injEq] at HFN
             obtain⟨rfl,rfl,rfl,rfl,rfl,rfl,rfl,rfl,rfl⟩:=HFN
             clear HF
             have OUT:=mkA (opts_Decode.out8 (y0:=.int .i64 0) (y1:=.int .i64 0) (y2:=.int .i64 0) (y3:=.int .i64 0) (y4:=.bool false) (y5:=.bool false) (y6:=.bool false) (y7:=.slice none 0 0) rfl HB.out GR.out BR.out)
             go_wp2
             refine bodyPost_ret (results_ct rfl _ _ gr 24 #[.int .i64 0,.int .i64 0,.int .i64 0,.int .i64 0,.bool false,.bool false,.bool false,.slice none 0 0] (0,0) _ rfl OUT.out.1 Try.underlying24 rfl (by kernel_rfl)) rfl ?_
             exact⟨_,rfl,Kd.R_nil _ _ _ _ _,OUT.out.2.1⟩
          ·rw[decide_eq_false hsn] at hlook
           simp only[decide_eq_false hsn,Bool.false_and] at H
           rw[if_neg (by decide)] at H
           obtain⟨w3,hput,hsa3,hgrown⟩:=SeenAt.put SA.out (bt x0 0) b0.1 b0.2 (Nat.lt_of_le_of_lt (by have:=HN.out;omega:n≤40) (by decide +kernel))
           have HT:=mkA (Kd.R_typed RA.out)
           have SA3:=mkA hsa3
           have OA3:Aside0 (OptAt w3 go m sc st ec sd sk sp (.slice Av ln cv)):=mkA (blk_grown OA.out hgrown (by simp))
           have BR3:=mkA (blk_grown BR.out hgrown (by have:=LT1.out;simp;omega))
           have HB3:=mkA (Below.grown HB.out hgrown (bZ HB.out) (fun k e=>by have:=GO.out;cases e;omega))
           have RA3:=mkA (Kd.R_grown2 RA.out rfl hgrown (fun k e=>by cases e;exact SeenAt.not_row SA.out HT.out))
           obtain⟨⟨m',sc',st',ec',sd',sk',sp',l',rr⟩,hrd,H⟩:=Option.bind_eq_some_iff.mp H
           have HRD:=mkA hrd
           have H':=mkA H
           clear H hrd hsa3 hgrown HT BR OA HB RA SA hrc0 hrc1 hrc2 hrc3 hrc4 hrc5 hrc6 hrc7 hrf0 hrf1 hrf2 hrf3 hrf4 hrf5 hrf6 hrf7
           (try clear hoc0 hoc1 hoc2 hoc3 hoc4 hoc5 hoc6 hoc7 hof0 hof1 hof2 hof3 hof4 hof5 hof6 hof7)
           go_wp2_with fail
           refine(opts_read.calls k1 go m sc st ec sd sk sp l (.slice Av ln cv) (bt x0 0) (cutS x0 2 (bt x0 1).toNat) m' sc' st' ec' sd' sk' sp' l' rr w w3 HB3.out GO.out OA3.out RA3.out HRD.out).mono ?_
           rintro e w4 ⟨rfl,hB4,hK4,v',hO4,_,hR4⟩
           have HT:=mkA (Kd.R_typed RA3.out)
           have BR4:=mkA ((hK4.2 gr (blk_lt BR3.out) (fun hh=>hh.elim (fun e=>NE1.out e.symm) (row_not BR3.out HT.out (by decide)))).trans BR3.out)
           have SA4:=mkA (SeenAt.kept SA3.out hK4 (by omega) HT.out)
           have OA4:=mkA hO4;have RA4:=mkA hR4;have HB4:=mkA hB4
           clear hB4 hK4 hO4 hR4 HT BR3 SA3 OA3 RA3 HB3 HRD hput
           have H:=H'.out
           clear H'
           obtain⟨hrc0,hrc1,hrc2,hrc3,hrc4,hrc5,hrc6,hrc7⟩:=blk_cells8 BR4.out
           obtain⟨hrf0,hrf1,hrf2,hrf3,hrf4,hrf5,hrf6,hrf7⟩:=blk_frozens8 BR4.out
           cases rr with
           | true =>
            rw[if_pos rfl] at H
            have H':=mkA H
            clear H
            go_wp2
            go_roundg k1
            case measure=>have:=HK1.out;omega
            case rel=>exact⟨cutS x0 (bt x0 1).toNat x0.size,bt x0 0 :: seen,n+1,m',sc',st',ec',sd',sk',sp',l',v',rfl,H',⟨by have:=HK1.out;omega⟩,⟨by have:=HN.out;have:=cut_rest x0 (bt x0 1).toNat;omega⟩,SA4,OA4,RA4,HB4,BR4⟩
           | false =>
            rw[if_neg (by decide)] at H
            have HB:=HB4;have BR:=BR4
            clear HB4 BR4
            obtain rfl:=Option.some.inj H
            clear H
            have HFN:=HF.out
            simp only[opts_Decode.fin,Option.some.injEq,Prod.mk.injEq] at HFN
            obtain⟨rfl,rfl,rfl,rfl,rfl,rfl,rfl,rfl,rfl⟩:=HFN
            clear HF
            have OUT:=mkA (opts_Decode.out8 (y0:=.int .i64 0) (y1:=.int .i64 0) (y2:=.int .i64 0) (y3:=.int .i64 0) (y4:=.bool false) (y5:=.bool false) (y6:=.bool false) (y7:=.slice none 0 0) rfl HB.out GR.out BR.out)
            go_wp2
            refine bodyPost_ret (results_ct rfl _ _ gr 24 #[.int .i64 0,.int .i64 0,.int .i64 0,.int .i64 0,.bool false,.bool false,.bool false,.slice none 0 0] (0,0) _ rfl OUT.out.1 Try.underlying24 rfl (by kernel_rfl)) rfl ?_
            exact⟨_,rfl,Kd.R_nil _ _ _ _ _,OUT.out.2.1⟩
    ·rw[if_neg c0] at H
     have c0b:=decide_eq_false c0
     have c0n:(0 < x0.size)=False:=eq_false (by omega)
     obtain rfl:=Option.some.inj H
     clear H
     obtain⟨cc,hcc,hff⟩:=Option.bind_eq_some_iff.mp (show (opts_Check.f k m sc st ec sd sk sp l).bind (fun c=>if c=0 then some (m,sc,st,ec,sd,sk,sp,l,(0:Int)) else some (0,0,0,0,false,false,false,[],70))=some (r1,r2,r3,r4,r5,r6,r7,r8,r9) from HF.out)
     have HFF:=mkA hff
     have HC:=mkA hcc
     clear hff hcc
     go_wp2_with fail
     have hck:=opts_Check.calls k m sc st ec sd sk sp Av cv l cc wr (Kd.C_below HCV.out (Below.refl _ _)) (by rw[LN.out];exact HLV.out) HC.out
     rw[LN.out] at hck
     refine hck.mono ?_
     rintro e w2 ⟨rfl,hb2⟩
     clear hrc0 hrc1 hrc2 hrc3 hrc4 hrc5 hrc6 hrc7 hrf0 hrf1 hrf2 hrf3 hrf4 hrf5 hrf6 hrf7 hoc0 hoc1 hoc2 hoc3 hoc4 hoc5 hoc6 hoc7 hof0 hof1 hof2 hof3 hof4 hof5 hof6 hof7 hck
     have BR2:=mkA (kB BR.out hb2);have OA2:=mkA (kB OA.out hb2);have HB2:=mkA (bT HB.out hb2);have RA2:=mkA (Kd.R_below RA.out hb2)
     obtain⟨hrc0,hrc1,hrc2,hrc3,hrc4,hrc5,hrc6,hrc7⟩:=blk_cells8 BR2.out
     obtain⟨hrf0,hrf1,hrf2,hrf3,hrf4,hrf5,hrf6,hrf7⟩:=blk_frozens8 BR2.out
     obtain⟨hoc0,hoc1,hoc2,hoc3,hoc4,hoc5,hoc6,hoc7⟩:=blk_cells8 OA2.out
     obtain⟨hof0,hof1,hof2,hof3,hof4,hof5,hof6,hof7⟩:=blk_frozens8 OA2.out
     clear hb2
     by_cases ce:cc=0
     ·have ceb:(cc != 0)=false:=bne_eq_false_iff_eq.mpr ce
      have h:=HFF.out
      rw[if_pos ce] at h
      simp only[Option.some.injEq,Prod.mk.injEq] at h
      obtain⟨rfl,rfl,rfl,rfl,rfl,rfl,rfl,rfl,rfl⟩:=h
      clear ce HFF HF
      have OUT:=mkA (opts_Decode.out8 (y0:=.int .i64 m) (y1:=.int .i64 sc) (y2:=.int .i64 st) (y3:=.int .i64 ec) (y4:=.bool sd) (y5:=.bool sk) (y6:=.bool sp) (y7:=.slice Av ln cv) rfl HB2.out GR.out BR2.out)
      go_wp2
      refine bodyPost_ret (results_ct rfl _ _ gr 24 #[.int .i64 m,.int .i64 sc,.int .i64 st,.int .i64 ec,.bool sd,.bool sk,.bool sp,.slice Av ln cv] (0,0) _ rfl OUT.out.1 Try.underlying24 rfl (by kernel_rfl)) rfl ?_
      exact⟨_,rfl,OUT.out.2.2 _ _ RA2.out,OUT.out.2.1⟩
     ·have ceb:(cc != 0)=true:=bne_iff_ne.mpr ce
      have h:=HFF.out
      rw[if_neg ce] at h
      simp only[Option.some.injEq,Prod.mk.injEq] at h
      obtain⟨rfl,rfl,rfl,rfl,rfl,rfl,rfl,rfl,rfl⟩:=h
      clear ce HFF HF
      have OUT:=mkA (opts_Decode.out8 (y0:=.int .i64 0) (y1:=.int .i64 0) (y2:=.int .i64 0) (y3:=.int .i64 0) (y4:=.bool false) (y5:=.bool false) (y6:=.bool false) (y7:=.slice none 0 0) rfl HB2.out GR.out BR2.out)
      go_wp2
      refine bodyPost_ret (results_ct rfl _ _ gr 24 #[.int .i64 0,.int .i64 0,.int .i64 0,.int .i64 0,.bool false,.bool false,.bool false,.slice none 0 0] (0,0) _ rfl OUT.out.1 Try.underlying24 rfl (by kernel_rfl)) rfl ?_
      exact⟨_,rfl,Kd.R_nil _ _ _ _ _,OUT.out.2.1⟩
theorem opts_Decode.lp_mono:∀ k s seen m sc st ec sd sk sp l,LeO (opts_Decode.lp k s seen m sc st ec sd sk sp l) (opts_Decode.lp (k+1) s seen m sc st ec sd sk sp l)
 | 0=>fun _ _ _ _ _ _ _ _ _ _ r h=>by simp[opts_Decode.lp] at h
 | k+1=>fun s seen m sc st ec sd sk sp l=>by
  unfold opts_Decode.lp
  exact LeO.ite (LeO.ite (LeO.refl _) (LeO.ite (opts_Decode.lp_mono k _ _ _ _ _ _ _ _ _ _) (LeO.ite (LeO.refl _) (LeO.ite (LeO.refl _) (LeO.ite (LeO.refl _) (LeO.bind (opts_known.mono _ _) fun _=>LeO.ite (LeO.refl _) (LeO.bind (opts_read.mono _ _ _ _ _ _ _ _ _ _ _) fun _=>LeO.ite (opts_Decode.lp_mono k _ _ _ _ _ _ _ _ _ _) (LeO.refl _)))))))) (LeO.refl _)
theorem opts_Decode.fin_mono (k:Nat):∀ o,LeO (opts_Decode.fin k o) (opts_Decode.fin (k+1) o)
 | none=>LeO.refl _
 | some _=>LeO.bind (opts_Check.mono _ _ _ _ _ _ _ _ _) fun _=>LeO.refl _
theorem opts_Decode.mono:∀ a0 k,LeO (opts_Decode.f k a0) (opts_Decode.f (k+1) a0):=by
 intro a0 k
 unfold opts_Decode.f
 exact LeO.ite (LeO.refl _) (LeO.bind (opts_Decode.lp_mono k _ _ _ _ _ _ _ _ _ _) fun _=>opts_Decode.fin_mono k _)


end Go.Proofs.Ytakajeoeijnmhaa.PSegReads

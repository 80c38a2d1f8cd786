/- What any bytes are as a segment between any addresses is as the document has it: for all inputs that the statement lets in. -/
import Derived.Test.YtakajeoeijnmhaaPSegReadsx20
set_option linter.unusedVariables false
set_option linter.unusedSimpArgs false
namespace Go.Proofs.Ytakajeoeijnmhaa.Pure
open Go Go.RowKit Go.Proofs.Ytakajeoeijnmhaa.PSegReads Go.Proofs.YtakajeoeijnmhaaW.PrintWords Go.Proofs.YtakajeoeijnmhaaW.PrintLast Go.Proofs.YtakajeoeijnmhaaW.PrintMore
attribute [local irreducible] shl shr Go.bits
/-! ### plain words on numbers and bytes -/
namespace SP
/-- what is above 16 bits, added again -/
def canon (n:Nat):Nat:=if n=0 then 0 else (n - 1) % 65535+1
theorem canon_le (n:Nat):canon n≤65535:=by unfold canon;split <;> omega
theorem canon_small {n:Nat} (h:n≤65535):canon n=n:=by unfold canon;split <;> omega
theorem canon_step {n:Nat} (h:65535 < n):canon (n / 65536+n % 65536)=canon n:=by unfold canon;split <;> split <;> omega
theorem canon_add (a b:Nat):canon (canon a+b)=canon (a+b):=by unfold canon;split <;> split <;> split <;> omega
theorem canon_mod (n:Nat):canon n % 65535=n % 65535:=by unfold canon;split <;> omega
theorem canon_zero {n:Nat}:canon n=0↔n=0:=by unfold canon;split <;> omega
theorem canon_eq {a b:Nat} (h:a % 65535=b % 65535) (h0:a=0↔b=0):canon a=canon b:=by unfold canon;split <;> split <;> omega
/-- a byte's weight at a place -/
def wt (p:Nat) (b:Nat):Nat:=if p % 2=0 then 256 * b else b
/-- the weights of bytes from a place on -/
def ws:Nat→List UInt8→Nat
  | _,[]=>0
  | p,b :: l=>wt p b.toNat+ws (p+1) l
theorem wt_le (p:Nat) (b:UInt8):wt p b.toNat≤65280:=by have:=b.toNat_lt;unfold wt;split <;> omega
theorem ws_le (l:List UInt8):∀ p,ws p l≤65280 * l.length:=by
  induction l with
  | nil=>intro p;simp[ws]
  | cons b l ih=>intro p;have:=ih (p+1);have:=wt_le p b;simp only[ws,List.length_cons];omega
theorem ws_append (a b:List UInt8):∀ p,ws p (a++b)=ws p a+ws (p+a.length) b:=by
  induction a with
  | nil=>intro p;simp[ws]
  | cons x l ih=>intro p;simp only[List.cons_append,ws,ih,List.length_cons];rw[show p+1+l.length=p+(l.length+1) from by omega];omega
theorem wt_parity {p q:Nat} (h:p % 2=q % 2) (b:Nat):wt p b=wt q b:=by unfold wt;rw[h]
theorem ws_parity (l:List UInt8):∀ {p q:Nat},p % 2=q % 2→ws p l=ws q l:=by
  induction l with
  | nil=>intros;rfl
  | cons x l ih=>intro p q h;simp only[ws,wt_parity h];rw[ih (p:=p+1) (q:=q+1) (by omega)]
/-- a string's bytes -/
abbrev by_ (s:ByteArray):List UInt8:=s.data.toList
theorem by_len (s:ByteArray):(by_ s).length=s.size:=by
  show s.data.toList.length=s.data.size;exact Array.length_toList
theorem by_append (s t:ByteArray):by_ (s++t)=by_ s++by_ t:=by
  show (s++t).data.toList=_;rw[ByteArray.data_append,Array.toList_append]
theorem by_extract (s:ByteArray) (i j:Nat):by_ (s.extract i j)=((by_ s).drop i).take (j - i):=by
  simp[by_,ByteArray.data_extract,List.extract_eq_take_drop]
theorem by_ext {s t:ByteArray} (h:by_ s=by_ t):s=t:=by
  cases s;cases t;simp only[by_] at h;congr;exact Array.toList_inj.mp h
/-- byte i of a list -/
def nth (l:List UInt8) (i:Nat):Nat:=(l.getD i 0).toNat
theorem nth_lt (l:List UInt8) (i:Nat):nth l i < 256:=(l.getD i 0).toNat_lt
theorem drop_cons {l:List UInt8} {i:Nat} (h:i < l.length):l.drop i=l.getD i 0 :: l.drop (i+1):=by
  rw[List.drop_eq_getElem_cons h];simp[List.getD,h]
theorem ws_drop {l:List UInt8} {i:Nat} (p:Nat) (h:i < l.length):ws p (l.drop i)=wt p (nth l i)+ws (p+1) (l.drop (i+1)):=by
  rw[drop_cons h];rfl
theorem ws_drop_end {l:List UInt8} {i:Nat} (p:Nat) (h:l.length≤i):ws p (l.drop i)=0:=by
  rw[List.drop_eq_nil_of_le h];rfl
/-- a number's bytes, k of them -/
def bytesN (n:Nat):Nat→List UInt8
  | 0=>[]
  | k+1=>UInt8.ofNat (n / 2 ^ (8 * k) % 256) :: bytesN n k
theorem bytesN_len (n k:Nat):(bytesN n k).length=k:=by induction k with
  | zero=>rfl
  | succ k ih=>simp[bytesN,ih]
/-- the number of bytes -/
def num (l:List UInt8):Nat:=l.foldl (fun n b=>n * 256+b.toNat) 0
theorem num_acc (l:List UInt8):∀ a:Nat,l.foldl (fun n b=>n * 256+b.toNat) a=a * 256 ^ l.length+num l:=by
  induction l with
  | nil=>intro a;show a=a * 256 ^ 0+0;omega
  | cons b l ih =>
    intro a
    have h0:num (b :: l)=l.foldl (fun n b=>n * 256+b.toNat) (0 * 256+b.toNat):=rfl
    rw[h0,List.foldl_cons,ih,ih,List.length_cons,Nat.pow_succ,Nat.zero_mul,Nat.zero_add,Nat.add_mul,Nat.mul_assoc,Nat.mul_comm 256]
    omega
theorem num_cons (b:UInt8) (l:List UInt8):num (b :: l)=b.toNat * 256 ^ l.length+num l:=by
  have:=num_acc l b.toNat;simp only[num,List.foldl_cons,Nat.zero_mul,Nat.zero_add];exact this
theorem num_append (a b:List UInt8):num (a++b)=num a * 256 ^ b.length+num b:=by
  unfold num;rw[List.foldl_append,num_acc];rfl
theorem num_lt (l:List UInt8):num l < 256 ^ l.length:=by
  induction l with
  | nil=>simp[num]
  | cons b l ih=>rw[num_cons,List.length_cons,Nat.pow_succ];have:=b.toNat_lt;have h:b.toNat * 256 ^ l.length≤255 * 256 ^ l.length:=Nat.mul_le_mul_right _ (by omega);omega
theorem num_bytesN (n k:Nat):num (bytesN n k)=n % 256 ^ k:=by
  induction k with
  | zero=>simp[bytesN,num,Nat.mod_one]
  | succ k ih =>
    rw[bytesN,num_cons,ih,bytesN_len]
    have e:(2:Nat) ^ (8 * k)=256 ^ k:=by rw[Nat.pow_mul]
    rw[e,Nat.pow_succ,Nat.mod_mul,Nat.mul_comm (256 ^ k)]
    have:(UInt8.ofNat (n / 256 ^ k % 256)).toNat=n / 256 ^ k % 256:=by simp[UInt8.toNat_ofNat']
    rw[this];omega
theorem bytesN_num (l:List UInt8):bytesN (num l) l.length=l:=by
  induction l with
  | nil=>rfl
  | cons b l ih =>
    have key:∀ (m k:Nat),bytesN (m * 256 ^ l.length+num l) k=bytesN (num l) k∨l.length < k:=by
      intro m k
      by_cases hk:l.length < k
      · exact .inr hk
      · left
        induction k with
        | zero=>rfl
        | succ k ihk =>
          rw[bytesN,bytesN,ihk (by omega)]
          have e:(2:Nat) ^ (8 * k)=256 ^ k:=by rw[Nat.pow_mul]
          obtain⟨d,hd⟩:∃ d,l.length=k+1+d:=⟨l.length - (k+1),by omega⟩
          rw[e]
          have:(m * 256 ^ l.length+num l) / 256 ^ k % 256=num l / 256 ^ k % 256:=by
            rw[hd,Nat.pow_add,Nat.pow_succ]
            rw[show m * (256 ^ k * 256 * 256 ^ d)=256 ^ k * (256 * (m * 256 ^ d)) from by ac_rfl]
            rw[Nat.mul_add_div (Nat.pow_pos (by omega)),Nat.mul_add_mod]
          rw[this]
    rw[List.length_cons,num_cons,bytesN]
    have e:(2:Nat) ^ (8 * l.length)=256 ^ l.length:=by rw[Nat.pow_mul]
    have hl:=num_lt l
    have h1:(b.toNat * 256 ^ l.length+num l) / 2 ^ (8 * l.length) % 256=b.toNat:=by
      rw[e,Nat.mul_comm,Nat.mul_add_div (Nat.pow_pos (by omega)),Nat.div_eq_of_lt hl];have:=b.toNat_lt;omega
    rw[h1]
    rcases key b.toNat l.length with h|h
    · rw[h,ih];congr 1;exact UInt8.toNat_inj.mp (by simp)
    · omega
end SP
theorem Ev.pos {α : Type} {c:Prop} [Decidable c] {g f:Nat→Option α} {r : α} (hc:c) (h:Ev g r):Ev (fun k=>if c then g k else f k) r:=by
  simp only[if_pos hc];exact h
theorem Ev.neg {α : Type} {c:Prop} [Decidable c] {g f:Nat→Option α} {r : α} (hc:¬ c) (h:Ev f r):Ev (fun k=>if c then g k else f k) r:=by
  simp only[if_neg hc];exact h
theorem wf64 {n:Int} (h:(Lit.int .i64 n).wf=true) : -9223372036854775808≤n∧n < 9223372036854775808:=by
  have e:(Lit.int .i64 n).wf=decide (IntKind.i64.min≤n∧n≤9223372036854775807):=by simp[Lit.wf]
  have e2:IntKind.i64.min = -9223372036854775808:=by decide
  rw[e,e2] at h
  have:=of_decide_eq_true h
  omega
/-! ### package sum and the reference's, as the words above -/
theorem and_mask (n m:Nat) (h:n < 2 ^ 63) (i:Nat) (hi:m=2 ^ i - 1) (hi2:i≤63):bits .and .i64 (n:Int) (m:Int)=((n % 2 ^ i:Nat):Int):=by
  subst hi
  have hw:∀ n:Int,0≤n→n < 9223372036854775808→IntKind.i64.wrap n=n:=by
    intro n h0 h1;rw[IntKind.wrap_i64];have:(2:Int) ^ 62=4611686018427387904:=by decide
    omega
  have:=bits_mask .i64 63 (by decide) hw i hi2 (n:Int) (by omega) (by exact_mod_cast h)
  have e:((2 ^ i - 1:Nat):Int)=(2:Int) ^ i - 1:=by
    have:1≤2 ^ i:=Nat.one_le_two_pow
    rw[Int.ofNat_sub this];simp
  rw[e,this];simp
theorem bits16 (n:Nat) (h:n < 2 ^ 63):bits .and .i64 (n:Int) 65535=((n % 65536:Nat):Int):=and_mask n 65535 h 16 rfl (by omega)
theorem bt_nth (s:ByteArray) (i:Nat):bt s (i:Int)=((SP.nth (SP.by_ s) i:Nat):Int):=by
  unfold bt SP.nth
  simp only[Int.toNat_natCast]
  split
  · rename_i h
    congr 1
    have h':i < (SP.by_ s).length:=by rw[SP.by_len];exact h
    rw[List.getD_eq_getElem?_getD,List.getElem?_eq_getElem h']
    rfl
  · rename_i h
    rw[List.getD_eq_getElem?_getD,List.getElem?_eq_none (by rw[SP.by_len];omega)];rfl
theorem w64 {n:Int} (h0 : -9223372036854775808≤n) (h1:n < 9223372036854775808):wrap64 n=n:=by unfold wrap64;omega
theorem tmod2 (n:Nat):Int.tmod (n:Int) 2=((n % 2:Nat):Int):=by rw[Int.tmod_eq_emod_of_nonneg (by omega)];omega
theorem carry_ev:∀ (n:Nat),n < 9223372036854775808→Ev (fun k=>sum_carry.f k (n:Int)) ((SP.canon n:Nat):Int):=by
  intro n
  induction n using Nat.strongRecOn with
  | _ n ih =>
    intro h
    show Ev (fun k=>sum_carry.l0 k (n:Int)) _
    by_cases h1:65535 < n
    · refine Ev.step (f:=fun k=>sum_carry.l0 k ((n / 65536+n % 65536:Nat):Int)) (fun k=>?_) ?_
      · simp only[sum_carry.l0];rw[if_pos (by omega),bits16 n h,w64 (by omega) (by omega)];congr 1
      · rw[← SP.canon_step h1];exact ih _ (by omega) (by omega)
    · refine Ev.step (f:=fun _=>some (n:Int)) (fun k=>?_) ?_
      · simp only[sum_carry.l0];rw[if_neg (by omega)]
      · rw[SP.canon_small (by omega)];exact Ev.now _
theorem shl_wt (p b:Nat) (hb:b < 256):shl .i64 (wrap64 (b:Int)) (wrap64 (8 - (wrap64 ((Int.tmod (p:Int) 2) * 8))))=((SP.wt p b:Nat):Int):=by
  rw[tmod2]
  unfold SP.wt shl
  rw[IntKind.wrap_i64,w64 (n:=(b:Int)) (by omega) (by omega)]
  split
  · rename_i h;rw[h];simp[wrap64,IntKind.bits];omega
  · rename_i h;rw[show p % 2=1 from by omega];simp[wrap64,IntKind.bits];omega
theorem shamt (p:Nat):0≤(wrap64 (8 - (wrap64 ((Int.tmod (p:Int) 2) * 8)))):=by
  rw[tmod2];unfold wrap64;omega
section
variable {s:ByteArray} {x8:List ByteArray} {x9 x10 r:Int}
theorem total_l1 (hs:s.size < 9223372036854775808):∀ (d i n p:Nat),s.size - i=d→i≤s.size→n+SP.ws p ((SP.by_ s).drop i) < 9223372036854775808→p+(s.size - i) < 9223372036854775808 →
    Ev (fun k=>sum_total.l0 k ((n+SP.ws p ((SP.by_ s).drop i):Nat):Int) ((p+(s.size - i):Nat):Int) x8 x9 (wrap64 (x10+1))) r →
    Ev (fun k=>sum_total.l1 k (n:Int) (p:Int) s x8 x9 x10 (s.size:Int) (i:Int)) r:=by
  intro d
  induction d with
  | zero =>
    intro i n p hd hi hn hp h
    refine Ev.step (fun k=>?_) h
    simp only[sum_total.l1];rw[if_neg (by omega),SP.ws_drop_end p (by rw[SP.by_len];omega),show s.size - i=0 from hd];simp
  | succ d ih =>
    intro i n p hd hi hn hp h
    have hlt:i < (SP.by_ s).length:=by rw[SP.by_len];omega
    rw[SP.ws_drop p hlt] at hn h
    have hb:=SP.nth_lt (SP.by_ s) i
    have hsz:=SP.by_len s
    refine Ev.step (f:=fun k=>sum_total.l1 k ((n+SP.wt p (SP.nth (SP.by_ s) i):Nat):Int) ((p+1:Nat):Int) s x8 x9 x10 (s.size:Int) ((i+1:Nat):Int)) (fun k=>?_) (ih (i+1) (n+SP.wt p (SP.nth (SP.by_ s) i)) (p+1) (by omega) (by omega) (by omega) (by omega) ?_)
    · simp only[sum_total.l1]
      rw[if_pos (by omega),if_pos (by omega),if_pos (by omega),if_pos (shamt p),bt_nth,shl_wt p _ hb]
      rw[w64 (n:=(p:Int)+1) (by omega) (by omega),w64 (n:=(i:Int)+1) (by omega) (by omega),w64 (by omega) (by omega)]
      congr 1
    · rw[show n+SP.wt p (SP.nth (SP.by_ s) i)+SP.ws (p+1) ((SP.by_ s).drop (i+1))=n+(SP.wt p (SP.nth (SP.by_ s) i)+SP.ws (p+1) ((SP.by_ s).drop (i+1))) from by omega,show p+1+(s.size - (i+1))=p+(s.size - i) from by omega]
      exact h
end
/-- pieces, one behind the other -/
def SPflat (l:List ByteArray):List UInt8:=l.flatMap SP.by_
theorem flat_drop {l:List ByteArray} {i:Nat} (h:i < l.length):SPflat (l.drop i)=SP.by_ (l.getD i ByteArray.empty)++SPflat (l.drop (i+1)):=by
  rw[List.drop_eq_getElem_cons h,SPflat,List.flatMap_cons,List.getD_eq_getElem?_getD,List.getElem?_eq_getElem h];rfl
theorem total_l0 (l:List ByteArray) (hl:l.length < 9223372036854775808):∀ (d i n p:Nat),l.length - i=d→i≤l.length→n+SP.ws p (SPflat (l.drop i)) < 9223372036854775808→p+(SPflat (l.drop i)).length < 9223372036854775808 →
    Ev (fun k=>sum_total.l0 k (n:Int) (p:Int) l (l.length:Int) (i:Int)) ((SP.canon (n+SP.ws p (SPflat (l.drop i))):Nat):Int):=by
  intro d
  induction d with
  | zero =>
    intro i n p hd hi hn hp
    rw[List.drop_eq_nil_of_le (by omega)] at hn ⊢
    refine Ev.step (f:=fun k=>(sum_carry.f k (n:Int)).bind fun t=>some t) (fun k=>?_) ?_
    · simp only[sum_total.l0];rw[if_neg (by omega)]
    · exact Ev.bind (carry_ev n (by simpa [SPflat,SP.ws] using hn)) (Ev.now _)
  | succ d ih =>
    intro i n p hd hi hn hp
    have hlt:i < l.length:=by omega
    rw[flat_drop hlt] at hn hp ⊢
    rw[SP.ws_append] at hn ⊢
    rw[List.length_append] at hp
    refine Ev.step (f:=fun k=>sum_total.l1 k (n:Int) (p:Int) (l.getD i ByteArray.empty) l (l.length:Int) (i:Int) ((l.getD i ByteArray.empty).size:Int) ((0:Nat):Int)) (fun k=>?_) ?_
    · simp only[sum_total.l0];rw[if_pos (by omega),if_pos (by omega),if_pos (by omega)];simp[rdOf]
    · rw[SP.by_len] at hn hp
      refine total_l1 (by omega) _ 0 n p rfl (by omega) (by simp only[List.drop_zero];omega) (by omega) ?_
      rw[w64 (by omega) (by omega),SP.by_len]
      have:=ih (i+1) (n+SP.ws p (SP.by_ (l.getD i ByteArray.empty))) (p+(l.getD i ByteArray.empty).size) (by omega) (by omega) (by omega) (by omega)
      simp only[List.drop_zero,Nat.sub_zero]
      rw[← Nat.add_assoc]
      exact this
/-- what 'total' tells of pieces -/
theorem total_ev (l:List ByteArray) (hl:l.length < 1152921504606846976) (h:(SPflat l).length≤140737488351232):Ev (fun k=>sum_total.f k l) ((SP.canon (SP.ws 0 (SPflat l)):Nat):Int):=by
  have hw:=SP.ws_le (SPflat l) 0
  have:=total_l0 l (by omega) l.length 0 0 0 (by omega) (by omega) (by simp only[List.drop_zero];omega) (by simp only[List.drop_zero];omega)
  rw[Nat.zero_add,List.drop_zero] at this
  exact this
theorem nat_toNat (n:Nat):((n:Int):Int).toNat=n:=Int.toNat_natCast n
theorem rdOf_nat {α : Type} (d : α) (xs:List α) (i:Nat):rdOf d xs (i:Int)=xs.getD i d:=by simp[rdOf]
def mkB (l:List UInt8):ByteArray:=⟨l.toArray⟩
theorem by_mkB (l:List UInt8):SP.by_ (mkB l)=l:=rfl
theorem mkB_by (s:ByteArray):mkB (SP.by_ s)=s:=SP.by_ext rfl
theorem mkB_size (l:List UInt8):(mkB l).size=l.length:=rfl
theorem mkB_append (a b:List UInt8):mkB a++mkB b=mkB (a++b):=SP.by_ext (by rw[SP.by_append];rfl)
theorem shr_pow (n k:Nat) (hk:k≤64):shr .i64 (n:Int) (k:Int)=((n / 2 ^ k:Nat):Int):=by
  unfold shr
  rw[Int.toNat_natCast,show min k IntKind.i64.bits=k from Nat.min_eq_left (by simpa [IntKind.bits] using hk)]
  simp
theorem mn_lt (a b c:Int):mn a b < c↔a < c∨b < c:=by unfold mn;split <;> omega
theorem mx_gt (a b c:Int):mx a b > c↔a > c∨b > c:=by unfold mx;split <;> omega
def PutS (n b:Int):ByteArray × Int:=if b < 1∨6 < b∨n < 0∨(256:Int) ^ b.toNat≤n then (⟨#[]⟩,1) else (mkB (SP.bytesN n.toNat b.toNat),0)
/-- the numbers that 'Put' has laid after i rounds -/
def putRow (n b i:Nat):List Int:=(List.range b).map fun j=>if j < i then ((n / 2 ^ (8 * (b - 1 - j)) % 256:Nat):Int) else 0
theorem putRow_set (n b i:Nat) (_h:i < b):(putRow n b i).set i ((n / 2 ^ (8 * (b - 1 - i)) % 256:Nat):Int)=putRow n b (i+1):=by
  apply List.ext_getElem
  · simp[putRow]
  · intro j h1 h2
    simp only[putRow,List.getElem_set,List.getElem_map,List.getElem_range]
    by_cases e:i=j
    · subst e;simp
    · rw[if_neg e]
      by_cases h3:j < i
      · rw[if_pos h3,if_pos (by omega)]
      · rw[if_neg h3,if_neg (by omega)]
theorem bytesN_range (n:Nat):∀ b:Nat,SP.bytesN n b=(List.range b).map fun j=>UInt8.ofNat (n / 2 ^ (8 * (b - 1 - j)) % 256):=by
  intro b
  induction b with
  | zero=>rfl
  | succ b ih =>
    rw[SP.bytesN,ih,List.range_succ_eq_map,List.map_cons,List.map_map]
    congr 1
    apply List.map_congr_left
    intro j hj
    have:=List.mem_range.mp hj
    simp only[Function.comp_def]
    rw[show b - 1 - j=b+1 - 1 - (j+1) from by omega]
theorem putRow_str (n b:Nat):strOfNums (putRow n b b)=mkB (SP.bytesN n b):=by
  unfold strOfNums mkB
  rw[bytesN_range]
  congr 2
  simp only[putRow,List.map_map]
  apply List.map_congr_left
  intro j hj
  have:=List.mem_range.mp hj
  simp only[Function.comp_def]
  rw[if_pos this,Int.toNat_natCast]
theorem put_l0 (n b:Nat) (hb:b≤6):∀ (d i:Nat),b - i=d→i≤b→Ev (fun k=>sum_Put.l0 k (n:Int) (b:Int) (putRow n b i) (b:Int) (i:Int)) (mkB (SP.bytesN n b),0):=by
  intro d
  induction d with
  | zero =>
    intro i hd hi
    obtain rfl:i=b:=by omega
    refine Ev.step (f:=fun _=>some (strOfNums (putRow n i i),0)) (fun k=>?_) ?_
    · simp only[sum_Put.l0];rw[if_neg (by omega)]
    · rw[putRow_str];exact Ev.now _
  | succ d ih =>
    intro i hd hi
    refine Ev.step (f:=fun k=>sum_Put.l0 k (n:Int) (b:Int) (putRow n b (i+1)) (b:Int) ((i+1:Nat):Int)) (fun k=>?_) (ih (i+1) (by omega) (by omega))
    simp only[sum_Put.l0]
    have e:wrap64 (8 * (wrap64 ((wrap64 ((b:Int) - 1)) - (i:Int))))=((8 * (b - 1 - i):Nat):Int):=by unfold wrap64;omega
    rw[if_pos (by omega),e,if_pos (by omega),if_pos (by omega),if_pos (by simp[putRow];omega),shr_pow _ _ (by omega),w64 (by omega) (by omega),Int.toNat_natCast]
    rw[← putRow_set n b i (by omega)]
    congr 1
theorem put_ev (n b:Int) (hn : -9223372036854775808≤n∧n < 9223372036854775808) (hb : -9223372036854775808≤b∧b < 9223372036854775808):Ev (fun k=>sum_Put.f k n b) (PutS n b):=by
  have bad:(b < 1∨6 < b∨n < 0∨(256:Int) ^ b.toNat≤n)→Ev (fun k=>sum_Put.j0 k n b true) (PutS n b):=by
    intro h
    refine Ev.step (f:=fun _=>some (⟨#[]⟩,1)) (fun k=>?_) ?_
    · simp only[sum_Put.j0];rw[if_pos trivial]
    · rw[PutS,if_pos h];exact Ev.now _
  by_cases h1:b < 1
  · refine Ev.congr (fun k=>?_) (bad (.inl h1));unfold sum_Put.f;rw[if_pos h1]
  by_cases h2:6 < b
  · refine Ev.congr (fun k=>?_) (bad (.inr (.inl h2)));unfold sum_Put.f;rw[if_neg h1,if_pos h2]
  by_cases h3:n < 0
  · refine Ev.congr (fun k=>?_) (bad (.inr (.inr (.inl h3))));unfold sum_Put.f;rw[if_neg h1,if_neg (by omega),if_pos h3]
  obtain⟨m,rfl⟩:=Int.eq_ofNat_of_zero_le (show 0≤n by omega)
  obtain⟨c,rfl⟩:=Int.eq_ofNat_of_zero_le (show 0≤b by omega)
  have e:wrap64 (8 * (c:Int))=((8 * c:Nat):Int):=by unfold wrap64;omega
  have e2:(shr .i64 (m:Int) ((8 * c:Nat):Int) > 0)↔(256:Int) ^ ((c:Int)).toNat≤(m:Int):=by
    rw[shr_pow _ _ (by omega),Int.toNat_natCast,Nat.pow_mul,show (2:Nat) ^ 8=256 from rfl,show (256:Int) ^ c=((256 ^ c:Nat):Int) from (Int.natCast_pow 256 c).symm]
    constructor
    · intro hh
      have h3:0 < m / 256 ^ c:=by omega
      exact Int.ofNat_le.mpr (Nat.div_pos_iff.mp h3).2
    · intro hh
      have h3:0 < m / 256 ^ c:=Nat.div_pos (Int.ofNat_le.mp hh) (Nat.pow_pos (by omega))
      omega
  by_cases h4:(256:Int) ^ ((c:Int)).toNat≤(m:Int)
  · refine Ev.congr (fun k=>?_) (bad (.inr (.inr (.inr h4))));unfold sum_Put.f;rw[if_neg h1,if_neg (by omega),if_neg h3,e,if_pos (by omega),decide_eq_true (e2.mpr h4)]
  · refine Ev.congr (f:=fun k=>sum_Put.j0 k (m:Int) (c:Int) false) (fun k=>?_) ?_
    · unfold sum_Put.f;rw[if_neg h1,if_neg (by omega),if_neg h3,e,if_pos (by omega),decide_eq_false (fun h=>h4 (e2.mp h))]
    · have e3:List.replicate ((c:Int)).toNat (0:Int)=putRow m c 0:=by
        apply List.ext_getElem
        · simp[putRow]
        · intro j h1 h2;simp[putRow]
      refine Ev.step (f:=fun k=>sum_Put.l0 k (m:Int) (c:Int) (putRow m c 0) (c:Int) ((0:Nat):Int)) (fun k=>?_) ?_
      · simp only[sum_Put.j0];rw[if_neg (by decide),if_pos (by omega),if_pos (by omega)]
        simp only[Option.bind_some];rw[e3];simp[putRow]
      · rw[PutS,if_neg (by omega),Int.toNat_natCast,Int.toNat_natCast];exact put_l0 m c (by omega) c 0 rfl (by omega)
theorem put_ok (n b:Nat) (hb1:1≤b) (hb:b≤6) (h:n < 256 ^ b) (hn:n < 9223372036854775808):Ev (fun k=>sum_Put.f k (n:Int) (b:Int)) (mkB (SP.bytesN n b),0):=by
  have:=put_ev (n:Int) (b:Int) (by omega) (by omega)
  rw[PutS,nat_toNat,nat_toNat,if_neg] at this
  · exact this
  · have e:(256:Int) ^ b=((256 ^ b:Nat):Int):=(Int.natCast_pow 256 b).symm
    rw[e];omega
theorem cut_mk (s:ByteArray) (i j:Nat):cutS s i j=mkB (((SP.by_ s).drop i).take (j - i)):=by
  rw[cutS];exact SP.by_ext (by rw[SP.by_extract,by_mkB])
theorem cut_to (s:ByteArray) (j:Nat):cutS s 0 j=mkB ((SP.by_ s).take j):=by rw[cut_mk];simp
theorem cut_from (s:ByteArray) (i:Nat):cutS s i s.size=mkB ((SP.by_ s).drop i):=by
  rw[cut_mk,List.take_of_length_le (by rw[List.length_drop,SP.by_len];omega)]
theorem or_byte (n:Nat) (c:UInt8) (h:n < 281474976710656):Go.bits .or .i64 (wrap64 ((n:Int) * 256)) (wrap64 (c.toNat:Int))=((n * 256+c.toNat:Nat):Int):=by
  have hc:=c.toNat_lt
  have hw:∀ m:Int,0≤m→m < 2 ^ 63→IntKind.i64.wrap m=m:=by
    intro m h0 h1;rw[IntKind.wrap_i64];have:(2:Int) ^ 63=9223372036854775808:=by decide
    omega
  have e63:(2:Int) ^ 63=9223372036854775808:=by decide
  have e8:(2:Int) ^ 8=256:=by decide
  rw[w64 (by omega) (by omega),w64 (by omega) (by omega)]
  rw[bits_join .i64 63 (by decide) hw 8 _ _ (by omega) (by rw[e8];omega) (by rw[e63];omega) (by omega) (by rw[e8];omega) (by rw[e63];omega)]
  omega
theorem orNum_num (l:List UInt8) (h:l.length≤6):orNum l=((SP.num l:Nat):Int):=by
  have key:∀ (l:List UInt8) (n:Nat),n * 256 ^ l.length+SP.num l < 281474976710656→l.foldl (fun (n:Int) (c:UInt8)=>Go.bits .or .i64 (wrap64 (n * 256)) (wrap64 (c.toNat:Int))) (n:Int)=((n * 256 ^ l.length+SP.num l:Nat):Int):=by
    intro l
    induction l with
    | nil=>intro n _;show (n:Int)=((n * 256 ^ 0+0:Nat):Int);omega
    | cons c l ih =>
      intro n hn
      rw[SP.num_cons,List.length_cons,Nat.pow_succ] at hn ⊢
      rw[List.foldl_cons]
      have e:n * (256 ^ l.length * 256)+(c.toNat * 256 ^ l.length+SP.num l)=(n * 256+c.toNat) * 256 ^ l.length+SP.num l:=by
        rw[Nat.add_mul,Nat.mul_assoc n 256,Nat.mul_comm 256];omega
      have hp:0 < 256 ^ l.length:=Nat.pow_pos (by omega)
      have h1:n * 256+c.toNat≤(n * 256+c.toNat) * 256 ^ l.length:=Nat.le_mul_of_pos_right _ hp
      rw[or_byte n c (by omega),ih _ (by omega),e]
  have hl:=SP.num_lt l
  have hp:256 ^ l.length≤256 ^ 6:=Nat.pow_le_pow_right (by omega) h
  have e6:256 ^ 6=281474976710656:=by decide
  have:=key l 0 (by omega)
  rw[Nat.zero_mul,Nat.zero_add] at this
  exact this
def GetS (s:ByteArray) (a b:Int):Int × Int:=if b < 1∨6 < b∨a < 0∨(s.size:Int) < a+b then (0,1) else ((SP.num (((SP.by_ s).drop a.toNat).take b.toNat):Int),0)
theorem get_ev (s:ByteArray) (hs:s.size≤281474976710656) (a b:Int) (ha : -9223372036854775808≤a∧a < 9223372036854775808) (hb : -9223372036854775808≤b∧b < 9223372036854775808):sum_Get.f s a b=some (GetS s a b):=by
  unfold sum_Get.f GetS
  by_cases h1:b < 1
  · rw[if_pos h1,if_pos (.inl h1)]
  by_cases h2:6 < b
  · rw[if_neg h1,if_pos h2,if_pos (.inr (.inl h2))]
  by_cases h3:a < 0
  · rw[if_neg h1,if_neg h2,if_pos h3,if_pos (.inr (.inr (.inl h3)))]
  rw[if_neg h1,if_neg h2,if_neg h3,w64 (by omega) (by omega)]
  by_cases h4:(s.size:Int) < a+b
  · rw[if_pos (by omega),if_pos (.inr (.inr (.inr h4)))]
  · rw[if_neg (by omega),w64 (by omega) (by omega),if_pos ⟨by omega,by omega,by omega⟩,if_neg (by omega),cut_mk]
    obtain⟨x,rfl⟩:=Int.eq_ofNat_of_zero_le (show 0≤a by omega)
    obtain⟨y,rfl⟩:=Int.eq_ofNat_of_zero_le (show 0≤b by omega)
    have e:((x:Int)+(y:Int)).toNat=x+y:=by omega
    rw[e,Int.toNat_natCast,Int.toNat_natCast,Nat.add_sub_cancel_left]
    show some (orNum (SP.by_ (mkB _)),(0:Int))=_
    rw[by_mkB,orNum_num _ (by rw[List.length_take];omega)]
theorem whole_ev (s:ByteArray) (h:s.size≤140737488351232):Ev (fun k=>sum_Whole.f k s) (decide (SP.canon (SP.ws 0 (SP.by_ s))=65535)):=by
  have hw:=total_ev [s] (by simp only[List.length_cons,List.length_nil];omega) (by simp only[SPflat,List.flatMap_cons,List.flatMap_nil,List.append_nil,SP.by_len];omega)
  simp only[SPflat,List.flatMap_cons,List.flatMap_nil,List.append_nil] at hw
  unfold sum_Whole.f
  refine Ev.bind hw ?_
  have e:(((SP.canon (SP.ws 0 (SP.by_ s)):Nat):Int) == 65535)=decide (SP.canon (SP.ws 0 (SP.by_ s))=65535):=by
    rw[Bool.eq_iff_iff,beq_iff_eq,decide_eq_true_iff];omega
  rw[e];exact Ev.now _
def PseudoS (f t p l:Int):ByteArray × Int:=if f < 0∨t < 0∨p < 0∨l < 0∨4294967295 < f∨4294967295 < t∨255 < p∨65535 < l then (⟨#[]⟩,1) else (mkB (SP.bytesN f.toNat 4++SP.bytesN t.toNat 4++SP.bytesN p.toNat 2++SP.bytesN l.toNat 2),0)
theorem pseudo_step (l:List Int) (acc:List UInt8) (i n b:Nat) (r:ByteArray × Int) (hlt:i < 4) (hl:l.length=4) (h1:rd l (i:Int)=(n:Int)) (h2:rd [4,4,2,2] (i:Int)=(b:Int)) (hb1:1≤b) (hb:b≤6) (h:n < 256 ^ b) (hn:n < 9223372036854775808) (ha:acc.length≤100)
    (hr:Ev (fun k=>sum_Pseudo.l0 k (mkB (acc++SP.bytesN n b)) l 4 ((i+1:Nat):Int)) r):Ev (fun k=>sum_Pseudo.l0 k (mkB acc) l 4 (i:Int)) r:=by
  have h44:(([4,4,2,2]:List Int).length:Int)=4:=rfl
  have hlb:=SP.bytesN_len n b
  refine Ev.step (f:=?fz) (fun k=>?hz) ?hk
  case hz =>
    simp only[sum_Pseudo.l0,Option.bind_some]
    rw[if_pos (by omega),if_pos (by omega),if_pos (by omega),if_pos (by omega),h1,h2]
  case hk =>
    refine Ev.bind (put_ok n b hb1 hb h hn) ?_
    try dsimp only
    refine Ev.pos (by rw[mkB_size,mkB_size,hlb];omega) ?_
    rw[mkB_append,w64 (by omega) (by omega)]
    exact hr
theorem pseudo_ev (f t p l:Int) (hf : -9223372036854775808≤f∧f < 9223372036854775808) (ht : -9223372036854775808≤t∧t < 9223372036854775808) (hp : -9223372036854775808≤p∧p < 9223372036854775808) (hl : -9223372036854775808≤l∧l < 9223372036854775808) :
    Ev (fun k=>sum_Pseudo.f k f t p l) (PseudoS f t p l):=by
  have bad:(f < 0∨t < 0∨p < 0∨l < 0∨4294967295 < f∨4294967295 < t∨255 < p∨65535 < l)→Ev (fun k=>sum_Pseudo.j0 k f t p l true) (PseudoS f t p l):=by
    intro h
    refine Ev.step (f:=fun _=>some (⟨#[]⟩,1)) (fun k=>?_) ?_
    · simp only[sum_Pseudo.j0];rw[if_pos trivial]
    · rw[PseudoS,if_pos h];exact Ev.now _
  by_cases h1:mn (mn (mn f t) p) l < 0
  · refine Ev.congr (fun k=>?_) (bad ?_)
    · unfold sum_Pseudo.f;rw[if_pos h1]
    · rw[mn_lt,mn_lt,mn_lt] at h1;omega
  by_cases h2:mx f t > 4294967295
  · refine Ev.congr (fun k=>?_) (bad ?_)
    · unfold sum_Pseudo.f;rw[if_neg h1,if_pos h2]
    · rw[mx_gt] at h2;omega
  by_cases h3:p > 255
  · refine Ev.congr (fun k=>?_) (bad (by omega));unfold sum_Pseudo.f;rw[if_neg h1,if_neg h2,if_pos h3]
  by_cases h4:l > 65535
  · refine Ev.congr (fun k=>?_) (bad (by omega));unfold sum_Pseudo.f;rw[if_neg h1,if_neg h2,if_neg h3,decide_eq_true h4]
  refine Ev.congr (f:=fun k=>sum_Pseudo.j0 k f t p l false) (fun k=>?_) ?_
  · unfold sum_Pseudo.f;rw[if_neg h1,if_neg h2,if_neg h3,decide_eq_false h4]
  rw[mn_lt,mn_lt,mn_lt] at h1
  rw[mx_gt] at h2
  obtain⟨a,rfl⟩:=Int.eq_ofNat_of_zero_le (show 0≤f by omega)
  obtain⟨b,rfl⟩:=Int.eq_ofNat_of_zero_le (show 0≤t by omega)
  obtain⟨c,rfl⟩:=Int.eq_ofNat_of_zero_le (show 0≤p by omega)
  obtain⟨d,rfl⟩:=Int.eq_ofNat_of_zero_le (show 0≤l by omega)
  have e4:256 ^ 4=4294967296:=by decide
  have e2:256 ^ 2=65536:=by decide
  refine Ev.step (f:=fun k=>sum_Pseudo.l0 k (mkB []) [(a:Int),(b:Int),(c:Int),(d:Int)] 4 ((0:Nat):Int)) (fun k=>?_) ?_
  · simp only[sum_Pseudo.j0,Option.bind_some];rw[if_neg (by decide)];rfl
  · refine pseudo_step _ [] 0 a 4 _ (by omega) rfl rfl rfl (by omega) (by omega) (by omega) (by omega) (by simp) ?_
    refine pseudo_step _ _ 1 b 4 _ (by omega) rfl rfl rfl (by omega) (by omega) (by omega) (by omega) (by simp[SP.bytesN_len]) ?_
    refine pseudo_step _ _ 2 c 2 _ (by omega) rfl rfl rfl (by omega) (by omega) (by omega) (by omega) (by simp[SP.bytesN_len]) ?_
    refine pseudo_step _ _ 3 d 2 _ (by omega) rfl rfl rfl (by omega) (by omega) (by omega) (by omega) (by simp[SP.bytesN_len]) ?_
    refine Ev.step (f:=fun _=>some (mkB ([]++SP.bytesN a 4++SP.bytesN b 4++SP.bytesN c 2++SP.bytesN d 2),0)) (fun k=>?_) ?_
    · simp only[sum_Pseudo.l0];rw[if_neg (by omega)]
    · rw[PseudoS,if_neg (by omega),nat_toNat,nat_toNat,nat_toNat,nat_toNat,List.nil_append];exact Ev.now _
theorem Ev.ite {α : Type} {c:Prop} [Decidable c] {g f:Nat→Option α} {r : α} (h:c→Ev g r) (h':¬ c→Ev f r):Ev (fun k=>if c then g k else f k) r:=by
  by_cases hc:c
  · exact Ev.pos hc (h hc)
  · exact Ev.neg hc (h' hc)
theorem Ev.val {α : Type} {g:Nat→Option α} {r r' : α} (h:Ev g r) (e:r=r'):Ev g r':=e ▸ h
theorem ite_same {α : Type} {p q:Prop} [Decidable p] [Decidable q] (h:p↔q) {x y : α}:(if p then x else y)=if q then x else y:=by
  by_cases hp:p
  · rw[if_pos hp,if_pos (h.1 hp)]
  · rw[if_neg hp,if_neg (fun hq=>hp (h.2 hq))]
/-! ### package seq: is a number one of a sequence's -/
theorem and_low (a:Int) (_h0 : -9223372036854775808≤a) (_h1:a < 9223372036854775808) (i:Nat) (hi:i≤62):Go.bits .and .i64 a ((2 ^ i - 1:Nat):Int)=a % ((2 ^ i:Nat):Int):=by
  have hp:0 < 2 ^ i:=Nat.two_pow_pos i
  have hle:2 ^ i≤2 ^ 62:=Nat.pow_le_pow_right (by decide) hi
  have e62:(2:Nat) ^ 62=4611686018427387904:=by decide
  have eb:IntKind.i64.bits=64:=rfl
  have e64:(2:Nat) ^ 64=18446744073709551616:=by decide
  have hm:(2 ^ i - 1) % 2 ^ IntKind.i64.bits=2 ^ i - 1:=Nat.mod_eq_of_lt (by rw[eb,e64];omega)
  simp only[Go.bits,BitVec.ofInt_natCast,BitVec.toNat_and,BitVec.toNat_ofNat,hm,BitVec.toNat_ofInt]
  rw[Nat.and_two_pow_sub_one_eq_mod,IntKind.wrap_i64,eb]
  have hd:2 ^ 64=2 ^ i * 2 ^ (64 - i):=by rw[← Nat.pow_add];congr 1;omega
  have key:(((a % ((2 ^ 64:Nat):Int)).toNat % 2 ^ i:Nat):Int)=a % ((2 ^ i:Nat):Int):=by
    rw[Int.natCast_emod,Int.toNat_of_nonneg (Int.emod_nonneg _ (by omega))]
    exact Int.emod_emod_of_dvd _ ⟨((2 ^ (64 - i):Nat):Int),by rw[hd,Int.natCast_mul]⟩
  have r0:=Int.emod_nonneg a (b:=((2 ^ i:Nat):Int)) (by omega)
  have r1:=Int.emod_lt_of_pos a (b:=((2 ^ i:Nat):Int)) (by omega)
  have key2:(((a % (2 ^ 64:Int)).toNat % 2 ^ i:Nat):Int)=a % ((2 ^ i:Nat):Int):=key
  first|rw[key]|rw[key2]
  omega
def seqOk (n:Int):Prop:=0≤n∧n≤4294967295
instance (n:Int):Decidable (seqOk n):=inferInstanceAs (Decidable (0≤n∧n≤4294967295))
def seqC (n:Int):Int:=if seqOk n then 0 else 1
theorem seqcheck_is (n:Int) (h0 : -9223372036854775808≤n) (h1:n < 9223372036854775808):seq_Check.f n=some (seqC n):=by
  unfold seq_Check.f seqC
  have:=and_low n h0 h1 32 (by omega)
  rw[show ((2 ^ 32 - 1:Nat):Int)=4294967295 from by decide,show ((2 ^ 32:Nat):Int)=4294967296 from by decide] at this
  rw[this]
  by_cases h:seqOk n
  · have h':=h
    unfold seqOk at h'
    rw[if_pos (by omega),if_pos h]
  · have h':=h
    unfold seqOk at h'
    rw[if_neg (by omega),if_neg h]
def fit73 (x:S73):Prop:=((Lit.int .i64 x.f0).wf=true)∧(Lit.int .i64 x.f1).wf=true
/-! ### options -/
def rgB (x:S73):List UInt8:=SP.bytesN x.f0.toNat 4++SP.bytesN x.f1.toNat 4
def rgsB (l:List S73):List UInt8:=l.flatMap rgB
def opB (kd:Nat) (b:List UInt8):List UInt8:=UInt8.ofNat kd :: UInt8.ofNat (2+b.length) :: b
def oMss (m:Int):List UInt8:=if m > 0 then opB 2 (SP.bytesN m.toNat 2) else []
def oScale (sc:Int) (sd:Bool):List UInt8:=if sd=true then opB 3 (SP.bytesN sc.toNat 1) else []
def oSack (sk:Bool):List UInt8:=if sk=true then opB 4 [] else []
def oStamp (st ec:Int) (sp:Bool):List UInt8:=if sp=true then opB 8 (SP.bytesN st.toNat 4++SP.bytesN ec.toNat 4) else []
def oRgs (l:List S73):List UInt8:=if 0 < l.length then opB 5 (rgsB l) else []
def bareB (m sc st ec:Int) (sd sk sp:Bool) (l:List S73):List UInt8:=oMss m++oScale sc sd++oSack sk++oStamp st ec sp++oRgs l
def padB (b:List UInt8):List UInt8:=b++List.replicate ((4 - b.length % 4) % 4) 0
def optB (m sc st ec:Int) (sd sk sp:Bool) (l:List S73):List UInt8:=padB (bareB m sc st ec sd sk sp l)
def rgOk (x:S73):Prop:=seqOk x.f0∧seqOk x.f1∧¬ x.f0=x.f1
instance (x:S73):Decidable (rgOk x):=inferInstanceAs (Decidable (_∧_∧_))
/-- may be, but for how long they are -/
def optFit (m sc st ec:Int) (sd sk sp:Bool) (l:List S73):Prop :=
  0≤m∧m≤65535∧0≤sc∧sc≤14∧l.length≤4∧seqOk st∧seqOk ec∧(sd=true∨sc=0)∧(sp=true∨st=0∧ec=0)∧∀ x∈l,rgOk x
instance (m sc st ec:Int) (sd sk sp:Bool) (l:List S73):Decidable (optFit m sc st ec sd sk sp l):=inferInstanceAs (Decidable (_∧_∧_∧_∧_∧_∧_∧_∧_∧_))
def optOk (m sc st ec:Int) (sd sk sp:Bool) (l:List S73):Prop:=optFit m sc st ec sd sk sp l∧(optB m sc st ec sd sk sp l).length≤40
instance (m sc st ec:Int) (sd sk sp:Bool) (l:List S73):Decidable (optOk m sc st ec sd sk sp l):=inferInstanceAs (Decidable (_∧_))
theorem rgB_len (x:S73):(rgB x).length=8:=by simp[rgB,SP.bytesN_len]
theorem rgsB_len (l:List S73):(rgsB l).length=8 * l.length:=by
  induction l with
  | nil=>rfl
  | cons x l ih=>rw[rgsB,List.flatMap_cons,List.length_append,rgB_len,List.length_cons];rw[rgsB] at ih;omega
theorem opB_len (k:Nat) (b:List UInt8):(opB k b).length=2+b.length:=by simp[opB];omega
theorem oMss_le (m:Int):(oMss m).length≤4:=by unfold oMss;split <;> simp[opB_len,SP.bytesN_len]
theorem oScale_le (sc:Int) (sd:Bool):(oScale sc sd).length≤3:=by unfold oScale;split <;> simp[opB_len,SP.bytesN_len]
theorem oSack_le (sk:Bool):(oSack sk).length≤2:=by unfold oSack;split <;> simp[opB_len]
theorem oStamp_le (st ec:Int) (sp:Bool):(oStamp st ec sp).length≤10:=by unfold oStamp;split <;> simp[opB_len,SP.bytesN_len]
theorem oRgs_le (l:List S73):(oRgs l).length≤2+8 * l.length:=by unfold oRgs;split <;> simp[opB_len,rgsB_len]
theorem optnum_ok (n b:Nat) (hb1:1≤b) (hb:b≤6) (h:n < 256 ^ b) (hn:n < 9223372036854775808):Ev (fun k=>opts_num.f k (n:Int) (b:Int)) (mkB (SP.bytesN n b)):=by
  unfold opts_num.f
  exact Ev.bind (put_ok n b hb1 hb h hn) (Ev.now _)
theorem option_is (kd:Nat) (hk:kd < 256) (b:List UInt8) (hb:b.length≤253):opts_option.f (kd:Int) (mkB b)=some (mkB (opB kd b)):=by
  unfold opts_option.f
  simp only[Option.bind_some]
  rw[mkB_size,w64 (n:=2+(b.length:Int)) (by omega) (by omega)]
  have e:strOfNums [(kd:Int) % 256,(2+(b.length:Int)) % 256]=mkB [UInt8.ofNat kd,UInt8.ofNat (2+b.length)]:=by
    unfold strOfNums mkB
    simp only[List.map_cons,List.map_nil]
    rw[show (kd:Int) % 256=((kd:Nat):Int) from by omega,show (2+(b.length:Int)) % 256=((2+b.length:Nat):Int) from by omega,nat_toNat,nat_toNat]
  rw[e,mkB_append,if_pos (by simp only[mkB_size,List.length_cons,List.length_nil];omega)]
  rfl
theorem repeatL_is (a:UInt8):∀ n,Go.Lib.repeatL [a] n=List.replicate n a:=by
  intro n
  induction n with
  | zero=>rfl
  | succ n ih=>rw[List.replicate_succ,← ih];simp[Go.Lib.repeatL,List.replicate_succ]
theorem optpad_ev (b:List UInt8) (hb:b.length≤1000):Ev (fun k=>opts_text.j5 k (mkB b)) (mkB (padB b)):=by
  refine Ev.step (fun k=>by simp only[opts_text.j5];rfl) ?_
  rw[mkB_size]
  have hm:=and_low (-(b.length:Int)) (by omega) (by omega) 2 (by omega)
  rw[show ((2 ^ 2 - 1:Nat):Int)=3 from by decide,show ((2 ^ 2:Nat):Int)=4 from by decide] at hm
  have e : -(b.length:Int) % 4=(((4 - b.length % 4) % 4:Nat):Int):=by omega
  rw[hm,e]
  have hr:strings_Repeat.f (⟨#[0]⟩:ByteArray) (((4 - b.length % 4) % 4:Nat):Int)=some (mkB (List.replicate ((4 - b.length % 4) % 4) 0)):=by
    unfold strings_Repeat.f
    have hs:((⟨#[0]⟩:ByteArray).size:Int)=1:=rfl
    rw[hs,if_pos (by omega),nat_toNat]
    rw[show (⟨#[0]⟩:ByteArray).data.toList=[0] from rfl,repeatL_is];rfl
  rw[hr]
  refine Ev.bind (Ev.now _) ?_
  refine Ev.pos (by simp only[mkB_size,List.length_replicate];omega) ?_
  rw[mkB_append]
  exact Ev.now _
section
variable (m sc st ec:Int) (sd sk sp:Bool) (l:List S73)
theorem optrgs_l0 (p:List UInt8) (hp:p.length≤100) (h4:l.length≤4) (hl:∀ x∈l,rgOk x):∀ (d i:Nat),l.length - i=d→i≤l.length →
    Ev (fun k=>opts_text.l0 k (mkB p) (mkB (rgsB (l.take i))) l (l.length:Int) (i:Int)) (mkB (padB (p++opB 5 (rgsB l)))):=by
  intro d
  induction d with
  | zero =>
    intro i hd hi
    obtain rfl:i=l.length:=by omega
    rw[List.take_length]
    have hlen:=rgsB_len l
    refine Ev.step (fun k=>by simp only[opts_text.l0];rfl) ?_
    refine Ev.neg (by omega) ?_
    have ho:=option_is 5 (by omega) (rgsB l) (by omega)
    rw[show ((5:Nat):Int)=5 from rfl] at ho
    rw[ho]
    refine Ev.bind (Ev.now _) ?_
    have:=opB_len 5 (rgsB l)
    refine Ev.pos (by simp only[mkB_size];omega) ?_
    rw[mkB_append]
    exact optpad_ev _ (by rw[List.length_append];omega)
  | succ d ih =>
    intro i hd hi
    have hlt:i < l.length:=by omega
    have hx:=hl l[i] (List.getElem_mem hlt)
    have hrd:rd_T73 l (i:Int)=l[i]:=by simp[rd_T73,hlt]
    obtain⟨h1,h2,h3⟩:=hx
    unfold seqOk at h1 h2
    have ht:rgsB (l.take (i+1))=rgsB (l.take i)++rgB l[i]:=by
      rw[List.take_succ_eq_append_getElem hlt,rgsB,List.flatMap_append,List.flatMap_cons,List.flatMap_nil,List.append_nil,rgsB]
    have hlen:=rgsB_len (l.take i)
    rw[List.length_take] at hlen
    refine Ev.step (fun k=>by simp only[opts_text.l0];rfl) ?_
    refine Ev.pos (by omega) ?_
    refine Ev.pos (by omega) ?_
    refine Ev.pos (by omega) ?_
    rw[hrd]
    obtain⟨a,ha⟩:=Int.eq_ofNat_of_zero_le h1.1
    obtain⟨b,hb⟩:=Int.eq_ofNat_of_zero_le h2.1
    have hrg:rgB l[i]=SP.bytesN a 4++SP.bytesN b 4:=by rw[rgB,ha,hb,nat_toNat,nat_toNat]
    rw[ha,hb]
    refine Ev.bind (optnum_ok a 4 (by omega) (by omega) (by omega) (by omega)) ?_
    refine Ev.bind (optnum_ok b 4 (by omega) (by omega) (by omega) (by omega)) ?_
    refine Ev.pos (by simp only[mkB_size,SP.bytesN_len];omega) ?_
    rw[mkB_append,mkB_append,← hrg]
    refine Ev.pos (by simp only[mkB_size,rgB_len];omega) ?_
    rw[← ht,w64 (by omega) (by omega)]
    exact ih (i+1) (by omega) (by omega)
theorem opttext3 (p:List UInt8) (hp:p.length≤100) (h4:l.length≤4) (hl:∀ x∈l,rgOk x):Ev (fun k=>opts_text.j3 k (mkB p) m sc st ec sd sk sp l) (mkB (padB (p++oRgs l))):=by
  refine Ev.step (fun k=>by simp only[opts_text.j3];rfl) ?_
  refine Ev.ite (fun h=>?_) (fun h=>?_)
  · rw[oRgs,if_pos (by omega)]
    have:=optrgs_l0 l p hp h4 hl l.length 0 rfl (by omega)
    rw[List.take_zero] at this
    exact this
  · rw[oRgs,if_neg (by omega),List.append_nil]
    exact optpad_ev p (by omega)
theorem opttext2 (p:List UInt8) (hp:p.length≤90) (h4:l.length≤4) (hl:∀ x∈l,rgOk x) (h1:seqOk st) (h2:seqOk ec):Ev (fun k=>opts_text.j2 k (mkB p) m sc st ec sd sk sp l) (mkB (padB (p++oStamp st ec sp++oRgs l))):=by
  unfold seqOk at h1 h2
  refine Ev.step (fun k=>by simp only[opts_text.j2];rfl) ?_
  refine Ev.ite (fun h=>?_) (fun h=>?_)
  · have hlen:=oStamp_le st ec sp
    rw[oStamp,if_pos h] at hlen ⊢
    obtain⟨a,ha⟩:=Int.eq_ofNat_of_zero_le h1.1
    obtain⟨b,hb⟩:=Int.eq_ofNat_of_zero_le h2.1
    subst ha hb
    rw[nat_toNat,nat_toNat] at hlen ⊢
    refine Ev.bind (optnum_ok a 4 (by omega) (by omega) (by omega) (by omega)) ?_
    refine Ev.bind (optnum_ok b 4 (by omega) (by omega) (by omega) (by omega)) ?_
    refine Ev.pos (by simp only[mkB_size,SP.bytesN_len];omega) ?_
    rw[mkB_append]
    have ho:=option_is 8 (by omega) (SP.bytesN a 4++SP.bytesN b 4) (by simp[SP.bytesN_len])
    rw[show ((8:Nat):Int)=8 from rfl] at ho
    rw[ho]
    refine Ev.bind (Ev.now _) ?_
    refine Ev.pos (by simp only[mkB_size];omega) ?_
    rw[mkB_append]
    exact opttext3 m sc a b sd sk sp l _ (by rw[List.length_append];omega) h4 hl
  · rw[oStamp,if_neg h,List.append_nil]
    exact opttext3 m sc st ec sd sk sp l p (by omega) h4 hl
theorem opttext1 (p:List UInt8) (hp:p.length≤80) (h4:l.length≤4) (hl:∀ x∈l,rgOk x) (h1:seqOk st) (h2:seqOk ec):Ev (fun k=>opts_text.j1 k (mkB p) m sc st ec sd sk sp l) (mkB (padB (p++oSack sk++oStamp st ec sp++oRgs l))):=by
  refine Ev.step (fun k=>by simp only[opts_text.j1];rfl) ?_
  refine Ev.ite (fun h=>?_) (fun h=>?_)
  · have hlen:=oSack_le sk
    rw[oSack,if_pos h] at hlen ⊢
    have ho:=option_is 4 (by omega) [] (by simp)
    rw[show ((4:Nat):Int)=4 from rfl] at ho
    rw[show (⟨#[]⟩:ByteArray)=mkB [] from rfl,ho]
    refine Ev.bind (Ev.now _) ?_
    refine Ev.pos (by simp only[mkB_size];omega) ?_
    rw[mkB_append]
    exact opttext2 m sc st ec sd sk sp l _ (by rw[List.length_append];omega) h4 hl h1 h2
  · rw[oSack,if_neg h,List.append_nil]
    exact opttext2 m sc st ec sd sk sp l p (by omega) h4 hl h1 h2
theorem opttext0 (p:List UInt8) (hp:p.length≤70) (h4:l.length≤4) (hl:∀ x∈l,rgOk x) (h1:seqOk st) (h2:seqOk ec) (h5:0≤sc) (h6:sc≤14):Ev (fun k=>opts_text.j0 k (mkB p) m sc st ec sd sk sp l) (mkB (padB (p++oScale sc sd++oSack sk++oStamp st ec sp++oRgs l))):=by
  refine Ev.step (fun k=>by simp only[opts_text.j0];rfl) ?_
  refine Ev.ite (fun h=>?_) (fun h=>?_)
  · have hlen:=oScale_le sc sd
    rw[oScale,if_pos h] at hlen ⊢
    obtain⟨a,ha⟩:=Int.eq_ofNat_of_zero_le h5
    subst ha
    rw[nat_toNat] at hlen ⊢
    refine Ev.bind (optnum_ok a 1 (by omega) (by omega) (by omega) (by omega)) ?_
    have ho:=option_is 3 (by omega) (SP.bytesN a 1) (by simp[SP.bytesN_len])
    rw[show ((3:Nat):Int)=3 from rfl] at ho
    rw[ho]
    refine Ev.bind (Ev.now _) ?_
    refine Ev.pos (by simp only[mkB_size];omega) ?_
    rw[mkB_append]
    exact opttext1 m a st ec sd sk sp l _ (by rw[List.length_append];omega) h4 hl h1 h2
  · rw[oScale,if_neg h,List.append_nil]
    exact opttext1 m sc st ec sd sk sp l p (by omega) h4 hl h1 h2
theorem opttext_ev (h:optFit m sc st ec sd sk sp l):Ev (fun k=>opts_text.f k m sc st ec sd sk sp l) (mkB (optB m sc st ec sd sk sp l)):=by
  obtain⟨m0,m1,s0,s1,h4,h1,h2,_,_,hl⟩:=h
  unfold opts_text.f optB bareB
  refine Ev.ite (fun h=>?_) (fun h=>?_)
  · have hlen:=oMss_le m
    rw[oMss,if_pos h] at hlen ⊢
    obtain⟨a,ha⟩:=Int.eq_ofNat_of_zero_le m0
    subst ha
    rw[nat_toNat] at hlen ⊢
    refine Ev.bind (optnum_ok a 2 (by omega) (by omega) (by omega) (by omega)) ?_
    have ho:=option_is 2 (by omega) (SP.bytesN a 2) (by simp[SP.bytesN_len])
    rw[show ((2:Nat):Int)=2 from rfl] at ho
    rw[ho]
    refine Ev.bind (Ev.now _) ?_
    refine Ev.pos (by simp only[mkB_size];omega) ?_
    rw[show (⟨#[]⟩:ByteArray)=mkB [] from rfl,mkB_append,List.nil_append]
    exact opttext0 a sc st ec sd sk sp l _ (by omega) h4 hl h1 h2 s0 s1
  · rw[oMss,if_neg h,List.nil_append]
    have:=opttext0 m sc st ec sd sk sp l [] (by simp) h4 hl h1 h2 s0 s1
    rw[List.nil_append] at this
    exact this
end
theorem rgfit {x:S73} (h:fit73 x):(-9223372036854775808≤x.f0∧x.f0 < 9223372036854775808) ∧ -9223372036854775808≤x.f1∧x.f1 < 9223372036854775808:=⟨wf64 h.1,wf64 h.2⟩
theorem rgtest (x:S73) (h:fit73 x):api_Range_51.p x = !decide (rgOk x):=by
  obtain⟨⟨h1,h2⟩,h3,h4⟩:=rgfit h
  unfold api_Range_51.p opts_Check_1.f
  rw[seqcheck_is _ h1 h2,seqcheck_is _ h3 h4]
  simp only[Option.bind_some]
  unfold seqC
  by_cases a:seqOk x.f0
  · by_cases b:seqOk x.f1
    · rw[if_pos a,if_pos b,if_neg (by decide)]
      by_cases c:x.f0=x.f1
      · rw[decide_eq_false (fun hh=>hh.2.2 c)];simp[c]
      · rw[decide_eq_true (show rgOk x from ⟨a,b,c⟩)];simp[c]
    · rw[if_pos a,if_neg b,if_pos (by decide),decide_eq_false (fun hh=>b hh.2.1)];rfl
  · by_cases b:seqOk x.f1
    · rw[if_neg a,if_pos b,if_pos (by decide),decide_eq_false (fun hh=>a hh.1)];rfl
    · rw[if_neg a,if_neg b,if_pos (by decide),decide_eq_false (fun hh=>a hh.1)];rfl
theorem rgany (l:List S73) (h:∀ x∈l,fit73 x):l.any api_Range_51.p=true↔¬ ∀ x∈l,rgOk x:=by
  rw[List.any_eq_true]
  constructor
  · rintro⟨x,hx,hp⟩ hall
    rw[rgtest x (h x hx),decide_eq_true (hall x hx)] at hp
    exact absurd hp (by decide)
  · intro hn
    refine Classical.byContradiction fun hc=>hn fun x hx=>?_
    refine Classical.byContradiction fun hr=>hc ⟨x,hx,?_⟩
    rw[rgtest x (h x hx),decide_eq_false hr];rfl
def optC (m sc st ec:Int) (sd sk sp:Bool) (l:List S73):Int:=if optOk m sc st ec sd sk sp l then 0 else 70
section
variable (m sc st ec:Int) (sd sk sp:Bool) (l:List S73)
theorem optC_no (h:¬ optFit m sc st ec sd sk sp l):optC m sc st ec sd sk sp l=70:=by
  unfold optC;rw[if_neg (fun h2=>h h2.1)]
theorem optbad2:Ev (fun k=>opts_Check.j2 k true m sc st ec sd sk sp l) 70:=by
  refine Ev.step (fun k=>by simp only[opts_Check.j2];rfl) ?_
  exact Ev.pos trivial (Ev.now _)
theorem optbad1:Ev (fun k=>opts_Check.j1 k true m sc st ec sd sk sp l) 70:=by
  refine Ev.step (fun k=>by simp only[opts_Check.j1];rfl) ?_
  exact Ev.pos trivial (optbad2 m sc st ec sd sk sp l)
theorem optbad0:Ev (fun k=>opts_Check.j0 k true m sc st ec sd sk sp l) 70:=by
  refine Ev.step (fun k=>by simp only[opts_Check.j0];rfl) ?_
  exact Ev.pos trivial (optbad1 m sc st ec sd sk sp l)
theorem optcheck2 (hl:l.length < 1000000000000000∧∀ x∈l,fit73 x) (h:(∀ x∈l,rgOk x)→optFit m sc st ec sd sk sp l):Ev (fun k=>opts_Check.j2 k false m sc st ec sd sk sp l) (optC m sc st ec sd sk sp l):=by
  refine Ev.step (fun k=>by simp only[opts_Check.j2];rfl) ?_
  refine Ev.neg (by decide) ?_
  have hf:api_Range_51.f l 52=some (l.any api_Range_51.p):=by
    unfold api_Range_51.f
    rw[if_pos ⟨rfl,by omega⟩]
  rw[hf]
  refine Ev.bind (Ev.now _) ?_
  refine Ev.ite (fun ha=>?_) (fun ha=>?_)
  · refine Ev.val (Ev.now _) (optC_no m sc st ec sd sk sp l fun hh=>?_).symm
    exact(rgany l hl.2).mp ha hh.2.2.2.2.2.2.2.2.2
  · have hall:∀ x∈l,rgOk x:=Classical.byContradiction fun hn=>ha ((rgany l hl.2).mpr hn)
    refine Ev.bind (opttext_ev m sc st ec sd sk sp l (h hall)) ?_
    rw[mkB_size]
    refine Ev.ite (fun hb=>?_) (fun hb=>?_)
    · refine Ev.val (Ev.now _) ?_
      unfold optC;rw[if_neg (fun h2=>by have:=h2.2;omega)]
    · refine Ev.val (Ev.now _) ?_
      unfold optC;rw[if_pos ⟨h hall,by omega⟩]
theorem optcheck1 (hl:l.length < 1000000000000000∧∀ x∈l,fit73 x) (m0:0≤m) (m1:m≤65535) (s0:0≤sc) (s1:sc≤14) (h4:l.length≤4) (h1:seqOk st) (h2:seqOk ec):Ev (fun k=>opts_Check.j1 k false m sc st ec sd sk sp l) (optC m sc st ec sd sk sp l):=by
  refine Ev.step (fun k=>by simp only[opts_Check.j1];rfl) ?_
  refine Ev.neg (by decide) ?_
  have h1':=h1
  have h2':=h2
  unfold seqOk at h1' h2'
  have two:(sd=true∨sc=0)→Ev (fun k=>if sp=true then opts_Check.j2 k false m sc st ec sd sk sp l else opts_Check.j2 k (decide (mx st ec > 0)) m sc st ec sd sk sp l) (optC m sc st ec sd sk sp l):=by
    intro hsd
    refine Ev.ite (fun hp=>?_) (fun hp=>?_)
    · exact optcheck2 m sc st ec sd sk sp l hl fun hall=>⟨m0,m1,s0,s1,h4,h1,h2,hsd,.inl hp,hall⟩
    · by_cases hz:st=0∧ec=0
      · rw[decide_eq_false (fun hh=>by rw[mx_gt] at hh;omega)]
        exact optcheck2 m sc st ec sd sk sp l hl fun hall=>⟨m0,m1,s0,s1,h4,h1,h2,hsd,.inr hz,hall⟩
      · rw[decide_eq_true (by rw[mx_gt];omega)]
        refine Ev.val (optbad2 m sc st ec sd sk sp l) (optC_no m sc st ec sd sk sp l fun hh=>?_).symm
        rcases hh.2.2.2.2.2.2.2.2.1 with h|h
        · exact hp h
        · exact hz h
  refine Ev.ite (fun hd=>two (.inl hd)) (fun hd=>?_)
  refine Ev.ite (fun hs=>?_) (fun hs=>two (.inr (by omega)))
  refine Ev.val (optbad2 m sc st ec sd sk sp l) (optC_no m sc st ec sd sk sp l fun hh=>?_).symm
  rcases hh.2.2.2.2.2.2.2.1 with h|h
  · exact hd h
  · omega
theorem optcheck_ev (hst : -9223372036854775808≤st∧st < 9223372036854775808) (hec : -9223372036854775808≤ec∧ec < 9223372036854775808) (hl:l.length < 1000000000000000∧∀ x∈l,fit73 x):Ev (fun k=>opts_Check.f k m sc st ec sd sk sp l) (optC m sc st ec sd sk sp l):=by
  have bad:¬ optFit m sc st ec sd sk sp l→Ev (fun k=>opts_Check.j0 k true m sc st ec sd sk sp l) (optC m sc st ec sd sk sp l):=fun h=>Ev.val (optbad0 m sc st ec sd sk sp l) (optC_no m sc st ec sd sk sp l h).symm
  unfold opts_Check.f
  refine Ev.ite (fun h=>bad fun hh=>by have:=hh.1;omega) (fun m0=>?_)
  refine Ev.ite (fun h=>bad fun hh=>by have:=hh.2.1;omega) (fun m1=>?_)
  refine Ev.ite (fun h=>bad fun hh=>by have:=hh.2.2.1;omega) (fun s0=>?_)
  refine Ev.ite (fun h=>bad fun hh=>by have:=hh.2.2.2.1;omega) (fun s1=>?_)
  by_cases h4:(l.length:Int) > 4
  · rw[decide_eq_true h4]
    exact bad fun hh=>by have:=hh.2.2.2.2.1;omega
  · rw[decide_eq_false h4]
    refine Ev.step (fun k=>by simp only[opts_Check.j0];rfl) ?_
    refine Ev.neg (by decide) ?_
    rw[seqcheck_is st hst.1 hst.2,seqcheck_is ec hec.1 hec.2]
    refine Ev.bind (Ev.now _) ?_
    refine Ev.bind (Ev.now _) ?_
    have bad1:¬ optFit m sc st ec sd sk sp l→Ev (fun k=>opts_Check.j1 k true m sc st ec sd sk sp l) (optC m sc st ec sd sk sp l):=fun h=>Ev.val (optbad1 m sc st ec sd sk sp l) (optC_no m sc st ec sd sk sp l h).symm
    unfold seqC
    by_cases a:seqOk st
    · by_cases b:seqOk ec
      · rw[if_pos a,if_pos b,decide_eq_false (by decide)]
        exact optcheck1 m sc st ec sd sk sp l hl (by omega) (by omega) (by omega) (by omega) (by omega) a b
      · rw[if_pos a,if_neg b,decide_eq_true (by decide)]
        exact bad1 fun hh=>b hh.2.2.2.2.2.2.1
    · have hx:mx (if seqOk st then 0 else 1) (if seqOk ec then 0 else 1) > 0:=by rw[if_neg a,mx_gt];omega
      rw[decide_eq_true hx]
      exact bad1 fun hh=>a hh.2.2.2.2.2.1
end
theorem pad_four (b:List UInt8):(padB b).length % 4=0:=by
  unfold padB;rw[List.length_append,List.length_replicate];omega
instance:DecidableEq S73:=fun x y=>decidable_of_iff (x.f0=y.f0∧x.f1=y.f1) ⟨fun h=>by cases x;cases y;obtain⟨h1,h2⟩:=h;cases h1;cases h2;rfl,fun h=>by subst h;exact⟨rfl,rfl⟩⟩
def optSame (m sc st ec:Int) (sd sk sp:Bool) (l:List S73) (m' sc' st' ec':Int) (sd' sk' sp':Bool) (l':List S73):Bool:=(m == m' && sc == sc' && st == st' && ec == ec') && (sd == sd' && sk == sk' && sp == sp') && decide (l=l')
theorem rg_ne (x y:S73):(!(x.f0 == y.f0) || (!(x.f1 == y.f1))) = !decide (x=y):=by
  cases x with
  | mk a b =>
    cases y with
    | mk c d =>
      by_cases h1:a=c
      · by_cases h2:b=d
        · subst h1 h2;simp
        · simp[h1,h2]
      · simp[h1]
theorem optSame_iff (m sc st ec:Int) (sd sk sp:Bool) (l:List S73) (m' sc' st' ec':Int) (sd' sk' sp':Bool) (l':List S73):optSame m sc st ec sd sk sp l m' sc' st' ec' sd' sk' sp' l'=true↔m=m'∧sc=sc'∧st=st'∧ec=ec'∧sd=sd'∧sk=sk'∧sp=sp'∧l=l':=by
  unfold optSame
  simp only[Bool.and_eq_true,beq_iff_eq,decide_eq_true_eq]
  constructor
  · rintro⟨⟨⟨⟨⟨a,b⟩,c⟩,d⟩,⟨e,f⟩,g⟩,h⟩;exact⟨a,b,c,d,e,f,g,h⟩
  · rintro⟨a,b,c,d,e,f,g,h⟩;exact⟨⟨⟨⟨⟨a,b⟩,c⟩,d⟩,⟨e,f⟩,g⟩,h⟩
/-! ### options, read: one option -/
theorem Ev.uniq {α : Type} {g:Nat→Option α} {r r' : α} (h:Ev g r) (h':Ev g r'):r=r':=by
  obtain⟨K,h⟩:=h
  obtain⟨K',h'⟩:=h'
  exact Option.some.inj ((h (max K K') (by omega)).symm.trans (h' (max K K') (by omega)))
theorem wf_of {n:Int} (h : -9223372036854775808≤n∧n < 9223372036854775808):(Lit.int .i64 n).wf=true:=by
  have e:(Lit.int .i64 n).wf=decide (IntKind.i64.min≤n∧n≤9223372036854775807):=by simp[Lit.wf]
  rw[e,show IntKind.i64.min = -9223372036854775808 from by decide]
  exact decide_eq_true ⟨by omega,by omega⟩
theorem known_tot (a:Int):∃ b,Ev (fun k=>opts_known.f k a) b:=by
  have j1:∀ x,Ev (fun k=>opts_known.j1 k x) x:=fun x=>by
    refine Ev.step (fun k=>by simp only[opts_known.j1];rfl) ?_
    cases x
    · exact Ev.neg (by decide) (Ev.now _)
    · exact Ev.pos rfl (Ev.now _)
  have j0:∀ a x,∃ b,Ev (fun k=>opts_known.j0 k a x) b:=fun a x=>by
    cases x with
    | true=>exact⟨true,Ev.step (fun k=>by simp only[opts_known.j0];rfl) (Ev.pos trivial (Ev.now _))⟩
    | false =>
      by_cases h:a=5
      · exact⟨_,Ev.step (fun k=>by simp only[opts_known.j0];rfl) (Ev.neg (by decide) (Ev.pos h (j1 _)))⟩
      · exact⟨_,Ev.step (fun k=>by simp only[opts_known.j0];rfl) (Ev.neg (by decide) (Ev.neg h (j1 _)))⟩
  unfold opts_known.f
  by_cases h2:a=2
  · obtain⟨b,hb⟩:=j0 a (a == 2);exact⟨b,Ev.pos h2 hb⟩
  by_cases h3:a=3
  · obtain⟨b,hb⟩:=j0 a (a == 3);exact⟨b,Ev.neg h2 (Ev.pos h3 hb)⟩
  · obtain⟨b,hb⟩:=j0 a (a == 4);exact⟨b,Ev.neg h2 (Ev.neg h3 hb)⟩
theorem get_in (L:List UInt8) (a b:Nat) (hL:L.length≤1000) (hb1:1≤b) (hb:b≤6) (h:a+b≤L.length):sum_Get.f (mkB L) (a:Int) (b:Int)=some (((SP.num ((L.drop a).take b):Nat):Int),0):=by
  rw[get_ev (mkB L) (by rw[mkB_size];omega) a b (by omega) (by omega),GetS,mkB_size,if_neg (by omega),by_mkB,nat_toNat,nat_toNat]
theorem get_tot (L:List UInt8) (a b:Nat) (hL:L.length≤1000) (ha:a≤1000) (hb:b≤6):∃ v e,sum_Get.f (mkB L) (a:Int) (b:Int)=some (v,e)∧0≤v∧v < 281474976710656:=by
  rw[get_ev (mkB L) (by rw[mkB_size];omega) a b (by omega) (by omega),GetS]
  by_cases h:((b:Int) < 1∨6 < (b:Int)∨(a:Int) < 0∨((mkB L).size:Int) < a+b)
  · rw[if_pos h];exact⟨_,_,rfl,by omega,by omega⟩
  · rw[if_neg h]
    refine⟨_,_,rfl,by omega,?_⟩
    have hl:=SP.num_lt ((((SP.by_ (mkB L)).drop (a:Int).toNat).take (b:Int).toNat))
    have hp:256 ^ ((((SP.by_ (mkB L)).drop (a:Int).toNat).take (b:Int).toNat)).length≤256 ^ 6:=Nat.pow_le_pow_right (by omega) (by rw[List.length_take];omega)
    have e6:256 ^ 6=281474976710656:=by decide
    omega
/-- the range that stands at a place -/
def rgN (L:List UInt8) (i:Nat):S73:=⟨((SP.num ((L.drop (8 * i)).take 4):Nat):Int),((SP.num ((L.drop (8 * i+4)).take 4):Nat):Int)⟩
def rgsN (L:List UInt8) (n:Nat):List S73:=(List.range n).map (rgN L)
theorem num4 (L:List UInt8) (a:Nat):SP.num ((L.drop a).take 4) < 4294967296:=by
  have hl:=SP.num_lt ((L.drop a).take 4)
  have hp:256 ^ ((L.drop a).take 4).length≤256 ^ 4:=Nat.pow_le_pow_right (by omega) (by rw[List.length_take];omega)
  have e4:256 ^ 4=4294967296:=by decide
  omega
theorem rgsN_fit (L:List UInt8) (n:Nat):∀ x∈rgsN L n,fit73 x:=by
  intro x hx
  obtain⟨i,_,rfl⟩:=List.mem_map.1 hx
  have h1:=num4 L (8 * i)
  have h2:=num4 L (8 * i+4)
  exact⟨wf_of (by unfold rgN;dsimp only;omega),wf_of (by unfold rgN;dsimp only;omega)⟩
theorem rgsN_len (L:List UInt8) (n:Nat):(rgsN L n).length=n:=by simp[rgsN]
theorem readsl_ev (L:List UInt8) (hL:L.length≤300) (l:List S73) (hl:l.length≤1000):∀ (d i:Nat),L.length / 8 - i=d→i≤L.length / 8 →
    Ev (fun k=>opts_read.sl k (mkB L) ((8 * i:Nat):Int) (l++rgsN L i)) (l++rgsN L (L.length / 8)):=by
  intro d
  induction d with
  | zero =>
    intro i hd hi
    obtain rfl:i=L.length / 8:=by omega
    refine Ev.step (fun k=>by simp only[opts_read.sl];rfl) ?_
    rw[w64 (by omega) (by omega),mkB_size]
    exact Ev.neg (by omega) (Ev.now _)
  | succ d ih =>
    intro i hd hi
    refine Ev.step (fun k=>by simp only[opts_read.sl];rfl) ?_
    rw[w64 (n:=((8 * i:Nat):Int)+8) (by omega) (by omega),w64 (n:=((8 * i:Nat):Int)+4) (by omega) (by omega),mkB_size]
    refine Ev.pos (by omega) ?_
    have g1:=get_in L (8 * i) 4 (by omega) (by omega) (by omega) (by omega)
    have g2:=get_in L (8 * i+4) 4 (by omega) (by omega) (by omega) (by omega)
    rw[show ((8 * i:Nat):Int)+4=((8 * i+4:Nat):Int) from by omega,show ((8 * i:Nat):Int)+8=((8 * (i+1):Nat):Int) from by omega]
    rw[show ((4:Nat):Int)=4 from rfl] at g1 g2
    rw[g1,g2]
    refine Ev.bind (Ev.now _) ?_
    refine Ev.bind (Ev.now _) ?_
    refine Ev.pos (by rw[List.length_append,rgsN_len];omega) ?_
    have e:l++rgsN L i++[rgN L i]=l++rgsN L (i+1):=by rw[List.append_assoc,rgsN,rgsN,List.range_succ,List.map_append];rfl
    have:=ih (i+1) (by omega) (by omega)
    rw[← e] at this
    exact this
theorem rgsB_drop (l:List S73):∀ i,(rgsB l).drop (8 * i)=rgsB (l.drop i):=by
  induction l with
  | nil=>intro i;simp[rgsB]
  | cons x l ih =>
    intro i
    cases i with
    | zero=>rfl
    | succ i =>
      have h:rgsB (x :: l)=rgB x++rgsB l:=rfl
      have h8:=rgB_len x
      rw[h,List.drop_append,List.drop_of_length_le (by omega),List.nil_append,h8,show 8 * (i+1) - 8=8 * i from by omega,ih,List.drop_succ_cons]
theorem rgsN_back (l:List S73) (hl:∀ x∈l,rgOk x):rgsN (rgsB l) l.length=l:=by
  apply List.ext_getElem
  · rw[rgsN_len]
  · intro i h1 h2
    simp only[rgsN,List.getElem_map,List.getElem_range]
    have hx:=hl l[i] (List.getElem_mem h2)
    have hd:(rgsB l).drop (8 * i)=rgB l[i]++rgsB (l.drop (i+1)):=by
      rw[rgsB_drop,List.drop_eq_getElem_cons h2];rfl
    have hd4:(rgsB l).drop (8 * i+4)=SP.bytesN l[i].f1.toNat 4++rgsB (l.drop (i+1)):=by
      have l4:=SP.bytesN_len l[i].f0.toNat 4
      rw[← List.drop_drop,hd,rgB,List.append_assoc,List.drop_append,List.drop_of_length_le (by omega),List.nil_append,l4,Nat.sub_self,List.drop_zero]
    have t0:((rgsB l).drop (8 * i)).take 4=SP.bytesN l[i].f0.toNat 4:=by
      have l4:=SP.bytesN_len l[i].f0.toNat 4
      rw[hd,rgB,List.append_assoc,List.take_append_of_le_length (by omega),List.take_of_length_le (by omega)]
    have t4:((rgsB l).drop (8 * i+4)).take 4=SP.bytesN l[i].f1.toNat 4:=by
      have l4:=SP.bytesN_len l[i].f1.toNat 4
      rw[hd4,List.take_append_of_le_length (by omega),List.take_of_length_le (by omega)]
    unfold rgN
    rw[t0,t4,SP.num_bytesN,SP.num_bytesN]
    have e4:256 ^ 4=4294967296:=by decide
    obtain⟨a,b,_⟩:=hx
    unfold seqOk at a b
    generalize l[i]=x at a b ⊢
    cases x with
    | mk p q =>
      simp only at a b ⊢
      rw[Nat.mod_eq_of_lt (by omega),Nat.mod_eq_of_lt (by omega),Int.toNat_of_nonneg (by omega),Int.toNat_of_nonneg (by omega)]
/-- what decoding has so far -/
abbrev O8:Type:=Int × Int × Int × Int × Bool × Bool × Bool × List S73
def inv8 (n:Nat) (st ec:Int) (l:List S73):Prop:=(-9223372036854775808≤st∧st < 9223372036854775808)∧(-9223372036854775808≤ec∧ec < 9223372036854775808)∧l.length≤n∧∀ x∈l,fit73 x
theorem inv8.more {n n':Nat} {st ec:Int} {l:List S73} (h:inv8 n st ec l) (hn:n≤n'):inv8 n' st ec l:=⟨h.1,h.2.1,by have:=h.2.2.1;omega,h.2.2.2⟩
theorem read_tot (m sc st ec:Int) (sd sk sp:Bool) (l:List S73) (kd:Int) (L:List UInt8) (hL:L.length≤300) (n:Nat) (hn:n≤1000) (h:inv8 n st ec l) :
    ∃ r,Ev (fun k=>opts_read.f k m sc st ec sd sk sp l kd (mkB L)) r∧inv8 (n+L.length) r.2.2.1 r.2.2.2.1 r.2.2.2.2.2.2.2.1:=by
  have h':=h.more (Nat.le_add_right n L.length)
  unfold opts_read.f
  by_cases k2:kd=2
  · obtain⟨v,e,hv,_,_⟩:=get_tot L 0 2 (by omega) (by omega) (by omega)
    rw[show ((0:Nat):Int)=0 from rfl,show ((2:Nat):Int)=2 from rfl] at hv
    rw[hv]
    exact⟨_,Ev.pos k2 (Ev.bind (Ev.now _) (Ev.now _)),h'⟩
  by_cases k3:kd=3
  · obtain⟨v,e,hv,_,_⟩:=get_tot L 0 1 (by omega) (by omega) (by omega)
    rw[show ((0:Nat):Int)=0 from rfl,show ((1:Nat):Int)=1 from rfl] at hv
    rw[hv]
    exact⟨_,Ev.neg k2 (Ev.pos k3 (Ev.bind (Ev.now _) (Ev.now _))),h'⟩
  by_cases k4:kd=4
  · exact⟨_,Ev.neg k2 (Ev.neg k3 (Ev.pos k4 (Ev.now _))),h'⟩
  by_cases k5:kd=5
  · have hs:=readsl_ev L hL l (by have:=h.2.2.1;omega) (L.length / 8) 0 rfl (by omega)
    rw[show rgsN L 0=[] from rfl,List.append_nil] at hs
    refine⟨_,Ev.neg k2 (Ev.neg k3 (Ev.neg k4 (Ev.pos k5 (Ev.bind hs (Ev.now _))))),h.1,h.2.1,?_,?_⟩
    · dsimp only;rw[List.length_append,rgsN_len];have:=h.2.2.1;omega
    · intro x hx
      rcases List.mem_append.1 hx with hx|hx
      · exact h.2.2.2 x hx
      · exact rgsN_fit L _ x hx
  by_cases k8:kd=8
  · obtain⟨v,e,hv,v0,v1⟩:=get_tot L 0 4 (by omega) (by omega) (by omega)
    obtain⟨u,f,hu,u0,u1⟩:=get_tot L 4 4 (by omega) (by omega) (by omega)
    rw[show ((0:Nat):Int)=0 from rfl,show ((4:Nat):Int)=4 from rfl] at hv
    rw[show ((4:Nat):Int)=4 from rfl] at hu
    rw[hv,hu]
    refine⟨_,Ev.neg k2 (Ev.neg k3 (Ev.neg k4 (Ev.neg k5 (Ev.pos k8 (Ev.bind (Ev.now _) (Ev.bind (Ev.now _) (Ev.now _))))))),?_,?_,h'.2.2.1,h'.2.2.2⟩
    · dsimp only;omega
    · dsimp only;omega
  · exact⟨_,Ev.neg k2 (Ev.neg k3 (Ev.neg k4 (Ev.neg k5 (Ev.neg k8 (Ev.now _))))),h'⟩
/-! ### options, decoded -/
section
variable (seen:List Int) (m sc st ec:Int) (sd sk sp:Bool) (l:List S73)
theorem bt_head (P:List UInt8) (i:Nat):bt (mkB P) (i:Int)=((SP.nth P i:Nat):Int):=by rw[bt_nth,by_mkB]
theorem bt_zero (P:List UInt8):bt (mkB P) 0=((SP.nth P 0:Nat):Int):=bt_head P 0
theorem bt_one (P:List UInt8):bt (mkB P) 1=((SP.nth P 1:Nat):Int):=bt_head P 1
theorem cut_rest' (P:List UInt8) (i:Nat):cutS (mkB P) i (mkB P).size=mkB (P.drop i):=by rw[cut_from,by_mkB]
theorem lp_nil:Ev (fun k=>opts_Decode.lp k (mkB []) seen m sc st ec sd sk sp l) (some (m,sc,st,ec,sd,sk,sp,l)):=by
  refine Ev.step (fun k=>by simp only[opts_Decode.lp];rfl) ?_
  exact Ev.neg (by rw[mkB_size];simp) (Ev.now _)
theorem lp_end (t:List UInt8):Ev (fun k=>opts_Decode.lp k (mkB (0 :: t)) seen m sc st ec sd sk sp l) (some (m,sc,st,ec,sd,sk,sp,l)):=by
  refine Ev.step (fun k=>by simp only[opts_Decode.lp];rfl) ?_
  rw[bt_zero]
  exact Ev.pos (by rw[mkB_size,List.length_cons];omega) (Ev.pos rfl (Ev.now _))
theorem lp_nop (t:List UInt8) {r} (h:Ev (fun k=>opts_Decode.lp k (mkB t) seen m sc st ec sd sk sp l) r):Ev (fun k=>opts_Decode.lp k (mkB (1 :: t)) seen m sc st ec sd sk sp l) r:=by
  refine Ev.step (fun k=>by simp only[opts_Decode.lp];rfl) ?_
  rw[bt_zero,cut_rest']
  exact Ev.pos (by rw[mkB_size,List.length_cons];omega) (Ev.neg (by have:SP.nth (1 :: t) 0=1:=rfl;omega) (Ev.pos rfl h))
theorem lp_go (P:List UInt8) (h2:2≤P.length) (b0:¬ SP.nth P 0=0) (b1:¬ SP.nth P 0=1) (c2:2≤SP.nth P 1) (cl:SP.nth P 1≤P.length) {kn:Bool} (hk:Ev (fun k=>opts_known.f k ((SP.nth P 0:Nat):Int)) kn)
    (hs:¬ (decide (((SP.nth P 0:Nat):Int)∈seen) && kn)=true) {rd:Int × Int × Int × Int × Bool × Bool × Bool × List S73 × Bool} (hr:Ev (fun k=>opts_read.f k m sc st ec sd sk sp l ((SP.nth P 0:Nat):Int) (mkB ((P.drop 2).take (SP.nth P 1 - 2)))) rd) (hok:rd.2.2.2.2.2.2.2.2=true) {r}
    (h:Ev (fun k=>opts_Decode.lp k (mkB (P.drop (SP.nth P 1))) (((SP.nth P 0:Nat):Int) :: seen) rd.1 rd.2.1 rd.2.2.1 rd.2.2.2.1 rd.2.2.2.2.1 rd.2.2.2.2.2.1 rd.2.2.2.2.2.2.1 rd.2.2.2.2.2.2.2.1) r):Ev (fun k=>opts_Decode.lp k (mkB P) seen m sc st ec sd sk sp l) r:=by
  refine Ev.step (fun k=>by simp only[opts_Decode.lp];rfl) ?_
  rw[bt_zero,bt_one,nat_toNat,cut_rest',cut_rest',cut_mk,by_mkB]
  refine Ev.pos (by rw[mkB_size];omega) (Ev.neg (by omega) (Ev.neg (by omega) (Ev.neg (by rw[mkB_size];omega) (Ev.neg (by omega) (Ev.neg (by rw[mkB_size];omega) ?_)))))
  exact Ev.bind hk (Ev.neg hs (Ev.bind hr (Ev.pos hok h)))
/-- decoding ends; what is read of bytes that end well is read of them with bytes 1, 0 and whatever behind them -/
theorem lp_tot:∀ (N:Nat) (P:List UInt8) (seen:List Int) (m sc st ec:Int) (sd sk sp:Bool) (l:List S73) (n:Nat),P.length≤N→N≤250→n+P.length≤1000→inv8 n st ec l →
    ∃ r:Option O8,Ev (fun k=>opts_Decode.lp k (mkB P) seen m sc st ec sd sk sp l) r∧∀ o,r=some o→inv8 1000 o.2.2.1 o.2.2.2.1 o.2.2.2.2.2.2.2∧∀ t:List UInt8,Ev (fun k=>opts_Decode.lp k (mkB (P++1 :: 0 :: t)) seen m sc st ec sd sk sp l) (some o):=by
  intro N
  induction N with
  | zero =>
    intro P seen m sc st ec sd sk sp l n hP _ hn hi
    obtain rfl:P=[]:=List.length_eq_zero_iff.mp (by omega)
    refine⟨_,lp_nil seen m sc st ec sd sk sp l,fun o e=>?_⟩
    obtain rfl:=Option.some.inj e
    exact⟨hi.more (by omega),fun t=>lp_nop seen m sc st ec sd sk sp l _ (lp_end seen m sc st ec sd sk sp l t)⟩
  | succ N ih =>
    intro P seen m sc st ec sd sk sp l n hP hN hn hi
    by_cases p0:P=[]
    · exact ih P seen m sc st ec sd sk sp l n (by subst p0;exact Nat.zero_le _) (by omega) hn hi
    have hpos:0 < P.length:=List.length_pos_iff.mpr p0
    obtain⟨b,Q,rfl⟩:∃ b Q,P=b :: Q:=⟨P.head p0,P.tail,(List.cons_head_tail p0).symm⟩
    rw[List.length_cons] at hP hn
    by_cases e0:b=0
    · subst e0
      refine⟨_,lp_end seen m sc st ec sd sk sp l Q,fun o e=>?_⟩
      obtain rfl:=Option.some.inj e
      exact⟨hi.more (by omega),fun t=>lp_end seen m sc st ec sd sk sp l _⟩
    by_cases e1:b=1
    · subst e1
      obtain⟨r,hr,hx⟩:=ih Q seen m sc st ec sd sk sp l n (by omega) (by omega) (by omega) hi
      exact⟨r,lp_nop seen m sc st ec sd sk sp l Q hr,fun o e=>⟨(hx o e).1,fun t=>lp_nop seen m sc st ec sd sk sp l _ ((hx o e).2 t)⟩⟩
    have n0:∀ R,SP.nth (b :: R) 0=b.toNat:=fun R=>rfl
    have nb0:¬ b.toNat=0:=fun h=>e0 (UInt8.toNat_inj.mp h)
    have nb1:¬ b.toNat=1:=fun h=>e1 (UInt8.toNat_inj.mp h)
    have no:∀ {g:Nat→Option (Option O8)},Ev g none→∃ r:Option O8,Ev g r∧∀ o,r=some o→inv8 1000 o.2.2.1 o.2.2.2.1 o.2.2.2.2.2.2.2∧∀ t:List UInt8,Ev (fun k=>opts_Decode.lp k (mkB (b :: Q++1 :: 0 :: t)) seen m sc st ec sd sk sp l) (some o):=fun h=>⟨none,h,fun o e=>by cases e⟩
    have st0:∀ {r:Option O8},Ev (fun k=>if ((mkB (b :: Q)).size:Int) < 2 then some none else if ((SP.nth (b :: Q) 1:Nat):Int) < 2 then some none else if ((SP.nth (b :: Q) 1:Nat):Int) > ((mkB (b :: Q)).size:Int) then some none else
      (opts_known.f k ((SP.nth (b :: Q) 0:Nat):Int)).bind fun kn=>if (decide (((SP.nth (b :: Q) 0:Nat):Int)∈seen) && kn)=true then some none else
        (opts_read.f k m sc st ec sd sk sp l ((SP.nth (b :: Q) 0:Nat):Int) (mkB (((b :: Q).drop 2).take (SP.nth (b :: Q) 1 - 2)))).bind fun r=>if r.2.2.2.2.2.2.2.2=true then opts_Decode.lp k (mkB ((b :: Q).drop (SP.nth (b :: Q) 1))) (((SP.nth (b :: Q) 0:Nat):Int) :: seen) r.1 r.2.1 r.2.2.1 r.2.2.2.1 r.2.2.2.2.1 r.2.2.2.2.2.1 r.2.2.2.2.2.2.1 r.2.2.2.2.2.2.2.1 else some none) r →
      Ev (fun k=>opts_Decode.lp k (mkB (b :: Q)) seen m sc st ec sd sk sp l) r:=by
      intro r h
      refine Ev.step (fun k=>by simp only[opts_Decode.lp];rfl) ?_
      rw[bt_zero,bt_one,nat_toNat,cut_rest',cut_rest',cut_mk,by_mkB]
      exact Ev.pos (by rw[mkB_size,List.length_cons];omega) (Ev.neg (by rw[n0];omega) (Ev.neg (by rw[n0];omega) h))
    by_cases h2:Q.length+1 < 2
    · exact no (st0 (Ev.pos (by rw[mkB_size,List.length_cons];omega) (Ev.now _)))
    by_cases c2:SP.nth (b :: Q) 1 < 2
    · exact no (st0 (Ev.neg (by rw[mkB_size,List.length_cons];omega) (Ev.pos (by omega) (Ev.now _))))
    by_cases cl:SP.nth (b :: Q) 1 > Q.length+1
    · exact no (st0 (Ev.neg (by rw[mkB_size,List.length_cons];omega) (Ev.neg (by omega) (Ev.pos (by rw[mkB_size,List.length_cons];omega) (Ev.now _)))))
    obtain⟨kn,hk⟩:=known_tot ((SP.nth (b :: Q) 0:Nat):Int)
    by_cases hs:(decide (((SP.nth (b :: Q) 0:Nat):Int)∈seen) && kn)=true
    · exact no (st0 (Ev.neg (by rw[mkB_size,List.length_cons];omega) (Ev.neg (by omega) (Ev.neg (by rw[mkB_size,List.length_cons];omega) (Ev.bind hk (Ev.pos hs (Ev.now _)))))))
    have ld:(((b :: Q).drop 2).take (SP.nth (b :: Q) 1 - 2)).length=SP.nth (b :: Q) 1 - 2:=by rw[List.length_take,List.length_drop,List.length_cons];omega
    obtain⟨rd,hr,hri⟩:=read_tot m sc st ec sd sk sp l ((SP.nth (b :: Q) 0:Nat):Int) (((b :: Q).drop 2).take (SP.nth (b :: Q) 1 - 2)) (by omega) n (by omega) hi
    by_cases hok:rd.2.2.2.2.2.2.2.2=true
    · have lr:((b :: Q).drop (SP.nth (b :: Q) 1)).length=Q.length+1 - SP.nth (b :: Q) 1:=by rw[List.length_drop,List.length_cons]
      rw[ld] at hri
      obtain⟨r,h1,hx⟩:=ih ((b :: Q).drop (SP.nth (b :: Q) 1)) (((SP.nth (b :: Q) 0:Nat):Int) :: seen) rd.1 rd.2.1 rd.2.2.1 rd.2.2.2.1 rd.2.2.2.2.1 rd.2.2.2.2.2.1 rd.2.2.2.2.2.2.1 rd.2.2.2.2.2.2.2.1 (n+(SP.nth (b :: Q) 1 - 2)) (by omega) (by omega) (by omega) hri
      refine⟨r,lp_go seen m sc st ec sd sk sp l (b :: Q) (by rw[List.length_cons];omega) nb0 nb1 (by omega) (by rw[List.length_cons];omega) hk hs hr hok h1,fun o e=>⟨(hx o e).1,fun t=>?_⟩⟩
      have E0:SP.nth (b :: Q++1 :: 0 :: t) 0=SP.nth (b :: Q) 0:=rfl
      have E1:SP.nth (b :: Q++1 :: 0 :: t) 1=SP.nth (b :: Q) 1:=by
        unfold SP.nth
        rw[List.getD_eq_getElem?_getD,List.getElem?_append_left (by rw[List.length_cons];omega),← List.getD_eq_getElem?_getD]
      have E2:((b :: Q++1 :: 0 :: t).drop 2).take (SP.nth (b :: Q) 1 - 2)=((b :: Q).drop 2).take (SP.nth (b :: Q) 1 - 2):=by
        rw[List.drop_append_of_le_length (by rw[List.length_cons];omega),List.take_append_of_le_length (by rw[List.length_drop,List.length_cons];omega)]
      have E3:(b :: Q++1 :: 0 :: t).drop (SP.nth (b :: Q) 1)=(b :: Q).drop (SP.nth (b :: Q) 1)++1 :: 0 :: t:=by
        rw[List.drop_append_of_le_length (by rw[List.length_cons];omega)]
      have h3:=(hx o e).2 t
      refine lp_go seen m sc st ec sd sk sp l (b :: Q++1 :: 0 :: t) (by rw[List.length_append,List.length_cons];omega) (by rw[E0];exact nb0) (by rw[E0];exact nb1) (by rw[E1];omega) (by rw[E1,List.length_append,List.length_cons];omega) (kn:=kn) (by rw[E0];exact hk) (by rw[E0];exact hs) (rd:=rd) (by rw[E0,E1,E2];exact hr) hok (by rw[E0,E1,E3];exact h3)
    · exact no (st0 (Ev.neg (by rw[mkB_size,List.length_cons];omega) (Ev.neg (by omega) (Ev.neg (by rw[mkB_size,List.length_cons];omega) (Ev.bind hk (Ev.neg hs (Ev.bind hr (Ev.neg hok (Ev.now _)))))))))
end
/-- what decoding tells behind its loop -/
def decR (r:Option O8):Int × Int × Int × Int × Bool × Bool × Bool × List S73 × Int :=
  match r with
  | none=>(0,0,0,0,false,false,false,[],70)
  | some o=>if optOk o.1 o.2.1 o.2.2.1 o.2.2.2.1 o.2.2.2.2.1 o.2.2.2.2.2.1 o.2.2.2.2.2.2.1 o.2.2.2.2.2.2.2 then (o.1,o.2.1,o.2.2.1,o.2.2.2.1,o.2.2.2.2.1,o.2.2.2.2.2.1,o.2.2.2.2.2.2.1,o.2.2.2.2.2.2.2,0) else (0,0,0,0,false,false,false,[],70)
theorem dec_ev (s:ByteArray) (hs:s.size≤40) (r:Option O8) (h:Ev (fun k=>opts_Decode.lp k s [] 0 0 0 0 false false false []) r) (hi:∀ o,r=some o→inv8 1000 o.2.2.1 o.2.2.2.1 o.2.2.2.2.2.2.2):Ev (fun k=>opts_Decode.f k s) (decR r):=by
  unfold opts_Decode.f
  refine Ev.neg (by omega) (Ev.bind h ?_)
  cases r with
  | none=>exact Ev.now _
  | some o =>
    have hi:=hi o rfl
    have hc:=optcheck_ev o.1 o.2.1 o.2.2.1 o.2.2.2.1 o.2.2.2.2.1 o.2.2.2.2.2.1 o.2.2.2.2.2.2.1 o.2.2.2.2.2.2.2 hi.1 hi.2.1 ⟨by have:=hi.2.2.1;omega,hi.2.2.2⟩
    unfold opts_Decode.fin decR
    dsimp only
    refine Ev.bind hc ?_
    unfold optC
    by_cases ok:optOk o.1 o.2.1 o.2.2.1 o.2.2.2.1 o.2.2.2.2.1 o.2.2.2.2.2.1 o.2.2.2.2.2.2.1 o.2.2.2.2.2.2.2
    · rw[if_pos ok,if_pos ok];exact Ev.pos rfl (Ev.now _)
    · rw[if_neg ok,if_neg ok];exact Ev.neg (by decide) (Ev.now _)
theorem inv8_zero:inv8 0 0 0 []:=⟨by omega,by omega,Nat.le_refl _,fun x hx=>absurd hx (by simp)⟩
/-! ### options: there and back -/
section
variable (seen:List Int) (m sc st ec:Int) (sd sk sp:Bool) (l:List S73)
theorem lp_opt (kd:Nat) (h2:2≤kd) (h255:kd≤255) (b rest:List UInt8) (hb:b.length≤253) (hns:¬ ((kd:Nat):Int)∈seen) {m' sc' st' ec':Int} {sd' sk' sp':Bool} {l':List S73} {r}
    (hr:Ev (fun k=>opts_read.f k m sc st ec sd sk sp l ((kd:Nat):Int) (mkB b)) (m',sc',st',ec',sd',sk',sp',l',true))
    (h:Ev (fun k=>opts_Decode.lp k (mkB rest) (((kd:Nat):Int) :: seen) m' sc' st' ec' sd' sk' sp' l') r):Ev (fun k=>opts_Decode.lp k (mkB (opB kd b++rest)) seen m sc st ec sd sk sp l) r:=by
  have n0:SP.nth (opB kd b++rest) 0=kd:=by
    show (UInt8.ofNat kd).toNat=kd
    rw[UInt8.toNat_ofNat'];omega
  have n1:SP.nth (opB kd b++rest) 1=2+b.length:=by
    show (UInt8.ofNat (2+b.length)).toNat=2+b.length
    rw[UInt8.toNat_ofNat'];omega
  have d2:((opB kd b++rest).drop 2).take (2+b.length - 2)=b:=by
    show (b++rest).take (2+b.length - 2)=b
    rw[show 2+b.length - 2=b.length from by omega,List.take_left]
  have d3:(opB kd b++rest).drop (2+b.length)=rest:=by
    rw[← List.drop_drop]
    show (b++rest).drop b.length=rest
    exact List.drop_left
  have ln:=opB_len kd b
  obtain⟨kn,hk⟩:=known_tot ((kd:Nat):Int)
  refine lp_go seen m sc st ec sd sk sp l (opB kd b++rest) (by rw[List.length_append];omega) (by rw[n0];omega) (by rw[n0];omega) (by rw[n1];omega) (by rw[n1,List.length_append];omega) (kn:=kn) (by rw[n0];exact hk) (by rw[n0,decide_eq_false hns];simp) (rd:=(m',sc',st',ec',sd',sk',sp',l',true)) (by rw[n0,n1,d2];exact hr) rfl (by rw[n0,n1,d3];exact h)
theorem num_all (n k:Nat) (h:n < 256 ^ k):SP.num (SP.bytesN n k)=n:=by rw[SP.num_bytesN,Nat.mod_eq_of_lt h]
theorem read_mss (v:Nat) (h:v≤65535) (h0:0 < v):Ev (fun k=>opts_read.f k m sc st ec sd sk sp l 2 (mkB (SP.bytesN v 2))) ((v:Int),sc,st,ec,sd,sk,sp,l,true):=by
  have lb:=SP.bytesN_len v 2
  have g:=get_in (SP.bytesN v 2) 0 2 (by omega) (by omega) (by omega) (by omega)
  rw[List.drop_zero,List.take_of_length_le (by omega),num_all v 2 (by omega),show ((0:Nat):Int)=0 from rfl,show ((2:Nat):Int)=2 from rfl] at g
  unfold opts_read.f
  rw[g]
  refine Ev.pos rfl (Ev.bind (Ev.now _) (Ev.val (Ev.now _) ?_))
  rw[mkB_size,lb,decide_eq_true (show ((2:Nat):Int)=2 from rfl),decide_eq_true (show (v:Int) > 0 by omega)];rfl
theorem read_scale (v:Nat) (h:v≤255):Ev (fun k=>opts_read.f k m sc st ec sd sk sp l 3 (mkB (SP.bytesN v 1))) (m,(v:Int),st,ec,true,sk,sp,l,true):=by
  have lb:=SP.bytesN_len v 1
  have g:=get_in (SP.bytesN v 1) 0 1 (by omega) (by omega) (by omega) (by omega)
  rw[List.drop_zero,List.take_of_length_le (by omega),num_all v 1 (by omega),show ((0:Nat):Int)=0 from rfl,show ((1:Nat):Int)=1 from rfl] at g
  unfold opts_read.f
  rw[g]
  refine Ev.neg (by decide) (Ev.pos rfl (Ev.bind (Ev.now _) (Ev.val (Ev.now _) ?_)))
  rw[mkB_size,lb,decide_eq_true (show ((1:Nat):Int)=1 from rfl)]
theorem read_sack:Ev (fun k=>opts_read.f k m sc st ec sd sk sp l 4 (mkB [])) (m,sc,st,ec,sd,true,sp,l,true):=by
  unfold opts_read.f
  refine Ev.neg (by decide) (Ev.neg (by decide) (Ev.pos rfl (Ev.val (Ev.now _) ?_)))
  rw[show (mkB []).toList.isEmpty=true from by decide +kernel]
theorem read_stamp (v u:Nat) (h:v≤4294967295) (h':u≤4294967295):Ev (fun k=>opts_read.f k m sc st ec sd sk sp l 8 (mkB (SP.bytesN v 4++SP.bytesN u 4))) (m,sc,(v:Int),(u:Int),sd,sk,true,l,true):=by
  have lv:=SP.bytesN_len v 4
  have lu:=SP.bytesN_len u 4
  have ll:(SP.bytesN v 4++SP.bytesN u 4).length=8:=by rw[List.length_append];omega
  have g1:=get_in (SP.bytesN v 4++SP.bytesN u 4) 0 4 (by omega) (by omega) (by omega) (by omega)
  have g2:=get_in (SP.bytesN v 4++SP.bytesN u 4) 4 4 (by omega) (by omega) (by omega) (by omega)
  rw[List.drop_zero,List.take_append_of_le_length (by omega),List.take_of_length_le (by omega),num_all v 4 (by omega),show ((0:Nat):Int)=0 from rfl,show ((4:Nat):Int)=4 from rfl] at g1
  rw[List.drop_append,List.drop_of_length_le (by omega),List.nil_append,lv,Nat.sub_self,List.drop_zero,List.take_of_length_le (by omega),num_all u 4 (by omega),show ((4:Nat):Int)=4 from rfl] at g2
  unfold opts_read.f
  rw[g1,g2]
  refine Ev.neg (by decide) (Ev.neg (by decide) (Ev.neg (by decide) (Ev.neg (by decide) (Ev.pos rfl (Ev.bind (Ev.now _) (Ev.bind (Ev.now _) (Ev.val (Ev.now _) ?_)))))))
  rw[mkB_size,ll,decide_eq_true (show ((8:Nat):Int)=8 from rfl)]
theorem read_rgs (l2:List S73) (h0:0 < l2.length) (h4:l2.length≤4) (hl:∀ x∈l2,rgOk x):Ev (fun k=>opts_read.f k m sc st ec sd sk sp [] 5 (mkB (rgsB l2))) (m,sc,st,ec,sd,sk,sp,l2,true):=by
  have lb:=rgsB_len l2
  have hs:=readsl_ev (rgsB l2) (by omega) [] (by simp) ((rgsB l2).length / 8) 0 rfl (by omega)
  rw[show rgsN (rgsB l2) 0=[] from rfl,List.append_nil,List.nil_append,lb,show 8 * l2.length / 8=l2.length from by omega,rgsN_back l2 hl] at hs
  unfold opts_read.f
  refine Ev.neg (by decide) (Ev.neg (by decide) (Ev.neg (by decide) (Ev.pos rfl (Ev.bind hs (Ev.val (Ev.now _) ?_)))))
  rw[mkB_size,lb,w64 (by omega) (by omega),decide_eq_true (show ((8 * l2.length:Nat):Int) > 0 by omega),decide_eq_true (show ((8 * l2.length:Nat):Int)=8 * (l2.length:Int) by omega),decide_eq_true (show (l2.length:Int)≤4 by omega)];rfl
/-- bytes at which decoding ends -/
def ends (z:List UInt8):Prop:=z=[]∨∃ t,z=0 :: t
theorem lp_ends {z:List UInt8} (h:ends z):Ev (fun k=>opts_Decode.lp k (mkB z) seen m sc st ec sd sk sp l) (some (m,sc,st,ec,sd,sk,sp,l)):=by
  rcases h with rfl|⟨t,rfl⟩
  · exact lp_nil seen m sc st ec sd sk sp l
  · exact lp_end seen m sc st ec sd sk sp l t
theorem rt5 (h4:l.length≤4) (hl:∀ x∈l,rgOk x) {z:List UInt8} (hz:ends z) (s5:¬ (5:Int)∈seen):Ev (fun k=>opts_Decode.lp k (mkB (oRgs l++z)) seen m sc st ec sd sk sp []) (some (m,sc,st,ec,sd,sk,sp,l)):=by
  unfold oRgs
  by_cases h:0 < l.length
  · rw[if_pos h]
    have lb:=rgsB_len l
    exact lp_opt seen m sc st ec sd sk sp [] 5 (by omega) (by omega) (rgsB l) z (by omega) s5 (read_rgs m sc st ec sd sk sp l h h4 hl) (lp_ends _ m sc st ec sd sk sp l hz)
  · rw[if_neg h,List.nil_append]
    obtain rfl:l=[]:=List.length_eq_zero_iff.mp (by omega)
    exact lp_ends _ m sc st ec sd sk sp [] hz
theorem rt8 (h4:l.length≤4) (hl:∀ x∈l,rgOk x) (h1:seqOk st) (h2:seqOk ec) (hsp:sp=true∨st=0∧ec=0) {z:List UInt8} (hz:ends z) (s5:¬ (5:Int)∈seen) (s8:¬ (8:Int)∈seen):Ev (fun k=>opts_Decode.lp k (mkB (oStamp st ec sp++(oRgs l++z))) seen m sc 0 0 sd sk false []) (some (m,sc,st,ec,sd,sk,sp,l)):=by
  unfold oStamp
  by_cases h:sp=true
  · rw[if_pos h]
    subst h
    unfold seqOk at h1 h2
    have lb:(SP.bytesN st.toNat 4++SP.bytesN ec.toNat 4).length=8:=by simp only[List.length_append,SP.bytesN_len]
    have hr:=read_stamp m sc 0 0 sd sk false [] st.toNat ec.toNat (by omega) (by omega)
    rw[Int.toNat_of_nonneg h1.1,Int.toNat_of_nonneg h2.1] at hr
    exact lp_opt seen m sc 0 0 sd sk false [] 8 (by omega) (by omega) _ (oRgs l++z) (by omega) s8 hr (rt5 _ m sc st ec sd sk true l h4 hl hz (by intro hm;rcases List.mem_cons.1 hm with e|e;exact absurd e (by decide);exact s5 e))
  · rw[if_neg h,List.nil_append]
    obtain⟨rfl,rfl⟩:st=0∧ec=0:=hsp.resolve_left h
    obtain rfl:sp=false:=by simpa using h
    exact rt5 seen m sc 0 0 sd sk false l h4 hl hz s5
theorem rt4 (h4:l.length≤4) (hl:∀ x∈l,rgOk x) (h1:seqOk st) (h2:seqOk ec) (hsp:sp=true∨st=0∧ec=0) {z:List UInt8} (hz:ends z) (s5:¬ (5:Int)∈seen) (s8:¬ (8:Int)∈seen) (s4:¬ (4:Int)∈seen):Ev (fun k=>opts_Decode.lp k (mkB (oSack sk++(oStamp st ec sp++(oRgs l++z)))) seen m sc 0 0 sd false false []) (some (m,sc,st,ec,sd,sk,sp,l)):=by
  unfold oSack
  by_cases h:sk=true
  · rw[if_pos h]
    subst h
    exact lp_opt seen m sc 0 0 sd false false [] 4 (by omega) (by omega) [] _ (by simp) s4 (read_sack m sc 0 0 sd false false []) (rt8 _ m sc st ec sd true sp l h4 hl h1 h2 hsp hz (by intro hm;rcases List.mem_cons.1 hm with e|e;exact absurd e (by decide);exact s5 e) (by intro hm;rcases List.mem_cons.1 hm with e|e;exact absurd e (by decide);exact s8 e))
  · rw[if_neg h,List.nil_append]
    obtain rfl:sk=false:=by simpa using h
    exact rt8 seen m sc st ec sd false sp l h4 hl h1 h2 hsp hz s5 s8
theorem rt3 (h4:l.length≤4) (hl:∀ x∈l,rgOk x) (h1:seqOk st) (h2:seqOk ec) (hsp:sp=true∨st=0∧ec=0) (hsc:0≤sc∧sc≤14) (hsd:sd=true∨sc=0) {z:List UInt8} (hz:ends z) (s5:¬ (5:Int)∈seen) (s8:¬ (8:Int)∈seen) (s4:¬ (4:Int)∈seen) (s3:¬ (3:Int)∈seen):Ev (fun k=>opts_Decode.lp k (mkB (oScale sc sd++(oSack sk++(oStamp st ec sp++(oRgs l++z))))) seen m 0 0 0 false false false []) (some (m,sc,st,ec,sd,sk,sp,l)):=by
  unfold oScale
  by_cases h:sd=true
  · rw[if_pos h]
    subst h
    have lb:=SP.bytesN_len sc.toNat 1
    have hr:=read_scale m 0 0 0 false false false [] sc.toNat (by omega)
    rw[Int.toNat_of_nonneg hsc.1] at hr
    exact lp_opt seen m 0 0 0 false false false [] 3 (by omega) (by omega) _ _ (by omega) s3 hr (rt4 _ m sc st ec true sk sp l h4 hl h1 h2 hsp hz (by intro hm;rcases List.mem_cons.1 hm with e|e;exact absurd e (by decide);exact s5 e) (by intro hm;rcases List.mem_cons.1 hm with e|e;exact absurd e (by decide);exact s8 e) (by intro hm;rcases List.mem_cons.1 hm with e|e;exact absurd e (by decide);exact s4 e))
  · rw[if_neg h,List.nil_append]
    obtain rfl:sc=0:=hsd.resolve_left h
    obtain rfl:sd=false:=by simpa using h
    exact rt4 seen m 0 st ec false sk sp l h4 hl h1 h2 hsp hz s5 s8 s4
end
theorem rt2 (m sc st ec:Int) (sd sk sp:Bool) (l:List S73) (h:optFit m sc st ec sd sk sp l) {z:List UInt8} (hz:ends z):Ev (fun k=>opts_Decode.lp k (mkB (bareB m sc st ec sd sk sp l++z)) [] 0 0 0 0 false false false []) (some (m,sc,st,ec,sd,sk,sp,l)):=by
  obtain⟨m0,m1,c0,c1,h4,h1,h2,hsd,hsp,hl⟩:=h
  have e:bareB m sc st ec sd sk sp l++z=oMss m++(oScale sc sd++(oSack sk++(oStamp st ec sp++(oRgs l++z)))):=by unfold bareB;simp only[List.append_assoc]
  rw[e]
  unfold oMss
  by_cases hm:m > 0
  · rw[if_pos hm]
    have lb:=SP.bytesN_len m.toNat 2
    have hr:=read_mss 0 0 0 0 false false false [] m.toNat (by omega) (by omega)
    rw[Int.toNat_of_nonneg m0] at hr
    exact lp_opt [] 0 0 0 0 false false false [] 2 (by omega) (by omega) _ _ (by omega) (by simp) hr (rt3 _ m sc st ec sd sk sp l h4 hl h1 h2 hsp ⟨c0,c1⟩ hsd hz (by decide) (by decide) (by decide) (by decide))
  · rw[if_neg hm,List.nil_append]
    obtain rfl:m=0:=by omega
    exact rt3 [] 0 sc st ec sd sk sp l h4 hl h1 h2 hsp ⟨c0,c1⟩ hsd hz (by simp) (by simp) (by simp) (by simp)
theorem pad_ends (n:Nat):ends (List.replicate n (0:UInt8)):=by
  cases n with
  | zero=>exact .inl rfl
  | succ n=>exact .inr ⟨List.replicate n 0,rfl⟩
theorem rt_lp (m sc st ec:Int) (sd sk sp:Bool) (l:List S73) (h:optFit m sc st ec sd sk sp l):Ev (fun k=>opts_Decode.lp k (mkB (optB m sc st ec sd sk sp l)) [] 0 0 0 0 false false false []) (some (m,sc,st,ec,sd,sk,sp,l)) :=
  rt2 m sc st ec sd sk sp l h (pad_ends _)
theorem optOk_inv {m sc st ec:Int} {sd sk sp:Bool} {l:List S73} (h:optOk m sc st ec sd sk sp l):inv8 1000 st ec l:=by
  obtain⟨⟨_,_,_,_,h4,h1,h2,_,_,hl⟩,_⟩:=h
  unfold seqOk at h1 h2
  refine⟨by omega,by omega,by omega,fun x hx=>?_⟩
  obtain⟨a,b,_⟩:=hl x hx
  unfold seqOk at a b
  exact⟨wf_of (by omega),wf_of (by omega)⟩
theorem dec_rt {m sc st ec:Int} {sd sk sp:Bool} {l:List S73} (h:optOk m sc st ec sd sk sp l) (s:ByteArray) (hs:s.size≤40) (hr:Ev (fun k=>opts_Decode.lp k s [] 0 0 0 0 false false false []) (some (m,sc,st,ec,sd,sk,sp,l))):Ev (fun k=>opts_Decode.f k s) (m,sc,st,ec,sd,sk,sp,l,0):=by
  have:=dec_ev s hs (some (m,sc,st,ec,sd,sk,sp,l)) hr (fun o e=>by obtain rfl:=Option.some.inj e;exact optOk_inv h)
  unfold decR at this
  dsimp only at this
  rw[if_pos h] at this
  exact this
/-- decoding ends: with options that may be, or with none and a code -/
theorem dec_tot (s:ByteArray):∃ r,Ev (fun k=>opts_Decode.f k s) r∧((r.2.2.2.2.2.2.2.2=0∧optOk r.1 r.2.1 r.2.2.1 r.2.2.2.1 r.2.2.2.2.1 r.2.2.2.2.2.1 r.2.2.2.2.2.2.1 r.2.2.2.2.2.2.2.1)∨r=(0,0,0,0,false,false,false,[],70)):=by
  by_cases hs:s.size≤40
  · have hl:=SP.by_len s
    obtain⟨r,hr,hx⟩:=lp_tot (SP.by_ s).length (SP.by_ s) [] 0 0 0 0 false false false [] 0 (Nat.le_refl _) (by omega) (by omega) inv8_zero
    rw[mkB_by] at hr
    refine⟨_,dec_ev s hs r hr (fun o e=>(hx o e).1),?_⟩
    unfold decR
    cases r with
    | none=>exact .inr rfl
    | some o =>
      dsimp only
      by_cases ok:optOk o.1 o.2.1 o.2.2.1 o.2.2.2.1 o.2.2.2.2.1 o.2.2.2.2.2.1 o.2.2.2.2.2.2.1 o.2.2.2.2.2.2.2
      · rw[if_pos ok];exact .inl ⟨rfl,ok⟩
      · rw[if_neg ok];exact .inr rfl
  · refine⟨_,?_,.inr rfl⟩
    unfold opts_Decode.f
    exact Ev.pos (by omega) (Ev.now _)
/-! ### segments -/
theorem and_nat (a b:Nat) (ha:a < 2 ^ 62) (hb:b < 2 ^ 62):Go.bits .and .i64 (a:Int) (b:Int)=((a &&& b:Nat):Int):=by
  have hw:∀ n:Int,0≤n→n < 2 ^ 62→IntKind.i64.wrap n=n:=by
    intro n h0 h1;rw[IntKind.wrap_i64];have:(2:Int) ^ 62=4611686018427387904:=by decide
    omega
  exact(bits_nat .i64 62 (by decide) hw a b ha hb).1
def has (f b:Int):Bool:=Go.bits .and .i64 f b == b
def segOk (p q sq ak fl wn ug:Int) (m sc st ec:Int) (sd sk sp:Bool) (l:List S73) (x:ByteArray):Prop :=
  (0≤p∧p≤65535)∧(0≤q∧q≤65535)∧(0≤wn∧wn≤65535)∧(0≤ug∧ug≤65535)∧(0≤fl∧fl≤63)∧seqOk sq∧seqOk ak∧optOk m sc st ec sd sk sp l∧x.size≤1480∧(ak=0∨has fl 16=true)∧(ug=0∨has fl 32=true)
instance (p q sq ak fl wn ug:Int) (m sc st ec:Int) (sd sk sp:Bool) (l:List S73) (x:ByteArray):Decidable (segOk p q sq ak fl wn ug m sc st ec sd sk sp l x):=inferInstanceAs (Decidable (_∧_∧_∧_∧_∧_∧_∧_∧_∧_∧_))
def segC (p q sq ak fl wn ug:Int) (m sc st ec:Int) (sd sk sp:Bool) (l:List S73) (x:ByteArray):Int:=if segOk p q sq ak fl wn ug m sc st ec sd sk sp l x then 0 else 80
section
variable (p q sq ak fl wn ug:Int) (m sc st ec:Int) (sd sk sp:Bool) (l:List S73) (x:ByteArray)
theorem seghas_is (b:Int):seg_Has.f p q sq ak fl wn ug m sc st ec sd sk sp l x b=some (has fl b):=rfl
theorem segC_no (h:¬ segOk p q sq ak fl wn ug m sc st ec sd sk sp l x):segC p q sq ak fl wn ug m sc st ec sd sk sp l x=80:=by unfold segC;rw[if_neg h]
theorem segC_ok (h:segOk p q sq ak fl wn ug m sc st ec sd sk sp l x):segC p q sq ak fl wn ug m sc st ec sd sk sp l x=0:=by unfold segC;rw[if_pos h]
theorem seg2 (b:Bool) (h:b=true↔¬ segOk p q sq ak fl wn ug m sc st ec sd sk sp l x):Ev (fun k=>seg_Check.j2 k b) (segC p q sq ak fl wn ug m sc st ec sd sk sp l x):=by
  refine Ev.step (fun k=>by simp only[seg_Check.j2];rfl) ?_
  cases b with
  | true=>exact Ev.pos rfl (Ev.val (Ev.now _) (segC_no p q sq ak fl wn ug m sc st ec sd sk sp l x (h.mp rfl)).symm)
  | false=>exact Ev.neg (by decide) (Ev.val (Ev.now _) (segC_ok p q sq ak fl wn ug m sc st ec sd sk sp l x (Classical.byContradiction fun hn=>absurd (h.mpr hn) (by decide))).symm)
theorem segbad1 (h:¬ segOk p q sq ak fl wn ug m sc st ec sd sk sp l x):Ev (fun k=>seg_Check.j1 k true p q sq ak fl wn ug m sc st ec sd sk sp l x) (segC p q sq ak fl wn ug m sc st ec sd sk sp l x):=by
  refine Ev.step (fun k=>by simp only[seg_Check.j1];rfl) ?_
  exact Ev.pos trivial (seg2 p q sq ak fl wn ug m sc st ec sd sk sp l x true ⟨fun _=>h,fun _=>rfl⟩)
theorem segbad0 (h:¬ segOk p q sq ak fl wn ug m sc st ec sd sk sp l x):Ev (fun k=>seg_Check.j0 k true p q sq ak fl wn ug m sc st ec sd sk sp l x) (segC p q sq ak fl wn ug m sc st ec sd sk sp l x):=by
  refine Ev.step (fun k=>by simp only[seg_Check.j0];rfl) ?_
  exact Ev.pos trivial (segbad1 p q sq ak fl wn ug m sc st ec sd sk sp l x h)
theorem seg1 (hw:(0≤p∧p≤65535)∧(0≤q∧q≤65535)∧(0≤wn∧wn≤65535)∧(0≤ug∧ug≤65535)∧(0≤fl∧fl≤63)∧seqOk sq∧seqOk ak∧optOk m sc st ec sd sk sp l):Ev (fun k=>seg_Check.j1 k (decide ((x.size:Int) > 1480)) p q sq ak fl wn ug m sc st ec sd sk sp l x) (segC p q sq ak fl wn ug m sc st ec sd sk sp l x):=by
  obtain⟨h1,h2,h3,h4,h5,h6,h7,h8⟩:=hw
  by_cases hx:(x.size:Int) > 1480
  · rw[decide_eq_true hx]
    exact segbad1 p q sq ak fl wn ug m sc st ec sd sk sp l x fun hh=>by have:=hh.2.2.2.2.2.2.2.2.1;omega
  · rw[decide_eq_false hx]
    have key:segOk p q sq ak fl wn ug m sc st ec sd sk sp l x↔(ak=0∨has fl 16=true)∧(ug=0∨has fl 32=true):=⟨fun hh=>⟨hh.2.2.2.2.2.2.2.2.2.1,hh.2.2.2.2.2.2.2.2.2.2⟩,fun hh=>⟨h1,h2,h3,h4,h5,h6,h7,h8,by omega,hh.1,hh.2⟩⟩
    have h7':=h7
    unfold seqOk at h7'
    refine Ev.step (fun k=>by simp only[seg_Check.j1];rfl) ?_
    refine Ev.neg (by decide) ?_
    simp only[seghas_is]
    refine Ev.ite (fun ha=>?_) (fun ha=>?_)
    · refine Ev.bind (Ev.now _) ?_
      refine Ev.ite (fun hb=>?_) (fun hb=>?_)
      · refine Ev.ite (fun hc=>?_) (fun hc=>?_)
        · refine Ev.bind (Ev.now _) ?_
          refine seg2 p q sq ak fl wn ug m sc st ec sd sk sp l x _ ?_
          rw[key]
          cases hd:has fl 32
          · simp;omega
          · simp[hb]
        · refine seg2 p q sq ak fl wn ug m sc st ec sd sk sp l x _ ?_
          rw[key]
          have:ug=0:=by omega
          simp[hb,this]
      · refine seg2 p q sq ak fl wn ug m sc st ec sd sk sp l x _ ?_
        rw[key]
        have:¬ ak=0:=by omega
        simp[hb,this]
    · have hz:ak=0:=by omega
      refine Ev.ite (fun hc=>?_) (fun hc=>?_)
      · refine Ev.bind (Ev.now _) ?_
        refine seg2 p q sq ak fl wn ug m sc st ec sd sk sp l x _ ?_
        rw[key]
        cases hd:has fl 32
        · simp;omega
        · simp[hz]
      · refine seg2 p q sq ak fl wn ug m sc st ec sd sk sp l x _ ?_
        rw[key]
        have:ug=0:=by omega
        simp[hz,this]
theorem segcheck_ev (hsq : -9223372036854775808≤sq∧sq < 9223372036854775808) (hak : -9223372036854775808≤ak∧ak < 9223372036854775808) (hst : -9223372036854775808≤st∧st < 9223372036854775808) (hec : -9223372036854775808≤ec∧ec < 9223372036854775808) (hl:l.length < 1000000000000000∧∀ x∈l,fit73 x):Ev (fun k=>seg_Check.f k p q sq ak fl wn ug m sc st ec sd sk sp l x) (segC p q sq ak fl wn ug m sc st ec sd sk sp l x):=by
  unfold seg_Check.f
  have bad:=segbad0 p q sq ak fl wn ug m sc st ec sd sk sp l x
  refine Ev.ite (fun h=>bad fun hh=>?_) (fun h1=>?_)
  · rw[mn_lt,mn_lt,mn_lt,mn_lt] at h
    obtain⟨h1,h2,h3,h4,h5,_⟩:=hh
    omega
  rw[mn_lt,mn_lt,mn_lt,mn_lt] at h1
  refine Ev.ite (fun h=>bad fun hh=>?_) (fun h2=>?_)
  · rw[mx_gt,mx_gt,mx_gt] at h
    obtain⟨h1,h2,h3,h4,h5,_⟩:=hh
    omega
  rw[mx_gt,mx_gt,mx_gt] at h2
  by_cases h3:fl > 63
  · rw[decide_eq_true h3];exact bad fun hh=>by have:=hh.2.2.2.2.1;omega
  rw[decide_eq_false h3]
  refine Ev.step (fun k=>by simp only[seg_Check.j0];rfl) ?_
  refine Ev.neg (by decide) ?_
  rw[seqcheck_is sq hsq.1 hsq.2,seqcheck_is ak hak.1 hak.2]
  refine Ev.bind (Ev.now _) ?_
  refine Ev.bind (Ev.now _) ?_
  refine Ev.bind (optcheck_ev m sc st ec sd sk sp l hst hec hl) ?_
  have bad1:=segbad1 p q sq ak fl wn ug m sc st ec sd sk sp l x
  by_cases a:seqOk sq
  · by_cases b:seqOk ak
    · by_cases c:optOk m sc st ec sd sk sp l
      · refine Ev.neg (by unfold seqC optC;rw[if_pos a,if_pos b,if_pos c];decide) ?_
        exact seg1 p q sq ak fl wn ug m sc st ec sd sk sp l x ⟨by omega,by omega,by omega,by omega,by omega,a,b,c⟩
      · exact Ev.pos (by unfold optC;rw[if_neg c,mx_gt];exact .inr (by decide)) (bad1 fun hh=>c hh.2.2.2.2.2.2.2.1)
    · exact Ev.pos (by unfold seqC;rw[if_neg b,mx_gt,mx_gt];exact .inl (.inr (by decide))) (bad1 fun hh=>b hh.2.2.2.2.2.2.1)
  · exact Ev.pos (by unfold seqC;rw[if_neg a,mx_gt,mx_gt];exact .inl (.inl (by decide))) (bad1 fun hh=>a hh.2.2.2.2.2.1)
end
theorem seqadd_is (a b:Int) (ha:seqOk a) (hb:0≤b∧b≤4294967296):seq_Add.f a b=some ((a+b) % 4294967296,0):=by
  have ha':=ha
  unfold seqOk at ha'
  unfold seq_Add.f seq_within.f
  rw[seqcheck_is a (by omega) (by omega),seqC,if_pos ha]
  simp only[Option.bind_some]
  rw[if_pos trivial,if_pos (by omega)]
  simp only[Option.bind_some]
  rw[if_pos (decide_eq_true (by omega)),w64 (by omega) (by omega)]
  have:=and_low (a+b) (by omega) (by omega) 32 (by omega)
  rw[show ((2 ^ 32 - 1:Nat):Int)=4294967295 from by decide,show ((2 ^ 32:Nat):Int)=4294967296 from by decide] at this
  rw[this]
def segLen (fl:Int) (x:ByteArray):Int:=(x.size:Int)+Go.bits .and .i64 fl 2 / 2+Go.bits .and .i64 fl 1
theorem flag_small (fl:Int) (h:0≤fl∧fl≤63):(Go.bits .and .i64 fl 2=0∨Go.bits .and .i64 fl 2=2)∧(Go.bits .and .i64 fl 1=0∨Go.bits .and .i64 fl 1=1):=by
  obtain⟨n,rfl⟩:=Int.eq_ofNat_of_zero_le h.1
  have h2:=and_nat n 2 (by omega) (by omega)
  have h1:=and_nat n 1 (by omega) (by omega)
  have k1:n &&& 1=0∨n &&& 1=1:=by rw[Nat.and_one_is_mod];omega
  have k2:n &&& 2=0∨n &&& 2=2:=by
    have key:∀ n:Fin 64,n.val &&& 2=0∨n.val &&& 2=2:=by decide +kernel
    exact key ⟨n,by omega⟩
  rw[show ((2:Nat):Int)=2 from rfl] at h2
  rw[show ((1:Nat):Int)=1 from rfl] at h1
  rw[h2,h1]
  constructor
  · rcases k2 with e|e <;> rw[e] <;> simp
  · rcases k1 with e|e <;> rw[e] <;> simp
theorem segLen_le (fl:Int) (x:ByteArray) (h:0≤fl∧fl≤63) (hx:x.size≤140737488351232):0≤segLen fl x∧segLen fl x≤(x.size:Int)+2:=by
  obtain⟨a,b⟩:=flag_small fl h
  unfold segLen
  rcases a with a|a <;> rcases b with b|b <;> rw[a,b] <;> omega
section
variable (p q sq ak fl wn ug:Int) (m sc st ec:Int) (sd sk sp:Bool) (l:List S73) (x:ByteArray)
theorem seglen_is (h:0≤fl∧fl≤63) (hx:x.size≤140737488351232):seg_Length.f p q sq ak fl wn ug m sc st ec sd sk sp l x=some (segLen fl x):=by
  obtain⟨a,b⟩:=flag_small fl h
  unfold seg_Length.f segLen
  generalize Go.bits .and .i64 fl 2=u at a ⊢
  generalize Go.bits .and .i64 fl 1=t at b ⊢
  rw[Int.tdiv_eq_ediv_of_nonneg (by omega),w64 (n:=u / 2) (by omega) (by omega),w64 (n:=(x.size:Int)+u / 2) (by omega) (by omega),w64 (by omega) (by omega)]
def segR:Int × Int × Int × Int × Int × Int × Int × Int × Int × Int × Int × Bool × Bool × Bool × List S73 × ByteArray × Bool :=
  if segOk p q sq ak fl wn ug m sc st ec sd sk sp l x∧has fl 4=false then
    if has fl 16=true then (q,p,ak,0,4,0,0,0,0,0,0,false,false,false,[],⟨#[]⟩,true) else (q,p,0,(sq+segLen fl x) % 4294967296,20,0,0,0,0,0,0,false,false,false,[],⟨#[]⟩,true)
  else (0,0,0,0,0,0,0,0,0,0,0,false,false,false,[],⟨#[]⟩,false)
theorem segR_no (h:¬ (segOk p q sq ak fl wn ug m sc st ec sd sk sp l x∧has fl 4=false)):Ev (fun k=>seg_Reset.j0 k true p q sq ak fl wn ug m sc st ec sd sk sp l x) (segR p q sq ak fl wn ug m sc st ec sd sk sp l x):=by
  refine Ev.step (fun k=>by simp only[seg_Reset.j0];rfl) ?_
  refine Ev.pos trivial (Ev.val (Ev.now _) ?_)
  unfold segR;rw[if_neg h]
theorem segreset_ev (hsq : -9223372036854775808≤sq∧sq < 9223372036854775808) (hak : -9223372036854775808≤ak∧ak < 9223372036854775808) (hst : -9223372036854775808≤st∧st < 9223372036854775808) (hec : -9223372036854775808≤ec∧ec < 9223372036854775808) (hl:l.length < 1000000000000000∧∀ x∈l,fit73 x):Ev (fun k=>seg_Reset.f k p q sq ak fl wn ug m sc st ec sd sk sp l x) (segR p q sq ak fl wn ug m sc st ec sd sk sp l x):=by
  unfold seg_Reset.f
  refine Ev.bind (segcheck_ev p q sq ak fl wn ug m sc st ec sd sk sp l x hsq hak hst hec hl) ?_
  by_cases h:segOk p q sq ak fl wn ug m sc st ec sd sk sp l x
  · rw[segC_ok p q sq ak fl wn ug m sc st ec sd sk sp l x h]
    refine Ev.pos rfl ?_
    rw[seghas_is]
    refine Ev.bind (Ev.now _) ?_
    cases h4:has fl 4
    · refine Ev.step (fun k=>by simp only[seg_Reset.j0];rfl) ?_
      refine Ev.neg (by decide) ?_
      rw[seghas_is]
      refine Ev.bind (Ev.now _) ?_
      have hf:=h.2.2.2.2.1
      have hx:=h.2.2.2.2.2.2.2.2.1
      refine Ev.ite (fun h16=>?_) (fun h16=>?_)
      · refine Ev.val (Ev.now _) ?_
        unfold segR;rw[if_pos ⟨h,h4⟩,if_pos h16]
      · rw[seglen_is p q sq ak fl wn ug m sc st ec sd sk sp l x hf (by omega)]
        refine Ev.bind (Ev.now _) ?_
        have hb:=segLen_le fl x hf (by omega)
        rw[seqadd_is sq (segLen fl x) h.2.2.2.2.2.1 (by omega)]
        refine Ev.bind (Ev.now _) ?_
        refine Ev.val (Ev.now _) ?_
        unfold segR;rw[if_pos ⟨h,h4⟩,if_neg h16]
        rw[show Go.bits .or .i64 4 16=20 from by decide +kernel]
    · exact segR_no p q sq ak fl wn ug m sc st ec sd sk sp l x fun hh=>by rw[h4] at hh;exact absurd hh.2 (by decide)
  · rw[segC_no p q sq ak fl wn ug m sc st ec sd sk sp l x h]
    exact Ev.neg (by decide) (segR_no p q sq ak fl wn ug m sc st ec sd sk sp l x fun hh=>h hh.1)
end
def segSame (p q sq ak fl wn ug m sc st ec:Int) (sd sk sp:Bool) (l:List S73) (x:ByteArray) (p' q' sq' ak' fl' wn' ug' m' sc' st' ec':Int) (sd' sk' sp':Bool) (l':List S73) (x':ByteArray):Bool :=
  (p == p' && (q == q' && (sq == sq' && (ak == ak' && (fl == fl' && (wn == wn' && (ug == ug'))))))) && (decide (x.toList=x'.toList) && optSame m sc st ec sd sk sp l m' sc' st' ec' sd' sk' sp' l')
theorem segSame_refl (p q sq ak fl wn ug m sc st ec:Int) (sd sk sp:Bool) (l:List S73) (x:ByteArray):segSame p q sq ak fl wn ug m sc st ec sd sk sp l x p q sq ak fl wn ug m sc st ec sd sk sp l x=true:=by
  unfold segSame
  rw[(optSame_iff m sc st ec sd sk sp l m sc st ec sd sk sp l).mpr ⟨rfl,rfl,rfl,rfl,rfl,rfl,rfl,rfl⟩]
  simp
theorem works08:Ev (fun k=>sternpostlaw08_works.f k) true:=by
  unfold sternpostlaw08_works.f
  refine Ev.bind (segreset_ev 0 0 7 0 2 0 0 0 0 0 0 false false false [] ⟨#[]⟩ (by omega) (by omega) (by omega) (by omega) ⟨by decide,fun x hx=>absurd hx (by simp)⟩) ?_
  have h:segR 0 0 7 0 2 0 0 0 0 0 0 false false false [] ⟨#[]⟩=(0,0,0,8,20,0,0,0,0,0,0,false,false,false,[],⟨#[]⟩,true):=by
    have hok:segOk 0 0 7 0 2 0 0 0 0 0 0 false false false [] ⟨#[]⟩:=by decide +kernel
    have h4:has 2 4=false:=by decide +kernel
    have h16:¬ has 2 16=true:=by decide +kernel
    have hs:(7+segLen 2 ⟨#[]⟩) % 4294967296=8:=by decide +kernel
    unfold segR;rw[if_pos ⟨hok,h4⟩,if_neg h16,hs]
  rw[h]
  exact Ev.pos rfl (Ev.pos rfl (Ev.pos rfl (Ev.now _)))
def pseB (a b n:Nat):List UInt8:=SP.bytesN a 4++SP.bytesN b 4++SP.bytesN 6 2++SP.bytesN n 2
theorem pseB_len (a b n:Nat):(pseB a b n).length=12:=by simp only[pseB,List.length_append,SP.bytesN_len]
theorem pseudo_ok (a b n:Nat) (ha:a < 4294967296) (hb:b < 4294967296) (hn:n < 65536):Ev (fun k=>sum_Pseudo.f k (a:Int) (b:Int) 6 (n:Int)) (mkB (pseB a b n),0):=by
  have h:=pseudo_ev (a:Int) (b:Int) 6 (n:Int) ⟨by omega,by omega⟩ ⟨by omega,by omega⟩ ⟨by decide,by decide⟩ ⟨by omega,by omega⟩
  have e6:(6:Int).toNat=6:=rfl
  rw[PseudoS,if_neg (by omega),e6,nat_toNat,nat_toNat,nat_toNat] at h
  unfold pseB
  exact h
def adOk (a b:Int):Prop:=seqOk a∧seqOk b
instance (a b:Int):Decidable (adOk a b):=inferInstanceAs (Decidable (_∧_))
theorem segadr_is (a b:Int) (ha : -9223372036854775808≤a∧a < 9223372036854775808) (hb : -9223372036854775808≤b∧b < 9223372036854775808):seg_addresses.f a b=some (if adOk a b then 0 else 1):=by
  unfold seg_addresses.f
  rw[seqcheck_is a ha.1 ha.2,seqcheck_is b hb.1 hb.2]
  simp only[Option.bind_some]
  unfold seqC
  by_cases h1:seqOk a
  · by_cases h2:seqOk b
    · have h:adOk a b:=⟨h1,h2⟩
      rw[if_pos h1,if_pos h2,if_pos h];rfl
    · have h:¬ adOk a b:=fun h=>h2 h.2
      rw[if_pos h1,if_neg h2,if_neg h];rfl
  · have h:¬ adOk a b:=fun h=>h1 h.1
    rw[if_neg h1,if_neg h]
    by_cases h2:seqOk b
    · rw[if_pos h2];rfl
    · rw[if_neg h2];rfl
/-- a number at a place of bytes -/
def at2 (l:List UInt8) (a b:Nat):Nat:=SP.num ((l.drop a).take b)
theorem at2_lt (l:List UInt8) (a b:Nat):at2 l a b < 256 ^ b:=by
  have h:=SP.num_lt ((l.drop a).take b)
  have h2:((l.drop a).take b).length≤b:=by rw[List.length_take];omega
  exact Nat.lt_of_lt_of_le h (Nat.pow_le_pow_right (by omega) h2)
theorem at2_one (l:List UInt8) (a:Nat) (h:a < l.length):at2 l a 1=SP.nth l a:=by
  unfold at2
  rw[SP.drop_cons h]
  simp[SP.num,SP.nth]
theorem bt_div (s:ByteArray) (i:Nat):bt s (i:Int) / 16=((SP.nth (SP.by_ s) i / 16:Nat):Int):=by rw[bt_nth];omega
theorem drop_skip (n m:Nat) (L:List UInt8) (p:Nat) (h:m≤p):(SP.bytesN n m++L).drop p=L.drop (p - m):=by
  rw[List.drop_append,SP.bytesN_len,List.drop_of_length_le (by rw[SP.bytesN_len];exact h),List.nil_append]
theorem at2_skip (n m:Nat) (L:List UInt8) (p k:Nat) (h:m≤p):at2 (SP.bytesN n m++L) p k=at2 L (p - m) k:=by
  unfold at2;rw[drop_skip n m L p h]
theorem at2_here (n k:Nat) (L:List UInt8):at2 (SP.bytesN n k++L) 0 k=n % 256 ^ k:=by
  unfold at2
  rw[List.drop_zero,List.take_append_of_le_length (by rw[SP.bytesN_len];exact Nat.le_refl _),List.take_of_length_le (by rw[SP.bytesN_len];exact Nat.le_refl _),SP.num_bytesN]
theorem get_at (s:ByteArray) (hs:s.size≤281474976710656) (a b:Nat) (hb1:1≤b) (hb:b≤6) (h:a+b≤s.size):sum_Get.f s (a:Int) (b:Int)=some (((at2 (SP.by_ s) a b:Nat):Int),0):=by
  rw[get_ev s (by omega) a b (by omega) (by omega),GetS,if_neg (by omega)]
  rfl
/-! ### what bytes are as a segment -/
abbrev OptT:=Int × Int × Int × Int × Bool × Bool × Bool × List S73 × Int
abbrev SegT:=Int × Int × Int × Int × Int × Int × Int × Int × Int × Int × Int × Bool × Bool × Bool × List S73 × ByteArray × Int
def segZ (e:Int):SegT:=(0,0,0,0,0,0,0,0,0,0,0,false,false,false,[],(⟨#[]⟩:ByteArray),e)
def segMay (s:List UInt8) (h:Nat) (o:OptT):Prop:=SP.nth s 12 % 16=0∧segOk (at2 s 0 2:Nat) (at2 s 2 2:Nat) (at2 s 4 4:Nat) (at2 s 8 4:Nat) (SP.nth s 13:Nat) (at2 s 14 2:Nat) (at2 s 18 2:Nat) o.1 o.2.1 o.2.2.1 o.2.2.2.1 o.2.2.2.2.1 o.2.2.2.2.2.1 o.2.2.2.2.2.2.1 o.2.2.2.2.2.2.2.1 (mkB (s.drop h))
instance (s:List UInt8) (h:Nat) (o:OptT):Decidable (segMay s h o):=inferInstanceAs (Decidable (_∧_))
/-- what bytes between two addresses tell, if o is what the options tell -/
def segD (a b:Int) (s:List UInt8) (o:OptT):SegT :=
  if ¬ adOk a b then segZ 1 else
  if s.length < 20∨1540 < s.length then segZ 80 else
  if SP.nth s 12 / 16 * 4 < 20∨s.length < SP.nth s 12 / 16 * 4 then segZ 80 else
  if SP.canon (SP.ws 0 (pseB a.toNat b.toNat s.length++s))≠65535 then segZ 20 else
  if o.2.2.2.2.2.2.2.2≠0 then segZ o.2.2.2.2.2.2.2.2 else
  if segMay s (SP.nth s 12 / 16 * 4) o then (((at2 s 0 2:Nat):Int),((at2 s 2 2:Nat):Int),((at2 s 4 4:Nat):Int),((at2 s 8 4:Nat):Int),((SP.nth s 13:Nat):Int),((at2 s 14 2:Nat):Int),((at2 s 18 2:Nat):Int),o.1,o.2.1,o.2.2.1,o.2.2.2.1,o.2.2.2.2.1,o.2.2.2.2.2.1,o.2.2.2.2.2.2.1,o.2.2.2.2.2.2.2.1,mkB (s.drop (SP.nth s 12 / 16 * 4)),0) else segZ 80
theorem seghd_is (s:ByteArray):seg_Decode.hd s=((SP.nth (SP.by_ s) 12 / 16 * 4:Nat):Int):=by
  have hl:=SP.nth_lt (SP.by_ s) 12
  unfold seg_Decode.hd
  rw[show bt s 12 / 16=bt s ((12:Nat):Int) / 16 from rfl,bt_div,w64 (n:=((SP.nth (SP.by_ s) 12 / 16:Nat):Int)) (by omega) (by omega),w64 (by omega) (by omega)]
  omega
theorem and15_0 (n:Nat) (h:n < 256):(Go.bits .and .u8 (n:Int) 15 > 0)↔¬ n % 16=0:=by
  have key:∀ n:Fin 256,(decide (Go.bits .and .u8 ((n.val:Nat):Int) 15 > 0))=decide (¬ n.val % 16=0):=by decide +kernel
  have:=key ⟨n,h⟩
  exact decide_eq_decide.mp this
theorem segdec_ev (a b:Int) (s:ByteArray) (o:OptT) (ha : -9223372036854775808≤a∧a < 9223372036854775808) (hb : -9223372036854775808≤b∧b < 9223372036854775808)
    (ho:Ev (fun k=>opts_Decode.f k (mkB (((SP.by_ s).drop 20).take (SP.nth (SP.by_ s) 12 / 16 * 4 - 20)))) o)
    (hi:o.2.2.2.2.2.2.2.2=0→optOk o.1 o.2.1 o.2.2.1 o.2.2.2.1 o.2.2.2.2.1 o.2.2.2.2.2.1 o.2.2.2.2.2.2.1 o.2.2.2.2.2.2.2.1) :
    Ev (fun k=>seg_Decode.f k a b s) (segD a b (SP.by_ s) o):=by
  have hl:=SP.by_len s
  have hn:=SP.nth_lt (SP.by_ s) 12
  unfold seg_Decode.f
  rw[segadr_is a b ha hb,seghd_is,segD]
  refine Ev.bind (Ev.now _) ?_
  by_cases had:adOk a b
  rotate_left
  · rw[if_neg had,if_pos had]
    exact Ev.neg (by decide) (Ev.now _)
  rw[if_pos had,if_neg (fun h=>h had)]
  refine Ev.pos rfl ?_
  refine Ev.ite (fun h=>?_) (fun h20=>?_)
  · rw[if_pos (by omega)];exact Ev.now _
  refine Ev.ite (fun h=>?_) (fun h40=>?_)
  · rw[if_pos (by omega)];exact Ev.now _
  rw[if_neg (by omega)]
  refine Ev.ite (fun h=>?_) (fun h1=>?_)
  · rw[if_pos (by omega)];exact Ev.now _
  refine Ev.ite (fun h=>?_) (fun h2=>?_)
  · rw[if_pos (by omega)];exact Ev.now _
  rw[if_neg (by omega)]
  have hA:=had.1
  have hB:=had.2
  unfold seqOk at hA hB
  obtain⟨a,rfl⟩:=Int.eq_ofNat_of_zero_le (show 0≤a by omega)
  obtain⟨b,rfl⟩:=Int.eq_ofNat_of_zero_le (show 0≤b by omega)
  simp only[nat_toNat]
  refine Ev.bind (pseudo_ok a b s.size (by omega) (by omega) (by omega)) ?_
  have lp:=pseB_len a b s.size
  try dsimp only
  refine Ev.pos (by rw[mkB_size,lp];omega) ?_
  have hw:=whole_ev (mkB (pseB a b s.size)++s) (by rw[ByteArray.size_append,mkB_size,lp];omega)
  rw[SP.by_append,by_mkB] at hw
  refine Ev.bind hw ?_
  rw[hl]
  by_cases hc:SP.canon (SP.ws 0 (pseB a b s.size++SP.by_ s))=65535
  rotate_left
  · rw[if_pos hc,decide_eq_false hc]
    exact Ev.neg (by decide) (Ev.now _)
  rw[if_neg (fun h=>h hc),decide_eq_true hc]
  refine Ev.pos rfl ?_
  have ex1:cutS s 20 (SP.nth (SP.by_ s) 12 / 16 * 4)=mkB (((SP.by_ s).drop 20).take (SP.nth (SP.by_ s) 12 / 16 * 4 - 20)):=cut_mk s 20 _
  have ex2:cutS s (SP.nth (SP.by_ s) 12 / 16 * 4) s.size=mkB ((SP.by_ s).drop (SP.nth (SP.by_ s) 12 / 16 * 4)):=cut_from s _
  rw[ex1]
  refine Ev.bind ho ?_
  obtain⟨m,sc,st,ec,sd,sk,sp,l,e⟩:=o
  dsimp only at hi ⊢
  refine Ev.ite (fun he=>?_) (fun he=>?_)
  rotate_left
  · rw[if_pos he];exact Ev.now _
  rw[if_neg (fun h=>h he)]
  have hok:=hi he
  have hv:=optOk_inv hok
  unfold seg_Decode.f2
  rw[seghd_is,nat_toNat,ex2]
  have gt:=fun (a b:Nat) (hb1:1≤b) (hb:b≤6) (h:a+b≤s.size)=>get_at s (by omega) a b hb1 hb h
  have g1:=gt 0 2 (by omega) (by omega) (by omega)
  have g2:=gt 2 2 (by omega) (by omega) (by omega)
  have g3:=gt 4 4 (by omega) (by omega) (by omega)
  have g4:=gt 8 4 (by omega) (by omega) (by omega)
  have g5:=gt 13 1 (by omega) (by omega) (by omega)
  have g6:=gt 14 2 (by omega) (by omega) (by omega)
  have g7:=gt 18 2 (by omega) (by omega) (by omega)
  rw[at2_one _ 13 (by omega)] at g5
  have now:∀ {o:Option (Int × Int)} {r:Int × Int},o=some r→Ev (fun _=>o) r:=fun h=>h ▸ Ev.now _
  refine Ev.bind (now g1) (Ev.bind (now g2) (Ev.bind (now g3) (Ev.bind (now g4) (Ev.bind (now g5) (Ev.bind (now g6) (Ev.bind (now g7) ?_))))))
  dsimp only
  have e12:bt s 12=((SP.nth (SP.by_ s) 12:Nat):Int):=bt_nth s 12
  rw[e12]
  refine Ev.ite (fun c=>?_) (fun c=>?_)
  · have c':=(and15_0 _ hn).mp c
    rw[if_neg (fun hm=>c' hm.1)];exact Ev.now _
  have c':SP.nth (SP.by_ s) 12 % 16=0:=Decidable.byContradiction fun h=>c ((and15_0 _ hn).mpr h)
  have l3:at2 (SP.by_ s) 4 4 < 4294967296:=at2_lt (SP.by_ s) 4 4
  have l4:at2 (SP.by_ s) 8 4 < 4294967296:=at2_lt (SP.by_ s) 8 4
  refine Ev.bind (segcheck_ev _ _ _ _ _ _ _ m sc st ec sd sk sp l _ ⟨by omega,by omega⟩ ⟨by omega,by omega⟩ hv.1 hv.2.1 ⟨by have:=hv.2.2.1;omega,hv.2.2.2⟩) ?_
  by_cases hm:segMay (SP.by_ s) (SP.nth (SP.by_ s) 12 / 16 * 4) (m,sc,st,ec,sd,sk,sp,l,e)
  · rw[if_pos hm,segC_ok _ _ _ _ _ _ _ _ _ _ _ _ _ _ _ _ hm.2]
    exact Ev.pos rfl (Ev.now _)
  · rw[if_neg hm,segC_no _ _ _ _ _ _ _ _ _ _ _ _ _ _ _ _ (fun h=>hm ⟨c',h⟩)]
    exact Ev.neg (by decide) (Ev.now _)
theorem fold_ev:∀ (n:Nat),n < 9223372036854775808→Ev (fun k=>sternpostref02_fold.f k (n:Int)) ((SP.canon n:Nat):Int):=by
  intro n
  induction n using Nat.strongRecOn with
  | _ n ih =>
    intro h
    show Ev (fun k=>sternpostref02_fold.l0 k (n:Int)) _
    by_cases h1:65535 < n
    · refine Ev.step (f:=fun k=>sternpostref02_fold.l0 k ((n / 65536+n % 65536:Nat):Int)) (fun k=>?_) ?_
      · simp only[sternpostref02_fold.l0]
        rw[if_pos (by omega),Int.tdiv_eq_ediv_of_nonneg (by omega),Int.tmod_eq_emod_of_nonneg (by omega),w64 (n:=(n:Int) / 65536) (by omega) (by omega),w64 (by omega) (by omega)];congr 1
      · rw[← SP.canon_step h1];exact ih _ (by omega) (by omega)
    · refine Ev.step (f:=fun _=>some (n:Int)) (fun k=>?_) ?_
      · simp only[sternpostref02_fold.l0];rw[if_neg (by omega)]
      · rw[SP.canon_small (by omega)];exact Ev.now _
theorem refsum_l0 (s:ByteArray) (hs:s.size < 9223372036854775808):∀ (d i n:Nat),s.size - i=d→i≤s.size→n≤65535 →
    Ev (fun k=>sternpostref02_Sum.l0 k s (n:Int) (i:Int)) (65535 - ((SP.canon (n+SP.ws i ((SP.by_ s).drop i)):Nat):Int)):=by
  intro d
  induction d with
  | zero =>
    intro i n hd hi hn
    refine Ev.step (f:=fun _=>some (65535 - (n:Int))) (fun k=>?_) ?_
    · simp only[sternpostref02_Sum.l0];rw[if_neg (by omega),w64 (by omega) (by omega)]
    · rw[SP.ws_drop_end i (by rw[SP.by_len];omega),Nat.add_zero,SP.canon_small hn];exact Ev.now _
  | succ d ih =>
    intro i n hd hi hn
    have hlt:i < (SP.by_ s).length:=by rw[SP.by_len];omega
    have hb:=SP.nth_lt (SP.by_ s) i
    have hc:=SP.canon_le (n+SP.wt i (SP.nth (SP.by_ s) i))
    have hwt:=SP.wt_le i ((SP.by_ s).getD i 0)
    have key:Ev (fun k=>(sternpostref02_fold.f k ((n+SP.wt i (SP.nth (SP.by_ s) i):Nat):Int)).bind fun t=>sternpostref02_Sum.l0 k s t ((i+1:Nat):Int)) (65535 - ((SP.canon (n+SP.ws i ((SP.by_ s).drop i)):Nat):Int)):=by
      refine Ev.bind (fold_ev _ (by unfold SP.nth;omega)) ?_
      have h:=ih (i+1) (SP.canon (n+SP.wt i (SP.nth (SP.by_ s) i))) (by omega) (by omega) hc
      rw[SP.canon_add] at h
      rw[SP.ws_drop i hlt,← Nat.add_assoc]
      exact h
    have e1:((i:Int)+1)=((i+1:Nat):Int):=rfl
    have key2:Ev (fun k=>sternpostref02_Sum.j1 k s ((n+SP.wt i (SP.nth (SP.by_ s) i):Nat):Int) (i:Int)) (65535 - ((SP.canon (n+SP.ws i ((SP.by_ s).drop i)):Nat):Int)):=by
      refine Ev.step (fun k=>?_) key
      simp only[sternpostref02_Sum.j1]
      rw[w64 (n:=(i:Int)+1) (by omega) (by omega),e1]
    refine Ev.step (fun k=>?_) key2
    simp only[sternpostref02_Sum.l0]
    rw[if_pos (by omega),tmod2,bt_nth,w64 (n:=(SP.nth (SP.by_ s) i:Int)) (by omega) (by omega)]
    by_cases hp:i % 2=0
    · rw[if_pos (by omega),if_pos (by omega),w64 (n:=256 * (SP.nth (SP.by_ s) i:Int)) (by omega) (by omega),w64 (by omega) (by omega)]
      rw[show (n:Int)+256 * (SP.nth (SP.by_ s) i:Int)=((n+SP.wt i (SP.nth (SP.by_ s) i):Nat):Int) from by unfold SP.wt;rw[if_pos hp];omega]
    · rw[if_neg (by omega),if_pos (by omega),w64 (by omega) (by omega)]
      rw[show (n:Int)+(SP.nth (SP.by_ s) i:Int)=((n+SP.wt i (SP.nth (SP.by_ s) i):Nat):Int) from by unfold SP.wt;rw[if_neg hp];omega]
theorem refsum_ev (s:ByteArray) (hs:s.size < 9223372036854775808):Ev (fun k=>sternpostref02_Sum.f k s) (65535 - ((SP.canon (SP.ws 0 (SP.by_ s)):Nat):Int)):=by
  have:=refsum_l0 s hs s.size 0 0 rfl (by omega) (by omega)
  rw[Nat.zero_add,List.drop_zero] at this
  exact this
theorem text_l0 (n b:Nat) (hb:b≤8):∀ (d:Nat),d≤b→Ev (fun k=>sternpostref02_Text.l0 k (n:Int) ((List.range (b - d)).map fun j=>((n / 2 ^ (8 * (b - 1 - j)) % 256:Nat):Int)) ((d:Int) - 1)) (mkB (SP.bytesN n b)):=by
  intro d
  induction d with
  | zero =>
    intro hd
    refine Ev.step (fun k=>?_) (Ev.now _)
    simp only[sternpostref02_Text.l0];rw[if_neg (by omega)]
    congr 1
    unfold strOfNums mkB
    rw[bytesN_range,List.map_map]
    rfl
  | succ d ih =>
    intro hd
    refine Ev.step (fun k=>?_) (ih (by omega))
    simp only[sternpostref02_Text.l0]
    have e:wrap64 (8 * (((d+1:Nat):Int) - 1))=((8 * d:Nat):Int):=by unfold wrap64;omega
    rw[if_pos (by omega),e,if_pos (by omega),if_pos (by simp;omega),shr_pow _ _ (by omega),w64 (by omega) (by omega)]
    rw[show ((d+1:Nat):Int) - 1 - 1=(d:Int) - 1 from by omega]
    congr 1
    rw[show b - d=b - (d+1)+1 from by omega,List.range_succ,List.map_append]
    congr 1
    simp only[List.map_cons,List.map_nil]
    rw[show b - 1 - (b - (d+1))=d from by omega]
    simp
theorem text_ev (n b:Nat) (hb:b≤8):Ev (fun k=>sternpostref02_Text.f k (n:Int) (b:Int)) (mkB (SP.bytesN n b)):=by
  have:=text_l0 n b hb b (by omega)
  refine Ev.congr (fun k=>?_) this
  unfold sternpostref02_Text.f
  rw[w64 (by omega) (by omega),Nat.sub_self];rfl
theorem refnum_l0 (s:ByteArray) (hs:s.size≤6):∀ (d i n:Nat),s.size - i=d→i≤s.size→n < 256 ^ i →
    Ev (fun k=>sternpostref02_Num.l0 k s (n:Int) (i:Int)) ((((SP.by_ s).drop i).foldl (fun n b=>n * 256+b.toNat) n:Nat):Int):=by
  intro d
  induction d with
  | zero =>
    intro i n hd hi hn
    rw[List.drop_eq_nil_of_le (by rw[SP.by_len];omega)]
    refine Ev.step (fun k=>?_) (Ev.now _)
    simp only[sternpostref02_Num.l0];rw[if_neg (by omega)];rfl
  | succ d ih =>
    intro i n hd hi hn
    have hlt:i < (SP.by_ s).length:=by rw[SP.by_len];omega
    have hb:=SP.nth_lt (SP.by_ s) i
    have hp:256 ^ i≤256 ^ 5:=Nat.pow_le_pow_right (by omega) (by omega)
    have e5:256 ^ 5=1099511627776:=by decide
    rw[SP.drop_cons hlt,List.foldl_cons]
    refine Ev.step (fun k=>?_) (ih (i+1) (n * 256+((SP.by_ s).getD i 0).toNat) (by omega) (by omega) (by
      rw[Nat.pow_succ];have:((SP.by_ s).getD i 0).toNat < 256:=hb;omega))
    simp only[sternpostref02_Num.l0]
    rw[if_pos (by omega),if_pos (by omega),bt_nth,w64 (n:=(n:Int) * 256) (by omega) (by omega),w64 (n:=(SP.nth (SP.by_ s) i:Int)) (by omega) (by omega),w64 (n:=(i:Int)+1) (by omega) (by omega),w64 (by omega) (by omega)]
    rfl
theorem refnum_ev (s:ByteArray) (hs:s.size≤6):Ev (fun k=>sternpostref02_Num.f k s) ((SP.num (SP.by_ s):Nat):Int):=by
  have:=refnum_l0 s hs s.size 0 0 rfl (by omega) (by decide)
  rw[List.drop_zero] at this
  exact this
theorem refwhole_ev (s:ByteArray) (hs:s.size≤65536):Ev (fun k=>sternpostref02_Whole.f k s) (decide (SP.canon (SP.ws 0 (SP.by_ s))=65535)):=by
  unfold sternpostref02_Whole.f
  refine Ev.bind (refsum_ev s (by omega)) ?_
  have hc:=SP.canon_le (SP.ws 0 (SP.by_ s))
  by_cases h:SP.canon (SP.ws 0 (SP.by_ s))=65535
  · rw[decide_eq_true h,h];exact Ev.now _
  · rw[decide_eq_false h,show ((65535 - (SP.canon (SP.ws 0 (SP.by_ s)):Int)) == 0)=false from by simp only[beq_eq_false_iff_ne,ne_eq];omega];exact Ev.now _
theorem refcheck (a:Int):sternpostref01_Check.f a=some (if a < 0∨4294967295 < a then 1 else 0):=by
  unfold sternpostref01_Check.f
  by_cases h:a < 0
  · rw[if_pos h,if_pos (.inl h)]
  · by_cases h2:a > 4294967295
    · rw[if_neg h,if_pos h2,if_pos (.inr h2)]
    · rw[if_neg h,if_neg h2,if_neg (by omega)]
theorem refpseudo_ev (f t p l:Int):Ev (fun k=>sternpostref02_Pseudo.f k f t p l) (PseudoS f t p l):=by
  have bad:(f < 0∨t < 0∨p < 0∨l < 0∨4294967295 < f∨4294967295 < t∨255 < p∨65535 < l)→Ev (fun k=>sternpostref02_Pseudo.j0 k f t p l true) (PseudoS f t p l):=by
    intro h
    refine Ev.step (f:=fun _=>some (⟨#[]⟩,1)) (fun k=>?_) ?_
    · simp only[sternpostref02_Pseudo.j0];rw[if_pos trivial]
    · rw[PseudoS,if_pos h];exact Ev.now _
  by_cases h1:f < 0∨4294967295 < f
  · refine Ev.congr (fun k=>?_) (bad (by omega))
    unfold sternpostref02_Pseudo.f;rw[refcheck,Option.bind_some,if_pos h1,if_neg (by decide)]
  by_cases h2:t < 0∨4294967295 < t
  · refine Ev.congr (fun k=>?_) (bad (by omega))
    unfold sternpostref02_Pseudo.f;rw[refcheck,Option.bind_some,if_neg h1,if_pos rfl,refcheck,Option.bind_some,if_pos h2,if_neg (by decide)]
  by_cases h3:p < 0
  · refine Ev.congr (fun k=>?_) (bad (by omega))
    unfold sternpostref02_Pseudo.f;rw[refcheck,Option.bind_some,if_neg h1,if_pos rfl,refcheck,Option.bind_some,if_neg h2,if_pos rfl,if_pos h3]
  by_cases h4:p > 255
  · refine Ev.congr (fun k=>?_) (bad (by omega))
    unfold sternpostref02_Pseudo.f;rw[refcheck,Option.bind_some,if_neg h1,if_pos rfl,refcheck,Option.bind_some,if_neg h2,if_pos rfl,if_neg h3,if_pos h4]
  by_cases h5:l < 0
  · refine Ev.congr (fun k=>?_) (bad (by omega))
    unfold sternpostref02_Pseudo.f;rw[refcheck,Option.bind_some,if_neg h1,if_pos rfl,refcheck,Option.bind_some,if_neg h2,if_pos rfl,if_neg h3,if_neg h4,if_pos h5]
  by_cases h6:l > 65535
  · refine Ev.congr (fun k=>?_) (bad (by omega))
    unfold sternpostref02_Pseudo.f;rw[refcheck,Option.bind_some,if_neg h1,if_pos rfl,refcheck,Option.bind_some,if_neg h2,if_pos rfl,if_neg h3,if_neg h4,if_neg h5,decide_eq_true h6]
  refine Ev.congr (f:=fun k=>sternpostref02_Pseudo.j0 k f t p l false) (fun k=>?_) ?_
  · unfold sternpostref02_Pseudo.f;rw[refcheck,Option.bind_some,if_neg h1,if_pos rfl,refcheck,Option.bind_some,if_neg h2,if_pos rfl,if_neg h3,if_neg h4,if_neg h5,decide_eq_false h6]
  obtain⟨a,rfl⟩:=Int.eq_ofNat_of_zero_le (show 0≤f by omega)
  obtain⟨b,rfl⟩:=Int.eq_ofNat_of_zero_le (show 0≤t by omega)
  obtain⟨c,rfl⟩:=Int.eq_ofNat_of_zero_le (show 0≤p by omega)
  obtain⟨d,rfl⟩:=Int.eq_ofNat_of_zero_le (show 0≤l by omega)
  have l1:=SP.bytesN_len a 4
  have l2:=SP.bytesN_len b 4
  have l3:=SP.bytesN_len c 2
  have l4:=SP.bytesN_len d 2
  refine Ev.step (f:=?fz) (fun k=>?hz) ?hk
  case hz=>simp only[sternpostref02_Pseudo.j0];rw[if_neg (by decide)]
  case hk =>
    refine Ev.bind (text_ev a 4 (by omega)) ?_
    refine Ev.bind (text_ev b 4 (by omega)) ?_
    try dsimp only
    refine Ev.pos (by rw[mkB_size,mkB_size];omega) ?_
    rw[mkB_append]
    refine Ev.bind (text_ev c 2 (by omega)) ?_
    try dsimp only
    refine Ev.pos (by rw[mkB_size,mkB_size,List.length_append];omega) ?_
    rw[mkB_append]
    refine Ev.bind (text_ev d 2 (by omega)) ?_
    try dsimp only
    refine Ev.pos (by rw[mkB_size,mkB_size,List.length_append,List.length_append];omega) ?_
    rw[mkB_append]
    rw[PseudoS,if_neg (by omega),nat_toNat,nat_toNat,nat_toNat,nat_toNat]
    exact Ev.now _
theorem refpse_ok (a b n:Nat) (ha:a < 4294967296) (hb:b < 4294967296) (hn:n < 65536):Ev (fun k=>sternpostref02_Pseudo.f k (a:Int) (b:Int) 6 (n:Int)) (mkB (pseB a b n),0):=by
  have h:=refpseudo_ev (a:Int) (b:Int) 6 (n:Int)
  have e6:(6:Int).toNat=6:=rfl
  rw[PseudoS,if_neg (by omega),e6,nat_toNat,nat_toNat,nat_toNat] at h
  unfold pseB
  exact h
theorem mk_is (l:List UInt8):(⟨l.toArray⟩:ByteArray)=mkB l:=rfl
section
variable (m sc st ec:Int) (sd sk sp:Bool) (l:List S73)
theorem refrgs_l0 (p:List UInt8) (hp:p.length≤1000) (h4:l.length≤4) (hl:∀ x∈l,rgOk x):∀ (d i:Nat),l.length - i=d→i≤l.length →
    Ev (fun k=>sternpostref07_bare.l0 k (mkB (p++rgsB (l.take i))) (i:Int) m sc st ec sd sk sp l) (mkB (p++rgsB l)):=by
  intro d
  induction d with
  | zero =>
    intro i hd hi
    obtain rfl:i=l.length:=by omega
    rw[List.take_length]
    refine Ev.step (fun k=>by simp only[sternpostref07_bare.l0];rfl) ?_
    exact Ev.neg (by omega) (Ev.now _)
  | succ d ih =>
    intro i hd hi
    have hlt:i < l.length:=by omega
    have hx:=hl l[i] (List.getElem_mem hlt)
    have hrd:rd_T73 l (i:Int)=l[i]:=by simp[rd_T73,hlt]
    obtain⟨h1,h2,h3⟩:=hx
    unfold seqOk at h1 h2
    have ht:rgsB (l.take (i+1))=rgsB (l.take i)++rgB l[i]:=by
      rw[List.take_succ_eq_append_getElem hlt,rgsB,List.flatMap_append,List.flatMap_cons,List.flatMap_nil,List.append_nil,rgsB]
    have hlen:=rgsB_len (l.take i)
    rw[List.length_take] at hlen
    refine Ev.step (fun k=>by simp only[sternpostref07_bare.l0];rfl) ?_
    refine Ev.pos (by omega) ?_
    refine Ev.pos (by omega) ?_
    rw[hrd]
    obtain⟨a,ha⟩:=Int.eq_ofNat_of_zero_le h1.1
    obtain⟨b,hb⟩:=Int.eq_ofNat_of_zero_le h2.1
    have hrg:rgB l[i]=SP.bytesN a 4++SP.bytesN b 4:=by rw[rgB,ha,hb,nat_toNat,nat_toNat]
    rw[ha,hb]
    refine Ev.bind (text_ev a 4 (by omega)) ?_
    refine Ev.bind (text_ev b 4 (by omega)) ?_
    refine Ev.pos (by simp only[mkB_size,SP.bytesN_len];omega) ?_
    rw[mkB_append,← hrg]
    refine Ev.pos (by simp only[mkB_size,List.length_append,rgB_len];omega) ?_
    rw[mkB_append,List.append_assoc,← ht,w64 (by omega) (by omega)]
    exact ih (i+1) (by omega) (by omega)
theorem refbare4 (p:List UInt8) (hp:p.length≤1000) (h4:l.length≤4) (hl:∀ x∈l,rgOk x):Ev (fun k=>sternpostref07_bare.j4 k (mkB p) m sc st ec sd sk sp l) (mkB (p++rgsB l)):=by
  refine Ev.step (fun k=>by simp only[sternpostref07_bare.j4];rfl) ?_
  have:=refrgs_l0 m sc st ec sd sk sp l p hp h4 hl l.length 0 rfl (by omega)
  rw[List.take_zero,show rgsB ([]:List S73)=[] from rfl,List.append_nil] at this
  exact this
theorem refbare3 (p:List UInt8) (hp:p.length≤900) (h4:l.length≤4) (hl:∀ x∈l,rgOk x):Ev (fun k=>sternpostref07_bare.j3 k (mkB p) m sc st ec sd sk sp l) (mkB (p++oRgs l)):=by
  refine Ev.step (fun k=>by simp only[sternpostref07_bare.j3];rfl) ?_
  refine Ev.ite (fun h=>?_) (fun h=>?_)
  · rw[w64 (n:=8 * (l.length:Int)) (by omega) (by omega),w64 (by omega) (by omega),show (2+8 * (l.length:Int))=((2+8 * l.length:Nat):Int) from by omega]
    refine Ev.bind (text_ev (2+8 * l.length) 1 (by omega)) ?_
    refine Ev.pos (by simp only[mkB_size,SP.bytesN_len];omega) ?_
    rw[show (⟨#[5]⟩:ByteArray)=mkB [5] from rfl,mkB_append]
    refine Ev.pos (by simp only[mkB_size,List.length_append,SP.bytesN_len,List.length_cons,List.length_nil];omega) ?_
    rw[mkB_append]
    have:=refbare4 m sc st ec sd sk sp l (p++([5]++SP.bytesN (2+8 * l.length) 1)) (by simp only[List.length_append,SP.bytesN_len,List.length_cons,List.length_nil];omega) h4 hl
    have e:p++([5]++SP.bytesN (2+8 * l.length) 1)++rgsB l=p++oRgs l:=by
      rw[oRgs,if_pos (by omega),opB,rgsB_len,List.append_assoc]
      congr 1
      simp only[SP.bytesN,List.cons_append,List.nil_append]
      rw[show (2+8 * l.length) / 2 ^ (8 * 0) % 256=2+8 * l.length from by simp;omega]
      rfl
    rw[← e]
    exact this
  · have hz:l=[]:=List.eq_nil_of_length_eq_zero (by omega)
    subst hz
    have:=refbare4 m sc st ec sd sk sp [] p (by omega) h4 hl
    exact this
theorem refbare2 (p:List UInt8) (hp:p.length≤800) (h4:l.length≤4) (hl:∀ x∈l,rgOk x) (h1:seqOk st) (h2:seqOk ec):Ev (fun k=>sternpostref07_bare.j2 k (mkB p) m sc st ec sd sk sp l) (mkB (p++oStamp st ec sp++oRgs l)):=by
  unfold seqOk at h1 h2
  refine Ev.step (fun k=>by simp only[sternpostref07_bare.j2];rfl) ?_
  refine Ev.ite (fun h=>?_) (fun h=>?_)
  · rw[oStamp,if_pos h]
    obtain⟨a,ha⟩:=Int.eq_ofNat_of_zero_le h1.1
    obtain⟨b,hb⟩:=Int.eq_ofNat_of_zero_le h2.1
    subst ha hb
    rw[nat_toNat,nat_toNat]
    refine Ev.bind (text_ev a 4 (by omega)) ?_
    refine Ev.pos (by simp only[mkB_size,SP.bytesN_len];omega) ?_
    refine Ev.bind (text_ev b 4 (by omega)) ?_
    rw[show (⟨#[8,10]⟩:ByteArray)=mkB [8,10] from rfl,mkB_append]
    refine Ev.pos (by simp only[mkB_size,List.length_append,SP.bytesN_len,List.length_cons,List.length_nil];omega) ?_
    rw[mkB_append]
    refine Ev.pos (by simp only[mkB_size,List.length_append,SP.bytesN_len,List.length_cons,List.length_nil];omega) ?_
    rw[mkB_append]
    have e : [8,10]++SP.bytesN a 4++SP.bytesN b 4=opB 8 (SP.bytesN a 4++SP.bytesN b 4):=by
      rw[opB,List.length_append,SP.bytesN_len,SP.bytesN_len];rfl
    rw[e]
    exact refbare3 m sc a b sd sk sp l _ (by rw[List.length_append,opB_len,List.length_append,SP.bytesN_len,SP.bytesN_len];omega) h4 hl
  · rw[oStamp,if_neg h,List.append_nil]
    exact refbare3 m sc st ec sd sk sp l p (by omega) h4 hl
theorem refbare1 (p:List UInt8) (hp:p.length≤700) (h4:l.length≤4) (hl:∀ x∈l,rgOk x) (h1:seqOk st) (h2:seqOk ec):Ev (fun k=>sternpostref07_bare.j1 k (mkB p) m sc st ec sd sk sp l) (mkB (p++oSack sk++oStamp st ec sp++oRgs l)):=by
  refine Ev.step (fun k=>by simp only[sternpostref07_bare.j1];rfl) ?_
  refine Ev.ite (fun h=>?_) (fun h=>?_)
  · rw[oSack,if_pos h]
    refine Ev.pos (by simp only[mkB_size];omega) ?_
    rw[show (⟨#[4,2]⟩:ByteArray)=mkB [4,2] from rfl,mkB_append,show ([4,2]:List UInt8)=opB 4 [] from rfl]
    exact refbare2 m sc st ec sd sk sp l _ (by rw[List.length_append,opB_len];simp;omega) h4 hl h1 h2
  · rw[oSack,if_neg h,List.append_nil]
    exact refbare2 m sc st ec sd sk sp l p (by omega) h4 hl h1 h2
theorem refbare0 (p:List UInt8) (hp:p.length≤600) (h4:l.length≤4) (hl:∀ x∈l,rgOk x) (h1:seqOk st) (h2:seqOk ec) (h5:0≤sc) (h6:sc≤14):Ev (fun k=>sternpostref07_bare.j0 k (mkB p) m sc st ec sd sk sp l) (mkB (p++oScale sc sd++oSack sk++oStamp st ec sp++oRgs l)):=by
  refine Ev.step (fun k=>by simp only[sternpostref07_bare.j0];rfl) ?_
  refine Ev.ite (fun h=>?_) (fun h=>?_)
  · rw[oScale,if_pos h]
    obtain⟨a,ha⟩:=Int.eq_ofNat_of_zero_le h5
    subst ha
    rw[nat_toNat]
    refine Ev.bind (text_ev a 1 (by omega)) ?_
    refine Ev.pos (by simp only[mkB_size,SP.bytesN_len];omega) ?_
    rw[show (⟨#[3,3]⟩:ByteArray)=mkB [3,3] from rfl,mkB_append]
    refine Ev.pos (by simp only[mkB_size,List.length_append,SP.bytesN_len,List.length_cons,List.length_nil];omega) ?_
    rw[mkB_append,show ([3,3]++SP.bytesN a 1:List UInt8)=opB 3 (SP.bytesN a 1) from by rw[opB,SP.bytesN_len];rfl]
    exact refbare1 m a st ec sd sk sp l _ (by rw[List.length_append,opB_len,SP.bytesN_len];omega) h4 hl h1 h2
  · rw[oScale,if_neg h,List.append_nil]
    exact refbare1 m sc st ec sd sk sp l p (by omega) h4 hl h1 h2
theorem refbare_ev (h:optFit m sc st ec sd sk sp l):Ev (fun k=>sternpostref07_bare.f k m sc st ec sd sk sp l) (mkB (bareB m sc st ec sd sk sp l)):=by
  obtain⟨m0,m1,s0,s1,h4,h1,h2,_,_,hl⟩:=h
  unfold sternpostref07_bare.f bareB
  refine Ev.ite (fun h=>?_) (fun h=>?_)
  · rw[oMss,if_neg (by omega),List.nil_append]
    have:=refbare0 m sc st ec sd sk sp l [] (by simp) h4 hl h1 h2 s0 s1
    rw[List.nil_append] at this
    exact this
  · rw[oMss,if_pos (by omega)]
    obtain⟨a,ha⟩:=Int.eq_ofNat_of_zero_le m0
    subst ha
    rw[nat_toNat]
    refine Ev.bind (text_ev a 2 (by omega)) ?_
    refine Ev.pos (by simp only[mkB_size,SP.bytesN_len];omega) ?_
    rw[show (⟨#[2,4]⟩:ByteArray)=mkB [2,4] from rfl,mkB_append]
    refine Ev.pos (by simp only[mkB_size,List.length_append,SP.bytesN_len,List.length_cons,List.length_nil];omega) ?_
    rw[show (⟨#[]⟩:ByteArray)=mkB [] from rfl,mkB_append,List.nil_append,show ([2,4]++SP.bytesN a 2:List UInt8)=opB 2 (SP.bytesN a 2) from by rw[opB,SP.bytesN_len];rfl]
    exact refbare0 a sc st ec sd sk sp l _ (by rw[opB_len,SP.bytesN_len];omega) h4 hl h1 h2 s0 s1
theorem refpad_l0 (b:List UInt8) (hb:b.length≤1000000):∀ (d:Nat),(4 - b.length % 4) % 4=d→Ev (fun k=>sternpostref07_Bytes.l0 k (mkB b)) (mkB (b++List.replicate d 0)):=by
  intro d
  induction d generalizing b with
  | zero =>
    intro hd
    refine Ev.step (fun k=>by simp only[sternpostref07_Bytes.l0];rfl) ?_
    refine Ev.pos (by rw[mkB_size];omega) ?_
    rw[List.replicate_zero,List.append_nil]
    exact Ev.now _
  | succ d ih =>
    intro hd
    refine Ev.step (fun k=>by simp only[sternpostref07_Bytes.l0];rfl) ?_
    refine Ev.neg (by rw[mkB_size];omega) ?_
    refine Ev.pos (by rw[mkB_size];omega) ?_
    rw[show (⟨#[0]⟩:ByteArray)=mkB [0] from rfl,mkB_append]
    by_cases hlast:b.length≤999999
    · have:=ih (b++[0]) (by rw[List.length_append,List.length_cons,List.length_nil];omega) (by rw[List.length_append,List.length_cons,List.length_nil];omega)
      rw[List.append_assoc] at this
      exact this
    · exfalso;omega
theorem refoptbytes_ev (h:optFit m sc st ec sd sk sp l):Ev (fun k=>sternpostref07_Bytes.f k m sc st ec sd sk sp l) (mkB (optB m sc st ec sd sk sp l)):=by
  unfold sternpostref07_Bytes.f
  refine Ev.bind (refbare_ev m sc st ec sd sk sp l h) ?_
  have h4:=h.2.2.2.2.1
  have a1:=oMss_le m
  have a2:=oScale_le sc sd
  have a3:=oSack_le sk
  have a4:=oStamp_le st ec sp
  have a5:=oRgs_le l
  have hlen:(bareB m sc st ec sd sk sp l).length≤1000:=by unfold bareB;simp only[List.length_append];omega
  exact refpad_l0 (bareB m sc st ec sd sk sp l) (by omega) _ rfl
end
theorem refseq_is (n:Int):sternpostref01_Check.f n=some (seqC n):=by
  unfold sternpostref01_Check.f seqC
  by_cases h:seqOk n
  · have h':=h
    unfold seqOk at h'
    rw[if_neg (by omega),if_neg (by omega),if_pos h]
  · have h':=h
    unfold seqOk at h'
    rw[if_neg h]
    by_cases h2:n < 0
    · rw[if_pos h2]
    · rw[if_neg h2,if_pos (by omega)]
theorem seqC_zero (n:Int):seqC n=0↔seqOk n:=by
  unfold seqC
  by_cases h:seqOk n
  · rw[if_pos h];exact⟨fun _=>h,fun _=>rfl⟩
  · rw[if_neg h];exact⟨fun hh=>absurd hh (by decide),fun hh=>absurd hh h⟩
section
variable (m sc st ec:Int) (sd sk sp:Bool) (l:List S73)
theorem refoptck_l0 (hl:l.length < 1000000000000000) (h:(∀ x∈l,rgOk x)→optFit m sc st ec sd sk sp l):∀ (d i:Nat),l.length - i=d→i≤l.length→(∀ x∈l.take i,rgOk x) →
    Ev (fun k=>sternpostref07_Check.l0 k (i:Int) m sc st ec sd sk sp l) (optC m sc st ec sd sk sp l):=by
  intro d
  induction d with
  | zero =>
    intro i hd hi ht
    obtain rfl:i=l.length:=by omega
    rw[List.take_length] at ht
    refine Ev.step (fun k=>by simp only[sternpostref07_Check.l0];rfl) ?_
    refine Ev.neg (by omega) ?_
    refine Ev.bind (refoptbytes_ev m sc st ec sd sk sp l (h ht)) ?_
    rw[mkB_size]
    refine Ev.ite (fun hb=>?_) (fun hb=>?_)
    · refine Ev.val (Ev.now _) ?_
      unfold optC;rw[if_neg (fun h2=>by have:=h2.2;omega)]
    · refine Ev.val (Ev.now _) ?_
      unfold optC;rw[if_pos ⟨h ht,by omega⟩]
  | succ d ih =>
    intro i hd hi ht
    have hlt:i < l.length:=by omega
    have hrd:rd_T73 l (i:Int)=l[i]:=by simp[rd_T73,hlt]
    have bad:¬ rgOk l[i]→Ev (fun k=>sternpostref07_Check.j2 k (i:Int) true m sc st ec sd sk sp l) (optC m sc st ec sd sk sp l):=by
      intro hn
      refine Ev.step (fun k=>by simp only[sternpostref07_Check.j2];rfl) ?_
      refine Ev.pos trivial (Ev.val (Ev.now _) (optC_no m sc st ec sd sk sp l fun hh=>hn (hh.2.2.2.2.2.2.2.2.2 _ (List.getElem_mem hlt))).symm)
    refine Ev.step (fun k=>by simp only[sternpostref07_Check.l0];rfl) ?_
    refine Ev.pos (by omega) ?_
    refine Ev.pos (by omega) ?_
    rw[hrd,refseq_is,refseq_is]
    refine Ev.bind (Ev.now _) ?_
    refine Ev.ite (fun a=>?_) (fun a=>bad fun hh=>a ((seqC_zero _).mpr hh.1))
    refine Ev.bind (Ev.now _) ?_
    refine Ev.ite (fun b=>?_) (fun b=>bad fun hh=>b ((seqC_zero _).mpr hh.2.1))
    by_cases c:l[i].f0=l[i].f1
    · rw[show (l[i].f0 == l[i].f1)=true from by rw[c];exact beq_self_eq_true _]
      exact bad fun hh=>hh.2.2 c
    · rw[show (l[i].f0 == l[i].f1)=false from beq_eq_false_iff_ne.mpr c]
      refine Ev.step (fun k=>by simp only[sternpostref07_Check.j2];rfl) ?_
      refine Ev.neg (by decide) ?_
      rw[w64 (by omega) (by omega)]
      refine ih (i+1) (by omega) (by omega) fun x hx=>?_
      rw[List.take_succ_eq_append_getElem hlt,List.mem_append] at hx
      rcases hx with hx|hx
      · exact ht x hx
      · rw[List.mem_singleton] at hx
        subst hx
        exact⟨(seqC_zero _).mp a,(seqC_zero _).mp b,c⟩
theorem refoptcheck_ev (hl:l.length < 1000000000000000):Ev (fun k=>sternpostref07_Check.f k m sc st ec sd sk sp l) (optC m sc st ec sd sk sp l):=by
  have bad:¬ optFit m sc st ec sd sk sp l→Ev (fun k=>sternpostref07_Check.j0 k true m sc st ec sd sk sp l) (optC m sc st ec sd sk sp l):=by
    intro h
    refine Ev.step (fun k=>by simp only[sternpostref07_Check.j0];rfl) ?_
    exact Ev.pos trivial (Ev.val (Ev.now _) (optC_no m sc st ec sd sk sp l h).symm)
  unfold sternpostref07_Check.f
  refine Ev.ite (fun h=>bad fun hh=>by have:=hh.1;omega) (fun m0=>?_)
  refine Ev.ite (fun h=>bad fun hh=>by have:=hh.2.1;omega) (fun m1=>?_)
  refine Ev.ite (fun h=>bad fun hh=>by have:=hh.2.2.1;omega) (fun s0=>?_)
  refine Ev.ite (fun h=>bad fun hh=>by have:=hh.2.2.2.1;omega) (fun s1=>?_)
  have last:seqOk st→seqOk ec→(sd=true∨sc=0)→(sp=true∨st=0∧ec=0)→Ev (fun k=>sternpostref07_Check.j0 k (decide ((l.length:Int) > 4)) m sc st ec sd sk sp l) (optC m sc st ec sd sk sp l):=by
    intro h1 h2 h3 h5
    by_cases h4:(l.length:Int) > 4
    · rw[decide_eq_true h4];exact bad fun hh=>by have:=hh.2.2.2.2.1;omega
    · rw[decide_eq_false h4]
      refine Ev.step (fun k=>by simp only[sternpostref07_Check.j0];rfl) ?_
      refine Ev.neg (by decide) ?_
      exact refoptck_l0 m sc st ec sd sk sp l hl (fun hall=>⟨by omega,by omega,by omega,by omega,by omega,h1,h2,h3,h5,hall⟩) l.length 0 rfl (by omega) (fun x hx=>absurd hx (by simp))
  have rest:(sd=true∨sc=0)→Ev (fun k=>(sternpostref01_Check.f st).bind fun t170=>(if t170=0 then ((sternpostref01_Check.f ec).bind fun t171=>(if t171=0 then (if sp=true then (sternpostref07_Check.j0 k (decide ((l.length:Int) > 4)) m sc st ec sd sk sp l) else (if st=0 then (if ec=0 then (sternpostref07_Check.j0 k (decide ((l.length:Int) > 4)) m sc st ec sd sk sp l) else (sternpostref07_Check.j0 k true m sc st ec sd sk sp l)) else (sternpostref07_Check.j0 k true m sc st ec sd sk sp l))) else (sternpostref07_Check.j0 k true m sc st ec sd sk sp l))) else (sternpostref07_Check.j0 k true m sc st ec sd sk sp l))) (optC m sc st ec sd sk sp l):=by
    intro hsd
    rw[refseq_is,refseq_is]
    refine Ev.bind (Ev.now _) ?_
    refine Ev.ite (fun a=>?_) (fun a=>bad fun hh=>a ((seqC_zero _).mpr hh.2.2.2.2.2.1))
    refine Ev.bind (Ev.now _) ?_
    refine Ev.ite (fun b=>?_) (fun b=>bad fun hh=>b ((seqC_zero _).mpr hh.2.2.2.2.2.2.1))
    have a:=(seqC_zero _).mp a
    have b:=(seqC_zero _).mp b
    refine Ev.ite (fun c=>last a b hsd (.inl c)) (fun c=>?_)
    have no:¬ (st=0∧ec=0)→¬ optFit m sc st ec sd sk sp l:=fun hz hh=>by
      rcases hh.2.2.2.2.2.2.2.2.1 with h|h
      · exact c h
      · exact hz h
    refine Ev.ite (fun d=>?_) (fun d=>bad (no fun hz=>d hz.1))
    exact Ev.ite (fun e=>last a b hsd (.inr ⟨d,e⟩)) (fun e=>bad (no fun hz=>e hz.2))
  refine Ev.ite (fun hd=>rest (.inl hd)) (fun hd=>?_)
  refine Ev.ite (fun hz=>rest (.inr hz)) (fun hz=>bad fun hh=>?_)
  rcases hh.2.2.2.2.2.2.2.1 with h|h
  · exact hd h
  · exact hz h
end
section
variable (m sc st ec:Int) (sd sk sp:Bool) (l:List S73) (m' sc' st' ec':Int) (sd' sk' sp':Bool) (l':List S73)
theorem optSame_no (h:¬ (m=m'∧sc=sc'∧st=st'∧ec=ec'∧sd=sd'∧sk=sk'∧sp=sp'∧l=l')):false=optSame m sc st ec sd sk sp l m' sc' st' ec' sd' sk' sp' l':=by
  cases hh:optSame m sc st ec sd sk sp l m' sc' st' ec' sd' sk' sp' l'
  · rfl
  · exact absurd ((optSame_iff m sc st ec sd sk sp l m' sc' st' ec' sd' sk' sp' l').mp hh) h
theorem refoptsame_l0 (hlen:l.length=l'.length) (hl:l.length < 1000000000000000):∀ (d i:Nat),l.length - i=d→i≤l.length→l.take i=l'.take i →
    Ev (fun k=>sternpostref07_Same.l0 k (i:Int) m sc st ec sd sk sp l m' sc' st' ec' sd' sk' sp' l') (optSame m sc st ec sd sk sp l m' sc' st' ec' sd' sk' sp' l'):=by
  intro d
  induction d with
  | zero =>
    intro i hd hi ht
    obtain rfl:i=l.length:=by omega
    rw[List.take_length,hlen,List.take_length] at ht
    refine Ev.step (fun k=>by simp only[sternpostref07_Same.l0];rfl) ?_
    refine Ev.neg (by omega) ?_
    refine Ev.ite (fun h1=>?_) (fun h1=>Ev.val (Ev.now _) (optSame_no _ _ _ _ _ _ _ _ _ _ _ _ _ _ _ _ fun hh=>h1 hh.1))
    refine Ev.ite (fun h2=>?_) (fun h1=>Ev.val (Ev.now _) (optSame_no _ _ _ _ _ _ _ _ _ _ _ _ _ _ _ _ fun hh=>h1 hh.2.1))
    refine Ev.ite (fun h3=>?_) (fun h1=>Ev.val (Ev.now _) (optSame_no _ _ _ _ _ _ _ _ _ _ _ _ _ _ _ _ fun hh=>h1 hh.2.2.1))
    refine Ev.ite (fun h4=>?_) (fun h1=>Ev.val (Ev.now _) (optSame_no _ _ _ _ _ _ _ _ _ _ _ _ _ _ _ _ fun hh=>h1 hh.2.2.2.1))
    refine Ev.ite (fun h5=>?_) (fun h1=>Ev.val (Ev.now _) (optSame_no _ _ _ _ _ _ _ _ _ _ _ _ _ _ _ _ fun hh=>h1 (by rw[hh.2.2.2.2.1];exact beq_self_eq_true _)))
    refine Ev.ite (fun h6=>?_) (fun h1=>Ev.val (Ev.now _) (optSame_no _ _ _ _ _ _ _ _ _ _ _ _ _ _ _ _ fun hh=>h1 (by rw[hh.2.2.2.2.2.1];exact beq_self_eq_true _)))
    refine Ev.val (Ev.now _) ?_
    cases hp:(sp == sp')
    · exact optSame_no _ _ _ _ _ _ _ _ _ _ _ _ _ _ _ _ fun hh=>by rw[hh.2.2.2.2.2.2.1] at hp;exact absurd hp (by simp)
    · exact((optSame_iff m sc st ec sd sk sp l m' sc' st' ec' sd' sk' sp' l').mpr ⟨h1,h2,h3,h4,eq_of_beq h5,eq_of_beq h6,eq_of_beq hp,ht⟩).symm
  | succ d ih =>
    intro i hd hi ht
    have h1:i < l.length:=by omega
    have h2:i < l'.length:=by omega
    have e1:rd_T73 l (i:Int)=l[i]:=by simp[rd_T73,h1]
    have e2:rd_T73 l' (i:Int)=l'[i]:=by simp[rd_T73,h2]
    refine Ev.step (fun k=>by simp only[sternpostref07_Same.l0];rfl) ?_
    refine Ev.pos (by omega) ?_
    refine Ev.pos (by omega) ?_
    refine Ev.pos (by omega) ?_
    rw[e1,e2,rg_ne]
    by_cases h:l[i]=l'[i]
    · rw[decide_eq_true h]
      refine Ev.neg (by decide) ?_
      rw[w64 (by omega) (by omega)]
      exact ih (i+1) (by omega) (by omega) (by rw[List.take_succ_eq_append_getElem h1,List.take_succ_eq_append_getElem h2,ht,h])
    · rw[decide_eq_false h]
      refine Ev.pos (by decide) ?_
      refine Ev.val (Ev.now _) (optSame_no _ _ _ _ _ _ _ _ _ _ _ _ _ _ _ _ fun hh=>?_)
      obtain⟨_,_,_,_,_,_,_,hh⟩:=hh
      subst hh
      exact h rfl
theorem refoptsame_ev (hl:l.length < 1000000000000000):Ev (fun k=>sternpostref07_Same.f k m sc st ec sd sk sp l m' sc' st' ec' sd' sk' sp' l') (optSame m sc st ec sd sk sp l m' sc' st' ec' sd' sk' sp' l'):=by
  unfold sternpostref07_Same.f
  refine Ev.ite (fun h=>?_) (fun h=>?_)
  · exact refoptsame_l0 m sc st ec sd sk sp l m' sc' st' ec' sd' sk' sp' l' (by omega) hl l.length 0 rfl (by omega) (by simp)
  · refine Ev.val (Ev.now _) (optSame_no _ _ _ _ _ _ _ _ _ _ _ _ _ _ _ _ fun hh=>?_)
    obtain⟨_,_,_,_,_,_,_,hh⟩:=hh
    subst hh
    exact h rfl
end
/-! ### the document's options, decoded -/
def isK (a:Int):Prop:=a=2∨a=3∨a=4∨a=5∨a=8
instance (a:Int):Decidable (isK a):=inferInstanceAs (Decidable (_∨_∨_∨_∨_))
theorem known_ev (a:Int):Ev (fun k=>opts_known.f k a) (decide (isK a)):=by
  have j1:∀ x,Ev (fun k=>opts_known.j1 k x) x:=fun x=>by
    refine Ev.step (fun k=>by simp only[opts_known.j1];rfl) ?_
    cases x
    · exact Ev.neg (by decide) (Ev.now _)
    · exact Ev.pos rfl (Ev.now _)
  have j0:∀ a (x:Bool),Ev (fun k=>opts_known.j0 k a x) (x || decide (a=5∨a=8)):=fun a x=>by
    cases x with
    | true=>exact Ev.step (fun k=>by simp only[opts_known.j0];rfl) (Ev.pos trivial (Ev.now _))
    | false =>
      by_cases h:a=5
      · refine Ev.step (fun k=>by simp only[opts_known.j0];rfl) (Ev.neg (by decide) (Ev.pos h (Ev.val (j1 _) ?_)))
        subst h;decide
      · refine Ev.step (fun k=>by simp only[opts_known.j0];rfl) (Ev.neg (by decide) (Ev.neg h (Ev.val (j1 _) ?_)))
        rw[Bool.false_or]
        by_cases h8:a=8
        · subst h8;decide
        · rw[beq_eq_false_iff_ne.mpr h8,decide_eq_false (by omega)]
  unfold opts_known.f
  by_cases h2:a=2
  · refine Ev.pos h2 (Ev.val (j0 a _) ?_);subst h2;decide
  by_cases h3:a=3
  · refine Ev.neg h2 (Ev.pos h3 (Ev.val (j0 a _) ?_));subst h3;decide
  · refine Ev.neg h2 (Ev.neg h3 (Ev.val (j0 a _) ?_))
    by_cases h4:a=4
    · subst h4;decide
    · rw[beq_eq_false_iff_ne.mpr h4,Bool.false_or]
      by_cases h5:a=5∨a=8
      · rw[decide_eq_true h5];exact(decide_eq_true (show isK a by unfold isK;omega)).symm
      · rw[decide_eq_false h5];exact(decide_eq_false (show ¬ isK a by unfold isK;omega)).symm
theorem num_cut (L:List UInt8) (a b:Nat) (h:b - a≤6):Ev (fun k=>sternpostref02_Num.f k (cutS (mkB L) a b)) ((SP.num ((L.drop a).take (b - a)):Nat):Int):=by
  rw[cut_mk,by_mkB]
  have:=refnum_ev (mkB ((L.drop a).take (b - a))) (by rw[mkB_size,List.length_take];omega)
  rw[by_mkB] at this
  exact this
theorem partsl_ev (L:List UInt8) (h8:L.length % 8=0) (hL:L.length≤300):∀ (d i:Nat),L.length / 8 - i=d→i≤L.length / 8 →
    Ev (fun k=>sternpostref07_part.sl k (mkB L) (8 * i) (rgsN L i)) (rgsN L (L.length / 8)):=by
  intro d
  induction d with
  | zero =>
    intro i hd hi
    obtain rfl:i=L.length / 8:=by omega
    refine Ev.step (fun k=>by simp only[sternpostref07_part.sl];rfl) ?_
    rw[mkB_size]
    exact Ev.neg (by omega) (Ev.now _)
  | succ d ih =>
    intro i hd hi
    refine Ev.step (fun k=>by simp only[sternpostref07_part.sl];rfl) ?_
    rw[mkB_size]
    refine Ev.pos (by omega) (Ev.pos (by omega) ?_)
    have n1:=num_cut L (8 * i) (8 * i+4) (by omega)
    have n2:=num_cut L (8 * i+4) (8 * i+8) (by omega)
    rw[show 8 * i+4 - 8 * i=4 from by omega] at n1
    rw[show 8 * i+8 - (8 * i+4)=4 from by omega] at n2
    refine Ev.bind n1 (Ev.bind n2 (Ev.pos (by rw[rgsN_len];omega) ?_))
    have e:rgsN L i++[rgN L i]=rgsN L (i+1):=by rw[rgsN,rgsN,List.range_succ,List.map_append];rfl
    have:=ih (i+1) (by omega) (by omega)
    rw[← e,show 8 * (i+1)=8 * i+8 from by omega] at this
    exact this
section
variable (m sc st ec:Int) (sd sk sp:Bool) (l:List S73)
abbrev O9:Type:=Int × Int × Int × Int × Bool × Bool × Bool × List S73 × Bool
theorem num_nonneg (n:Nat):(0:Int)≤(n:Int):=by omega
theorem part_twice (kd:Int) (h:isK kd) (s:ByteArray):Ev (fun k=>sternpostref07_part.f k m sc st ec sd sk sp l kd s true) (m,sc,st,ec,sd,sk,sp,l,false):=by
  unfold sternpostref07_part.f
  by_cases k2:kd=2
  · exact Ev.pos k2 (Ev.pos rfl (Ev.now _))
  by_cases k3:kd=3
  · exact Ev.neg k2 (Ev.pos k3 (Ev.pos rfl (Ev.now _)))
  by_cases k4:kd=4
  · exact Ev.neg k2 (Ev.neg k3 (Ev.pos k4 (Ev.pos rfl (Ev.now _))))
  by_cases k5:kd=5
  · exact Ev.neg k2 (Ev.neg k3 (Ev.neg k4 (Ev.pos k5 (Ev.pos rfl (Ev.now _)))))
  by_cases k8:kd=8
  · exact Ev.neg k2 (Ev.neg k3 (Ev.neg k4 (Ev.neg k5 (Ev.pos k8 (Ev.pos rfl (Ev.now _))))))
  · unfold isK at h;omega
theorem read_part (kd:Int) (L:List UInt8) (hL:L.length≤40) (hl:kd=5→l=[]) :
    ∃ rd rd':O9,Ev (fun k=>opts_read.f k m sc st ec sd sk sp l kd (mkB L)) rd∧Ev (fun k=>sternpostref07_part.f k m sc st ec sd sk sp l kd (mkB L) false) rd'∧rd.2.2.2.2.2.2.2.2=rd'.2.2.2.2.2.2.2.2∧(rd.2.2.2.2.2.2.2.2=true→rd=rd')∧(kd≠5→rd.2.2.2.2.2.2.2.1=l):=by
  unfold opts_read.f sternpostref07_part.f
  rw[mkB_size]
  have ff:¬ (false=true):=by decide
  by_cases k2:kd=2
  · by_cases h:L.length=2
    · have g:=get_in L 0 2 (by omega) (by omega) (by omega) (by omega)
      rw[show ((0:Nat):Int)=0 from rfl,show ((2:Nat):Int)=2 from rfl,List.drop_zero,List.take_of_length_le (by omega)] at g
      rw[g]
      have n:=refnum_ev (mkB L) (by rw[mkB_size];omega)
      rw[by_mkB] at n
      refine⟨_,_,Ev.pos k2 (Ev.bind (Ev.now _) (Ev.now _)),Ev.pos k2 (Ev.neg ff (Ev.pos (by omega) (Ev.bind n (Ev.now _)))),?_,?_,fun _=>rfl⟩
      all_goals
        dsimp only
        rw[decide_eq_true (show (L.length:Int)=2 by omega),Bool.true_and]
      · by_cases z:SP.num L=0
        · rw[z];decide
        · rw[decide_eq_true (show ((SP.num L:Nat):Int) > 0 by omega),decide_eq_true (show ((SP.num L:Nat):Int)≠0 by omega)]
      · intro hp
        have:=of_decide_eq_true hp
        rw[hp,decide_eq_true (show ((SP.num L:Nat):Int)≠0 by omega)]
    · obtain⟨v,e,hv,_,_⟩:=get_tot L 0 2 (by omega) (by omega) (by omega)
      rw[show ((0:Nat):Int)=0 from rfl,show ((2:Nat):Int)=2 from rfl] at hv
      rw[hv]
      refine⟨_,_,Ev.pos k2 (Ev.bind (Ev.now _) (Ev.now _)),Ev.pos k2 (Ev.neg ff (Ev.neg (by omega) (Ev.now _))),?_,?_,fun _=>rfl⟩
      all_goals
        dsimp only
        rw[decide_eq_false (show ¬ (L.length:Int)=2 by omega),Bool.false_and]
      intro hp;exact absurd hp (by decide)
  by_cases k3:kd=3
  · by_cases h:L.length=1
    · have g:=get_in L 0 1 (by omega) (by omega) (by omega) (by omega)
      rw[show ((0:Nat):Int)=0 from rfl,show ((1:Nat):Int)=1 from rfl,List.drop_zero,List.take_of_length_le (by omega)] at g
      rw[g]
      have hn:((SP.num L:Nat):Int)=bt (mkB L) 0:=by
        obtain⟨b,rfl⟩:=List.length_eq_one_iff.mp h
        rw[bt_zero];simp[SP.num,SP.nth]
      rw[hn]
      refine⟨_,_,Ev.neg k2 (Ev.pos k3 (Ev.bind (Ev.now _) (Ev.now _))),Ev.neg k2 (Ev.pos k3 (Ev.neg ff (Ev.pos (by omega) (Ev.now _)))),?_,?_,fun _=>rfl⟩
      all_goals
        dsimp only
        rw[decide_eq_true (show (L.length:Int)=1 by omega)]
      intro _;rfl
    · obtain⟨v,e,hv,_,_⟩:=get_tot L 0 1 (by omega) (by omega) (by omega)
      rw[show ((0:Nat):Int)=0 from rfl,show ((1:Nat):Int)=1 from rfl] at hv
      rw[hv]
      refine⟨_,_,Ev.neg k2 (Ev.pos k3 (Ev.bind (Ev.now _) (Ev.now _))),Ev.neg k2 (Ev.pos k3 (Ev.neg ff (Ev.neg (by omega) (Ev.now _)))),?_,?_,fun _=>rfl⟩
      all_goals
        dsimp only
        rw[decide_eq_false (show ¬ (L.length:Int)=1 by omega)]
      intro hp;exact absurd hp (by decide)
  by_cases k4:kd=4
  · exact⟨_,_,Ev.neg k2 (Ev.neg k3 (Ev.pos k4 (Ev.now _))),Ev.neg k2 (Ev.neg k3 (Ev.pos k4 (Ev.neg ff (Ev.now _)))),rfl,fun _=>rfl,fun _=>rfl⟩
  by_cases k5:kd=5
  · obtain rfl:=hl k5
    have hs:=readsl_ev L (by omega) [] (by decide) (L.length / 8) 0 rfl (by omega)
    rw[show rgsN L 0=[] from rfl,List.append_nil,List.nil_append] at hs
    have A:=Ev.neg k2 (f:=fun k=>if kd=3 then (sum_Get.f (mkB L) 0 1).bind fun g=>some (m,g.1,st,ec,true,sk,sp,([]:List S73),decide ((L.length:Int)=1)) else if kd=4 then some (m,sc,st,ec,sd,true,sp,[],(mkB L).toList.isEmpty) else if kd=5 then (opts_read.sl k (mkB L) 0 []).bind fun l'=>some (m,sc,st,ec,sd,sk,sp,l',decide ((L.length:Int) > 0) && (decide ((L.length:Int)=wrap64 (8 * (l'.length:Int))) && decide ((l'.length:Int)≤4))) else if kd=8 then (sum_Get.f (mkB L) 0 4).bind fun g1=>(sum_Get.f (mkB L) 4 4).bind fun g2=>some (m,sc,g1.1,g2.1,sd,sk,true,[],decide ((L.length:Int)=8)) else some (m,sc,st,ec,sd,sk,sp,[],true)) (g:=fun k=>(sum_Get.f (mkB L) 0 2).bind fun g=>some (g.1,sc,st,ec,sd,sk,sp,[],decide ((L.length:Int)=2) && decide (g.1 > 0))) (Ev.neg k3 (Ev.neg k4 (Ev.pos k5 (Ev.bind hs (Ev.now (m,sc,st,ec,sd,sk,sp,rgsN L (L.length / 8),decide ((L.length:Int) > 0) && (decide ((L.length:Int)=wrap64 (8 * ((rgsN L (L.length / 8)).length:Int))) && decide (((rgsN L (L.length / 8)).length:Int)≤4)))))))) 
    rw[rgsN_len,w64 (n:=8 * ((L.length / 8:Nat):Int)) (by omega) (by omega)] at A
    by_cases h:(L.length:Int) % 8=0∧8≤(L.length:Int)∧(L.length:Int)≤32
    · have hp:=partsl_ev L (by omega) (by omega) (L.length / 8) 0 rfl (by omega)
      rw[show rgsN L 0=[] from rfl] at hp
      refine⟨_,_,A,Ev.neg k2 (Ev.neg k3 (Ev.neg k4 (Ev.pos k5 (Ev.neg ff (Ev.pos h (Ev.bind hp (Ev.now _))))))),?_,?_,fun h5=>absurd k5 h5⟩
      all_goals
        dsimp only
        rw[decide_eq_true (show (L.length:Int) > 0 by omega),decide_eq_true (show (L.length:Int)=8 * ((L.length / 8:Nat):Int) by omega),decide_eq_true (show ((L.length / 8:Nat):Int)≤4 by omega)]
      · rfl
      · intro _;rfl
    · refine⟨_,_,A,Ev.neg k2 (Ev.neg k3 (Ev.neg k4 (Ev.pos k5 (Ev.neg ff (Ev.neg h (Ev.now _)))))),?_,?_,fun h5=>absurd k5 h5⟩
      all_goals
        dsimp only
        have hf:(decide ((L.length:Int) > 0) && (decide ((L.length:Int)=8 * ((L.length / 8:Nat):Int)) && decide (((L.length / 8:Nat):Int)≤4)))=false:=by
          by_cases c1:(L.length:Int) > 0
          · by_cases c2:(L.length:Int)=8 * ((L.length / 8:Nat):Int)
            · rw[decide_eq_false (show ¬ ((L.length / 8:Nat):Int)≤4 by omega),Bool.and_false,Bool.and_false]
            · rw[decide_eq_false c2,Bool.false_and,Bool.and_false]
          · rw[decide_eq_false c1,Bool.false_and]
        rw[hf]
      intro hp;exact absurd hp (by decide)
  by_cases k8:kd=8
  · by_cases h:L.length=8
    · have g:=get_in L 0 4 (by omega) (by omega) (by omega) (by omega)
      have g2:=get_in L 4 4 (by omega) (by omega) (by omega) (by omega)
      rw[show ((0:Nat):Int)=0 from rfl,show ((4:Nat):Int)=4 from rfl] at g
      rw[show ((4:Nat):Int)=4 from rfl] at g2
      rw[g,g2]
      have n1:=num_cut L 0 4 (by omega)
      have n2:=num_cut L 4 L.length (by omega)
      rw[show 4 - 0=4 from rfl] at n1
      rw[show L.length - 4=4 from by omega] at n2
      refine⟨_,_,Ev.neg k2 (Ev.neg k3 (Ev.neg k4 (Ev.neg k5 (Ev.pos k8 (Ev.bind (Ev.now _) (Ev.bind (Ev.now _) (Ev.now _))))))),Ev.neg k2 (Ev.neg k3 (Ev.neg k4 (Ev.neg k5 (Ev.pos k8 (Ev.neg ff (Ev.pos (by omega) (Ev.bind n1 (Ev.bind n2 (Ev.now _))))))))),?_,?_,fun _=>rfl⟩
      all_goals
        dsimp only
        rw[decide_eq_true (show (L.length:Int)=8 by omega)]
      intro _;rfl
    · obtain⟨v,e,hv,_,_⟩:=get_tot L 0 4 (by omega) (by omega) (by omega)
      obtain⟨u,f,hu,_,_⟩:=get_tot L 4 4 (by omega) (by omega) (by omega)
      rw[show ((0:Nat):Int)=0 from rfl,show ((4:Nat):Int)=4 from rfl] at hv
      rw[show ((4:Nat):Int)=4 from rfl] at hu
      rw[hv,hu]
      refine⟨_,_,Ev.neg k2 (Ev.neg k3 (Ev.neg k4 (Ev.neg k5 (Ev.pos k8 (Ev.bind (Ev.now _) (Ev.bind (Ev.now _) (Ev.now _))))))),Ev.neg k2 (Ev.neg k3 (Ev.neg k4 (Ev.neg k5 (Ev.pos k8 (Ev.neg ff (Ev.neg (by omega) (Ev.now _))))))),?_,?_,fun _=>rfl⟩
      all_goals
        dsimp only
        rw[decide_eq_false (show ¬ (L.length:Int)=8 by omega)]
      intro hp;exact absurd hp (by decide)
  · exact⟨_,_,Ev.neg k2 (Ev.neg k3 (Ev.neg k4 (Ev.neg k5 (Ev.neg k8 (Ev.now _))))),Ev.neg k2 (Ev.neg k3 (Ev.neg k4 (Ev.neg k5 (Ev.neg k8 (Ev.now _))))),rfl,fun _=>rfl,fun _=>rfl⟩
end
theorem fl_mem (kd:Int) (seen:List Int) (h:isK kd):sternpostref07_part.fl kd (decide ((2:Int)∈seen)) (decide ((3:Int)∈seen)) (decide ((4:Int)∈seen)) (decide ((5:Int)∈seen)) (decide ((8:Int)∈seen))=decide (kd∈seen):=by
  unfold sternpostref07_part.fl
  rcases h with rfl|rfl|rfl|rfl|rfl <;> rfl
theorem fl_not (kd:Int) (a b c d e:Bool) (h:¬ isK kd):sternpostref07_part.fl kd a b c d e=false:=by
  unfold isK at h
  unfold sternpostref07_part.fl
  rw[if_neg (by omega),if_neg (by omega),if_neg (by omega),if_neg (by omega),if_neg (by omega)]
theorem seen_cons (j kd:Int) (seen:List Int):(decide (j∈seen) || decide (kd=j))=decide (j∈kd :: seen):=by
  by_cases h:kd=j
  · subst h;simp
  · rw[decide_eq_false h,Bool.or_false]
    congr 1
    rw[List.mem_cons]
    exact propext ⟨fun a=>.inr a,fun a=>a.elim (fun e=>absurd e.symm h) id⟩
theorem nth_app (A P:List UInt8) (j:Nat):SP.nth (A++P) (A.length+j)=SP.nth P j:=by
  unfold SP.nth
  rw[List.getD_eq_getElem?_getD,List.getElem?_append_right (by omega),Nat.add_sub_cancel_left,← List.getD_eq_getElem?_getD]
theorem bt_app (A P:List UInt8):bt (mkB (A++P)) (A.length:Int)=((SP.nth P 0:Nat):Int):=by
  rw[bt_head];rw[← nth_app A P 0];rfl
theorem bt_app1 (A P:List UInt8):bt (mkB (A++P)) ((A.length:Int)+1)=((SP.nth P 1:Nat):Int):=by
  rw[show (A.length:Int)+1=((A.length+1:Nat):Int) from by omega,bt_head,nth_app]
theorem cut_app (A P:List UInt8) (a b:Nat):cutS (mkB (A++P)) (A.length+a) (A.length+b)=mkB ((P.drop a).take (b - a)):=by
  rw[cut_mk,by_mkB,List.drop_append,List.drop_of_length_le (by omega),List.nil_append,Nat.add_sub_cancel_left,show A.length+b - (A.length+a)=b - a from by omega]
abbrev rlp (seen:List Int) (k:Nat) (s:ByteArray) (i:Int):=sternpostref07_Decode.lp k s i (decide ((2:Int)∈seen)) (decide ((3:Int)∈seen)) (decide ((4:Int)∈seen)) (decide ((5:Int)∈seen)) (decide ((8:Int)∈seen))
/-- both ways to decode, step by step -/
theorem lp_both:∀ (N:Nat) (A P:List UInt8) (seen:List Int) (m sc st ec:Int) (sd sk sp:Bool) (l:List S73) (n:Nat),P.length≤N→(A++P).length≤40→n+P.length≤1000→inv8 n st ec l→((5:Int) ∉ seen→l=[]) →
    ∃ r:Option O8,Ev (fun k=>opts_Decode.lp k (mkB P) seen m sc st ec sd sk sp l) r∧Ev (fun k=>rlp seen k (mkB (A++P)) (A.length:Int) m sc st ec sd sk sp l) r∧∀ o,r=some o→inv8 1000 o.2.2.1 o.2.2.2.1 o.2.2.2.2.2.2.2:=by
  intro N
  induction N with
  | zero =>
    intro A P seen m sc st ec sd sk sp l n hP hAP hn hi h5
    obtain rfl:P=[]:=List.length_eq_zero_iff.mp (by omega)
    refine⟨_,lp_nil seen m sc st ec sd sk sp l,?_,fun o e=>by obtain rfl:=Option.some.inj e;exact hi.more (by omega)⟩
    refine Ev.step (fun k=>by simp only[rlp,sternpostref07_Decode.lp];rfl) ?_
    rw[mkB_size,List.append_nil]
    exact Ev.neg (by omega) (Ev.now _)
  | succ N ih =>
    intro A P seen m sc st ec sd sk sp l n hP hAP hn hi h5
    by_cases p0:P=[]
    · exact ih A P seen m sc st ec sd sk sp l n (by subst p0;exact Nat.zero_le _) hAP hn hi h5
    have hpos:0 < P.length:=List.length_pos_iff.mpr p0
    have hlen:(A++P).length=A.length+P.length:=List.length_append
    have b255:=SP.nth_lt P 0
    have c255:=SP.nth_lt P 1
    have hin:(A.length:Int) < ((mkB (A++P)).size:Int):=by rw[mkB_size];omega
    have ref0:∀ {r:Option O8},Ev (fun k=>if ((SP.nth P 0:Nat):Int)=0 then some (some (m,sc,st,ec,sd,sk,sp,l)) else
      if ((SP.nth P 0:Nat):Int)=1 then rlp seen k (mkB (A++P)) ((A.length:Int)+1) m sc st ec sd sk sp l else
      if ((mkB (A++P)).size:Int)≤(A.length:Int)+1 then some none else if ((SP.nth P 1:Nat):Int) < 2 then some none else if ((mkB (A++P)).size:Int) - (A.length:Int) < ((SP.nth P 1:Nat):Int) then some none else
        (sternpostref07_part.f k m sc st ec sd sk sp l ((SP.nth P 0:Nat):Int) (mkB ((P.drop 2).take (SP.nth P 1 - 2))) (sternpostref07_part.fl ((SP.nth P 0:Nat):Int) (decide ((2:Int)∈seen)) (decide ((3:Int)∈seen)) (decide ((4:Int)∈seen)) (decide ((5:Int)∈seen)) (decide ((8:Int)∈seen)))).bind fun r=>if r.2.2.2.2.2.2.2.2=true then rlp (((SP.nth P 0:Nat):Int) :: seen) k (mkB (A++P)) ((A.length:Int)+((SP.nth P 1:Nat):Int)) r.1 r.2.1 r.2.2.1 r.2.2.2.1 r.2.2.2.2.1 r.2.2.2.2.2.1 r.2.2.2.2.2.2.1 r.2.2.2.2.2.2.2.1 else some none) r →
      Ev (fun k=>rlp seen k (mkB (A++P)) (A.length:Int) m sc st ec sd sk sp l) r:=by
      intro r h
      refine Ev.step (fun k=>by simp only[rlp,sternpostref07_Decode.lp];rfl) ?_
      rw[bt_app,bt_app1,show ((A.length:Int)+2).toNat=A.length+2 from by omega,show ((A.length:Int)+((SP.nth P 1:Nat):Int)).toNat=A.length+SP.nth P 1 from by omega,cut_app]
      simp only[seen_cons]
      exact Ev.pos hin h
    by_cases e0:SP.nth P 0=0
    · refine⟨some (m,sc,st,ec,sd,sk,sp,l),?_,ref0 (Ev.pos (by omega) (Ev.now _)),fun o e=>by obtain rfl:=Option.some.inj e;exact hi.more (by omega)⟩
      refine Ev.step (fun k=>by simp only[opts_Decode.lp];rfl) ?_
      rw[bt_zero]
      exact Ev.pos (by rw[mkB_size];omega) (Ev.pos (by omega) (Ev.now _))
    have op0:∀ {r:Option O8},Ev (fun k=>if ((SP.nth P 0:Nat):Int)=1 then opts_Decode.lp k (mkB (P.drop 1)) seen m sc st ec sd sk sp l else if ((mkB P).size:Int) < 2 then some none else if ((SP.nth P 1:Nat):Int) < 2 then some none else if ((SP.nth P 1:Nat):Int) > ((mkB P).size:Int) then some none else
      (opts_known.f k ((SP.nth P 0:Nat):Int)).bind fun kn=>if (decide (((SP.nth P 0:Nat):Int)∈seen) && kn)=true then some none else
        (opts_read.f k m sc st ec sd sk sp l ((SP.nth P 0:Nat):Int) (mkB ((P.drop 2).take (SP.nth P 1 - 2)))).bind fun r=>if r.2.2.2.2.2.2.2.2=true then opts_Decode.lp k (mkB (P.drop (SP.nth P 1))) (((SP.nth P 0:Nat):Int) :: seen) r.1 r.2.1 r.2.2.1 r.2.2.2.1 r.2.2.2.2.1 r.2.2.2.2.2.1 r.2.2.2.2.2.2.1 r.2.2.2.2.2.2.2.1 else some none) r →
      Ev (fun k=>opts_Decode.lp k (mkB P) seen m sc st ec sd sk sp l) r:=by
      intro r h
      refine Ev.step (fun k=>by simp only[opts_Decode.lp];rfl) ?_
      rw[bt_zero,bt_one,nat_toNat,cut_rest',cut_rest',cut_mk,by_mkB]
      exact Ev.pos (by rw[mkB_size];omega) (Ev.neg (by omega) h)
    have no:Ev (fun k=>opts_Decode.lp k (mkB P) seen m sc st ec sd sk sp l) none→Ev (fun k=>rlp seen k (mkB (A++P)) (A.length:Int) m sc st ec sd sk sp l) none→∃ r:Option O8,Ev (fun k=>opts_Decode.lp k (mkB P) seen m sc st ec sd sk sp l) r∧Ev (fun k=>rlp seen k (mkB (A++P)) (A.length:Int) m sc st ec sd sk sp l) r∧∀ o,r=some o→inv8 1000 o.2.2.1 o.2.2.2.1 o.2.2.2.2.2.2.2:=fun a b=>⟨none,a,b,fun o e=>by cases e⟩
    by_cases e1:SP.nth P 0=1
    · have hd:(P.drop 1).length=P.length - 1:=List.length_drop
      have hA:(A++P.take 1)++P.drop 1=A++P:=by rw[List.append_assoc,List.take_append_drop]
      have hA1:(A++P.take 1).length=A.length+1:=by rw[List.length_append,List.length_take];omega
      obtain⟨r,h1,h2,h3⟩:=ih (A++P.take 1) (P.drop 1) seen m sc st ec sd sk sp l n (by omega) (by rw[hA];exact hAP) (by omega) hi h5
      rw[hA,hA1] at h2
      refine⟨r,op0 (Ev.pos (by omega) h1),ref0 (Ev.neg (by omega) (Ev.pos (by omega) ?_)),h3⟩
      rw[show ((A.length+1:Nat):Int)=(A.length:Int)+1 from by omega] at h2
      exact h2
    by_cases h2:P.length < 2
    · exact no (op0 (Ev.neg (by omega) (Ev.pos (by rw[mkB_size];omega) (Ev.now _)))) (ref0 (Ev.neg (by omega) (Ev.neg (by omega) (Ev.pos (by rw[mkB_size];omega) (Ev.now _)))))
    by_cases c2:SP.nth P 1 < 2
    · exact no (op0 (Ev.neg (by omega) (Ev.neg (by rw[mkB_size];omega) (Ev.pos (by omega) (Ev.now _))))) (ref0 (Ev.neg (by omega) (Ev.neg (by omega) (Ev.neg (by rw[mkB_size];omega) (Ev.pos (by omega) (Ev.now _))))))
    by_cases cl:SP.nth P 1 > P.length
    · exact no (op0 (Ev.neg (by omega) (Ev.neg (by rw[mkB_size];omega) (Ev.neg (by omega) (Ev.pos (by rw[mkB_size];omega) (Ev.now _)))))) (ref0 (Ev.neg (by omega) (Ev.neg (by omega) (Ev.neg (by rw[mkB_size];omega) (Ev.neg (by omega) (Ev.pos (by rw[mkB_size];omega) (Ev.now _)))))))
    have op1:∀ {r:Option O8},Ev (fun k=>if (decide (((SP.nth P 0:Nat):Int)∈seen) && decide (isK ((SP.nth P 0:Nat):Int)))=true then some none else
        (opts_read.f k m sc st ec sd sk sp l ((SP.nth P 0:Nat):Int) (mkB ((P.drop 2).take (SP.nth P 1 - 2)))).bind fun r=>if r.2.2.2.2.2.2.2.2=true then opts_Decode.lp k (mkB (P.drop (SP.nth P 1))) (((SP.nth P 0:Nat):Int) :: seen) r.1 r.2.1 r.2.2.1 r.2.2.2.1 r.2.2.2.2.1 r.2.2.2.2.2.1 r.2.2.2.2.2.2.1 r.2.2.2.2.2.2.2.1 else some none) r→Ev (fun k=>opts_Decode.lp k (mkB P) seen m sc st ec sd sk sp l) r:=fun h =>
      op0 (Ev.neg (by omega) (Ev.neg (by rw[mkB_size];omega) (Ev.neg (by omega) (Ev.neg (by rw[mkB_size];omega) (Ev.bind (known_ev _) h)))))
    have ref1:∀ {r:Option O8},Ev (fun k=>(sternpostref07_part.f k m sc st ec sd sk sp l ((SP.nth P 0:Nat):Int) (mkB ((P.drop 2).take (SP.nth P 1 - 2))) (sternpostref07_part.fl ((SP.nth P 0:Nat):Int) (decide ((2:Int)∈seen)) (decide ((3:Int)∈seen)) (decide ((4:Int)∈seen)) (decide ((5:Int)∈seen)) (decide ((8:Int)∈seen)))).bind fun r=>if r.2.2.2.2.2.2.2.2=true then rlp (((SP.nth P 0:Nat):Int) :: seen) k (mkB (A++P)) ((A.length:Int)+((SP.nth P 1:Nat):Int)) r.1 r.2.1 r.2.2.1 r.2.2.2.1 r.2.2.2.2.1 r.2.2.2.2.2.1 r.2.2.2.2.2.2.1 r.2.2.2.2.2.2.2.1 else some none) r →
      Ev (fun k=>rlp seen k (mkB (A++P)) (A.length:Int) m sc st ec sd sk sp l) r:=fun h=>ref0 (Ev.neg (by omega) (Ev.neg (by omega) (Ev.neg (by rw[mkB_size];omega) (Ev.neg (by omega) (Ev.neg (by rw[mkB_size];omega) h)))))
    by_cases tw:((SP.nth P 0:Nat):Int)∈seen∧isK ((SP.nth P 0:Nat):Int)
    · refine no (op1 (Ev.pos (by rw[decide_eq_true tw.1,decide_eq_true tw.2];rfl) (Ev.now _))) (ref1 ?_)
      rw[fl_mem _ _ tw.2,decide_eq_true tw.1]
      exact Ev.bind (part_twice m sc st ec sd sk sp l _ tw.2 _) (Ev.neg (by dsimp only;decide) (Ev.now _))
    have tf:¬ (decide (((SP.nth P 0:Nat):Int)∈seen) && decide (isK ((SP.nth P 0:Nat):Int)))=true:=fun h=>by
      rw[Bool.and_eq_true] at h
      exact tw ⟨of_decide_eq_true h.1,of_decide_eq_true h.2⟩
    have ff:sternpostref07_part.fl ((SP.nth P 0:Nat):Int) (decide ((2:Int)∈seen)) (decide ((3:Int)∈seen)) (decide ((4:Int)∈seen)) (decide ((5:Int)∈seen)) (decide ((8:Int)∈seen))=false:=by
      by_cases hk:isK ((SP.nth P 0:Nat):Int)
      · rw[fl_mem _ _ hk,decide_eq_false (fun h=>tw ⟨h,hk⟩)]
      · exact fl_not _ _ _ _ _ _ hk
    rw[ff] at ref1
    have ld:((P.drop 2).take (SP.nth P 1 - 2)).length=SP.nth P 1 - 2:=by rw[List.length_take,List.length_drop];omega
    have l5:((SP.nth P 0:Nat):Int)=5→l=[]:=fun e=>h5 (fun h=>tw ⟨by rw[e];exact h,by rw[e];decide⟩)
    obtain⟨rd,rd',hr,hr',hok,heq,hl⟩:=read_part m sc st ec sd sk sp l ((SP.nth P 0:Nat):Int) ((P.drop 2).take (SP.nth P 1 - 2)) (by omega) l5
    by_cases ok:rd.2.2.2.2.2.2.2.2=true
    · obtain rfl:=heq ok
      obtain⟨rd2,hr2,hri⟩:=read_tot m sc st ec sd sk sp l ((SP.nth P 0:Nat):Int) ((P.drop 2).take (SP.nth P 1 - 2)) (by omega) n (by omega) hi
      obtain rfl:=Ev.uniq hr hr2
      rw[ld] at hri
      have hd:(P.drop (SP.nth P 1)).length=P.length - SP.nth P 1:=List.length_drop
      have hA:(A++P.take (SP.nth P 1))++P.drop (SP.nth P 1)=A++P:=by rw[List.append_assoc,List.take_append_drop]
      have hA1:(A++P.take (SP.nth P 1)).length=A.length+SP.nth P 1:=by rw[List.length_append,List.length_take];omega
      obtain⟨r,h1,h2',h3⟩:=ih (A++P.take (SP.nth P 1)) (P.drop (SP.nth P 1)) (((SP.nth P 0:Nat):Int) :: seen) rd.1 rd.2.1 rd.2.2.1 rd.2.2.2.1 rd.2.2.2.2.1 rd.2.2.2.2.2.1 rd.2.2.2.2.2.2.1 rd.2.2.2.2.2.2.2.1 (n+(SP.nth P 1 - 2)) (by omega) (by rw[hA];exact hAP) (by omega) hri
        (fun h=>by rw[hl (fun e=>h (by rw[e];exact List.mem_cons_self))];exact h5 (fun h'=>h (List.mem_cons_of_mem _ h')))
      rw[hA,hA1,show ((A.length+SP.nth P 1:Nat):Int)=(A.length:Int)+((SP.nth P 1:Nat):Int) from by omega] at h2'
      exact⟨r,op1 (Ev.neg tf (Ev.bind hr (Ev.pos ok h1))),ref1 (Ev.bind hr' (Ev.pos ok h2')),h3⟩
    · exact no (op1 (Ev.neg tf (Ev.bind hr (Ev.neg ok (Ev.now _))))) (ref1 (Ev.bind hr' (Ev.neg (by rw[← hok];exact ok) (Ev.now _))))
theorem refdec_ev (s:ByteArray) (hs:s.size≤40) (r:Option O8) (h:Ev (fun k=>sternpostref07_Decode.lp k s 0 false false false false false 0 0 0 0 false false false []) r) (hi:∀ o,r=some o→inv8 1000 o.2.2.1 o.2.2.2.1 o.2.2.2.2.2.2.2):Ev (fun k=>sternpostref07_Decode.f k s) (decR r):=by
  unfold sternpostref07_Decode.f
  refine Ev.neg (by omega) (Ev.bind h ?_)
  cases r with
  | none=>exact Ev.now _
  | some o =>
    have hi:=hi o rfl
    have hc:=refoptcheck_ev o.1 o.2.1 o.2.2.1 o.2.2.2.1 o.2.2.2.2.1 o.2.2.2.2.2.1 o.2.2.2.2.2.2.1 o.2.2.2.2.2.2.2 (by have:=hi.2.2.1;omega)
    unfold sternpostref07_Decode.fin decR
    dsimp only
    refine Ev.bind hc ?_
    unfold optC
    by_cases ok:optOk o.1 o.2.1 o.2.2.1 o.2.2.2.1 o.2.2.2.2.1 o.2.2.2.2.2.1 o.2.2.2.2.2.2.1 o.2.2.2.2.2.2.2
    · rw[if_pos ok,if_pos ok];exact Ev.pos rfl (Ev.now _)
    · rw[if_neg ok,if_neg ok];exact Ev.neg (by decide) (Ev.now _)
/-- both ways to decode tell the same -/
theorem dec_both (s:ByteArray):∃ r,Ev (fun k=>opts_Decode.f k s) r∧Ev (fun k=>sternpostref07_Decode.f k s) r∧r.2.2.2.2.2.2.2.1.length≤1000:=by
  by_cases hs:s.size≤40
  · have hl:=SP.by_len s
    obtain⟨r,hr,hr',hx⟩:=lp_both (SP.by_ s).length [] (SP.by_ s) [] 0 0 0 0 false false false [] 0 (Nat.le_refl _) (by rw[List.nil_append];omega) (by omega) inv8_zero (fun _=>rfl)
    rw[List.nil_append,mkB_by] at hr'
    rw[mkB_by] at hr
    refine⟨_,dec_ev s hs r hr hx,refdec_ev s hs r hr' hx,?_⟩
    unfold decR
    cases r with
    | none=>exact Nat.zero_le _
    | some o =>
      dsimp only
      split
      · exact(hx o rfl).2.2.1
      · exact Nat.zero_le _
  · refine⟨(0,0,0,0,false,false,false,[],70),?_,?_,Nat.zero_le _⟩
    · unfold opts_Decode.f;exact Ev.pos (by omega) (Ev.now _)
    · unfold sternpostref07_Decode.f;exact Ev.pos (by omega) (Ev.now _)
theorem num_at (s:ByteArray) (a b:Nat) (hab:b≤a+6):Ev (fun k=>sternpostref02_Num.f k (cutS s a b)) ((at2 (SP.by_ s) a (b - a):Nat):Int):=by
  have h:=refnum_ev (cutS s a b) (by rw[cut_mk,mkB_size,List.length_take];omega)
  rw[cut_mk,by_mkB] at h
  rw[cut_mk]
  exact h
/-! ### the document's segments -/
section
variable (p q sq ak fl wn ug:Int) (m sc st ec:Int) (sd sk sp:Bool) (l:List S73) (x:ByteArray)
theorem refseghas_is (b:Int):sternpostref08_Has.f p q sq ak fl wn ug m sc st ec sd sk sp l x b=some (has fl b):=rfl
theorem refsegcheck4 (hl:l.length < 1000000000000000) (hp:0≤p∧p≤65535) (hq:0≤q∧q≤65535) (hw:0≤wn∧wn≤65535) (hu:0≤ug∧ug≤65535):Ev (fun k=>sternpostref08_Check.l0 k [p,q,wn,ug] 4 p q sq ak fl wn ug m sc st ec sd sk sp l x) (segC p q sq ak fl wn ug m sc st ec sd sk sp l x):=by
  have bad:¬ segOk p q sq ak fl wn ug m sc st ec sd sk sp l x→Ev (fun _=>some 80) (segC p q sq ak fl wn ug m sc st ec sd sk sp l x):=fun h=>Ev.val (Ev.now _) (segC_no p q sq ak fl wn ug m sc st ec sd sk sp l x h).symm
  refine Ev.step (fun k=>by simp only[sternpostref08_Check.l0];rfl) ?_
  refine Ev.neg (by simp only[List.length_cons,List.length_nil];omega) ?_
  unfold sternpostref08_Check_tail.f
  rw[refseq_is,refseq_is]
  simp only[refseghas_is]
  refine Ev.bind (Ev.now _) ?_
  refine Ev.ite (fun h1=>?_) (fun h1=>bad fun h=>h1 ((seqC_zero sq).mpr h.2.2.2.2.2.1))
  have h1:=(seqC_zero sq).mp h1
  refine Ev.bind (Ev.now _) ?_
  refine Ev.ite (fun h2=>?_) (fun h2=>bad fun h=>h2 ((seqC_zero ak).mpr h.2.2.2.2.2.2.1))
  have h2:=(seqC_zero ak).mp h2
  refine Ev.ite (fun h3=>bad fun h=>by have:=h.2.2.2.2.1;omega) (fun h3=>?_)
  refine Ev.ite (fun h4=>bad fun h=>by have:=h.2.2.2.2.1;omega) (fun h4=>?_)
  have hf:0≤fl∧fl≤63:=⟨by omega,by omega⟩
  refine Ev.bind (Ev.now _) ?_
  refine Ev.ite (fun h16=>?_) (fun h16=>bad fun h=>h16 h.2.2.2.2.2.2.2.2.2.1.symm)
  refine Ev.bind (Ev.now _) ?_
  refine Ev.ite (fun h32=>?_) (fun h32=>bad fun h=>h32 h.2.2.2.2.2.2.2.2.2.2.symm)
  refine Ev.bind (refoptcheck_ev m sc st ec sd sk sp l hl) ?_
  by_cases ok:optOk m sc st ec sd sk sp l
  · rw[optC,if_pos ok]
    refine Ev.pos rfl ?_
    refine Ev.ite (fun hx=>bad fun h=>by have:=h.2.2.2.2.2.2.2.2.1;omega) (fun hx=>Ev.val (Ev.now _) (segC_ok p q sq ak fl wn ug m sc st ec sd sk sp l x ⟨hp,hq,hw,hu,hf,h1,h2,ok,by omega,h16.symm,h32.symm⟩).symm)
  · rw[optC,if_neg ok]
    exact Ev.neg (by decide) (bad fun h=>ok h.2.2.2.2.2.2.2.1)
theorem refsegcheck_ev (hl:l.length < 1000000000000000):Ev (fun k=>sternpostref08_Check.f k p q sq ak fl wn ug m sc st ec sd sk sp l x) (segC p q sq ak fl wn ug m sc st ec sd sk sp l x):=by
  have no:¬ segOk p q sq ak fl wn ug m sc st ec sd sk sp l x→∀ {g:Nat→Option Int},Ev g 80→Ev g (segC p q sq ak fl wn ug m sc st ec sd sk sp l x):=fun h _ e=>Ev.val e (segC_no p q sq ak fl wn ug m sc st ec sd sk sp l x h).symm
  have one:∀ (i:Int) (y:Int),rd [p,q,wn,ug] i=y→0≤i→i < 4→(segOk p q sq ak fl wn ug m sc st ec sd sk sp l x→0≤y∧y≤65535)→((0≤y∧y≤65535)→Ev (fun k=>sternpostref08_Check.l0 k [p,q,wn,ug] (i+1) p q sq ak fl wn ug m sc st ec sd sk sp l x) (segC p q sq ak fl wn ug m sc st ec sd sk sp l x))→Ev (fun k=>sternpostref08_Check.l0 k [p,q,wn,ug] i p q sq ak fl wn ug m sc st ec sd sk sp l x) (segC p q sq ak fl wn ug m sc st ec sd sk sp l x):=by
    intro i y hy h0 h4 hok hn
    refine Ev.step (fun k=>by simp only[sternpostref08_Check.l0];rfl) ?_
    refine Ev.pos (by simp only[List.length_cons,List.length_nil];omega) (Ev.pos h0 ?_)
    rw[hy]
    refine Ev.ite (fun h=>no (fun hh=>by have:=hok hh;omega) (Ev.now _)) (fun h1=>?_)
    refine Ev.ite (fun h=>no (fun hh=>by have:=hok hh;omega) (Ev.now _)) (fun h2=>?_)
    rw[w64 (by omega) (by omega)]
    exact hn ⟨by omega,by omega⟩
  unfold sternpostref08_Check.f
  refine one 0 p rfl (by omega) (by omega) (fun h=>h.1) (fun hp=>?_)
  refine one 1 q rfl (by omega) (by omega) (fun h=>h.2.1) (fun hq=>?_)
  refine one 2 wn rfl (by omega) (by omega) (fun h=>h.2.2.1) (fun hw=>?_)
  refine one 3 ug rfl (by omega) (by omega) (fun h=>h.2.2.2.1) (fun hu=>?_)
  exact refsegcheck4 p q sq ak fl wn ug m sc st ec sd sk sp l x hl hp hq hw hu
end
theorem refsegsame_ev (p q sq ak fl wn ug m sc st ec:Int) (sd sk sp:Bool) (l:List S73) (x:ByteArray) (p' q' sq' ak' fl' wn' ug' m' sc' st' ec':Int) (sd' sk' sp':Bool) (l':List S73) (x':ByteArray) (hl:l.length < 1000000000000000) :
    Ev (fun k=>sternpostref08_Same.f k p q sq ak fl wn ug m sc st ec sd sk sp l x p' q' sq' ak' fl' wn' ug' m' sc' st' ec' sd' sk' sp' l' x') (segSame p q sq ak fl wn ug m sc st ec sd sk sp l x p' q' sq' ak' fl' wn' ug' m' sc' st' ec' sd' sk' sp' l' x'):=by
  unfold sternpostref08_Same.f segSame
  try unfold sternpostref08_Same_tail.f
  refine Ev.ite (fun h1=>?_) (fun h=>Ev.val (Ev.now _) (by rw[beq_eq_false_iff_ne.mpr h];rfl))
  refine Ev.ite (fun h2=>?_) (fun h=>Ev.val (Ev.now _) (by rw[beq_eq_false_iff_ne.mpr h];simp))
  refine Ev.ite (fun h3=>?_) (fun h=>Ev.val (Ev.now _) (by rw[beq_eq_false_iff_ne.mpr h];simp))
  refine Ev.ite (fun h4=>?_) (fun h=>Ev.val (Ev.now _) (by rw[beq_eq_false_iff_ne.mpr h];simp))
  refine Ev.ite (fun h5=>?_) (fun h=>Ev.val (Ev.now _) (by rw[beq_eq_false_iff_ne.mpr h];simp))
  refine Ev.ite (fun h6=>?_) (fun h=>Ev.val (Ev.now _) (by rw[beq_eq_false_iff_ne.mpr h];simp))
  refine Ev.ite (fun h7=>?_) (fun h=>Ev.val (Ev.now _) (by rw[beq_eq_false_iff_ne.mpr h];simp))
  subst h1 h2 h3 h4 h5 h6 h7
  refine Ev.ite (fun h8=>?_) (fun h=>Ev.val (Ev.now _) (by rw[decide_eq_false h];simp))
  first
  | refine Ev.val (refoptsame_ev m sc st ec sd sk sp l m' sc' st' ec' sd' sk' sp' l' hl) (by rw[decide_eq_true h8];simp)
  | exact Ev.bind (refoptsame_ev m sc st ec sd sk sp l m' sc' st' ec' sd' sk' sp' l' hl) (Ev.val (Ev.now _) (by rw[decide_eq_true h8];simp))
/-! ### what bytes are as a segment, as the document has it -/
theorem refhd_is (s:ByteArray):((Int.tdiv (bt s 12) 16) % 256) * 4=((SP.nth (SP.by_ s) 12 / 16 * 4:Nat):Int):=by
  have hl:=SP.nth_lt (SP.by_ s) 12
  rw[show bt s 12=((SP.nth (SP.by_ s) 12:Nat):Int) from bt_nth s 12,Int.tdiv_eq_ediv_of_nonneg (by omega)]
  omega
theorem refsegtail (a b:Int) (s:ByteArray) (o:OptT) (c0 c1 c2 c3 c4 c5 c6 c7 c8 c9 c10:Int) (c11 c12 c13:Bool) (c14:List S73) (c15:ByteArray) (had:adOk a b) (h20:20≤s.size) (h40:s.size≤1540) (h1:20≤SP.nth (SP.by_ s) 12 / 16 * 4) (h2:SP.nth (SP.by_ s) 12 / 16 * 4≤s.size)
    (hw:SP.canon (SP.ws 0 (pseB a.toNat b.toNat s.size++SP.by_ s))=65535)
    (ho:Ev (fun k=>sternpostref07_Decode.f k (mkB (((SP.by_ s).drop 20).take (SP.nth (SP.by_ s) 12 / 16 * 4 - 20)))) o) (hlen:o.2.2.2.2.2.2.2.1.length≤1000) :
    Ev (fun k=>sternpostref08_Decode_tail.f k s ((SP.nth (SP.by_ s) 12 / 16 * 4:Nat):Int) c0 c1 c2 c3 c4 c5 c6 c7 c8 c9 c10 c11 c12 c13 c14 c15) (segD a b (SP.by_ s) o):=by
  have hl:=SP.by_len s
  have hn:=SP.nth_lt (SP.by_ s) 12
  unfold sternpostref08_Decode_tail.f
  rw[segD,if_neg (fun h=>h had),if_neg (by omega),if_neg (by omega),hl,if_neg (fun h=>h hw)]
  refine Ev.pos ⟨h20,by omega,by omega⟩ ?_
  have ex1:cutS s 20 (SP.nth (SP.by_ s) 12 / 16 * 4)=mkB (((SP.by_ s).drop 20).take (SP.nth (SP.by_ s) 12 / 16 * 4 - 20)):=cut_mk s 20 _
  have ex2:cutS s (SP.nth (SP.by_ s) 12 / 16 * 4) s.size=mkB ((SP.by_ s).drop (SP.nth (SP.by_ s) 12 / 16 * 4)):=cut_from s _
  rw[nat_toNat,ex1]
  refine Ev.bind ho ?_
  obtain⟨m,sc,st,ec,sd,sk,sp,l,e⟩:=o
  dsimp only at hlen ⊢
  refine Ev.ite (fun he=>?_) (fun he=>?_)
  rotate_left
  · rw[if_pos he];exact Ev.now _
  rw[if_neg (fun h=>h he)]
  unfold sternpostref08_Decode_f2
  rw[nat_toNat,ex2]
  refine Ev.bind (num_at s 0 2 (by omega)) (Ev.bind (num_at s 2 4 (by omega)) (Ev.bind (num_at s 4 8 (by omega)) (Ev.bind (num_at s 8 12 (by omega)) (Ev.bind (num_at s 14 16 (by omega)) (Ev.bind (num_at s 18 20 (by omega)) ?_)))))
  try dsimp only
  have n13:=SP.nth_lt (SP.by_ s) 13
  have e13:wrap64 (bt s 13)=((SP.nth (SP.by_ s) 13:Nat):Int):=by
    rw[show bt s 13=((SP.nth (SP.by_ s) 13:Nat):Int) from bt_nth s 13,w64 (by omega) (by omega)]
  have e12:bt s 12=((SP.nth (SP.by_ s) 12:Nat):Int):=bt_nth s 12
  rw[e12,e13,Int.tmod_eq_emod_of_nonneg (by omega)]
  refine Ev.ite (fun c=>?_) (fun c=>?_)
  rotate_left
  · rw[if_neg (fun hm=>c (by have:=hm.1;omega))];exact Ev.now _
  refine Ev.bind (refsegcheck_ev _ _ _ _ _ _ _ m sc st ec sd sk sp l _ (by omega)) ?_
  by_cases hm:segMay (SP.by_ s) (SP.nth (SP.by_ s) 12 / 16 * 4) (m,sc,st,ec,sd,sk,sp,l,e)
  · rw[if_pos hm]
    have ok:=hm.2
    dsimp only at ok
    rw[segC_ok _ _ _ _ _ _ _ _ _ _ _ _ _ _ _ _ ok]
    exact Ev.pos rfl (Ev.now _)
  · rw[if_neg hm,segC_no _ _ _ _ _ _ _ _ _ _ _ _ _ _ _ _ (fun h=>hm ⟨by omega,h⟩)]
    exact Ev.neg (by decide) (Ev.now _)
theorem refsegdec_ev (a b:Int) (s:ByteArray) (o:OptT)
    (ho:Ev (fun k=>sternpostref07_Decode.f k (mkB (((SP.by_ s).drop 20).take (SP.nth (SP.by_ s) 12 / 16 * 4 - 20)))) o) (hlen:o.2.2.2.2.2.2.2.1.length≤1000) :
    Ev (fun k=>sternpostref08_Decode.f k a b s) (segD a b (SP.by_ s) o):=by
  have hl:=SP.by_len s
  have bad:¬ adOk a b→∀ c0 c1 c2 c3 c4 c5 c6 c7 c8 c9 c10 c11 c12 c13 c15,Ev (fun k=>sternpostref08_Decode.j0 k a b s true c0 c1 c2 c3 c4 c5 c6 c7 c8 c9 c10 c11 c12 c13 c15) (segD a b (SP.by_ s) o):=by
    intro h c0 c1 c2 c3 c4 c5 c6 c7 c8 c9 c10 c11 c12 c13 c15
    refine Ev.step (fun k=>by simp only[sternpostref08_Decode.j0];rfl) ?_
    rw[segD,if_pos h]
    exact Ev.pos trivial (Ev.now _)
  unfold sternpostref08_Decode.f
  rw[refseq_is,refseq_is]
  refine Ev.bind (Ev.now _) ?_
  refine Ev.ite (fun h1=>?_) (fun h1=>bad (fun h=>h1 ((seqC_zero a).mpr h.1)) _ _ _ _ _ _ _ _ _ _ _ _ _ _ _)
  refine Ev.bind (Ev.now _) ?_
  by_cases h2:seqOk b
  rotate_left
  · have h3:seqC b≠0:=fun h=>h2 ((seqC_zero b).mp h)
    rw[show (seqC b != 0)=true from bne_iff_ne.mpr h3]
    exact bad (fun h=>h2 h.2) _ _ _ _ _ _ _ _ _ _ _ _ _ _ _
  rw[(seqC_zero b).mpr h2]
  have had:adOk a b:=⟨(seqC_zero a).mp h1,h2⟩
  refine Ev.step (fun k=>by simp only[sternpostref08_Decode.j0];rfl) ?_
  refine Ev.neg (by decide) ?_
  have bad1:(s.size < 20∨1540 < s.size)→∀ c0 c1 c2 c3 c4 c5 c6 c7 c8 c9 c10 c11 c12 c13 c15,Ev (fun k=>sternpostref08_Decode.j1 k a b s true c0 c1 c2 c3 c4 c5 c6 c7 c8 c9 c10 c11 c12 c13 c15) (segD a b (SP.by_ s) o):=by
    intro h c0 c1 c2 c3 c4 c5 c6 c7 c8 c9 c10 c11 c12 c13 c15
    refine Ev.step (fun k=>by simp only[sternpostref08_Decode.j1];rfl) ?_
    rw[segD,if_neg (fun h=>h had),if_pos (by omega)]
    exact Ev.pos trivial (Ev.now _)
  refine Ev.ite (fun h=>bad1 (by omega) _ _ _ _ _ _ _ _ _ _ _ _ _ _ _) (fun h20=>?_)
  by_cases h40:1540 < s.size
  · rw[show decide ((s.size:Int) > 1540)=true from decide_eq_true (by omega)]
    exact bad1 (.inr h40) _ _ _ _ _ _ _ _ _ _ _ _ _ _ _
  rw[show decide ((s.size:Int) > 1540)=false from decide_eq_false (by omega)]
  refine Ev.step (fun k=>by simp only[sternpostref08_Decode.j1];rfl) ?_
  refine Ev.neg (by decide) (Ev.pos (by omega) ?_)
  rw[refhd_is]
  have bad2:(SP.nth (SP.by_ s) 12 / 16 * 4 < 20∨s.size < SP.nth (SP.by_ s) 12 / 16 * 4)→∀ c0 c1 c2 c3 c4 c5 c6 c7 c8 c9 c10 c11 c12 c13 c15,Ev (fun k=>sternpostref08_Decode.j2 k a b s ((SP.nth (SP.by_ s) 12 / 16 * 4:Nat):Int) true c0 c1 c2 c3 c4 c5 c6 c7 c8 c9 c10 c11 c12 c13 c15) (segD a b (SP.by_ s) o):=by
    intro h c0 c1 c2 c3 c4 c5 c6 c7 c8 c9 c10 c11 c12 c13 c15
    refine Ev.step (fun k=>by simp only[sternpostref08_Decode.j2];rfl) ?_
    rw[segD,if_neg (fun h=>h had),if_neg (by omega),if_pos (by omega)]
    exact Ev.pos trivial (Ev.now _)
  refine Ev.ite (fun h=>bad2 (by omega) _ _ _ _ _ _ _ _ _ _ _ _ _ _ _) (fun h3=>?_)
  by_cases h4:s.size < SP.nth (SP.by_ s) 12 / 16 * 4
  · rw[show decide (((SP.nth (SP.by_ s) 12 / 16 * 4:Nat):Int) > (s.size:Int))=true from decide_eq_true (by omega)]
    exact bad2 (.inr h4) _ _ _ _ _ _ _ _ _ _ _ _ _ _ _
  rw[show decide (((SP.nth (SP.by_ s) 12 / 16 * 4:Nat):Int) > (s.size:Int))=false from decide_eq_false (by omega)]
  refine Ev.step (fun k=>by simp only[sternpostref08_Decode.j2];rfl) ?_
  refine Ev.neg (by decide) ?_
  have hA:=had.1
  have hB:=had.2
  unfold seqOk at hA hB
  obtain⟨a,rfl⟩:=Int.eq_ofNat_of_zero_le (show 0≤a by omega)
  obtain⟨b,rfl⟩:=Int.eq_ofNat_of_zero_le (show 0≤b by omega)
  refine Ev.bind (refpse_ok a b s.size (by omega) (by omega) (by omega)) ?_
  have lp:=pseB_len a b s.size
  try dsimp only
  refine Ev.pos (by rw[mkB_size,lp];omega) ?_
  have hw:=refwhole_ev (mkB (pseB a b s.size)++s) (by rw[ByteArray.size_append,mkB_size,lp];omega)
  rw[SP.by_append,by_mkB] at hw
  refine Ev.bind hw ?_
  by_cases hc:SP.canon (SP.ws 0 (pseB a b s.size++SP.by_ s))=65535
  · rw[decide_eq_true hc]
    refine Ev.pos rfl ?_
    exact refsegtail (a:Int) (b:Int) s o _ _ _ _ _ _ _ _ _ _ _ _ _ _ _ _ had (by omega) (by omega) (by omega) (by omega) (by simpa only[nat_toNat] using hc) ho hlen
  · rw[decide_eq_false hc,segD,if_neg (fun h=>h had),if_neg (by omega),if_neg (by omega),hl,if_pos (by simpa only[nat_toNat] using hc)]
    exact Ev.neg (by decide) (Ev.now _)
theorem SegReads:sternpostlaw08_SegReads.Pure:=by
  intro a b s ha hb hs
  have ha:=wf64 ha
  have hb:=wf64 hb
  refine Ev.rounds ?_
  unfold sternpostlaw08_SegReads.f
  obtain⟨o,h1,h2,hl⟩:=dec_both (mkB (((SP.by_ s).drop 20).take (SP.nth (SP.by_ s) 12 / 16 * 4 - 20)))
  obtain⟨o',ho',hx⟩:=dec_tot (mkB (((SP.by_ s).drop 20).take (SP.nth (SP.by_ s) 12 / 16 * 4 - 20)))
  obtain rfl:=Ev.uniq h1 ho'
  have d1:=segdec_ev a b s o ha hb h1 (fun he=>by
    rcases hx with ⟨_,ok⟩|hz
    · exact ok
    · rw[hz] at he;exact absurd he (by decide))
  have d2:=refsegdec_ev a b s o h2 hl
  have hlen:(segD a b (SP.by_ s) o).2.2.2.2.2.2.2.2.2.2.2.2.2.2.1.length < 1000000000000000:=by
    unfold segD segZ
    split;· exact(by decide:0 < 1000000000000000)
    split;· exact(by decide:0 < 1000000000000000)
    split;· exact(by decide:0 < 1000000000000000)
    split;· exact(by decide:0 < 1000000000000000)
    split;· exact(by decide:0 < 1000000000000000)
    split
    · exact Nat.lt_of_le_of_lt hl (by decide)
    · exact(by decide:0 < 1000000000000000)
  refine Ev.bind d1 (Ev.bind d2 ?_)
  generalize segD a b (SP.by_ s) o=r at hlen ⊢
  obtain⟨p,q,sq,ak,fl,wn,ug,m,sc,st,ec,sd,sk,sp,l,x,e⟩:=r
  try dsimp only at hlen ⊢
  refine Ev.bind (refsegsame_ev p q sq ak fl wn ug m sc st ec sd sk sp l x p q sq ak fl wn ug m sc st ec sd sk sp l x hlen) ?_
  rw[segSame_refl]
  exact Ev.pos rfl (Ev.pos rfl (Ev.bind works08 (Ev.now _)))
end Go.Proofs.Ytakajeoeijnmhaa.Pure

/- What the proof of the statement leans on (part 22). -/
import Derived.Lib.DecodeN
import Derived.Lib.IndexMore
import Derived.Test.YtckomlgchbkekaaGreatDoorQu

namespace Go.Proofs.YtckomlgchbkekaaGreatDoor
open Go
section
variable {r:Nat}{a b:UInt8}
def AO (m:Int) (l:By):Int×Int:=if m=0 then Cu zY 53 l else if m=1 then Cu zX 10 l else if m=2 then Cu zW 11 l else (0,-1)
def J6 (m:Int):List (Int×Int):=if m=0 then [(1,0),(2,0),(3,0),(5,0),(11,0),(11,3),(9,1),(7,0),(8,0),(6,0)] else if m=1 then [(9,0),(10,0),(9,2),(9,0)] else if m=2 then [(11,3),(11,4),(11,0),(11,0)] else []
def Ka (m n:Int):Option (Int×Int):=if n<0 then none else (J6 m)[n.toNat]?
def J7 (m n:Int):Int:=match Ka m n with|some p=>p.1|none=>0
abbrev wH:=Int×Int
def Lt (s:wH) (n:Int):wH:=match Ka s.1 n with
 |none=>s
 |some p=>if p.2=0 then s else if p.2=1 then (1,0) else if p.2=3 then (2,min (max s.2 0) 16383+1) else if p.2=4/\1<s.2 then (s.1,s.2-1) else (0,0)
def KB:By:=[32,105,102,32,101,108,115,101,32,108,101,116,32,105,110,32,102,117,110,32,116,114,117,101,32,102,97,108,115,101,32,97,110,100,32,111,114,32,110,111,116,32]
def Md (s:By):Bool:=decide (s≠[]) && (!Lib.contains s [32] && Lib.contains KB (32::(s++[32])))
def cA (l:By):Nat:=(Lib.decodeN l.length (l.getD 0 0).toNat (l.getD 1 0).toNat (l.getD 2 0).toNat (l.getD 3 0).toNat).2
def ET (l:By) (m:Int):Nat:=if (AO m l).1=0 then cA l else (AO m l).1.toNat
def O8 (l:By) (m:Int):Int:=if (AO m l).1=0 then 0 else if J7 m (AO m l).2=3/\Md (l.take (AO m l).1.toNat)=true then 4 else J7 m (AO m l).2
def KU (l:By) (st:wH):wH:=if (AO st.1 l).1=0 then st else Lt st (AO st.1 l).2
abbrev Tk:=Int×Int×Int
def Lo:Nat->By->Nat->wH->List Tk×wH
 | 0,_,_,st=>([],st)
 |n+1,l,at_,st=>if l=[] then ([],st) else
  (((O8 l st.1,(at_:Int),((at_+ET l st.1:Nat):Int)):Tk)::(Lo n (l.drop (ET l st.1)) (at_+ET l st.1) (KU l st)).1,(Lo n (l.drop (ET l st.1)) (at_+ET l st.1) (KU l st)).2)
def BB (s:By):List Tk×wH:=Lo s.length s 0 (0,0)
theorem CS (n b0 b1 b2 b3:Nat):1<=(Lib.decodeN n b0 b1 b2 b3).2:=by
 unfold Lib.decodeN
 repeat' split
 all_goals simp
theorem CR (n b0 b1 b2 b3:Nat) (hn:1<=n):(Lib.decodeN n b0 b1 b2 b3).2<=n:=by
 unfold Lib.decodeN
 repeat' split
 all_goals (simp only;omega)
theorem lD {l:By}(h:l≠[]):1<=cA l/\cA l<=l.length:=⟨CS _ _ _ _ _,CR _ _ _ _ _ (List.length_pos_iff.2 h)⟩
theorem yh:Pb.length<=2000/\Pa.length<=2000/\M6.length<=2000:=by decide
def bC (c:Nat):Nat×Nat:=if c<128 then (1,c) else if 192<=c/\c<224 then (2,c-192) else if 224<=c/\c<240 then (3,c-224) else if 240<=c/\c<248 then (4,c-240) else (0,0)
def fj (r:Nat):By :=
 if 1114111<r\/(55296<=r/\r<=57343) then [] else if r<128 then [UInt8.ofNat r] else if r<2048 then [UInt8.ofNat (192+r / 64),UInt8.ofNat (128+r%64)]
 else if r<65536 then [UInt8.ofNat (224+r / 4096),UInt8.ofNat (128+r / 64%64),UInt8.ofNat (128+r%64)]
 else [UInt8.ofNat (240+r / 262144),UInt8.ofNat (128+r / 4096%64),UInt8.ofNat (128+r / 64%64),UInt8.ofNat (128+r%64)]
def eM (r:Nat) (l:By):Nat:=l.foldl (fun r b=>r*64+b.toNat%64) r
def jt (l:By):Nat:=eM (bC (l.getD 0 0).toNat).2 ((l.drop 1).take ((bC (l.getD 0 0).toNat).1-1))
def AE (l:By):Nat:=if 0<(bC (l.getD 0 0).toNat).1/\(bC (l.getD 0 0).toNat).1<=l.length/\fj (jt l)=l.take (bC (l.getD 0 0).toNat).1 then (bC (l.getD 0 0).toNat).1 else 1
theorem gF (n:Nat) (hn:n<256) (b:UInt8):UInt8.ofNat n=b↔n=b.toNat:=by
 constructor
 · rintro rfl;rw[UInt8.toNat_ofNat'];omega
 · rintro rfl;simp
theorem MO:fj r=[a]↔r<128/\a.toNat=r:=by
 unfold fj
 repeat' split
 all_goals simp only[List.cons.injEq,and_true,reduceCtorEq,and_false,false_iff,List.nil_eq]
 all_goals first|(rw[gF _ (by omega)];omega)|omega
theorem KQ:fj r=[a,b]↔(128<=r/\r<2048)/\a.toNat=192+r / 64/\b.toNat=128+r%64:=by
 unfold fj
 repeat' split
 all_goals simp only[List.cons.injEq,and_true,reduceCtorEq,and_false,false_iff,List.nil_eq]
 all_goals first|(rw[gF _ (by omega),gF _ (by omega)];omega)|omega
theorem KP {c:UInt8}:fj r=[a,b,c]↔(2048<=r/\r<65536/\¬(55296<=r/\r<=57343))/\a.toNat=224+r / 4096/\b.toNat=128+r / 64%64/\c.toNat=128+r%64:=by
 unfold fj
 repeat' split
 all_goals simp only[List.cons.injEq,and_true,reduceCtorEq,and_false,false_iff,List.nil_eq]
 all_goals first|(rw[gF _ (by omega),gF _ (by omega),gF _ (by omega)];omega)|omega
theorem KO {c d:UInt8}:fj r=[a,b,c,d]↔(65536<=r/\r<=1114111)/\a.toNat=240+r / 262144/\b.toNat=128+r / 4096%64/\c.toNat=128+r / 64%64/\d.toNat=128+r%64:=by
 unfold fj
 repeat' split
 all_goals simp only[List.cons.injEq,and_true,reduceCtorEq,and_false,false_iff,List.nil_eq]
 all_goals first|(rw[gF _ (by omega),gF _ (by omega),gF _ (by omega),gF _ (by omega)];omega)|omega
theorem IB (l:By) (n:Nat) (h:(Lib.decodeN l.length (l.getD 0 0).toNat (l.getD 1 0).toNat (l.getD 2 0).toNat (l.getD 3 0).toNat).2=n):cA l=n:=h
theorem vT {l:By}(h:l≠[]):AE l=cA l:=by
 obtain⟨a,t,rfl⟩:=List.exists_cons_of_ne_nil h;have ha:=a.toNat_lt
 symm
 apply IB
 unfold AE jt;simp only[List.getD_cons_zero,List.drop_succ_cons,List.drop_zero,List.length_cons]
 rcases Nat.lt_or_ge a.toNat 128 with h1|h1
 · have hl:bC a.toNat=(1,a.toNat):=by unfold bC;rw[if_pos h1]
   rw[hl,if_pos ⟨by simp,by simp,MO.2 ⟨h1,rfl⟩⟩];unfold Lib.decodeN;rw[if_pos h1]
 rcases Nat.lt_or_ge a.toNat 192 with h2|h2
 · have hl:bC a.toNat=(0,0):=by unfold bC;rw[if_neg (by omega),if_neg (by omega),if_neg (by omega),if_neg (by omega)]
   rw[hl,if_neg (by simp)];unfold Lib.decodeN
   repeat' split
   all_goals first|rfl|(exfalso;omega)
 rcases Nat.lt_or_ge a.toNat 224 with h3|h3
 · have hl:bC a.toNat=(2,a.toNat-192):=by unfold bC;rw[if_neg (by omega),if_pos (by omega)]
   rw[hl];cases t with
   |nil =>
    rw[if_neg (by simp)];unfold Lib.decodeN
    repeat' split
    all_goals first|rfl|(exfalso;simp only[List.length_nil] at *;omega)
   |cons b t =>
    have hb:=b.toNat_lt;have e:(fj (eM (a.toNat,a.toNat-192).2 ((b::t).take ((2,a.toNat-192).1-1)))=(a::b::t).take (2,a.toNat-192).1)=(fj ((a.toNat-192)*64+b.toNat%64)=[a,b]):=rfl;simp only[e,KQ,List.length_cons,List.getD_cons_succ,List.getD_cons_zero];unfold Lib.decodeN
    repeat' split
    all_goals first|rfl|(exfalso;omega)
 rcases Nat.lt_or_ge a.toNat 240 with h4|h4
 · have hl:bC a.toNat=(3,a.toNat-224):=by unfold bC;rw[if_neg (by omega),if_neg (by omega),if_pos (by omega)]
   rw[hl]
   match t with
   | [] =>
    rw[if_neg (by simp)];unfold Lib.decodeN
    repeat' split
    all_goals first|rfl|(exfalso;simp only[List.length_nil] at *;omega)
   | [b] =>
    rw[if_neg (by simp)];unfold Lib.decodeN
    repeat' split
    all_goals first|rfl|(exfalso;simp only[List.length_nil,List.length_cons] at *;omega)
   |b::c::t =>
    have hb:=b.toNat_lt;have hc:=c.toNat_lt;have e:(fj (eM (3,a.toNat-224).2 ((b::c::t).take ((3,a.toNat-224).1-1)))=(a::b::c::t).take (3,a.toNat-224).1)=(fj (((a.toNat-224)*64+b.toNat%64)*64+c.toNat%64)=[a,b,c]):=rfl;simp only[e,KP,List.length_cons,List.getD_cons_succ,List.getD_cons_zero];unfold Lib.decodeN
    repeat' split
    all_goals first|rfl|(exfalso;omega)
 rcases Nat.lt_or_ge a.toNat 248 with h5|h5
 · have hl:bC a.toNat=(4,a.toNat-240):=by unfold bC;rw[if_neg (by omega),if_neg (by omega),if_neg (by omega),if_pos (by omega)]
   rw[hl]
   match t with
   | [] =>
    rw[if_neg (by simp)];unfold Lib.decodeN
    repeat' split
    all_goals first|rfl|(exfalso;simp only[List.length_nil] at *;omega)
   | [b] =>
    rw[if_neg (by simp)];unfold Lib.decodeN
    repeat' split
    all_goals first|rfl|(exfalso;simp only[List.length_nil,List.length_cons] at *;omega)
   | [b,c] =>
    rw[if_neg (by simp)];unfold Lib.decodeN
    repeat' split
    all_goals first|rfl|(exfalso;simp only[List.length_nil,List.length_cons] at *;omega)
   |b::c::d::t =>
    have hb:=b.toNat_lt;have hc:=c.toNat_lt;have hd:=d.toNat_lt;have e:(fj (eM (4,a.toNat-240).2 ((b::c::d::t).take ((4,a.toNat-240).1-1)))=(a::b::c::d::t).take (4,a.toNat-240).1)=(fj ((((a.toNat-240)*64+b.toNat%64)*64+c.toNat%64)*64+d.toNat%64)=[a,b,c,d]):=rfl;simp only[e,KO,List.length_cons,List.getD_cons_succ,List.getD_cons_zero];unfold Lib.decodeN
    repeat' split
    all_goals first|rfl|(exfalso;omega)
 · have hl:bC a.toNat=(0,0):=by unfold bC;rw[if_neg (by omega),if_neg (by omega),if_neg (by omega),if_neg (by omega)]
   rw[hl,if_neg (by simp)];unfold Lib.decodeN
   repeat' split
   all_goals first|rfl|(exfalso;omega)
end
end Go.Proofs.YtckomlgchbkekaaGreatDoor
namespace Go.Proofs.YtckomlgchbkekaaGreatDoor
open Go Go.Lw
section
variable {x:Nd}{h:ai}{O:Nat->Prop}{cs:List Value}
def BV (s q:Nat):Nat:=(s >>> (64*q))%2 ^ 64
def dL (s q:Nat):Value:=.int .u64 (BV s q:Nat)
def tF (s:Nat):List Value:=[dL s 0,dL s 1,dL s 2,dL s 3]
theorem BU (s q:Nat):BV s q<18446744073709551616:=Nat.mod_lt _ (by decide)
theorem jI (s q i:Nat):(BV s q).testBit i=(decide (i<64) && s.testBit (64*q+i)):=by
 unfold BV;rw[Nat.testBit_mod_two_pow,Nat.testBit_shiftRight]
theorem FP (s b:Nat) (q:Nat) (h:q≠b / 64):BV (s |||(1 <<< b)) q=BV s q:=by
 apply Nat.eq_of_testBit_eq
 intro i;rw[jI,jI,Nat.testBit_or,Nat.one_shiftLeft,Nat.testBit_two_pow]
 by_cases hi:i<64
 · have:b≠64*q+i:=by omega
   simp[this]
 · simp[hi]
theorem FO (s b:Nat):BV (s |||(1 <<< b)) (b / 64)=BV s (b / 64) ||| 2 ^ (b%64):=by
 apply Nat.eq_of_testBit_eq
 intro i;rw[jI,Nat.testBit_or,Nat.testBit_or,jI,Nat.one_shiftLeft,Nat.testBit_two_pow,Nat.testBit_two_pow]
 by_cases hi:i<64
 · have:(b=64*(b / 64)+i)↔(b%64=i):=by omega
   simp[hi,this]
 · have:¬b%64=i:=by omega
   simp[hi,this]
theorem jr {i:Int}(h:0<=i/\i<=18446744073709551615):IntKind.u64.wrap i=i:=by
 have h64:(2:Int) ^ 64=18446744073709551616:=rfl;simp only[IntKind.wrap,IntKind.bits,IntKind.signed,h64,Bool.false_and,Bool.false_eq_true,if_false];omega
theorem OW {x y:Nat}(hx:x<18446744073709551616) (hy:y<18446744073709551616):IntKind.u64.wrap ((BitVec.ofInt IntKind.u64.bits (x:Int) |||BitVec.ofInt IntKind.u64.bits (y:Int)).toNat:Int)=((x |||y:Nat):Int):=by
 have e:(BitVec.ofInt IntKind.u64.bits (x:Int) |||BitVec.ofInt IntKind.u64.bits (y:Int)).toNat=x |||y:=by
  rw[BitVec.toNat_or]
  have h1:(BitVec.ofInt IntKind.u64.bits (x:Int)).toNat=x:=by
   show (BitVec.ofInt 64 (x:Int)).toNat=x
   simp only[BitVec.toNat_ofInt];omega
  have h2:(BitVec.ofInt IntKind.u64.bits (y:Int)).toNat=y:=by
   show (BitVec.ofInt 64 (y:Int)).toNat=y
   simp only[BitVec.toNat_ofInt];omega
  rw[h1,h2]
 rw[e];have:x |||y<2 ^ 64:=Nat.or_lt_two_pow hx hy;exact jr ⟨by omega,by omega⟩
theorem MK (b:Nat):IntKind.u64.wrap (1*2 ^ min ((b%64:Nat):Int).toNat IntKind.u64.bits)=((2 ^ (b%64):Nat):Int):=by
 have hb:b%64<64:=Nat.mod_lt _ (by decide);have h1:min ((b%64:Nat):Int).toNat IntKind.u64.bits=b%64:=by show min _ 64=_;simp;omega
 rw[h1,Int.one_mul];have h2:2 ^ (b%64)<2 ^ 64:=Nat.pow_lt_pow_right (by decide) hb;have h3:((2:Int) ^ (b%64))=((2 ^ (b%64):Nat):Int):=by push_cast;rfl
 rw[h3];generalize 2 ^ (b%64)=p at *;exact jr ⟨by omega,by omega⟩
theorem Pu {x:Nat}(hx:x<18446744073709551616):IntKind.u64.wrap ((BitVec.ofInt IntKind.u64.bits (x:Int) &&& BitVec.ofInt IntKind.u64.bits 1).toNat:Int)=((x%2:Nat):Int):=by
 have e:(BitVec.ofInt IntKind.u64.bits (x:Int) &&& BitVec.ofInt IntKind.u64.bits 1).toNat=x%2:=by
  rw[BitVec.toNat_and]
  have h1:(BitVec.ofInt IntKind.u64.bits (x:Int)).toNat=x:=by
   show (BitVec.ofInt 64 (x:Int)).toNat=x
   simp only[BitVec.toNat_ofInt];omega
  rw[h1]
  show x &&& 1=_
  exact Nat.and_one_is_mod x
 rw[e];exact jr ⟨by omega,by omega⟩
theorem MH (x:Nat) (b:Nat) (hb:b<64):((x:Int)).fdiv (2 ^ min ((b:Nat):Int).toNat IntKind.u64.bits)=((x >>> b:Nat):Int):=by
 have h1:min ((b:Nat):Int).toNat IntKind.u64.bits=b:=by show min _ 64=_;simp;omega
 rw[h1,Nat.shiftRight_eq_div_pow];have h3:((2:Int) ^ b)=((2 ^ b:Nat):Int):=by push_cast;rfl
 rw[h3,Int.fdiv_eq_ediv_of_nonneg _ (Int.natCast_nonneg _)]
 push_cast;rfl
theorem Ir (s b:Nat):(BV s (b / 64) >>> (b%64))%2=(s.testBit b).toNat:=by
 have h:=jI s (b / 64) (b%64);rw[show 64*(b / 64)+b%64=b from Nat.div_add_mod b 64] at h;have hb:b%64<64:=Nat.mod_lt _ (by decide);simp only[hb,decide_true,Bool.true_and] at h;rw[Nat.shiftRight_eq_div_pow,<-Nat.toNat_testBit,h]
def cP (k s:Nat) (v:Value):List Value:=[.int .i64 k,dL s 0,dL s 1,dL s 2,dL s 3,v]
inductive bw (h:ai) (O:Nat->Prop):List Value->Nd->Prop
 |mk (k s:Nat) (kids:List Nd) (oa:Option Addr) (n c:Nat) (css:Nat->List Value) (hl:kids.length=n) (hc:n<=c) (hm:c<=maxLen)
  (hr:∀i x,kids[i]? =some x->∃b o,oa=some ⟨b,o,none⟩/\¬O b/\Lw.rowAt h b (o+i*6) (css i)) (hk:∀i x,kids[i]? =some x->bw h O (css i) x):bw h O (cP k s (.slice oa n c)) (.mk k s kids)
theorem bw.len (k:bw h O cs x):cs.length=6:=by cases k;rfl
theorem bw.one (k:bw h O cs x):∀v∈cs,v.oneCell'=true:=by
 cases k;intro v hv;simp[cP,dL] at hv
 rcases hv with rfl|rfl|rfl|rfl|rfl|rfl<;>rfl
theorem bw.mv {h':ai}{O':Nat->Prop}(k:bw h O cs x) (m:Mv O O' h h'):bw h' O' cs x:=by
 induction k with
 |mk k s kids oa n c css hl hc hm hr hk ih =>
  refine .mk k s kids oa n c css hl hc hm (fun i x hx=>?_) ih;obtain⟨b,o,ha,ho,hrow⟩:=hr i x hx;have hne:css i≠[]:=by intro e;have:=(hk i x hx).len;rw[e] at this;cases this
  exact⟨b,o,ha,(m.block b (bS hrow hne) ho).2,m.rowAt ho hrow⟩
def qj:fS Nd:=⟨6,by decide,bw,bw.len,bw.one,bw.mv⟩
theorem bw.af {h h':ai}{O:Nat->Prop}{cs:List Value}{x:Nd}(k:bw h O cs x) (e:ah h h'):bw h' O cs x:=k.mv (Mv.af e)
theorem bw.of {v:Value}{kids:List Nd}(k s:Nat) (hv:aR qj h O v kids):bw h O (cP k s v) (.mk k s kids):=by
 obtain⟨oa,n,c,rfl,hl,hc,hm,hg⟩:=hv
 have hx:∀i,i<n->∃cs:List Value,∃x,kids[i]? =some x/\(∃b o,oa=some ⟨b,o,none⟩/\¬O b/\Lw.rowAt h b (o+i*6) cs)/\bw h O cs x:=by
  intro i hi;obtain⟨b,o,cs,h1,h2,h3,h4⟩:=hg i kids[i] (List.getElem?_eq_getElem (by omega));exact⟨cs,kids[i],List.getElem?_eq_getElem (by omega),⟨b,o,h1,h2,h3⟩,h4⟩
 refine .mk k s kids oa n c (fun i=>if hi:i<n then Classical.choose (hx i hi) else []) hl hc hm (fun i x hxi=>?_) (fun i x hxi=>?_)
 · have hi:i<n:=by rw[<-hl];exact(List.getElem?_eq_some_iff.1 hxi).1
   simp only[dif_pos hi];obtain⟨y,_,h2,_⟩:=Classical.choose_spec (hx i hi);exact h2
 · have hi:i<n:=by rw[<-hl];exact(List.getElem?_eq_some_iff.1 hxi).1
   simp only[dif_pos hi];obtain⟨y,h1,_,h3⟩:=Classical.choose_spec (hx i hi);rw[h1] at hxi;cases hxi;exact h3
theorem bw.open (k:bw h O cs x):∃v,cs=cP x.kind x.set v/\aR qj h O v x.kids:=by
 cases k with
 |mk k s kids oa n c css hl hc hm hr hk =>
  exact⟨_,rfl,oa,n,c,rfl,hl,hc,hm,fun i x hx=>by
   obtain⟨b,o,h1,h2,h3⟩:=hr i x hx;exact⟨b,o,css i,h1,h2,h3,hk i x hx⟩⟩
def bs (l:List UInt8):ByteArray:=⟨l.toArray⟩
theorem zf (l:List UInt8):(bs l).data.toList=l:=by simp[bs]
theorem NF (s:ByteArray):bs s.data.toList=s:=by simp[bs]
theorem aC (l:List UInt8):(bs l).size=l.length:=by simp[bs,ByteArray.size]
theorem bg (l m:List UInt8):bs l++bs m=bs (l++m):=by
 apply ByteArray.ext
 simp[bs]
theorem jg {l m:List UInt8}(h:bs l=bs m):l=m:=by have:=congrArg (fun x=>x.data.toList) h;simpa [bs] using this
theorem HC (l m:List UInt8):decide (bs l=bs m)=decide (l=m):=by
 rw[decide_eq_decide];exact⟨jg,fun h=>by rw[h]⟩
theorem cQ {l:List UInt8}{i:Nat}{c:UInt8}(h:l[i]? =some c):(bs l).data[i]? =some c:=by simpa [bs] using h
theorem iX (l:List UInt8) (i:Nat):(bs l).extract i (bs l).size=bs (l.drop i):=by
 apply ByteArray.ext
 apply Array.ext'
 rw[ByteArray.data_extract,Array.toList_extract,List.extract_eq_take_drop];rw[aC];simp only[bs];exact List.take_of_length_le (by simp)
theorem qV (l:List UInt8) (i j:Nat) (_h:i<=j):(bs l).extract i j=bs ((l.take j).drop i):=by
 apply ByteArray.ext
 apply Array.ext'
 rw[ByteArray.data_extract,Array.toList_extract,List.extract_eq_take_drop];simp only[bs];rw[List.drop_take]
theorem Me (c d:UInt8):decide (((c.toNat:Nat):Int)≠((d.toNat:Nat):Int))=decide (c≠d):=by
 rw[decide_eq_decide];exact⟨fun h e=>h (by rw[e]),fun h e=>h (UInt8.toNat_inj.1 (by omega))⟩
theorem cv {c:UInt8}{k:Nat}{d:UInt8}(hd:d.toNat=k):(((c.toNat:Nat):Int)=(k:Int))↔c=d:=by
 subst hd;exact⟨fun e=>UInt8.toNat_inj.1 (by omega),fun e=>by rw[e]⟩
end
end Go.Proofs.YtckomlgchbkekaaGreatDoor

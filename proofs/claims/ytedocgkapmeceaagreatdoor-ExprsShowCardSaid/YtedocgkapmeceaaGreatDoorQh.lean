/- What the proof of the statement leans on (part 8). -/
import Derived.WalkSmall
import Derived.MapKept
import Derived.Test.YtedocgkapmeceaaGreatDoorQg

namespace Go.Lw
open Go.RowKit
section
variable {α β:Type}{m:Nat}{t:TypeId}
def kT {α β:Type}[DecidableEq α] (k:α):List (α×β)→Option β
 | []=>none
 |(a,b)::r=>if k=a then some b else kT k r
def fJ {α β:Type}(ek:α→Value) (ev:β→Value) (h:aD) (m:Nat) (l:List (α×β)):Prop :=
 ∃es clock,h[m]? =some (.map es clock)∧es.toList.map (fun e=>(e.key,e.val))=l.map fun p=>(ek p.1,ev p.2)
theorem fJ.lt {ek:α→Value}{ev:β→Value}{h:aD}{l:List (α×β)}(k:fJ ek ev h m l):m<h.size:=by
 obtain⟨_,_,h1,_⟩:=k;exact(Array.getElem?_eq_some_iff.1 h1).1
theorem fJ.ext {ek:α→Value}{ev:β→Value}{M:Nat→Prop}{h h':aD}{l:List (α×β)}(k:fJ ek ev h m l) (x:Ext M h h') (hm:¬M m):fJ ek ev h' m l:=by
 have hlt:=k.lt;obtain⟨es,c,h1,h2⟩:=k;exact⟨es,c,(x.block m hlt hm).trans h1,h2⟩
structure jr (kd:TypeDesc){α:Type}[DecidableEq α] (ek:α→Value):Prop where
 same:∀a b,Instr.sameNow kd (ek a) (ek b)=some (decide (a=b))
 plain:∀P w (t:TypeId) empty n a,P.underlying t=some kd→(Instr.checkKey empty (n+1) t (ek a)).run P w= .ok () w
theorem jr.int (q:IntKind):jr (.int q) (α:=Int) (.int q) where
 same:=fun a b=>by
  show (if q=q then some (a ==b) else none)=_
  rw[if_pos rfl,y8]
 plain:=fun P w t empty n a hu=>by
  unfold Instr.checkKey;rw[Sem.run_bind,run_underlying hu w];rfl
theorem jq:jr .string (α:=ByteArray) .string where
 same:=fun a b=>by
  show some (a ==b)=_
  congr 1
  cases a with|mk x=>cases b with|mk y =>
  show (x ==y)=_
  rw[Bool.eq_iff_iff];simp
 plain:=fun P w t empty n a hu=>by
  unfold Instr.checkKey;rw[Sem.run_bind,run_underlying hu w];rfl
theorem mU {kd:TypeDesc}{α β:Type}[DecidableEq α]{ek:α→Value}{ev:β→Value}(K:jr kd ek) (k:α):∀(es:List MapEntry) (l:List (α×β)) (i:Nat),es.map (fun e=>(e.key,e.val))=l.map (fun p=>(ek p.1,ev p.2)) →
 ∃j,Instr.findNow kd (ek k) es i=some ((kT k l).map fun b=>(j,ev b))
 | [],[],i,_=>⟨0,rfl⟩
 | [],_::_,i,h=>by simp at h
 |_::_,[],i,h=>by simp at h
 |e::es,(a,b)::l,i,h=>by
  simp only[List.map_cons,List.cons.injEq,Prod.mk.injEq] at h;obtain⟨⟨h1,h2⟩,h3⟩:=h;unfold Instr.findNow;rw[h1,K.same]
  by_cases hk:k=a
  · subst hk;refine⟨i,?_⟩;simp[kT,h2]
  · obtain⟨j,hj⟩:=mU K k es l (i+1) h3;refine⟨j,?_⟩;simp[hk,kT,hj]
section
variable {P:Program}{ρ:Env}{h:aD}{dst:Option Nat}{ty:TypeId}{pos:String}{after:Array Edge}{guard:Option (Nat×Bool)}{X:List PanicEntry→aD→Prop}
theorem tY {kd:TypeDesc}[DecidableEq α]{ek:α→Value}{ev:β→Value}(K:jr kd ek){kt et:TypeId}{z:Value}{k:α}{l:List (α×β)}{w:World}{ok:Bool}(ht:P.underlying t=some (.map kt et)) (hk:P.underlying kt=some kd)
 (hz:(P.info? et).bind (·.zero)=some z) (hm:fJ ek ev w.heap m l):(Instr.lookup t (.map (some m)) (ek k) ok).run P w= .ok (if ok then .tuple #[((kT k l).map ev).getD z,.bool (kT k l).isSome] else ((kT k l).map ev).getD z) w:=by
 obtain⟨es,c,h1,h2⟩:=hm;obtain⟨j,hj⟩:=mU (ev:=ev) K k es.toList l 0 h2
 have hfind:(Instr.findKey kt (ek k) es.toList).run P w= .ok ((kT k l).map fun b=>(j,ev b)) w:=by
  unfold Instr.findKey;rw[Sem.run_bind,run_underlying hk w];simp[hj]
 have hzero:(zeroValue et).run P w= .ok z w:=by
  cases hi:P.info? et with
  |none=>simp[hi] at hz
  |some i=>simp[hi] at hz;simp[zeroValue,typeInfo,hi,hz]
 unfold Instr.lookup;rw[Sem.run_bind,run_underlying ht w];simp only[Result.andThen_ok,Sem.run_bind,MapKept.run_getObj_map h1,Sem.run_pure,K.plain P w kt _ 9999 k hk,hfind];cases ha:kT k l with
 |none=>cases ok<;>simp[hzero]
 |some b=>cases ok<;>simp
theorem pq {kd:TypeDesc}{α β:Type}[DecidableEq α]{ek:α→Value}{ev:β→Value}(K:jr kd ek){t kt et:TypeId}{z:Value}{k:α}{m:Nat}{l:List (α×β)}{x y:Operand}{u:Value}(ht:P.underlying t=some (.map kt et)) (hk:P.underlying kt=some kd)
 (hz:(P.info? et).bind (·.zero)=some z) (hx:bW ρ x=some (.map (some m))) (hy:bW ρ y=some u) (hu:u=ek k) (hm:fJ ek ev h m l):aj P ⟨dst,.lookup t x y false,ty,pos,after,guard⟩ ρ h (((kT k l).map ev).getD z):=by
 intro n B a w hf ha;subst hu;have:=tY (P:=P) (ok:=false) K ht hk hz (w:=w) (by rw[ha.heap];exact hm) (k:=k);simp[execOp,hf.eval hx,hf.eval hy,this]
theorem aj.uA {kd:TypeDesc}[DecidableEq α]{ek:α→Value}{ev:β→Value}(K:jr kd ek){kt et:TypeId}{z:Value}{k:α}{l:List (α×β)}{x y:Operand}{u:Value}(ht:P.underlying t=some (.map kt et)) (hk:P.underlying kt=some kd)
 (hz:(P.info? et).bind (·.zero)=some z) (hx:bW ρ x=some (.map (some m))) (hy:bW ρ y=some u) (hu:u=ek k) (hm:fJ ek ev h m l):aj P ⟨dst,.lookup t x y true,ty,pos,after,guard⟩ ρ h (.tuple #[((kT k l).map ev).getD z,.bool (kT k l).isSome]):=by
 intro n B a w hf ha;subst hu;have:=tY (P:=P) (ok:=true) K ht hk hz (w:=w) (by rw[ha.heap];exact hm) (k:=k);simp[execOp,hf.eval hx,hf.eval hy,this]
theorem aj.KJ {x:Operand}{k:IntKind}{i:Int}(hx:bW ρ x=some (.int k i)) :
 aj P ⟨dst,.unOp .xor t x,ty,pos,after,guard⟩ ρ h (.int k (k.wrap (BitVec.ofInt k.bits (if k.signed then -1 else k.max) ^^^ BitVec.ofInt k.bits i).toNat)):=by
 intro _ B a w hf _;simp[execOp,Op.unary,Op.intBits,hf.eval hx]
theorem dH {x:Operand}{t:TypeId}{v:Value}{Φ:Value→aD→Prop}(hx:bW ρ x=some (.iface t v)) (hX:X [{ v:=.iface t v,recovered:=false }] h):aC P ⟨dst,.panic x,ty,pos,after,guard⟩ ρ h Φ X:=by
 intro n B a w hf ha next Q _ hq
 unfold Oper.wp;simp only[execOp,hf.eval hx,Sem.run_bind,run_panic_iface];exact hq _ h w ha hX
end
end
end Go.Lw
namespace Go.Proofs.YtedocgkapmeceaaGreatDoor
open Go Go.Lw
section
variable {x:Nd}{h:aD}{O:Nat→Prop}{cs:List Value}
def BD (s q:Nat):Nat:=(s >>> (64*q))%2 ^ 64
def eV (s q:Nat):Value:=.int .u64 (BD s q:Nat)
def u9 (s:Nat):List Value:=[eV s 0,eV s 1,eV s 2,eV s 3]
theorem BC (s q:Nat):BD s q<18446744073709551616:=Nat.mod_lt _ (by decide)
theorem kV (s q i:Nat):(BD s q).testBit i=(decide (i<64) && s.testBit (64*q+i)):=by
 unfold BD;rw[Nat.testBit_mod_two_pow,Nat.testBit_shiftRight]
theorem EO (s b:Nat) (q:Nat) (h:q≠b / 64):BD (s |||(1 <<< b)) q=BD s q:=by
 apply Nat.eq_of_testBit_eq
 intro i;rw[kV,kV,Nat.testBit_or,Nat.one_shiftLeft,Nat.testBit_two_pow]
 by_cases hi:i<64
 · have:b≠64*q+i:=by omega
   simp[this]
 · simp[hi]
theorem EN (s b:Nat):BD (s |||(1 <<< b)) (b / 64)=BD s (b / 64) ||| 2 ^ (b%64):=by
 apply Nat.eq_of_testBit_eq
 intro i;rw[kV,Nat.testBit_or,Nat.testBit_or,kV,Nat.one_shiftLeft,Nat.testBit_two_pow,Nat.testBit_two_pow]
 by_cases hi:i<64
 · have:(b=64*(b / 64)+i)↔(b%64=i):=by omega
   simp[hi,this]
 · have:¬b%64=i:=by omega
   simp[hi,this]
theorem nE {i:Int}(h:0≤i∧i≤18446744073709551615):IntKind.u64.wrap i=i:=by
 have h64:(2:Int) ^ 64=18446744073709551616:=rfl;simp only[IntKind.wrap,IntKind.bits,IntKind.signed,h64,Bool.false_and,Bool.false_eq_true,if_false];omega
theorem Ls {x y:Nat}(hx:x<18446744073709551616) (hy:y<18446744073709551616):IntKind.u64.wrap ((BitVec.ofInt IntKind.u64.bits (x:Int) |||BitVec.ofInt IntKind.u64.bits (y:Int)).toNat:Int)=((x |||y:Nat):Int):=by
 have e:(BitVec.ofInt IntKind.u64.bits (x:Int) |||BitVec.ofInt IntKind.u64.bits (y:Int)).toNat=x |||y:=by
  rw[BitVec.toNat_or]
  have h1:(BitVec.ofInt IntKind.u64.bits (x:Int)).toNat=x:=by
   show (BitVec.ofInt 64 (x:Int)).toNat=x
   simp only[BitVec.toNat_ofInt];omega
  have h2:(BitVec.ofInt IntKind.u64.bits (y:Int)).toNat=y:=by
   show (BitVec.ofInt 64 (y:Int)).toNat=y
   simp only[BitVec.toNat_ofInt];omega
  rw[h1,h2]
 rw[e];have:x |||y<2 ^ 64:=Nat.or_lt_two_pow hx hy;exact nE ⟨by omega,by omega⟩
theorem JJ (b:Nat):IntKind.u64.wrap (1*2 ^ min ((b%64:Nat):Int).toNat IntKind.u64.bits)=((2 ^ (b%64):Nat):Int):=by
 have hb:b%64<64:=Nat.mod_lt _ (by decide);have h1:min ((b%64:Nat):Int).toNat IntKind.u64.bits=b%64:=by show min _ 64=_;simp;omega
 rw[h1,Int.one_mul];have h2:2 ^ (b%64)<2 ^ 64:=Nat.pow_lt_pow_right (by decide) hb;have h3:((2:Int) ^ (b%64))=((2 ^ (b%64):Nat):Int):=by push_cast;rfl
 rw[h3];generalize 2 ^ (b%64)=p at *;exact nE ⟨by omega,by omega⟩
theorem Ma {x:Nat}(hx:x<18446744073709551616):IntKind.u64.wrap ((BitVec.ofInt IntKind.u64.bits (x:Int) &&& BitVec.ofInt IntKind.u64.bits 1).toNat:Int)=((x%2:Nat):Int):=by
 have e:(BitVec.ofInt IntKind.u64.bits (x:Int) &&& BitVec.ofInt IntKind.u64.bits 1).toNat=x%2:=by
  rw[BitVec.toNat_and]
  have h1:(BitVec.ofInt IntKind.u64.bits (x:Int)).toNat=x:=by
   show (BitVec.ofInt 64 (x:Int)).toNat=x
   simp only[BitVec.toNat_ofInt];omega
  rw[h1]
  show x &&& 1=_
  exact Nat.and_one_is_mod x
 rw[e];exact nE ⟨by omega,by omega⟩
theorem JI (x:Nat) (b:Nat) (hb:b<64):((x:Int)).fdiv (2 ^ min ((b:Nat):Int).toNat IntKind.u64.bits)=((x >>> b:Nat):Int):=by
 have h1:min ((b:Nat):Int).toNat IntKind.u64.bits=b:=by show min _ 64=_;simp;omega
 rw[h1,Nat.shiftRight_eq_div_pow];have h3:((2:Int) ^ b)=((2 ^ b:Nat):Int):=by push_cast;rfl
 rw[h3,Int.fdiv_eq_ediv_of_nonneg _ (Int.natCast_nonneg _)]
 push_cast;rfl
theorem GZ (s b:Nat):(BD s (b / 64) >>> (b%64))%2=(s.testBit b).toNat:=by
 have h:=kV s (b / 64) (b%64);rw[show 64*(b / 64)+b%64=b from Nat.div_add_mod b 64] at h;have hb:b%64<64:=Nat.mod_lt _ (by decide);simp only[hb,decide_true,Bool.true_and] at h;rw[Nat.shiftRight_eq_div_pow,←Nat.toNat_testBit,h]
def dW (k s:Nat) (v:Value):List Value:=[.int .i64 k,eV s 0,eV s 1,eV s 2,eV s 3,v]
inductive cq (h:aD) (O:Nat→Prop):List Value→Nd→Prop
 |mk (k s:Nat) (kids:List Nd) (oa:Option Addr) (n c:Nat) (css:Nat→List Value) (hl:kids.length=n) (hc:n≤c) (hm:c≤maxLen)
  (hr:∀i x,kids[i]? =some x→∃b o,oa=some ⟨b,o,none⟩∧¬O b∧Lw.rowAt h b (o+i*6) (css i)) (hk:∀i x,kids[i]? =some x→cq h O (css i) x):cq h O (dW k s (.slice oa n c)) (.mk k s kids)
theorem cq.len (k:cq h O cs x):cs.length=6:=by cases k;rfl
theorem cq.one (k:cq h O cs x):∀v∈cs,v.oneCell'=true:=by
 cases k;intro v hv;simp[dW,eV] at hv
 rcases hv with rfl|rfl|rfl|rfl|rfl|rfl<;>rfl
theorem cq.mv {h':aD}{O':Nat→Prop}(k:cq h O cs x) (m:Mv O O' h h'):cq h' O' cs x:=by
 induction k with
 |mk k s kids oa n c css hl hc hm hr hk ih =>
  refine .mk k s kids oa n c css hl hc hm (fun i x hx=>?_) ih;obtain⟨b,o,ha,ho,hrow⟩:=hr i x hx;have hne:css i≠[]:=by intro e;have:=(hk i x hx).len;rw[e] at this;cases this
  exact⟨b,o,ha,(m.block b (eM hrow hne) ho).2,m.rowAt ho hrow⟩
def su:gG Nd:=⟨6,by decide,cq,cq.len,cq.one,cq.mv⟩
theorem cq.ax {h h':aD}{O:Nat→Prop}{cs:List Value}{x:Nd}(k:cq h O cs x) (e:aF h h'):cq h' O cs x:=k.mv (Mv.ax e)
theorem cq.of {v:Value}{kids:List Nd}(k s:Nat) (hv:bU su h O v kids):cq h O (dW k s v) (.mk k s kids):=by
 obtain⟨oa,n,c,rfl,hl,hc,hm,hg⟩:=hv
 have hx:∀i,i<n→∃cs:List Value,∃x,kids[i]? =some x∧(∃b o,oa=some ⟨b,o,none⟩∧¬O b∧Lw.rowAt h b (o+i*6) cs)∧cq h O cs x:=by
  intro i hi;obtain⟨b,o,cs,h1,h2,h3,h4⟩:=hg i kids[i] (List.getElem?_eq_getElem (by omega));exact⟨cs,kids[i],List.getElem?_eq_getElem (by omega),⟨b,o,h1,h2,h3⟩,h4⟩
 refine .mk k s kids oa n c (fun i=>if hi:i<n then Classical.choose (hx i hi) else []) hl hc hm (fun i x hxi=>?_) (fun i x hxi=>?_)
 · have hi:i<n:=by rw[←hl];exact(List.getElem?_eq_some_iff.1 hxi).1
   simp only[dif_pos hi];obtain⟨y,_,h2,_⟩:=Classical.choose_spec (hx i hi);exact h2
 · have hi:i<n:=by rw[←hl];exact(List.getElem?_eq_some_iff.1 hxi).1
   simp only[dif_pos hi];obtain⟨y,h1,_,h3⟩:=Classical.choose_spec (hx i hi);rw[h1] at hxi;cases hxi;exact h3
theorem cq.open (k:cq h O cs x):∃v,cs=dW x.kind x.set v∧bU su h O v x.kids:=by
 cases k with
 |mk k s kids oa n c css hl hc hm hr hk =>
  exact⟨_,rfl,oa,n,c,rfl,hl,hc,hm,fun i x hx=>by
   obtain⟨b,o,h1,h2,h3⟩:=hr i x hx;exact⟨b,o,css i,h1,h2,h3,hk i x hx⟩⟩
def bs (l:List UInt8):ByteArray:=⟨l.toArray⟩
theorem gC (l:List UInt8):(bs l).data.toList=l:=by simp[bs]
theorem KT (s:ByteArray):bs s.data.toList=s:=by simp[bs]
theorem bp (l:List UInt8):(bs l).size=l.length:=by simp[bs,ByteArray.size]
theorem bB (l m:List UInt8):bs l++bs m=bs (l++m):=by
 apply ByteArray.ext
 simp[bs]
theorem dx {l m:List UInt8}(h:bs l=bs m):l=m:=by have:=congrArg (fun x=>x.data.toList) h;simpa [bs] using this
theorem Dg (l m:List UInt8):decide (bs l=bs m)=decide (l=m):=by
 rw[decide_eq_decide];exact⟨dx,fun h=>by rw[h]⟩
theorem jV (l:List UInt8):decide (bs l=(⟨#[]⟩:ByteArray))=decide (l=[]):=Dg l []
theorem eF {l:List UInt8}{i:Nat}{c:UInt8}(h:l[i]? =some c):(bs l).data[i]? =some c:=by simpa [bs] using h
theorem fm (l:List UInt8) (i:Nat):(bs l).extract i (bs l).size=bs (l.drop i):=by
 apply ByteArray.ext
 apply Array.ext'
 rw[ByteArray.data_extract,Array.toList_extract,List.extract_eq_take_drop];rw[bp];simp only[bs];exact List.take_of_length_le (by simp)
theorem qD (l:List UInt8) (i j:Nat) (_h:i≤j):(bs l).extract i j=bs ((l.take j).drop i):=by
 apply ByteArray.ext
 apply Array.ext'
 rw[ByteArray.data_extract,Array.toList_extract,List.extract_eq_take_drop];simp only[bs];rw[List.drop_take]
theorem JD (c d:UInt8):decide (((c.toNat:Nat):Int)≠((d.toNat:Nat):Int))=decide (c≠d):=by
 rw[decide_eq_decide];exact⟨fun h e=>h (by rw[e]),fun h e=>h (UInt8.toNat_inj.1 (by omega))⟩
theorem Ia (c d:UInt8):decide (((c.toNat:Nat):Int)=((d.toNat:Nat):Int))=decide (c=d):=by
 rw[decide_eq_decide];exact⟨fun e=>UInt8.toNat_inj.1 (by omega),fun e=>by rw[e]⟩
theorem dh {c:UInt8}{k:Nat}{d:UInt8}(hd:d.toNat=k):(((c.toNat:Nat):Int)=(k:Int))↔c=d:=by
 subst hd;exact⟨fun e=>UInt8.toNat_inj.1 (by omega),fun e=>by rw[e]⟩
end
end Go.Proofs.YtedocgkapmeceaaGreatDoor

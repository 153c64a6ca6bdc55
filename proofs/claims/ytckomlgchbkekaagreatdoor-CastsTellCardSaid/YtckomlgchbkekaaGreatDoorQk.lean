/- What the proof of the statement leans on (part 11). -/
import Derived.WalkSmall
import Derived.MapKept
import Derived.Test.YtckomlgchbkekaaGreatDoorQj

namespace Go.Lw
open Go.RowKit
section
variable {α β:Type}{m:Nat}{t:TypeId}
def jG {α β:Type}[DecidableEq α] (k:α):List (α×β)->Option β
 | []=>none
 |(a,b)::r=>if k=a then some b else jG k r
def eJ {α β:Type}(ek:α->Value) (ev:β->Value) (h:ai) (m:Nat) (l:List (α×β)):Prop :=
 ∃es clock,h[m]? =some (.map es clock)/\es.toList.map (fun e=>(e.key,e.val))=l.map fun p=>(ek p.1,ev p.2)
theorem eJ.lt {ek:α->Value}{ev:β->Value}{h:ai}{l:List (α×β)}(k:eJ ek ev h m l):m<h.size:=by
 obtain⟨_,_,h1,_⟩:=k;exact(Array.getElem?_eq_some_iff.1 h1).1
theorem eJ.ext {ek:α->Value}{ev:β->Value}{M:Nat->Prop}{h h':ai}{l:List (α×β)}(k:eJ ek ev h m l) (x:Ext M h h') (hm:¬M m):eJ ek ev h' m l:=by
 have hlt:=k.lt;obtain⟨es,c,h1,h2⟩:=k;exact⟨es,c,(x.block m hlt hm).trans h1,h2⟩
structure iK (kd:TypeDesc){α:Type}[DecidableEq α] (ek:α->Value):Prop where
 same:∀a b,Instr.sameNow kd (ek a) (ek b)=some (decide (a=b))
 plain:∀P w (t:TypeId) empty n a,P.underlying t=some kd->(Instr.checkKey empty (n+1) t (ek a)).run P w= .ok () w
theorem iK.int (q:IntKind):iK (.int q) (α:=Int) (.int q) where
 same:=fun a b=>by
  show (if q=q then some (a ==b) else none)=_
  rw[if_pos rfl,zi]
 plain:=fun P w t empty n a hu=>by
  unfold Instr.checkKey;rw[Sem.run_bind,run_underlying hu w];rfl
theorem iJ:iK .string (α:=ByteArray) .string where
 same:=fun a b=>by
  show some (a ==b)=_
  congr 1
  cases a with|mk x=>cases b with|mk y =>
  show (x ==y)=_
  rw[Bool.eq_iff_iff];simp
 plain:=fun P w t empty n a hu=>by
  unfold Instr.checkKey;rw[Sem.run_bind,run_underlying hu w];rfl
theorem lR {kd:TypeDesc}{α β:Type}[DecidableEq α]{ek:α->Value}{ev:β->Value}(K:iK kd ek) (k:α):∀(es:List MapEntry) (l:List (α×β)) (i:Nat),es.map (fun e=>(e.key,e.val))=l.map (fun p=>(ek p.1,ev p.2)) ->
 ∃j,Instr.findNow kd (ek k) es i=some ((jG k l).map fun b=>(j,ev b))
 | [],[],i,_=>⟨0,rfl⟩
 | [],_::_,i,h=>by simp at h
 |_::_,[],i,h=>by simp at h
 |e::es,(a,b)::l,i,h=>by
  simp only[List.map_cons,List.cons.injEq,Prod.mk.injEq] at h;obtain⟨⟨h1,h2⟩,h3⟩:=h;unfold Instr.findNow;rw[h1,K.same]
  by_cases hk:k=a
  · subst hk;refine⟨i,?_⟩;simp[jG,h2]
  · obtain⟨j,hj⟩:=lR K k es l (i+1) h3;refine⟨j,?_⟩;simp[hk,jG,hj]
section
variable {P:Program}{ρ:Env}{h:ai}{dst:Option Nat}{ty:TypeId}{pos:String}{after:Array Edge}{guard:Option (Nat×Bool)}{X:List PanicEntry->ai->Prop}
theorem rP {kd:TypeDesc}[DecidableEq α]{ek:α->Value}{ev:β->Value}(K:iK kd ek){kt et:TypeId}{z:Value}{k:α}{l:List (α×β)}{w:World}{ok:Bool}(ht:P.underlying t=some (.map kt et)) (hk:P.underlying kt=some kd)
 (hz:(P.info? et).bind (·.zero)=some z) (hm:eJ ek ev w.heap m l):(Instr.lookup t (.map (some m)) (ek k) ok).run P w= .ok (if ok then .tuple #[((jG k l).map ev).getD z,.bool (jG k l).isSome] else ((jG k l).map ev).getD z) w:=by
 obtain⟨es,c,h1,h2⟩:=hm;obtain⟨j,hj⟩:=lR (ev:=ev) K k es.toList l 0 h2
 have hfind:(Instr.findKey kt (ek k) es.toList).run P w= .ok ((jG k l).map fun b=>(j,ev b)) w:=by
  unfold Instr.findKey;rw[Sem.run_bind,run_underlying hk w];simp[hj]
 have hzero:(zeroValue et).run P w= .ok z w:=by
  cases hi:P.info? et with
  |none=>simp[hi] at hz
  |some i=>simp[hi] at hz;simp[zeroValue,typeInfo,hi,hz]
 unfold Instr.lookup;rw[Sem.run_bind,run_underlying ht w];simp only[Result.andThen_ok,Sem.run_bind,MapKept.run_getObj_map h1,Sem.run_pure,K.plain P w kt _ 9999 k hk,hfind];cases ha:jG k l with
 |none=>cases ok<;>simp[hzero]
 |some b=>cases ok<;>simp
theorem an.lookup {kd:TypeDesc}{α β:Type}[DecidableEq α]{ek:α->Value}{ev:β->Value}(K:iK kd ek){t kt et:TypeId}{z:Value}{k:α}{m:Nat}{l:List (α×β)}{x y:Operand}{u:Value}(ht:P.underlying t=some (.map kt et)) (hk:P.underlying kt=some kd)
 (hz:(P.info? et).bind (·.zero)=some z) (hx:aT ρ x=some (.map (some m))) (hy:aT ρ y=some u) (hu:u=ek k) (hm:eJ ek ev h m l):an P ⟨dst,.lookup t x y false,ty,pos,after,guard⟩ ρ h (((jG k l).map ev).getD z):=by
 intro n B a w hf ha;subst hu;have:=rP (P:=P) (ok:=false) K ht hk hz (w:=w) (by rw[ha.heap];exact hm) (k:=k);simp[execOp,hf.eval hx,hf.eval hy,this]
theorem an.sF {kd:TypeDesc}[DecidableEq α]{ek:α->Value}{ev:β->Value}(K:iK kd ek){kt et:TypeId}{z:Value}{k:α}{l:List (α×β)}{x y:Operand}{u:Value}(ht:P.underlying t=some (.map kt et)) (hk:P.underlying kt=some kd)
 (hz:(P.info? et).bind (·.zero)=some z) (hx:aT ρ x=some (.map (some m))) (hy:aT ρ y=some u) (hu:u=ek k) (hm:eJ ek ev h m l):an P ⟨dst,.lookup t x y true,ty,pos,after,guard⟩ ρ h (.tuple #[((jG k l).map ev).getD z,.bool (jG k l).isSome]):=by
 intro n B a w hf ha;subst hu;have:=rP (P:=P) (ok:=true) K ht hk hz (w:=w) (by rw[ha.heap];exact hm) (k:=k);simp[execOp,hf.eval hx,hf.eval hy,this]
theorem an.No {x:Operand}{k:IntKind}{i:Int}(hx:aT ρ x=some (.int k i)) :
 an P ⟨dst,.unOp .xor t x,ty,pos,after,guard⟩ ρ h (.int k (k.wrap (BitVec.ofInt k.bits (if k.signed then -1 else k.max) ^^^ BitVec.ofInt k.bits i).toNat)):=by
 intro _ B a w hf _;simp[execOp,Op.unary,Op.intBits,hf.eval hx]
theorem cF {x:Operand}{t:TypeId}{v:Value}{Φ:Value->ai->Prop}(hx:aT ρ x=some (.iface t v)) (hX:X [{ v:=.iface t v,recovered:=false }] h):aH P ⟨dst,.panic x,ty,pos,after,guard⟩ ρ h Φ X:=by
 intro n B a w hf ha next Q _ hq
 unfold Oper.wp;simp only[execOp,hf.eval hx,Sem.run_bind,run_panic_iface];exact hq _ h w ha hX
end
end
end Go.Lw

/- Part 12. -/
import Derived.WalkSmall
import Derived.MapKept
import Derived.Test.YtnjahnbpnpkmhaaGreatDoorQk

namespace Go.Lw
open Go.RowKit
section
variable {α β:Type}{m:Nat}{t:TypeId}
def mY {α β:Type}[DecidableEq α] (k:α):List (α×β)->Option β
 | []=>none
 |(a,b)::r=>if k=a then some b else mY k r
def fU {α β:Type}(ek:α->Value) (ev:β->Value) (h:aq) (m:Nat) (l:List (α×β)):Prop :=
 ∃es clock,h[m]? =some (.map es clock)/\es.toList.map (λe=>(e.key,e.val))=l.map λp=>(ek p.1,ev p.2)
theorem fU.lt {ek:α->Value}{ev:β->Value}{h:aq}{l:List (α×β)}(k:fU ek ev h m l):m<h.size:=by
 obtain⟨_,_,h1,_⟩:=k;exact(Array.getElem?_eq_some_iff.1 h1).1
theorem fU.ext {ek:α->Value}{ev:β->Value}{M:Nat->Prop}{h h':aq}{l:List (α×β)}(k:fU ek ev h m l) (x:Ext M h h') (hm:¬M m):fU ek ev h' m l:=by
 have I:=k.lt;obtain⟨es,c,h1,J⟩:=k;exact⟨es,c,(x.block m I hm).trans h1,J⟩
structure kR (kd:TypeDesc){α:Type}[DecidableEq α] (ek:α->Value):Prop where
 same:∀a b,Instr.sameNow kd (ek a) (ek b)=some (decide (a=b))
 plain:∀P w (t:TypeId) empty n a,P.underlying t=some kd->(Instr.checkKey empty (n+1) t (ek a)).run P w= .ok () w
theorem kR.int (q:IntKind):kR (.int q) (α:=Int) (.int q) where
 same:=λa b=>by
  show (if q=q then some (a ==b) else none)=_
  rw[if_pos rfl,BR]
 plain:=λP w t empty n a hu=>by
  unfold Instr.checkKey;rw[Sem.run_bind,run_underlying hu w];rfl
theorem kQ:kR .string (α:=ByteArray) .string where
 same:=λa b=>by
  show some (a ==b)=_
  congr 1
  cases a with|mk x=>cases b with|mk y =>
  show (x ==y)=_
  rw[Bool.eq_iff_iff];simp
 plain:=λP w t empty n a hu=>by
  unfold Instr.checkKey;rw[Sem.run_bind,run_underlying hu w];rfl
theorem pE {kd:TypeDesc}{α β:Type}[DecidableEq α]{ek:α->Value}{ev:β->Value}(K:kR kd ek) (k:α):∀(es:List MapEntry) (l:List (α×β)) (i:Nat),es.map (λe=>(e.key,e.val))=l.map (λp=>(ek p.1,ev p.2)) ->
 ∃j,Instr.findNow kd (ek k) es i=some ((mY k l).map λb=>(j,ev b))
 | [],[],i,_=>⟨0,rfl⟩
 | [],_::_,i,h=>by simp at h
 |_::_,[],i,h=>by simp at h
 |e::es,(a,b)::l,i,h=>by
  simp only[List.map_cons,List.cons.injEq,Prod.mk.injEq] at h;obtain⟨⟨h1,U⟩,J⟩:=h;unfold Instr.findNow;rw[h1,K.same]
  by_cases hk:k=a
  · subst hk;refine⟨i,?_⟩;simp[mY,U]
  · obtain⟨j,I⟩:=pE K k es l (i+1) J;refine⟨j,?_⟩;simp[hk,mY,I]
section
variable {P:Program}{ρ:Env}{h:aq}{dst:Option Nat}{ty:TypeId}{pos:String}{after:Array Edge}{guard:Option (Nat×Bool)}{X:List PanicEntry->aq->Prop}
theorem wH {kd:TypeDesc}[DecidableEq α]{ek:α->Value}{ev:β->Value}(K:kR kd ek){kt et:TypeId}{z:Value}{k:α}{l:List (α×β)}{w:World}{ok:Bool}(U:P.underlying t=some (.map kt et)) (hk:P.underlying kt=some kd)
 (J:(P.info? et).bind (·.zero)=some z) (hm:fU ek ev w.heap m l):(Instr.lookup t (.map (some m)) (ek k) ok).run P w= .ok (if ok then .tuple #[((mY k l).map ev).getD z,.bool (mY k l).isSome] else ((mY k l).map ev).getD z) w:=by
 obtain⟨es,c,h1,Z⟩:=hm;obtain⟨j,Y⟩:=pE (ev:=ev) K k es.toList l 0 Z
 have I:(Instr.findKey kt (ek k) es.toList).run P w= .ok ((mY k l).map λb=>(j,ev b)) w:=by
  unfold Instr.findKey;rw[Sem.run_bind,run_underlying hk w];simp[Y]
 have hzero:(zeroValue et).run P w= .ok z w:=by
  cases hi:P.info? et with
  |none=>simp[hi] at J
  |some i=>simp[hi] at J;simp[zeroValue,typeInfo,hi,J]
 unfold Instr.lookup;rw[Sem.run_bind,run_underlying U w];simp only[Result.andThen_ok,Sem.run_bind,MapKept.run_getObj_map h1,Sem.run_pure,K.plain P w kt _ 9999 k hk,I];cases ha:mY k l with
 |none=>cases ok<;>simp[hzero]
 |some b=>cases ok<;>simp
theorem rK {kd:TypeDesc}{α β:Type}[DecidableEq α]{ek:α->Value}{ev:β->Value}(K:kR kd ek){t kt et:TypeId}{z:Value}{k:α}{m:Nat}{l:List (α×β)}{x y:Operand}{u:Value}(Z:P.underlying t=some (.map kt et)) (hk:P.underlying kt=some kd)
 (J:(P.info? et).bind (·.zero)=some z) (Y:bp ρ x=some (.map (some m))) (U:bp ρ y=some u) (hu:u=ek k) (hm:fU ek ev h m l):az P ⟨dst,.lookup t x y false,ty,pos,after,guard⟩ ρ h (((mY k l).map ev).getD z):=by
 intro n B a w I ha;subst hu;have:=wH (P:=P) (ok:=false) K Z hk J (w:=w) (by rw[ha.heap];exact hm) (k:=k);simp[execOp,I.eval Y,I.eval U,this]
theorem az.xq {kd:TypeDesc}[DecidableEq α]{ek:α->Value}{ev:β->Value}(K:kR kd ek){kt et:TypeId}{z:Value}{k:α}{l:List (α×β)}{x y:Operand}{u:Value}(Z:P.underlying t=some (.map kt et)) (hk:P.underlying kt=some kd)
 (J:(P.info? et).bind (·.zero)=some z) (Y:bp ρ x=some (.map (some m))) (U:bp ρ y=some u) (hu:u=ek k) (hm:fU ek ev h m l):az P ⟨dst,.lookup t x y true,ty,pos,after,guard⟩ ρ h (.tuple #[((mY k l).map ev).getD z,.bool (mY k l).isSome]):=by
 intro n B a w I ha;subst hu;have:=wH (P:=P) (ok:=true) K Z hk J (w:=w) (by rw[ha.heap];exact hm) (k:=k);simp[execOp,I.eval Y,I.eval U,this]
theorem az.Ot {x:Operand}{k:IntKind}{i:Int}(I:bp ρ x=some (.int k i)) :
 az P ⟨dst,.unOp .xor t x,ty,pos,after,guard⟩ ρ h (.int k (k.wrap (BitVec.ofInt k.bits (if k.signed then -1 else k.max) ^^^ BitVec.ofInt k.bits i).toNat)):=by
 intro _ B a w J _;simp[execOp,Op.unary,Op.intBits,J.eval I]
theorem dJ {x:Operand}{t:TypeId}{v:Value}{Φ:Value->aq->Prop}(I:bp ρ x=some (.iface t v)) (Z:X [{ v:=.iface t v,recovered:=false }] h):aV P ⟨dst,.panic x,ty,pos,after,guard⟩ ρ h Φ X:=by
 intro n B a w U Y next Q _ J
 unfold Oper.wp;simp only[execOp,U.eval I,Sem.run_bind,run_panic_iface];exact J _ h w Y Z
end
end
end Go.Lw

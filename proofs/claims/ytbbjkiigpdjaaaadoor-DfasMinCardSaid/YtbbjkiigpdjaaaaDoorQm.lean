/- What the proof of the statement leans on (part 13). -/
import Derived.Lib.ConvBytes
import Derived.Lib.AtoiErrMem
import Derived.Laws.Runes
import Derived.Lib.MakeNoZero
import Derived.Laws.CopyOwn
import Derived.Test.YtbbjkiigpdjaaaaDoorQl

namespace Go.Lw
class mR (P:Program) (t:TypeId) (d:outParam TypeDesc):Prop where e:P.underlying t=some d
class n7 (P:Program) (t:TypeId) (n:outParam Nat):Prop where e:cG P t=some n
class mX (P:Program) (t:TypeId) (b:outParam Bool):Prop where e:aZ P t=some b
class Ae (P:Program) (t:TypeId) (s b:outParam Nat):Prop where e:dH P t s b
class CZ (P:Program) (t:TypeId) (z:outParam Value):Prop where e:(P.info? t).bind (·.zero)=some z
class cA (P:Program) (f:FuncId) (fn:outParam Func):Prop where e:P.funcs[f]? =some fn
class Cx (P:Program):Prop where e:(P.funcs.toList.all fun fn=> !(fn.name == "runtime.NumGoroutine"))=true
class EG (P:Program):Prop where e:P.follows .mixedOrders=true
class FX (P:Program) (t:TypeId):Prop where e:P.concrete t=true
class pU (P:Program) (t:TypeId) (i:Nat) (off:outParam Nat):Prop where
 e:∃fs fd k,P.underlying t=some (.struct fs)/\fs[i]? =some fd/\fd.offset=off/\cG P fd.type=some (k+1)
class Gr (P:Program) (t:TypeId) (i:Nat) (off:outParam Nat):Prop where
 e:∃fs fd,P.underlying t=some (.struct fs)/\fs[i]? =some fd/\fd.offset=off/\aZ P fd.type=some false
section
variable {f:FuncId}{fn:Func}{t e:TypeId}{x y:Operand}{i b sz n d bytes:Nat}{o:Oper}{v:Value}{cs vs:List Value}{k:IntKind}{j:Int}{xs:Array Operand}{ts:Array TypeId}{Φ:Value->af->Prop}{ops:Array Oper}{σ:Type}{rs:List ResultVar}
theorem Cx.at {P:Program}[g:Cx P] (h:P.funcs[f]? =some fn):(fn.name == "runtime.NumGoroutine")=false:=by
 have:=List.all_eq_true.1 g.e fn (by simpa using Array.mem_of_getElem? h);simpa using this
section
variable {P:Program}{ρ:Env}{h:af}{dst:Option Nat}{ty:TypeId}{pos:String}{after:Array Edge}{guard:Option (Nat×Bool)}{X:List PanicEntry->af->Prop}
theorem F9 {o off:Nat}[c:pU P t i off] (hx:aO ρ x=some (.pointer (some ⟨b,o,none⟩)):=by exact rfl) :
 av P ⟨dst,.fieldAddr t x i,ty,pos,after,guard⟩ ρ h (.pointer (some ⟨b,o+off,none⟩)):=by
 obtain⟨fs,fd,k,h1,h2,h3,h4⟩:=c.e;exact fL h1 h2 h3 h4 hx
theorem aE {p:Addr}(hx:aO ρ x=some (.pointer (some p))) (hc:cellAt h p=some v) [c:mX P t false] :
 av P ⟨dst,.load t x,ty,pos,after,guard⟩ ρ h v:=dR c.e hx hc
theorem gj {o:Nat}(hx:aO ρ x=some (.pointer (some ⟨b,o,none⟩))) (hc:rowAt h b o cs) [c:mX P t true] [d:n7 P t sz]
 (hn:cs.length=sz:=by first|exact rfl|(simp;done)|(simp;omega)):av P ⟨dst,.load t x,ty,pos,after,guard⟩ ρ h (.agg cs.toArray):=av.iS c.e d.e hx hc hn
theorem bK {oa:Option Addr}{o c:Nat}[u:mR P t (.slice e)] [s:n7 P e sz] (hx:aO ρ x=some (.slice oa n c)) (hy:aO ρ y=some (.int k j)) (i:Nat) (hj:j=i) (ha:oa=some ⟨b,o,none⟩) (hi:i<n:=by omega) :
 av P ⟨dst,.indexAddr t x y,ty,pos,after,guard⟩ ρ h (.pointer (some ⟨b,o+i*sz,none⟩)):=av.gS u.e s.e hx hy i hj ha hi
theorem wZ {o:Nat}[u:mR P t (.array n e)] [s:n7 P e sz] (hx:aO ρ x=some (.pointer (some ⟨b,o,none⟩))) (hy:aO ρ y=some (.int k j)) (i:Nat) (hj:j=i:=by exact rfl) (hi:i<n:=by first|decide|omega) :
 av P ⟨dst,.indexAddr t x y,ty,pos,after,guard⟩ ρ h (.pointer (some ⟨b,o+i*sz,none⟩)):=av.Bb u.e s.e hx hy i hj hi
theorem Al {s:ByteArray}{b:UInt8}[u:mR P t .string] (hx:aO ρ x=some (.string s)) (hy:aO ρ y=some (.int k j)) (i:Nat) (hj:j=i) (hb:s.data[i]? =some b) :
 av P ⟨dst,.index t x y,ty,pos,after,guard⟩ ρ h (.int .u8 b.toNat):=av.wA u.e hx hy i hj hb
def Ek:TypeDesc->Option Value->Option Value
 |.slice _,some (.slice _ n _)=>some (.int .i64 (n:Nat))
 |.string,some (.string s)=>some (.int .i64 (s.size:Nat))
 |.array n _,some _=>some (.int .i64 (n:Nat))
 |_,_=>none
theorem F7 {d:TypeDesc}[u:mR P t d] (e:Ek d (aO ρ x)=some v:=by exact rfl):av P ⟨dst,.call ⟨.builtin .len,#[x],#[t]⟩,ty,pos,after,guard⟩ ρ h v:=by
 unfold Ek at e;split at e<;>cases e
 · rename_i hx;exact av.kD u.e hx
 · rename_i hx;exact av.oD u.e hx
 · rename_i hx;exact av.A0 u.e hx
theorem F5 {off:Nat}{cs:Array Value}[c:Gr P t i off]
 (hx:aO ρ x=some (.agg cs):=by exact rfl) (hv:cs[off]? =some v:=by exact rfl):av P ⟨dst,.field t x i,ty,pos,after,guard⟩ ρ h v:=by
 obtain⟨fs,fd,h1,h2,h3,h4⟩:=c.e;exact av.field h1 h2 h3 h4 hx hv
theorem Ga {yt:TypeId}{i j:Bool}[u:mR P t .bool] (hx:aO ρ x=some (.bool i):=by exact rfl) (hy:aO ρ y=some (.bool j):=by exact rfl) :
 av P ⟨dst,.binOp .eql t x y yt,ty,pos,after,guard⟩ ρ h (.bool (i ==j)):=av.Cf u.e hx hy
theorem F6 {s d:TypeId}{ds:TypeDesc}{k':IntKind}{i:Int}[u:mR P s ds] [w:mR P d (.int k')] (hx:aO ρ x=some (.int k i):=by exact rfl) :
 av P ⟨dst,.convert s d x,ty,pos,after,guard⟩ ρ h (.int k' (k'.wrap i)):=av.yT u.e w.e hx
theorem vj {s d:TypeId}{ds:TypeDesc}{k':IntKind}{i:Int}[u:mR P s ds] [w:mR P d (.int k')] (hx:aO ρ x=some (.int k i)) (hw:k'.wrap i=i) :
 av P ⟨dst,.convert s d x,ty,pos,after,guard⟩ ρ h (.int k' i):=av.Dw u.e w.e hx hw
theorem F8 [c:FX P t] (hx:aO ρ x=some v:=by exact rfl):av P ⟨dst,.makeInterface t x,ty,pos,after,guard⟩ ρ h (.iface t v):=iC c.e hx
def su (ρ:Env):List Operand->Option (List Value)
 | []=>some []
 |x::r=>match aO ρ x with
  |some v=>match su ρ r with
   |some vs=>some (v::vs)
   |none=>none
  |none=>none
theorem nR:∀{xs:List Operand}{vs:List Value},su ρ xs=some vs->xs.map (aO ρ)=vs.map some
 | [],vs,h=>by simp only[su,Option.some.injEq] at h;subst h;rfl
 |x::r,vs,h=>by
  rw[su] at h;split at h
  · rename_i v hv;split at h
    · rename_i us hu;cases h;rw[List.map_cons,List.map_cons,hv,nR hu]
    · cases h
  · cases h
theorem bz (hvs:su ρ xs.toList=some vs) (k:an P f vs.toArray h (b8 Φ)) [c:cA P f fn] [g:Cx P] (hb:fn.body.isSome=true:=by exact rfl) :
 aL P ⟨dst,.call ⟨.value (.func f),xs,ts⟩,ty,pos,after,guard⟩ ρ h Φ X:=gY c.e hb (Cx.at c.e) (nR hvs) (an.BN k)
theorem sQ {X0:List PanicEntry->af->Prop}(hvs:su ρ xs.toList=some vs) (k:an P f vs.toArray h (yp Φ X0)) (hx:∀c h',X0 c h'->X c h') [c:cA P f fn] [g:Cx P] (hb:fn.body.isSome=true:=by exact rfl) :
 aL P ⟨dst,.call ⟨.value (.func f),xs,ts⟩,ty,pos,after,guard⟩ ρ h Φ X:=gY c.e hb (Cx.at c.e) (nR hvs) (an.DV k hx)
theorem wY (hx:aO ρ x=some v:=by exact rfl) :
 aL P ⟨dst,.box t x,ty,pos,after,guard⟩ ρ h (fun u g=>u= .pointer (some ⟨h.size,0,none⟩)/\aB g h.size t v.cells.toList/\ak h g/\g.size=h.size+1) X:=aL.Ev hx
theorem jf {z:Value}[c:CZ P t z] :
 aL P ⟨dst,.alloc t,ty,pos,after,guard⟩ ρ h (fun u g=>u= .pointer (some ⟨h.size,0,none⟩)/\aB g h.size t z.cells.toList/\ak h g/\g.size=h.size+1) X:=aL.yj c.e
theorem n8 {g o:Nat}{cur:List Value}[c:n7 P t 1] (hx:aO ρ x=some (.pointer (some ⟨g,o,none⟩))) (hy:aO ρ y=some v) (hk:aB h g e cur) (h1:v.oneCell'=true:=by exact rfl)
 (hl:o<cur.length:=by first|decide|exact of_decide_eq_true rfl|(simp;done)|(simp;omega)) :
 aL P ⟨dst,.store t x y,ty,pos,after,guard⟩ ρ h (fun u h'=>u=undef/\aB h' g e (cur.set o v)/\Ext (fun b=>b=g) h h'/\h'.size=h.size) X:=aL.ng c.e hx hy hk hl h1
theorem dx {g o:Nat}{cur:List Value}{cs:Array Value}[c:n7 P t sz] (hx:aO ρ x=some (.pointer (some ⟨g,o,none⟩))) (hy:aO ρ y=some (.agg cs)) (hk:aB h g e cur) (h1:∀v∈cs.toList,v.oneCell'=true:=by first|decide|simp[Value.oneCell'])
 (hn:cs.size=sz:=by first|exact rfl|(simp;done)|(simp;omega)) (hl:o+sz<=cur.length:=by first|decide|exact of_decide_eq_true rfl|(simp;done)|(simp;omega)) :
 aL P ⟨dst,.store t x y,ty,pos,after,guard⟩ ρ h (fun u h'=>u=undef/\aB h' g e (over cur o cs.toList)/\Ext (fun b=>b=g) h h'/\h'.size=h.size) X:=aL.iN c.e hx hy hk hn hl h1
theorem oS {size:Nat}{xs news:List Value}{m c base:Nat}{h0:af}[u:mR P t (.slice e)] [w:Ae P e size bytes] (hx:aO ρ x=some v) (hy:aO ρ y=some (.slice (some ⟨h0.size,0,none⟩) m c)) (hown:aj h0 base e size v n xs)
 (hh:h=h0.push (.cells news.toArray e)) (hl:news.length=m*size) (hn:n+m<=1000000000:=by omega) (hbase:base<=h0.size:=by omega)
 (h1:∀u∈news,u.oneCell'=true:=by first|decide|simp[Value.oneCell']) (hby:bytes<=1000:=by decide) :
 aL P ⟨dst,.call ⟨.builtin .append,#[x,y],#[t,t]⟩,ty,pos,after,guard⟩ ρ h (fun v' h'=>aj h' base e size v' (n+m) (xs++news)/\Ext (bw v.ownBlock) h0 h'/\Ext (bw v.ownBlock) h h'/\(∀b,v'.ownBlock=some b->v.ownBlock=some b\/h0.size<=b)) X :=
 aL.eF u.e w.e hx hy hown hh hl h1 hn hby hbase
theorem y3 {size:Nat}{ps:Array (Nat×Operand)}[u:mR P t (.slice e)] [w:Ae P e size bytes] (hps:ps.toList.map (fun p=>(p.1,aO ρ p.2))=[(0,some (.agg cs.toArray))]:=by exact rfl) (hn:cs.length=size:=by exact rfl) (hsz:size<=16777216:=by decide) :
 aL P ⟨dst,.buildSlice t 1 ps,ty,pos,after,guard⟩ ρ h (fun u g=>u= .slice (some ⟨h.size,0,none⟩) 1 1/\g=h.push (.cells cs.toArray e)) X:=aL.sd u.e w.e hps hn hsz
theorem ji {len:Nat}{ps:Array (Nat×Operand)}(us:List Value) [u:mR P t (.slice e)] [w:Ae P e 1 bytes] (hps:ps.toList.map (fun p=>(p.1,aO ρ p.2))=(us.zipIdx.map fun p=>(p.2,p.1)).map (fun p=>(p.1,some p.2)):=by exact rfl)
 (hl:us.length=len:=by exact rfl) (hlen:len<=16777216:=by decide) (h1:∀u∈us,u.oneCell'=true:=by simp[Value.oneCell']) :
 aL P ⟨dst,.buildSlice t len ps,ty,pos,after,guard⟩ ρ h (fun u g=>u= .slice (some ⟨h.size,0,none⟩) len len/\g=h.push (.cells us.toArray e)) X:=aL.tU u.e w.e hps hl hlen h1
end
theorem EK {P:Program}{ρ:Env}{h:af}(k:av P o ρ h v:=by
 first
 |exact xV rfl
 |exact F9
 |exact F7
 |exact av.nT rfl rfl ⟨by omega,by omega⟩
 |exact av.D7 rfl rfl ⟨by omega,by omega⟩
 |exact av.Dk rfl rfl
 |exact av.AT rfl rfl
 |exact wZ rfl rfl _
 |exact F5
 |exact Ga
 |exact F8
 |exact F6
 |exact av.min2 rfl rfl
 |exact av.max2 rfl rfl
 |exact av.DD rfl rfl (by omega)):av P o ρ h v:=k
section
variable {P:Program}{n:Nat}{ops:Array Oper}{i:Nat}{ρ ρ':Env}{h:af}{N:Env->af->Prop}{X:List PanicEntry->af->Prop}
theorem aY (next:RW P n ops (i+1) ((d,v)::ρ) h N X)
 (e:(nth ops.toList i,aF ops ρ o,o.dst,Nat.blt d n)=(some o,some true,some d,true):=by exact rfl) (k:av P o ρ h v:=by exact EK):RW P n ops i ρ h N X:=xp e k next
theorem bN (e:(nth ops.toList i,aF ops ρ o,o.dst)=(some o,some true,none)) (k:aL P o ρ h Φ X) (next:∀v h',Φ v h'->RW P n ops (i+1) ρ h' N X):RW P n ops i ρ h N X:=by
 simp only[Prod.mk.injEq] at e;exact RW.Aj e.1 e.2.1 e.2.2 k next
theorem DJ (next:RW P n ops (i+1) ((d,undef)::ρ) h N X)
 (e:(nth ops.toList i,aF ops ρ o,o.dst,Nat.blt d n)=(some o,some false,some d,true):=by exact rfl):RW P n ops i ρ h N X:=xk e next
theorem FY (next:RW P n ops (i+1) ρ h N X)
 (e:(nth ops.toList i,aF ops ρ o,o.dst)=(some o,some false,none):=by exact rfl):RW P n ops i ρ h N X:=by
 simp only[Prod.mk.injEq] at e;exact RW.D9 e.1 e.2.1 e.2.2 next
def zi (n:Nat) (ops:Array Oper):Nat->Nat->Env->Option (Nat×Env)
 | 0,i,ρ=>some (i,ρ)
 |k+1,i,ρ=>match nth ops.toList i with
  |some o=>match o.dst with
   |some d=>match Nat.blt d n with
    |true=>match aF ops ρ o with
     |some true=>match EN ρ o.op with
      |some v=>zi n ops k (i+1) ((d,v)::ρ)
      |none=>some (i,ρ)
     |some false=>zi n ops k (i+1) ((d,undef)::ρ)
     |none=>some (i,ρ)
    |false=>some (i,ρ)
   |none=>some (i,ρ)
  |none=>some (i,ρ)
theorem uu {j:Nat}:∀(k i:Nat) (ρ:Env),zi n ops k i ρ=some (j,ρ')->RW P n ops j ρ' h N X->RW P n ops i ρ h N X
 | 0,i,ρ,e,next=>by simp only[zi,Option.some.injEq,Prod.mk.injEq] at e;obtain⟨rfl,rfl⟩:=e;exact next
 |k+1,i,ρ,e,next=>by
  rw[zi] at e;have fin:some (i,ρ)=some (j,ρ')->RW P n ops i ρ h N X:=fun e=>by simp only[Option.some.injEq,Prod.mk.injEq] at e;obtain⟨rfl,rfl⟩:=e;exact next
  split at e
  · rename_i o ho;split at e
    · rename_i d hd;split at e
      · rename_i hb;split at e
        · rename_i hw;split at e
          · rename_i v hv;exact RW.bV ho hw hd hb (xV hv) (uu k _ _ e next)
          · exact fin e
        · rename_i hw;exact RW.qD ho hw hd hb (uu k _ _ e next)
        · exact fin e
      · exact fin e
    · exact fin e
  · exact fin e
def Ec (n:Nat) (ops:Array Oper) (i:Nat) (ρ:Env):Option (Nat×Env):=match ur n ops 1 i ρ with
 |some ρ'=>zi n ops 200 (i+1) ρ'
 |none=>none
theorem FZ {j:Nat}(next:RW P n ops j ρ' h N X) (e:Ec n ops i ρ=some (j,ρ'):=by exact rfl):RW P n ops i ρ h N X:=by
 unfold Ec at e;split at e
 · rename_i r hr;exact Ag 1 hr (uu _ _ _ e next)
 · cases e
end
section
variable {P:Program}{n:Nat}{ops:Array Oper}{i:Nat}{ρ ρ':Env}{h:af}{N:Env->Prop}
theorem me (e:(nth ops.toList i,aF ops ρ o,o.dst,Nat.blt d n)=(some o,some true,some d,true)) (k:av P o ρ h v) (next:RQ P n ops (i+1) ((d,v)::ρ) h N):RQ P n ops i ρ h N:=by
 simp only[Prod.mk.injEq] at e;exact RQ.bV e.1 e.2.1 e.2.2.1 e.2.2.2 k next
theorem CH (next:RQ P n ops (i+1) ((d,v)::ρ) h N)
 (e:(nth ops.toList i,aF ops ρ o,o.dst,Nat.blt d n)=(some o,some true,some d,true):=by exact rfl) (k:av P o ρ h v:=by exact EK):RQ P n ops i ρ h N:=me e k next
theorem F3 (next:RQ P n ops (i+1) ((d,undef)::ρ) h N)
 (e:(nth ops.toList i,aF ops ρ o,o.dst,Nat.blt d n)=(some o,some false,some d,true):=by exact rfl):RQ P n ops i ρ h N:=by
 simp only[Prod.mk.injEq] at e;exact RQ.qD e.1 e.2.1 e.2.2.1 e.2.2.2 next
theorem EZ {dst:Option Nat}{ty:TypeId}{pos:String}{after:Array Edge}{guard:Option (Nat×Bool)}
 (k:an P f vs.toArray h (b8 fun u h'=>u=v/\h'=h)) (next:RQ P n ops (i+1) ((d,v)::ρ) h N) [c:cA P f fn] [g:Cx P] (ho:nth ops.toList i=some ⟨dst,.call ⟨.value (.func f),xs,ts⟩,ty,pos,after,guard⟩:=by exact rfl)
 (e:(aF ops ρ ⟨dst,.call ⟨.value (.func f),xs,ts⟩,ty,pos,after,guard⟩,dst,Nat.blt d n)=(some true,some d,true):=by exact rfl) (hb:fn.body.isSome=true:=by exact rfl) (hvs:su ρ xs.toList=some vs:=by exact rfl):RQ P n ops i ρ h N:=by
 simp only[Prod.mk.injEq] at e;exact RQ.Eu ho rfl e.1 e.2.1 e.2.2 c.e hb (Cx.at c.e) (nR hvs) k next
end
def Dc:Op->Bool
 |.makeFunc .. |.lookup .. |.move .. |.assign .. |.pick .. |.binOp .. |.unOp .. |.convert .. |.extract .. |.nilCheck .. |.load .. |.indexAddr .. |.index .. |.fieldAddr .. |.slice .. |.field .. |.build .. |.makeInterface .. =>true
 |.call ⟨.builtin b,_,_⟩=>match b with
  |.len|.cap|.min|.max=>true
  |_=>false
 |_=>false
def Ax (fn:Func):List It->Option (List It)
 |.blk _::k=>some k
 |.scp _::k=>some k
 |.code p::k=>match sub (ai fn) p with
  |.skip=>some k
  |.label .. =>some k
  |.seq .. =>some (.code (0::p):: .code (1::p)::k)
  |.block id _=>some (.code (0::p):: .blk id::k)
  |.scope _=>some (.code (0::p):: .scp (0::p)::k)
  |.exit id=>lY id k
  |_=>none
 |_=>none
def Aw (fn:Func):Nat->List It->Option (List It)
 | 0,k=>some k
 |n+1,k=>match Ax fn k with
  |some k'=>Aw fn n k'
  |none=>some k
def D8 (fn:Func) (k:List It):Option (List It):=match Ax fn k with
 |some k'=>Aw fn 99 k'
 |none=>none
def wr:List Oper->Nat->Bool
 | [],_=>false
 |o::r,i=>match o.dst with
  |some d=>match Nat.beq d i with
   |true=>true
   |false=>wr r i
  |none=>wr r i
def nH (l:List Oper):Env->Env->Option Env
 | [],acc=>some acc
 |(i,v)::r,acc=>match wr l i with
  |true=>nH l r acc
  |false=>match acc.at i with
   |some _=>nH l r acc
   |none=>nH l r ((i,v)::acc)
theorem lB {l:List Oper}{ρ0:Env}:∀{ρ acc ρ1:Env},nH l ρ acc=some ρ1->Sub acc ρ0->(∀j v,wr l j=false->acc.at j=none->ρ.at j=some v->ρ0.at j=some v)->Sub ρ1 ρ0
 | [],acc,ρ1,e,h,_=>by simp only[nH,Option.some.injEq] at e;subst e;exact h
 |(i,v)::r,acc,ρ1,e,h,hr=>by
  rw[nH] at e;have key:∀j u,wr l j=false->acc.at j=none->j≠i->Env.at r j=some u->ρ0.at j=some u:=fun j u h0 h1 h2 h3=>hr j u h0 h1 (by rw[Env.dU,if_neg (Ne.symm h2)];exact h3)
  split at e
  · rename_i hw;exact lB e h fun j u h0 h1 h3=>key j u h0 h1 (fun q=>by subst q;rw[hw] at h0;cases h0) h3
  · rename_i hw;split at e
    · rename_i x hx;exact lB e h fun j u h0 h1 h3=>key j u h0 h1 (fun q=>by subst q;rw[hx] at h1;cases h1) h3
    · rename_i hx;refine lB e ⟨hr i v hw hx (by rw[Env.dU,if_pos rfl]),h⟩ fun j u h0 h1 h3=>?_
      rw[Env.dU] at h1;split at h1
      · cases h1
      · rename_i q;exact key j u h0 h1 (fun q'=>q q'.symm) h3
theorem wq {l:List Oper}{ρ ρ1:Env}(e:nH l ρ []=some ρ1):Sub ρ1 ρ:=lB e trivial fun _ _ _ _ h=>h
section
variable {P:Program}{f:FuncId}{fn:Func}{k k':List It}{ρ ρ':Env}{h:af}{R:Ending->af->Prop}{p:List Nat}
theorem uh (e:Ax fn k=some k') (next:G P f fn k' ρ h R):G P f fn k ρ h R:=by
 unfold Ax at e;split at e
 · cases e;exact G.oK next
 · cases e;exact G.C9 next
 · split at e
   · rename_i hc;cases e;exact kZ (by rw[hc];rfl) next
   · rename_i hc;cases e;exact CC (by rw[hc];rfl) next
   · rename_i hc;cases e;exact hU (by rw[hc];rfl) next
   · rename_i hc;cases e;exact G.block (by rw[hc];rfl) (by rw[hc];rfl) next
   · rename_i hc;cases e;exact CB (by rw[hc];rfl) next
   · rename_i hc;exact DI (by rw[hc];rfl) (by rw[hc];exact e) next
   · cases e
 · cases e
theorem yB:∀(n:Nat) (k:List It),Aw fn n k=some k'->G P f fn k' ρ h R->G P f fn k ρ h R
 | 0,k,e,next=>by simp only[Aw,Option.some.injEq] at e;subst e;exact next
 |n+1,k,e,next=>by
  rw[Aw] at e;split at e
  · rename_i h1;exact uh h1 (yB n _ e next)
  · cases e;exact next
theorem Gb (next:G P f fn k' ρ h R) (e:D8 fn k=some k':=by exact rfl):G P f fn k ρ h R:=by
 unfold D8 at e;split at e
 · rename_i h1;exact uh h1 (yB _ _ e next)
 · cases e
theorem bT (next:G P f fn k' ρ h R) (e:Ax fn k=some k':=by exact rfl):G P f fn k ρ h R:=uh e next
theorem cU (next:RW P fn.ntmps (opsOf (Lw.sub (ai fn) p)) 0 ρ h (fun ρ' h'=>G P f fn k ρ' h' R) (fun ch h'=>R (.panicked ch) h')) [c:cA P f fn] (hk:kind (Lw.sub (ai fn) p)=5:=by exact rfl):G P f fn (.code p::k) ρ h R:=G.oA c.e hk next
theorem EL (next:RQ P fn.ntmps (opsOf (Lw.sub (ai fn) p)) 0 ρ h (fun ρ'=>G P f fn k ρ' h R)) [c:cA P f fn] [m:EG P] (hk:kind (Lw.sub (ai fn) p)=6:=by exact rfl) (hB:Region.lexB .any (opsOf (Lw.sub (ai fn) p))=true:=by kernel_rfl):G P f fn (.code p::k) ρ h R:=G.CT c.e m.e hk hB next
theorem Gc (next:RQ P fn.ntmps (opsOf (Lw.sub (ai fn) p)) 0 ρ h (fun ρ'=>G P f fn k ρ' h R)) [c:cA P f fn] [m:EG P] (hk:kind (Lw.sub (ai fn) p)=6:=by exact rfl)
 (_:(opsOf (Lw.sub (ai fn) p)).toList.all (fun o=>Dc o.op)=true:=by exact rfl) (hB:Region.lexB .any (opsOf (Lw.sub (ai fn) p))=true:=by kernel_rfl):G P f fn (.code p::k) ρ h R:=G.CT c.e m.e hk hB next
theorem eW {X:List PanicEntry->af->Prop}(next:G P f fn k ρ h R) (e:Nat.ble ops.size i=true:=by exact rfl):RW P n ops i ρ h (fun ρ' h'=>G P f fn k ρ' h' R) X:=fK e next
theorem F4 (next:G P f fn k ρ h R) (e:Nat.ble ops.size i=true:=by exact rfl):RQ P n ops i ρ h (fun ρ'=>G P f fn k ρ' h R):=Co e next
theorem bF {φ:Prop}{_:Decidable φ}(ht:φ->G P f fn (.code (0::p)::k) ρ h R) (hn:¬φ->G P f fn (.code (1::p)::k) ρ h R) (hk:kind (Lw.sub (ai fn) p)=7:=by exact rfl)
 (hc:aO ρ (kL (Lw.sub (ai fn) p))=some (.bool (decide φ)):=by exact rfl):G P f fn (.code p::k) ρ h R:=sM hk hc ht hn
theorem jX {t:Bool}(ht:t=true->G P f fn (.code (0::p)::k) ρ h R) (hn:t=false->G P f fn (.code (1::p)::k) ρ h R) (hk:kind (Lw.sub (ai fn) p)=7:=by exact rfl)
 (hc:aO ρ (kL (Lw.sub (ai fn) p))=some (.bool t):=by exact rfl):G P f fn (.code p::k) ρ h R:=u9 hk hc ht hn
theorem n6 {t:Bool}(hc:aO ρ (kL (Lw.sub (ai fn) p))=some (.bool t)) (hb:¬t=false) (next:G P f fn (.code (0::p)::k) ρ h R) (hk:kind (Lw.sub (ai fn) p)=7:=by exact rfl):G P f fn (.code p::k) ρ h R :=
 u9 hk hc (fun _=>next) (fun e=>absurd e hb)
theorem oe {t:Bool}(hc:aO ρ (kL (Lw.sub (ai fn) p))=some (.bool t)) (hb:¬t=true) (next:G P f fn (.code (1::p)::k) ρ h R) (hk:kind (Lw.sub (ai fn) p)=7:=by exact rfl):G P f fn (.code p::k) ρ h R :=
 u9 hk hc (fun e=>absurd e hb) (fun _=>next)
theorem bU (hR:R (.returned (packed vs)) h) [c:cA P f fn] (hk:kind (Lw.sub (ai fn) p)=4:=by exact rfl) (hr:dS ρ fn.results.toList=some vs:=by exact rfl):G P f fn (.code p::k) ρ h R:=y2 c.e hk hr hR
theorem DK (hR:R (.returned (packed vs)) h) [c:cA P f fn] (hr:dS ρ fn.results.toList=some vs:=by exact rfl):G P f fn [] ρ h R:=G.Ft c.e hr hR
theorem cV (next:G P f fn [.code []] (jE 0 vs) h R) [c:cA P f fn] (hb:fn.body.isSome=true:=by exact rfl) (hn:Nat.ble vs.length fn.ntmps=true:=by exact rfl):an P f vs.toArray h R:=an.of c.e hb hn next
theorem C3 (E:σ->Env) (I:σ->af->Prop) (μ:σ->Nat) (s0:σ) (h0:I s0 h)
 (round:∀s h,I s h->(∀s' {h' ρ'},I s' h'->(hm:μ s' < μ s:=by first|(dsimp only;omega)|omega)->(hs:Sub (E s') ρ':=by exact sb rfl)->G P f fn (.loop (0::p)::k) ρ' h' R)->G P f fn (.code (0::p):: .loop (0::p)::k) (E s) h R)
 (hk:kind (Lw.sub (ai fn) p)=3:=by exact rfl) (hs:Sub (E s0) ρ:=by exact sb rfl):G P f fn (.code p::k) ρ h R :=
 G.loop E I μ s0 hk hs h0 (fun s h hi ih=>round s h hi (fun s' _ _ h1 h2 h3=>ih s' _ _ h3 h1 h2))
end
section
variable {P:Program}{n:Nat}{ops:Array Oper}{M:Nat->Prop}{keeps:Nat->Bool}{fuel:Nat}{listed:Array Bool}{ρ:Env}{h:af}{N:Env->af->Prop}{X:List PanicEntry->af->Prop}
def Eh (ops:Array Oper) (keeps:Nat->Bool) (listed:Array Bool) (i:Nat):Bool:=Region.noSelect ops && (rN ops keeps listed i && (Region.ready .any ops listed).contains i)
theorem bL (i:Nat) (e:(nth ops.toList i,aF ops ρ o,o.dst,Nat.blt d n)=(some o,some true,some d,true)) (k:∀h',Ext M h h'->av P o ρ h' v)
 (next:RD P n ops M keeps fuel (listed.setIfInBounds i true) ((d,v)::ρ) h N X) (hk:Eh ops keeps listed i=true:=by kernel_rfl):RD P n ops M keeps (fuel+1) listed ρ h N X:=by
 simp only[Prod.mk.injEq] at e;simp only[Eh,Bool.and_eq_true] at hk;exact RD.DX i e.1 hk.1 hk.2.1 hk.2.2 e.2.1 e.2.2.1 e.2.2.2 k rfl next
theorem aS (i:Nat) (next:RD P n ops M keeps fuel (listed.setIfInBounds i true) ((d,v)::ρ) h N X) (e:(nth ops.toList i,aF ops ρ o,o.dst,Nat.blt d n)=(some o,some true,some d,true):=by exact rfl)
 (k:∀h',Ext M h h'->av P o ρ h' v:=by intro _ _;exact EK) (hk:Eh ops keeps listed i=true:=by kernel_rfl):RD P n ops M keeps (fuel+1) listed ρ h N X:=bL i e k next hk
theorem FU (i:Nat) (next:RD P n ops M keeps fuel (listed.setIfInBounds i true) ((d,undef)::ρ) h N X) (e:(nth ops.toList i,aF ops ρ o,o.dst,Nat.blt d n)=(some o,some false,some d,true):=by exact rfl)
 (hk:Eh ops keeps listed i=true:=by kernel_rfl):RD P n ops M keeps (fuel+1) listed ρ h N X:=by
 simp only[Prod.mk.injEq] at e;simp only[Eh,Bool.and_eq_true] at hk;exact RD.qD i e.1 hk.1 hk.2.1 hk.2.2 e.2.1 e.2.2.1 e.2.2.2 rfl next
theorem eZ (i:Nat) (e:(nth ops.toList i,aF ops ρ o,o.dst,Nat.blt d n)=(some o,some true,some d,true)) (k:aL P o ρ h Φ X)
 (next:∀v h',Φ v h'->(keeps i=true->Ext M h h')/\RD P n ops M keeps fuel (listed.setIfInBounds i true) ((d,v)::ρ) h' N X) (hr:Region.ready .any ops listed=[i]:=by kernel_rfl):RD P n ops M keeps (fuel+1) listed ρ h N X:=by
 simp only[Prod.mk.injEq] at e;exact RD.Ff i e.1 hr e.2.1 e.2.2.1 e.2.2.2 k rfl next
theorem qp (i:Nat) (e:(nth ops.toList i,aF ops ρ o,o.dst)=(some o,some true,none)) (k:aL P o ρ h Φ X)
 (next:∀v h',Φ v h'->(keeps i=true->Ext M h h')/\RD P n ops M keeps fuel (listed.setIfInBounds i true) ρ h' N X) (hr:Region.ready .any ops listed=[i]:=by kernel_rfl):RD P n ops M keeps (fuel+1) listed ρ h N X:=by
 simp only[Prod.mk.injEq] at e;exact RD.Fg i e.1 hr e.2.1 e.2.2 k rfl next
theorem E0 (i:Nat) (e:(nth ops.toList i,aF ops ρ o,o.dst,Nat.blt d n)=(some o,some true,some d,true)) (k:av P o ρ h v)
 (next:RD P n ops M keeps fuel (listed.setIfInBounds i true) ((d,v)::ρ) h N X) (hr:Region.ready .any ops listed=[i]:=by kernel_rfl):RD P n ops M keeps (fuel+1) listed ρ h N X :=
 eZ i e k.BN (fun u h' hq=>by obtain⟨rfl,rfl⟩:=hq;exact⟨fun _=>Ext.refl _ _,next⟩) hr
theorem BL (i:Nat) (next:RD P n ops M keeps fuel (listed.setIfInBounds i true) ((d,v)::ρ) h N X) (e:(nth ops.toList i,aF ops ρ o,o.dst,Nat.blt d n)=(some o,some true,some d,true):=by exact rfl) (k:av P o ρ h v:=by exact EK)
 (hr:Region.ready .any ops listed=[i]:=by kernel_rfl):RD P n ops M keeps (fuel+1) listed ρ h N X:=E0 i e k next hr
theorem E1 (i j:Nat){oi oj:Oper}{Φ':Value->af->Prop}{di dj:Nat}(ei:(nth ops.toList i,aF ops ρ oi,oi.dst,Nat.blt di n)=(some oi,some true,some di,true)) (ej:(nth ops.toList j,aF ops ρ oj,oj.dst,Nat.blt dj n)=(some oj,some true,some dj,true))
 (ki:aL P oi ρ h Φ X) (kj:aL P oj ρ h Φ' X)
 (nexti:∀v h',Φ v h'->(keeps i=true->Ext M h h')/\RD P n ops M keeps fuel (listed.setIfInBounds i true) ((di,v)::ρ) h' N X)
 (nextj:∀v h',Φ' v h'->(keeps j=true->Ext M h h')/\RD P n ops M keeps fuel (listed.setIfInBounds j true) ((dj,v)::ρ) h' N X) (hr:Region.ready .any ops listed=[i,j]:=by kernel_rfl):RD P n ops M keeps (fuel+1) listed ρ h N X:=by
 simp only[Prod.mk.injEq] at ei ej;exact RD.E2 i j ei.1 ej.1 hr ei.2.1 ej.2.1 ei.2.2.1 ej.2.2.1 ei.2.2.2 ej.2.2.2 ki kj rfl rfl nexti nextj
theorem bH {h0:af}{ρ1:Env}(he:h=h0) (hs:Sub ρ1 ρ:=by exact sb rfl) (e:Nat.ble ops.size i=true:=by exact rfl):RW P n ops i ρ h (fun ρ' h'=>h'=h0/\Sub ρ1 ρ') X:=fK e ⟨he,hs⟩
theorem Ak {E:σ->af->Prop}{F:σ->Env}(s:σ) (hE:E s h) (hs:Sub (F s) ρ:=by exact sb rfl) (e:Nat.ble ops.size i=true:=by exact rfl):RW P n ops i ρ h (fun ρ' h'=>∃s,E s h'/\Sub (F s) ρ') X:=fK e ⟨s,hE,hs⟩
end
section
variable {P:Program}{f:FuncId}{fn:Func}{k:List It}{ρ ρ1:Env}{h:af}{R:Ending->af->Prop}{p:List Nat}
theorem lg {fuel:Nat}{M:Nat->Prop}{keeps:Nat->Bool}{listed:Array Bool}{X:List PanicEntry->af->Prop}(next:G P f fn k ρ h R) (hr:Region.ready .any ops listed=[]:=by kernel_rfl) :
 RD P n ops M keeps fuel listed ρ h (fun ρ' h'=>G P f fn k ρ' h' R) X:=Cq hr next
theorem vg (sz:Nat) (M:Nat->Prop) (keeps:Nat->Bool) (next:RD P fn.ntmps (opsOf (Lw.sub (ai fn) p)) M keeps sz (Array.replicate sz false) ρ h (fun ρ' h'=>G P f fn k ρ' h' R) (fun ch h'=>R (.panicked ch) h')) [c:cA P f fn] [m:EG P]
 (hk:kind (Lw.sub (ai fn) p)=6:=by exact rfl) (hsz:(opsOf (Lw.sub (ai fn) p)).size=sz:=by exact rfl):G P f fn (.code p::k) ρ h R:=BI M keeps c.e m.e hk hsz rfl next
theorem Af (sz bar:Nat) (next:RD P fn.ntmps (opsOf (Lw.sub (ai fn) p)) (fun b=>h.size<=b) (fun i=>Nat.blt i bar) sz (Array.replicate sz false) ρ h (fun ρ' h'=>G P f fn k ρ' h' R) (fun ch h'=>R (.panicked ch) h')) [c:cA P f fn] [m:EG P]
 (hk:kind (Lw.sub (ai fn) p)=6:=by exact rfl) (hsz:(opsOf (Lw.sub (ai fn) p)).size=sz:=by exact rfl):G P f fn (.code p::k) ρ h R:=BI _ _ c.e m.e hk hsz rfl next
theorem jY (new:Env) (e:nH (opsOf (Lw.sub (ai fn) p)).toList ρ []=some ρ1) (oA:RW P fn.ntmps (opsOf (Lw.sub (ai fn) p)) 0 ρ h (fun ρ' h'=>h'=h/\Sub (new++ρ1) ρ') (fun _ _=>False))
 (next:G P f fn k (new++ρ1) h R) [c:cA P f fn] (hk:kind (Lw.sub (ai fn) p)=5:=by exact rfl):G P f fn (.code p::k) ρ h R:=G.AJ new ρ1 (wq e) c.e hk oA next
theorem EM (E:σ->af->Prop) (new:σ->Env) (e:nH (opsOf (Lw.sub (ai fn) p)).toList ρ []=some ρ1) (oA:RW P fn.ntmps (opsOf (Lw.sub (ai fn) p)) 0 ρ h (fun ρ' h'=>∃s,E s h'/\Sub (new s++ρ1) ρ') (fun ch h'=>R (.panicked ch) h'))
 (next:∀s h',E s h'->G P f fn k (new s++ρ1) h' R) [c:cA P f fn] (hk:kind (Lw.sub (ai fn) p)=5:=by exact rfl):G P f fn (.code p::k) ρ h R:=G.Db E new ρ1 (wq e) c.e hk oA next
end
def BM:Code->Nat->Bool
 |.region _ ops _,i=>wr ops.toList i
 |.seq a b,i=>BM a i ||BM b i
 |.cond _ a b,i=>BM a i ||BM b i
 |.block _ b,i=>BM b i
 |.loop b,i=>BM b i
 |.scope b,i=>BM b i
 |.rangeFunc ..,_=>true
 |_,_=>false
def rF (c:Code):Env->Env->Option Env
 | [],acc=>some acc
 |(i,v)::r,acc=>match BM c i with
  |true=>rF c r acc
  |false=>match acc.at i with
   |some _=>rF c r acc
   |none=>rF c r ((i,v)::acc)
theorem lA {c:Code}{ρ0:Env}:∀{ρ acc ρ1:Env},rF c ρ acc=some ρ1->Sub acc ρ0->(∀j v,BM c j=false->acc.at j=none->ρ.at j=some v->ρ0.at j=some v)->Sub ρ1 ρ0
 | [],acc,ρ1,e,h,_=>by simp only[rF,Option.some.injEq] at e;subst e;exact h
 |(i,v)::r,acc,ρ1,e,h,hr=>by
  rw[rF] at e;have key:∀j u,BM c j=false->acc.at j=none->j≠i->Env.at r j=some u->ρ0.at j=some u:=fun j u h0 h1 h2 h3=>hr j u h0 h1 (by rw[Env.dU,if_neg (Ne.symm h2)];exact h3)
  split at e
  · rename_i hw;exact lA e h fun j u h0 h1 h3=>key j u h0 h1 (fun q=>by subst q;rw[hw] at h0;cases h0) h3
  · rename_i hw;split at e
    · rename_i x hx;exact lA e h fun j u h0 h1 h3=>key j u h0 h1 (fun q=>by subst q;rw[hx] at h1;cases h1) h3
    · rename_i hx;refine lA e ⟨hr i v hw hx (by rw[Env.dU,if_pos rfl]),h⟩ fun j u h0 h1 h3=>?_
      rw[Env.dU] at h1;split at h1
      · cases h1
      · rename_i q;exact key j u h0 h1 (fun q'=>q q'.symm) h3
theorem yW:∀{a b ρ:Env},Sub a ρ->Sub b ρ->Sub (a++b) ρ
 | [],_,_,_,h=>h
 |(_,_)::_,_,_,⟨h1,h2⟩,h=>⟨h1,yW h2 h⟩
section
variable {P:Program}{f:FuncId}{fn:Func}{k:List It}{ρ ρ1:Env}{h:af}{R:Ending->af->Prop}{p:List Nat}
theorem fG (new:σ->Env) (I:σ->af->Prop) (μ:σ->Nat) (s0:σ) (h0:I s0 h) (e:rF (Lw.sub (ai fn) p) ρ []=some ρ1)
 (round:∀s h,I s h->(∀s' {h' ρ'},I s' h'->(hm:μ s' < μ s:=by first|(dsimp only;omega)|omega)->(hs:Sub (new s'++ρ1) ρ':=by exact sb rfl)->G P f fn (.loop (0::p)::k) ρ' h' R)->G P f fn (.code (0::p):: .loop (0::p)::k) (new s++ρ1) h R)
 (hk:kind (Lw.sub (ai fn) p)=3:=by exact rfl) (hs:Sub (new s0) ρ:=by exact sb rfl):G P f fn (.code p::k) ρ h R :=
 G.loop (fun s=>new s++ρ1) I μ s0 hk (yW hs (lA e trivial fun _ _ _ _ h=>h)) h0 (fun s h hi ih=>round s h hi (fun s' _ _ h1 h2 h3=>ih s' _ _ h3 h1 h2))
theorem jJ:eU P ρ h [] []:=.nil
theorem vf {t:Tmp}(k:eU P ρ h rs vs) (hx:ρ.at t=some v:=by exact rfl):eU P ρ h (.tmp t::rs) (v::vs):=.cons (fT.tmp hx) k
theorem F0 {a:Tmp}{q:Addr}(hx:ρ.at a=some (.pointer (some q))) (hc:cellAt h q=some v) (k:eU P ρ h rs vs) [c:mX P t false]:eU P ρ h (.cell a t::rs) (v::vs):=.cons (fT.cell c.e hx hc) k
theorem jI {a:Tmp}{o:Nat}(hx:ρ.at a=some (.pointer (some ⟨b,o,none⟩))) (hc:rowAt h b o cs) (k:eU P ρ h rs vs) [c:mX P t true] [d:n7 P t sz] (hn:cs.length=sz:=by first|exact rfl|(simp;done)|(simp;omega)) :
 eU P ρ h (.cell a t::rs) (.agg cs.toArray::vs):=.cons (fT.Da c.e d.e hx hc hn) k
theorem jK (hr:eU P ρ h fn.results.toList vs) (hR:R (.returned (packed vs)) h) [c:cA P f fn] (hk:kind (Lw.sub (ai fn) p)=4:=by exact rfl):G P f fn (.code p::k) ρ h R:=G.Fb c.e hk hr hR
end
section
variable {P:Program}{n:Nat}{ops:Array Oper}{i:Nat}{ρ:Env}{h:af}{M:Nat->Prop}{keeps:Nat->Bool}{fuel:Nat}{listed:Array Bool}{X:List PanicEntry->af->Prop}{N:Env->af->Prop}
theorem ie (d:Nat){b:Bool}(ht:b=true->RW P n ops i ((d,.bool true)::ρ) h N X) (hn:b=false->RW P n ops i ((d,.bool false)::ρ) h N X) (hb:ρ.at d=some (.bool b):=by exact rfl):RW P n ops i ρ h N X:=sF hb ht hn
theorem Gd (d:Nat){b:Bool}(ht:b=true->RD P n ops M keeps fuel listed ((d,.bool true)::ρ) h N X) (hn:b=false->RD P n ops M keeps fuel listed ((d,.bool false)::ρ) h N X) (hb:ρ.at d=some (.bool b):=by exact rfl):RD P n ops M keeps fuel listed ρ h N X:=wV hb ht hn
end
structure FR (p:Prop):Prop where
 on:p
theorem aa {g g':Prop}(next:g') (k:FR g'->g:=by
 intro n
 repeat first
  |refine FZ ?_
  |refine aY ?_
  |refine eW ?_
  |refine Gb ?_
  |refine cU ?_
  |refine CH ?_
  |refine F3 ?_
  |refine F4 ?_
  |refine Gc ?_
  |refine FY ?_
 exact n.on):g:=k ⟨next⟩
end
end Go.Lw

/- What the proof of the statement leans on (part 14). -/
import Derived.Lib.MakeNoZero
import Derived.Laws.CopyOwn
import Derived.Test.YtoickfdopobmgaaGreatDoorQm

namespace Go.Lw
open Go.RowKit
section
variable {P:Program}{ρ:Env}{h:ai}{dst:Option Nat}{ty:TypeId}{pos:String}{after:Array Edge}{guard:Option (Nat×Bool)}{X:List PanicEntry->ai->Prop}
theorem ay.C9 {t e:TypeId}{x:Operand}{oa:Option Addr}{n c:Nat}(hu:P.underlying t=some (.slice e)) (hx:aP ρ x=some (.slice oa n c)) :
 ay P ⟨dst,.call ⟨.builtin .cap,#[x],#[t]⟩,ty,pos,after,guard⟩ ρ h (.int .i64 c):=by
 intro _ B a w hf _;simp[execOp,resolve,invoke,builtin,Builtin.cap_,run_underlying hu,hf.eval hx,goInt]
theorem ay.JT {t t' e:TypeId}{x y:Operand}{oa ob:Option Addr}{n c m d:Nat}(hu:P.underlying t=some (.slice e)) (hs:(P.info? e).map (·.size)=some 1) (hx:aP ρ x=some (.slice oa n c)) (hy:aP ρ y=some (.slice ob m d)) (h0:Nat.min m n=0) :
 ay P ⟨dst,.call ⟨.builtin .copy,#[x,y],#[t,t']⟩,ty,pos,after,guard⟩ ρ h (.int .i64 0):=by
 intro _ B a w hf _;have hrun:=run_copy_none (P:=P) w t t' ty e oa ob n c m d hu hs h0;simp[execOp,resolve,invoke,builtin,hf.eval hx,hf.eval hy,hrun,goInt]
theorem aQ.makeNoZero {f:FuncId}{fn:Func}{x:Operand}{ts ps:Array TypeId}{t e:TypeId}{i:Int}(hf:P.funcs[f]? =some fn) (hname:(fn.name == "runtime.NumGoroutine")=false)
 (hb:fn.body.isNone=true) (hn:Extern.findNext fn=none) (he:Extern.find fn=some (Extern.BytealgMakeNoZero.makeNoZero ps #[t])) (ht:P.underlying t=some (.slice e)) (hx:aP ρ x=some (.int .i64 i)) (n:Nat) (hi:i=n) (hle:n<=1000000000) :
 aQ P ⟨dst,.call ⟨.value (.func f),#[x],ts⟩,ty,pos,after,guard⟩ ρ h (fun v g=>∃cs:Array Value,v= .slice (some ⟨h.size,0,none⟩) n cs.size/\g=h.push (.cells cs e)/\n<=cs.size/\cs.size<=maxLen) X:=by
 intro nn B a w hfit ha next Q hq _
 subst hi;obtain⟨cs,hr,h1,h2⟩:=Lib.run_makeNoZero (P:=P) w ps t e ht n (by omega);have hc:=run_callFunc_extern (P:=P) hf hname hb hn he #[.int .i64 n] w;rw[hr] at hc
 have hrun:(execOp a.eval ⟨dst,.call ⟨.value (.func f),#[x],ts⟩,ty,pos,after,guard⟩).run P w= .ok (.value (.slice (some ⟨w.heap.size,0,none⟩) n cs.size)) (w.drew.drew.alloc (.cells cs e)):=by
  simp only[execOp,resolve,Act.eval,Deferred.ofValue,invoke];simp[hfit.eval hx,hc]
 unfold Oper.wp;rw[hrun];refine hq _ (w.heap.push (.cells cs e)) _ ⟨rfl,ha.os,ha.tape,ha.output⟩ ⟨cs,by rw[ha.heap],by rw[ha.heap],h1,h2 (by simp only[maxLen];omega)⟩
end
end Go.Lw
namespace Go.Lw
class lD (P:Program) (t:TypeId) (d:outParam TypeDesc):Prop where e:P.underlying t=some d
class nq (P:Program) (t:TypeId) (n:outParam Nat):Prop where e:cE P t=some n
class lF (P:Program) (t:TypeId) (b:outParam Bool):Prop where e:aS P t=some b
class E4 (P:Program) (t:TypeId) (s b:outParam Nat):Prop where e:eZ P t s b
class Di (P:Program) (t:TypeId) (z:outParam Value):Prop where e:(P.info? t).bind (·.zero)=some z
class bF (P:Program) (f:FuncId) (fn:outParam Func):Prop where e:P.funcs[f]? =some fn
class LG (P:Program):Prop where e:(P.funcs.toList.all fun fn=> !(fn.name == "runtime.NumGoroutine"))=true
class Ny (P:Program):Prop where e:P.follows .mixedOrders=true
class Rr (P:Program) (t:TypeId):Prop where e:P.concrete t=true
class jA (P:Program) (t:TypeId) (i:Nat) (off:outParam Nat):Prop where
 e:∃fs fd k,P.underlying t=some (.struct fs)/\fs[i]? =some fd/\fd.offset=off/\cE P fd.type=some (k+1)
class Sq (P:Program) (t:TypeId) (i:Nat) (off:outParam Nat):Prop where
 e:∃fs fd,P.underlying t=some (.struct fs)/\fs[i]? =some fd/\fd.offset=off/\aS P fd.type=some false
section
variable {f:FuncId}{fn:Func}{t e s:TypeId}{x y:Operand}{i b sz n d size bytes:Nat}{o:Oper}{v:Value}{cs vs:List Value}{k:IntKind}{j:Int}{xs:Array Operand}{ts:Array TypeId}{Φ:Value->ai->Prop}{h0:ai}{ρ1:Env}{ops:Array Oper}{σ:Type}{rs:List ResultVar}
theorem LG.at {P:Program}[g:LG P] (h:P.funcs[f]? =some fn):(fn.name == "runtime.NumGoroutine")=false:=by
 have:=List.all_eq_true.1 g.e fn (by simpa using Array.mem_of_getElem? h);simpa using this
section
variable {P:Program}{ρ:Env}{h:ai}{dst:Option Nat}{ty:TypeId}{pos:String}{after:Array Edge}{guard:Option (Nat×Bool)}{X:List PanicEntry->ai->Prop}
theorem RC {o off:Nat}[c:jA P t i off] (hx:aP ρ x=some (.pointer (some ⟨b,o,none⟩)):=by exact rfl) :
 ay P ⟨dst,.fieldAddr t x i,ty,pos,after,guard⟩ ρ h (.pointer (some ⟨b,o+off,none⟩)):=by
 obtain⟨fs,fd,k,h1,h2,h3,h4⟩:=c.e;exact fW h1 h2 h3 h4 hx
theorem aA {p:Addr}(hx:aP ρ x=some (.pointer (some p))) (hc:cellAt h p=some v) [c:lF P t false] :
 ay P ⟨dst,.load t x,ty,pos,after,guard⟩ ρ h v:=dR c.e hx hc
theorem bY {o:Nat}(hx:aP ρ x=some (.pointer (some ⟨b,o,none⟩))) (hc:rowAt h b o cs) [c:lF P t true] [d:nq P t sz]
 (hn:cs.length=sz:=by first|exact rfl|(simp;done)|(simp;omega)):ay P ⟨dst,.load t x,ty,pos,after,guard⟩ ρ h (.agg cs.toArray):=ay.jT c.e d.e hx hc hn
theorem cz {oa:Option Addr}{o c:Nat}[u:lD P t (.slice e)] [s:nq P e sz] (hx:aP ρ x=some (.slice oa n c)) (hy:aP ρ y=some (.int k j)) (i:Nat) (hj:j=i) (ha:oa=some ⟨b,o,none⟩) (hi:i<n:=by omega) :
 ay P ⟨dst,.indexAddr t x y,ty,pos,after,guard⟩ ρ h (.pointer (some ⟨b,o+i*sz,none⟩)):=ay.jZ u.e s.e hx hy i hj ha hi
theorem zW {o:Nat}[u:lD P t (.array n e)] [s:nq P e sz] (hx:aP ρ x=some (.pointer (some ⟨b,o,none⟩))) (hy:aP ρ y=some (.int k j)) (i:Nat) (hj:j=i:=by exact rfl) (hi:i<n:=by first|decide|omega) :
 ay P ⟨dst,.indexAddr t x y,ty,pos,after,guard⟩ ρ h (.pointer (some ⟨b,o+i*sz,none⟩)):=ay.Js u.e s.e hx hy i hj hi
theorem BA {s:ByteArray}{b:UInt8}[u:lD P t .string] (hx:aP ρ x=some (.string s)) (hy:aP ρ y=some (.int k j)) (i:Nat) (hj:j=i) (hb:s.data[i]? =some b) :
 ay P ⟨dst,.index t x y,ty,pos,after,guard⟩ ρ h (.int .u8 b.toNat):=ay.Jr u.e hx hy i hj hb
def OK:TypeDesc->Option Value->Option Value
 |.slice _,some (.slice _ n _)=>some (.int .i64 (n:Nat))
 |.string,some (.string s)=>some (.int .i64 (s.size:Nat))
 |.array n _,some _=>some (.int .i64 (n:Nat))
 |_,_=>none
theorem RA {d:TypeDesc}[u:lD P t d] (e:OK d (aP ρ x)=some v:=by exact rfl):ay P ⟨dst,.call ⟨.builtin .len,#[x],#[t]⟩,ty,pos,after,guard⟩ ρ h v:=by
 unfold OK at e;split at e<;>cases e
 · rename_i hx;exact ay.Jc u.e hx
 · rename_i hx;exact ay.lV u.e hx
 · rename_i hx;exact ay.Jd u.e hx
theorem Ry {off:Nat}{cs:Array Value}[c:Sq P t i off]
 (hx:aP ρ x=some (.agg cs):=by exact rfl) (hv:cs[off]? =some v:=by exact rfl):ay P ⟨dst,.field t x i,ty,pos,after,guard⟩ ρ h v:=by
 obtain⟨fs,fd,h1,h2,h3,h4⟩:=c.e;exact ay.field h1 h2 h3 h4 hx hv
theorem RG {yt:TypeId}{i j:Bool}[u:lD P t .bool] (hx:aP ρ x=some (.bool i):=by exact rfl) (hy:aP ρ y=some (.bool j):=by exact rfl) :
 ay P ⟨dst,.binOp .eql t x y yt,ty,pos,after,guard⟩ ρ h (.bool (i ==j)):=ay.Lb u.e hx hy
theorem Rz {d:TypeId}{ds:TypeDesc}{k':IntKind}{i:Int}[u:lD P s ds] [w:lD P d (.int k')] (hx:aP ρ x=some (.int k i):=by exact rfl) :
 ay P ⟨dst,.convert s d x,ty,pos,after,guard⟩ ρ h (.int k' (k'.wrap i)):=ay.FO u.e w.e hx
theorem Qb {d:TypeId}{ds:TypeDesc}{k':IntKind}{i:Int}[u:lD P s ds] [w:lD P d (.int k')] (hx:aP ρ x=some (.int k i)) (hw:k'.wrap i=i) :
 ay P ⟨dst,.convert s d x,ty,pos,after,guard⟩ ρ h (.int k' i):=ay.Nj u.e w.e hx hw
theorem Mo {d:TypeId}{O:Nat->Prop}{l:List UInt8}[a:lD P s (.slice e)] [b:lD P e (.int .u8)] [c:lD P d .string] (hx:aP ρ x=some v) (hv:aT .byte h O v l) :
 ay P ⟨dst,.convert s d x,ty,pos,after,guard⟩ ρ h (.string ⟨l.toArray⟩):=ay.Hi a.e b.e c.e hx hv
theorem RB [c:Rr P t] (hx:aP ρ x=some v:=by exact rfl):ay P ⟨dst,.makeInterface t x,ty,pos,after,guard⟩ ρ h (.iface t v):=kV c.e hx
def xC (ρ:Env):List Operand->Option (List Value)
 | []=>some []
 |x::r=>match aP ρ x with
  |some v=>match xC ρ r with
   |some vs=>some (v::vs)
   |none=>none
  |none=>none
theorem rJ:∀{xs:List Operand}{vs:List Value},xC ρ xs=some vs->xs.map (aP ρ)=vs.map some
 | [],vs,h=>by simp only[xC,Option.some.injEq] at h;subst h;rfl
 |x::r,vs,h=>by
  rw[xC] at h;split at h
  · rename_i v hv;split at h
    · rename_i us hu;cases h;rw[List.map_cons,List.map_cons,hv,rJ hu]
    · cases h
  · cases h
theorem aE (hvs:xC ρ xs.toList=some vs) (k:aq P f vs.toArray h (bw Φ)) [c:bF P f fn] [g:LG P] (hb:fn.body.isSome=true:=by exact rfl) :
 aQ P ⟨dst,.call ⟨.value (.func f),xs,ts⟩,ty,pos,after,guard⟩ ρ h Φ X:=rP c.e hb (LG.at c.e) (rJ hvs) (aq.HV k)
theorem xV {X0:List PanicEntry->ai->Prop}(hvs:xC ρ xs.toList=some vs) (k:aq P f vs.toArray h (ES Φ X0)) (hx:∀c h',X0 c h'->X c h') [c:bF P f fn] [g:LG P] (hb:fn.body.isSome=true:=by exact rfl) :
 aQ P ⟨dst,.call ⟨.value (.func f),xs,ts⟩,ty,pos,after,guard⟩ ρ h Φ X:=rP c.e hb (LG.at c.e) (rJ hvs) (aq.N3 k hx)
theorem jj (hx:aP ρ x=some v:=by exact rfl) :
 aQ P ⟨dst,.box t x,ty,pos,after,guard⟩ ρ h (fun u g=>u= .pointer (some ⟨h.size,0,none⟩)/\aD g h.size t v.cells.toList/\aj h g/\g.size=h.size+1) X:=aQ.Pa hx
theorem cO {z:Value}[c:Di P t z] :
 aQ P ⟨dst,.alloc t,ty,pos,after,guard⟩ ρ h (fun u g=>u= .pointer (some ⟨h.size,0,none⟩)/\aD g h.size t z.cells.toList/\aj h g/\g.size=h.size+1) X:=aQ.Bq c.e
theorem mj {g o:Nat}{cur:List Value}[c:nq P t 1] (hx:aP ρ x=some (.pointer (some ⟨g,o,none⟩))) (hy:aP ρ y=some v) (hk:aD h g e cur) (h1:v.oneCell'=true:=by exact rfl)
 (hl:o<cur.length:=by first|decide|exact of_decide_eq_true rfl|(simp;done)|(simp;omega)) :
 aQ P ⟨dst,.store t x y,ty,pos,after,guard⟩ ρ h (fun u h'=>u=undef/\aD h' g e (cur.set o v)/\Ext (fun b=>b=g) h h'/\h'.size=h.size) X:=aQ.jH c.e hx hy hk hl h1
theorem aY {g o:Nat}{cur:List Value}{cs:Array Value}[c:nq P t sz] (hx:aP ρ x=some (.pointer (some ⟨g,o,none⟩))) (hy:aP ρ y=some (.agg cs)) (hk:aD h g e cur) (h1:∀v∈cs.toList,v.oneCell'=true:=by first|decide|simp[Value.oneCell'])
 (hn:cs.size=sz:=by first|exact rfl|(simp;done)|(simp;omega)) (hl:o+sz<=cur.length:=by first|decide|exact of_decide_eq_true rfl|(simp;done)|(simp;omega)) :
 aQ P ⟨dst,.store t x y,ty,pos,after,guard⟩ ρ h (fun u h'=>u=undef/\aD h' g e (over cur o cs.toList)/\Ext (fun b=>b=g) h h'/\h'.size=h.size) X:=aQ.gL c.e hx hy hk hn hl h1
theorem uH {xs news:List Value}{m c base:Nat}[u:lD P t (.slice e)] [w:E4 P e size bytes] (hx:aP ρ x=some v) (hy:aP ρ y=some (.slice (some ⟨h0.size,0,none⟩) m c)) (hown:aB h0 base e size v n xs)
 (hh:h=h0.push (.cells news.toArray e)) (hl:news.length=m*size) (hn:n+m<=1000000000:=by omega) (hbase:base<=h0.size:=by omega)
 (h1:∀u∈news,u.oneCell'=true:=by first|decide|simp[Value.oneCell']) (hby:bytes<=1000:=by decide) :
 aQ P ⟨dst,.call ⟨.builtin .append,#[x,y],#[t,t]⟩,ty,pos,after,guard⟩ ρ h (fun v' h'=>aB h' base e size v' (n+m) (xs++news)/\Ext (cv v.ownBlock) h0 h'/\Ext (cv v.ownBlock) h h'/\(∀b,v'.ownBlock=some b->v.ownBlock=some b\/h0.size<=b)) X :=
 aQ.gG u.e w.e hx hy hown hh hl h1 hn hby hbase
theorem ue {ps:Array (Nat×Operand)}[u:lD P t (.slice e)] [w:E4 P e size bytes] (hps:ps.toList.map (fun p=>(p.1,aP ρ p.2))=[(0,some (.agg cs.toArray))]:=by exact rfl) (hn:cs.length=size:=by exact rfl) (hsz:size<=16777216:=by decide) :
 aQ P ⟨dst,.buildSlice t 1 ps,ty,pos,after,guard⟩ ρ h (fun u g=>u= .slice (some ⟨h.size,0,none⟩) 1 1/\g=h.push (.cells cs.toArray e)) X:=aQ.xe u.e w.e hps hn hsz
theorem iL {len:Nat}{ps:Array (Nat×Operand)}(us:List Value) [u:lD P t (.slice e)] [w:E4 P e 1 bytes] (hps:ps.toList.map (fun p=>(p.1,aP ρ p.2))=(us.zipIdx.map fun p=>(p.2,p.1)).map (fun p=>(p.1,some p.2)):=by exact rfl)
 (hl:us.length=len:=by exact rfl) (hlen:len<=16777216:=by decide) (h1:∀u∈us,u.oneCell'=true:=by simp[Value.oneCell']) :
 aQ P ⟨dst,.buildSlice t len ps,ty,pos,after,guard⟩ ρ h (fun u g=>u= .slice (some ⟨h.size,0,none⟩) len len/\g=h.push (.cells us.toArray e)) X:=aQ.zN u.e w.e hps hl hlen h1
theorem RF [u:lD P t (.slice e)] [w:E4 P e size bytes]:aQ P ⟨dst,.buildSlice t 0 #[],ty,pos,after,guard⟩ ρ h (fun u g=>u= .slice (some ⟨h.size,0,none⟩) 0 0/\g=h.push (.cells #[] e)) X:=aQ.EK u.e w.e
end
theorem PI {P:Program}{ρ:Env}{h:ai}(k:ay P o ρ h v:=by
 first
 |exact Ey rfl
 |exact RC
 |exact RA
 |exact ay.xF rfl rfl ⟨by omega,by omega⟩
 |exact ay.Ie rfl rfl ⟨by omega,by omega⟩
 |exact ay.JO rfl rfl
 |exact ay.IU rfl rfl
 |exact zW rfl rfl _
 |exact Ry
 |exact RG
 |exact RB
 |exact Rz
 |exact ay.min2 rfl rfl
 |exact ay.max2 rfl rfl
 |exact ay.aH rfl rfl (by omega)):ay P o ρ h v:=k
section
variable {P:Program}{n:Nat}{ops:Array Oper}{i:Nat}{ρ ρ':Env}{h:ai}{N:Env->ai->Prop}{X:List PanicEntry->ai->Prop}
theorem aW (next:RW P n ops (i+1) ((d,v)::ρ) h N X)
 (e:(nth ops.toList i,aN ops ρ o,o.dst,Nat.blt d n)=(some o,some true,some d,true):=by exact rfl) (k:ay P o ρ h v:=by exact PI):RW P n ops i ρ h N X:=xp e k next
theorem aM (e:(nth ops.toList i,aN ops ρ o,o.dst)=(some o,some true,none)) (k:aQ P o ρ h Φ X) (next:∀v h',Φ v h'->RW P n ops (i+1) ρ h' N X):RW P n ops i ρ h N X:=by
 simp only[Prod.mk.injEq] at e;exact RW.BB e.1 e.2.1 e.2.2 k next
theorem PG (next:RW P n ops (i+1) ((d,undef)::ρ) h N X)
 (e:(nth ops.toList i,aN ops ρ o,o.dst,Nat.blt d n)=(some o,some false,some d,true):=by exact rfl):RW P n ops i ρ h N X:=xk e next
theorem Rs (next:RW P n ops (i+1) ρ h N X)
 (e:(nth ops.toList i,aN ops ρ o,o.dst)=(some o,some false,none):=by exact rfl):RW P n ops i ρ h N X:=by
 simp only[Prod.mk.injEq] at e;exact RW.Oi e.1 e.2.1 e.2.2 next
def Gt (n:Nat) (ops:Array Oper):Nat->Nat->Env->Option (Nat×Env)
 | 0,i,ρ=>some (i,ρ)
 |k+1,i,ρ=>match nth ops.toList i with
  |some o=>match o.dst with
   |some d=>match Nat.blt d n with
    |true=>match aN ops ρ o with
     |some true=>match PX ρ o.op with
      |some v=>Gt n ops k (i+1) ((d,v)::ρ)
      |none=>some (i,ρ)
     |some false=>Gt n ops k (i+1) ((d,undef)::ρ)
     |none=>some (i,ρ)
    |false=>some (i,ρ)
   |none=>some (i,ρ)
  |none=>some (i,ρ)
theorem Aw {j:Nat}:∀(k i:Nat) (ρ:Env),Gt n ops k i ρ=some (j,ρ')->RW P n ops j ρ' h N X->RW P n ops i ρ h N X
 | 0,i,ρ,e,next=>by simp only[Gt,Option.some.injEq,Prod.mk.injEq] at e;obtain⟨rfl,rfl⟩:=e;exact next
 |k+1,i,ρ,e,next=>by
  rw[Gt] at e;have fin:some (i,ρ)=some (j,ρ')->RW P n ops i ρ h N X:=fun e=>by simp only[Option.some.injEq,Prod.mk.injEq] at e;obtain⟨rfl,rfl⟩:=e;exact next
  split at e
  · rename_i o ho;split at e
    · rename_i d hd;split at e
      · rename_i hb;split at e
        · rename_i hw;split at e
          · rename_i v hv;exact RW.bu ho hw hd hb (Ey hv) (Aw k _ _ e next)
          · exact fin e
        · rename_i hw;exact RW.uX ho hw hd hb (Aw k _ _ e next)
        · exact fin e
      · exact fin e
    · exact fin e
  · exact fin e
def Oo (n:Nat) (ops:Array Oper) (i:Nat) (ρ:Env):Option (Nat×Env):=match Au n ops 1 i ρ with
 |some ρ'=>Gt n ops 200 (i+1) ρ'
 |none=>none
theorem Rt {j:Nat}(next:RW P n ops j ρ' h N X) (e:Oo n ops i ρ=some (j,ρ'):=by exact rfl):RW P n ops i ρ h N X:=by
 unfold Oo at e;split at e
 · rename_i r hr;exact NG 1 hr (Aw _ _ _ e next)
 · cases e
end
section
variable {P:Program}{n:Nat}{ops:Array Oper}{i:Nat}{ρ ρ':Env}{h:ai}{N:Env->Prop}
theorem cG (e:(nth ops.toList i,aN ops ρ o,o.dst,Nat.blt d n)=(some o,some true,some d,true)) (k:ay P o ρ h v) (next:RQ P n ops (i+1) ((d,v)::ρ) h N):RQ P n ops i ρ h N:=by
 simp only[Prod.mk.injEq] at e;exact RQ.bu e.1 e.2.1 e.2.2.1 e.2.2.2 k next
theorem ud (next:RQ P n ops (i+1) ((d,v)::ρ) h N)
 (e:(nth ops.toList i,aN ops ρ o,o.dst,Nat.blt d n)=(some o,some true,some d,true):=by exact rfl) (k:ay P o ρ h v:=by exact PI):RQ P n ops i ρ h N:=cG e k next
theorem Rw (next:RQ P n ops (i+1) ((d,undef)::ρ) h N)
 (e:(nth ops.toList i,aN ops ρ o,o.dst,Nat.blt d n)=(some o,some false,some d,true):=by exact rfl):RQ P n ops i ρ h N:=by
 simp only[Prod.mk.injEq] at e;exact RQ.uX e.1 e.2.1 e.2.2.1 e.2.2.2 next
theorem Q6 {dst:Option Nat}{ty:TypeId}{pos:String}{after:Array Edge}{guard:Option (Nat×Bool)}
 (k:aq P f vs.toArray h (bw fun u h'=>u=v/\h'=h)) (next:RQ P n ops (i+1) ((d,v)::ρ) h N) [c:bF P f fn] [g:LG P] (ho:nth ops.toList i=some ⟨dst,.call ⟨.value (.func f),xs,ts⟩,ty,pos,after,guard⟩:=by exact rfl)
 (e:(aN ops ρ ⟨dst,.call ⟨.value (.func f),xs,ts⟩,ty,pos,after,guard⟩,dst,Nat.blt d n)=(some true,some d,true):=by exact rfl) (hb:fn.body.isSome=true:=by exact rfl) (hvs:xC ρ xs.toList=some vs:=by exact rfl):RQ P n ops i ρ h N:=by
 simp only[Prod.mk.injEq] at e;exact RQ.O9 ho rfl e.1 e.2.1 e.2.2 c.e hb (LG.at c.e) (rJ hvs) k next
end
def MN:Op->Bool
 |.makeFunc .. |.lookup .. |.move .. |.assign .. |.pick .. |.binOp .. |.unOp .. |.convert .. |.extract .. |.nilCheck .. |.load .. |.indexAddr .. |.index .. |.fieldAddr .. |.slice .. |.field .. |.build .. |.makeInterface .. =>true
 |.call ⟨.builtin b,_,_⟩=>match b with
  |.len|.cap|.min|.max=>true
  |_=>false
 |_=>false
def Ih (fn:Func):List It->Option (List It)
 |.blk _::k=>some k
 |.scp _::k=>some k
 |.code p::k=>match sub (ax fn) p with
  |.skip=>some k
  |.label .. =>some k
  |.seq .. =>some (.code (0::p):: .code (1::p)::k)
  |.block id _=>some (.code (0::p):: .blk id::k)
  |.scope _=>some (.code (0::p):: .scp (0::p)::k)
  |.exit id=>pN id k
  |_=>none
 |_=>none
def Ig (fn:Func):Nat->List It->Option (List It)
 | 0,k=>some k
 |n+1,k=>match Ih fn k with
  |some k'=>Ig fn n k'
  |none=>some k
def Oh (fn:Func) (k:List It):Option (List It):=match Ih fn k with
 |some k'=>Ig fn 99 k'
 |none=>none
def wr:List Oper->Nat->Bool
 | [],_=>false
 |o::r,i=>match o.dst with
  |some d=>match Nat.beq d i with
   |true=>true
   |false=>wr r i
  |none=>wr r i
def nT (l:List Oper):Env->Env->Option Env
 | [],acc=>some acc
 |(i,v)::r,acc=>match wr l i with
  |true=>nT l r acc
  |false=>match acc.at i with
   |some _=>nT l r acc
   |none=>nT l r ((i,v)::acc)
theorem oO {l:List Oper}{ρ0:Env}:∀{ρ acc ρ1:Env},nT l ρ acc=some ρ1->Sub acc ρ0->(∀j v,wr l j=false->acc.at j=none->ρ.at j=some v->ρ0.at j=some v)->Sub ρ1 ρ0
 | [],acc,ρ1,e,h,_=>by simp only[nT,Option.some.injEq] at e;subst e;exact h
 |(i,v)::r,acc,ρ1,e,h,hr=>by
  rw[nT] at e;have key:∀j u,wr l j=false->acc.at j=none->j≠i->Env.at r j=some u->ρ0.at j=some u:=fun j u h0 h1 h2 h3=>hr j u h0 h1 (by rw[Env.fH,if_neg (Ne.symm h2)];exact h3)
  split at e
  · rename_i hw;exact oO e h fun j u h0 h1 h3=>key j u h0 h1 (fun q=>by subst q;rw[hw] at h0;cases h0) h3
  · rename_i hw;split at e
    · rename_i x hx;exact oO e h fun j u h0 h1 h3=>key j u h0 h1 (fun q=>by subst q;rw[hx] at h1;cases h1) h3
    · rename_i hx;refine oO e ⟨hr i v hw hx (by rw[Env.fH,if_pos rfl]),h⟩ fun j u h0 h1 h3=>?_
      rw[Env.fH] at h1;split at h1
      · cases h1
      · rename_i q;exact key j u h0 h1 (fun q'=>q q'.symm) h3
theorem qZ {l:List Oper}{ρ:Env}(e:nT l ρ []=some ρ1):Sub ρ1 ρ:=oO e trivial fun _ _ _ _ h=>h
section
variable {P:Program}{f:FuncId}{fn:Func}{k k':List It}{ρ ρ':Env}{h:ai}{R:Ending->ai->Prop}{p:List Nat}
theorem Am (e:Ih fn k=some k') (next:G P f fn k' ρ h R):G P f fn k ρ h R:=by
 unfold Ih at e;split at e
 · cases e;exact G.qx next
 · cases e;exact G.MG next
 · split at e
   · rename_i hc;cases e;exact qB (by rw[hc];rfl) next
   · rename_i hc;cases e;exact LL (by rw[hc];rfl) next
   · rename_i hc;cases e;exact kW (by rw[hc];rfl) next
   · rename_i hc;cases e;exact G.block (by rw[hc];rfl) (by rw[hc];rfl) next
   · rename_i hc;cases e;exact LK (by rw[hc];rfl) next
   · rename_i hc;exact NB (by rw[hc];rfl) (by rw[hc];exact e) next
   · cases e
 · cases e
theorem Ff:∀(n:Nat) (k:List It),Ig fn n k=some k'->G P f fn k' ρ h R->G P f fn k ρ h R
 | 0,k,e,next=>by simp only[Ig,Option.some.injEq] at e;subst e;exact next
 |n+1,k,e,next=>by
  rw[Ig] at e;split at e
  · rename_i h1;exact Am h1 (Ff n _ e next)
  · cases e;exact next
theorem RH (next:G P f fn k' ρ h R) (e:Oh fn k=some k':=by exact rfl):G P f fn k ρ h R:=by
 unfold Oh at e;split at e
 · rename_i h1;exact Am h1 (Ff _ _ e next)
 · cases e
theorem aX (next:G P f fn k' ρ h R) (e:Ih fn k=some k':=by exact rfl):G P f fn k ρ h R:=Am e next
theorem cD (next:RW P fn.ntmps (opsOf (Lw.sub (ax fn) p)) 0 ρ h (fun ρ' h'=>G P f fn k ρ' h' R) (fun ch h'=>R (.panicked ch) h')) [c:bF P f fn] (hk:kind (Lw.sub (ax fn) p)=5:=by exact rfl):G P f fn (.code p::k) ρ h R:=G.mJ c.e hk next
theorem F4 (next:RQ P fn.ntmps (opsOf (Lw.sub (ax fn) p)) 0 ρ h (fun ρ'=>G P f fn k ρ' h R)) [c:bF P f fn] [m:Ny P] (hk:kind (Lw.sub (ax fn) p)=6:=by exact rfl) (hB:Region.lexB .any (opsOf (Lw.sub (ax fn) p))=true:=by kernel_rfl):G P f fn (.code p::k) ρ h R:=G.L9 c.e m.e hk hB next
theorem RI (next:RQ P fn.ntmps (opsOf (Lw.sub (ax fn) p)) 0 ρ h (fun ρ'=>G P f fn k ρ' h R)) [c:bF P f fn] [m:Ny P] (hk:kind (Lw.sub (ax fn) p)=6:=by exact rfl)
 (_:(opsOf (Lw.sub (ax fn) p)).toList.all (fun o=>MN o.op)=true:=by exact rfl) (hB:Region.lexB .any (opsOf (Lw.sub (ax fn) p))=true:=by kernel_rfl):G P f fn (.code p::k) ρ h R:=G.L9 c.e m.e hk hB next
theorem cX {X:List PanicEntry->ai->Prop}(next:G P f fn k ρ h R) (e:Nat.ble ops.size i=true:=by exact rfl):RW P n ops i ρ h (fun ρ' h'=>G P f fn k ρ' h' R) X:=kR e next
theorem Rx (next:G P f fn k ρ h R) (e:Nat.ble ops.size i=true:=by exact rfl):RQ P n ops i ρ h (fun ρ'=>G P f fn k ρ' h R):=Lu e next
theorem aR {φ:Prop}{_:Decidable φ}(ht:φ->G P f fn (.code (0::p)::k) ρ h R) (hn:¬φ->G P f fn (.code (1::p)::k) ρ h R) (hk:kind (Lw.sub (ax fn) p)=7:=by exact rfl)
 (hc:aP ρ (oh (Lw.sub (ax fn) p))=some (.bool (decide φ)):=by exact rfl):G P f fn (.code p::k) ρ h R:=Kk hk hc ht hn
theorem iM {t:Bool}(ht:t=true->G P f fn (.code (0::p)::k) ρ h R) (hn:t=false->G P f fn (.code (1::p)::k) ρ h R) (hk:kind (Lw.sub (ax fn) p)=7:=by exact rfl)
 (hc:aP ρ (oh (Lw.sub (ax fn) p))=some (.bool t):=by exact rfl):G P f fn (.code p::k) ρ h R:=sU hk hc ht hn
theorem fF {t:Bool}(hc:aP ρ (oh (Lw.sub (ax fn) p))=some (.bool t)) (hb:¬t=false) (next:G P f fn (.code (0::p)::k) ρ h R) (hk:kind (Lw.sub (ax fn) p)=7:=by exact rfl):G P f fn (.code p::k) ρ h R :=
 sU hk hc (fun _=>next) (fun e=>absurd e hb)
theorem fe {t:Bool}(hc:aP ρ (oh (Lw.sub (ax fn) p))=some (.bool t)) (hb:¬t=true) (next:G P f fn (.code (1::p)::k) ρ h R) (hk:kind (Lw.sub (ax fn) p)=7:=by exact rfl):G P f fn (.code p::k) ρ h R :=
 sU hk hc (fun e=>absurd e hb) (fun _=>next)
theorem bp (hR:R (.returned (packed vs)) h) [c:bF P f fn] (hk:kind (Lw.sub (ax fn) p)=4:=by exact rfl) (hr:fY ρ fn.results.toList=some vs:=by exact rfl):G P f fn (.code p::k) ρ h R:=G.ret c.e hk hr hR
theorem Hz (hR:R (.returned (packed vs)) h) [c:bF P f fn] (hr:fY ρ fn.results.toList=some vs:=by exact rfl):G P f fn [] ρ h R:=G.QH c.e hr hR
theorem bL (next:G P f fn [.code []] (mY 0 vs) h R) [c:bF P f fn] (hb:fn.body.isSome=true:=by exact rfl) (hn:Nat.ble vs.length fn.ntmps=true:=by exact rfl):aq P f vs.toArray h R:=aq.of c.e hb hn next
theorem NU (E:σ->Env) (I:σ->ai->Prop) (μ:σ->Nat) (s0:σ) (h0:I s0 h)
 (round:∀s h,I s h->(∀s' {h' ρ'},I s' h'->(hm:μ s' < μ s:=by first|(dsimp only;omega)|omega)->(hs:Sub (E s') ρ':=by exact sb rfl)->G P f fn (.loop (0::p)::k) ρ' h' R)->G P f fn (.code (0::p):: .loop (0::p)::k) (E s) h R)
 (hk:kind (Lw.sub (ax fn) p)=3:=by exact rfl) (hs:Sub (E s0) ρ:=by exact sb rfl):G P f fn (.code p::k) ρ h R :=
 Bx E I μ s0 hk hs h0 (fun s h hi ih=>round s h hi (fun s' _ _ h1 h2 h3=>ih s' _ _ h3 h1 h2))
end
section
variable {P:Program}{n:Nat}{ops:Array Oper}{M:Nat->Prop}{keeps:Nat->Bool}{fuel:Nat}{listed:Array Bool}{ρ:Env}{h:ai}{N:Env->ai->Prop}{X:List PanicEntry->ai->Prop}
def Kr (ops:Array Oper) (keeps:Nat->Bool) (listed:Array Bool) (i:Nat):Bool:=Region.noSelect ops && (wD ops keeps listed i && (Region.ready .any ops listed).contains i)
theorem bI (i:Nat) (e:(nth ops.toList i,aN ops ρ o,o.dst,Nat.blt d n)=(some o,some true,some d,true)) (k:∀h',Ext M h h'->ay P o ρ h' v)
 (next:RD P n ops M keeps fuel (listed.setIfInBounds i true) ((d,v)::ρ) h N X) (hk:Kr ops keeps listed i=true:=by kernel_rfl):RD P n ops M keeps (fuel+1) listed ρ h N X:=by
 simp only[Prod.mk.injEq] at e;simp only[Kr,Bool.and_eq_true] at hk;exact RD.N4 i e.1 hk.1 hk.2.1 hk.2.2 e.2.1 e.2.2.1 e.2.2.2 k rfl next
theorem aI (i:Nat) (next:RD P n ops M keeps fuel (listed.setIfInBounds i true) ((d,v)::ρ) h N X) (e:(nth ops.toList i,aN ops ρ o,o.dst,Nat.blt d n)=(some o,some true,some d,true):=by exact rfl)
 (k:∀h',Ext M h h'->ay P o ρ h' v:=by intro _ _;exact PI) (hk:Kr ops keeps listed i=true:=by kernel_rfl):RD P n ops M keeps (fuel+1) listed ρ h N X:=bI i e k next hk
theorem Dy (i:Nat) (next:RD P n ops M keeps fuel (listed.setIfInBounds i true) ((d,undef)::ρ) h N X) (e:(nth ops.toList i,aN ops ρ o,o.dst,Nat.blt d n)=(some o,some false,some d,true):=by exact rfl)
 (hk:Kr ops keeps listed i=true:=by kernel_rfl):RD P n ops M keeps (fuel+1) listed ρ h N X:=by
 simp only[Prod.mk.injEq] at e;simp only[Kr,Bool.and_eq_true] at hk;exact RD.uX i e.1 hk.1 hk.2.1 hk.2.2 e.2.1 e.2.2.1 e.2.2.2 rfl next
theorem dH (i:Nat) (e:(nth ops.toList i,aN ops ρ o,o.dst,Nat.blt d n)=(some o,some true,some d,true)) (k:aQ P o ρ h Φ X)
 (next:∀v h',Φ v h'->(keeps i=true->Ext M h h')/\RD P n ops M keeps fuel (listed.setIfInBounds i true) ((d,v)::ρ) h' N X) (hr:Region.ready .any ops listed=[i]:=by kernel_rfl):RD P n ops M keeps (fuel+1) listed ρ h N X:=by
 simp only[Prod.mk.injEq] at e;exact RD.Qz i e.1 hr e.2.1 e.2.2.1 e.2.2.2 k rfl next
theorem kX (i:Nat) (e:(nth ops.toList i,aN ops ρ o,o.dst)=(some o,some true,none)) (k:aQ P o ρ h Φ X)
 (next:∀v h',Φ v h'->(keeps i=true->Ext M h h')/\RD P n ops M keeps fuel (listed.setIfInBounds i true) ρ h' N X) (hr:Region.ready .any ops listed=[i]:=by kernel_rfl):RD P n ops M keeps (fuel+1) listed ρ h N X:=by
 simp only[Prod.mk.injEq] at e;exact RD.QA i e.1 hr e.2.1 e.2.2 k rfl next
theorem PJ (i:Nat) (e:(nth ops.toList i,aN ops ρ o,o.dst,Nat.blt d n)=(some o,some true,some d,true)) (k:ay P o ρ h v)
 (next:RD P n ops M keeps fuel (listed.setIfInBounds i true) ((d,v)::ρ) h N X) (hr:Region.ready .any ops listed=[i]:=by kernel_rfl):RD P n ops M keeps (fuel+1) listed ρ h N X :=
 dH i e k.HV (fun u h' hq=>by obtain⟨rfl,rfl⟩:=hq;exact⟨fun _=>Ext.refl _ _,next⟩) hr
theorem LS (i:Nat) (next:RD P n ops M keeps fuel (listed.setIfInBounds i true) ((d,v)::ρ) h N X) (e:(nth ops.toList i,aN ops ρ o,o.dst,Nat.blt d n)=(some o,some true,some d,true):=by exact rfl) (k:ay P o ρ h v:=by exact PI)
 (hr:Region.ready .any ops listed=[i]:=by kernel_rfl):RD P n ops M keeps (fuel+1) listed ρ h N X:=PJ i e k next hr
theorem Qc (i j:Nat){oi oj:Oper}{Φ':Value->ai->Prop}{di dj:Nat}(ei:(nth ops.toList i,aN ops ρ oi,oi.dst,Nat.blt di n)=(some oi,some true,some di,true)) (ej:(nth ops.toList j,aN ops ρ oj,oj.dst,Nat.blt dj n)=(some oj,some true,some dj,true))
 (ki:aQ P oi ρ h Φ X) (kj:aQ P oj ρ h Φ' X)
 (nexti:∀v h',Φ v h'->(keeps i=true->Ext M h h')/\RD P n ops M keeps fuel (listed.setIfInBounds i true) ((di,v)::ρ) h' N X)
 (nextj:∀v h',Φ' v h'->(keeps j=true->Ext M h h')/\RD P n ops M keeps fuel (listed.setIfInBounds j true) ((dj,v)::ρ) h' N X) (hr:Region.ready .any ops listed=[i,j]:=by kernel_rfl):RD P n ops M keeps (fuel+1) listed ρ h N X:=by
 simp only[Prod.mk.injEq] at ei ej;exact RD.Qd i j ei.1 ej.1 hr ei.2.1 ej.2.1 ei.2.2.1 ej.2.2.1 ei.2.2.2 ej.2.2.2 ki kj rfl rfl nexti nextj
theorem Ku (he:h=h0) (hs:Sub ρ1 ρ:=by exact sb rfl) (hr:Region.ready .any ops listed=[]:=by kernel_rfl):RD P n ops M keeps fuel listed ρ h (fun ρ' h'=>h'=h0/\Sub ρ1 ρ') X:=Bu hr ⟨he,hs⟩
theorem Mp {E:σ->ai->Prop}{F:σ->Env}(s:σ) (hE:E s h) (hs:Sub (F s) ρ:=by exact sb rfl) (hr:Region.ready .any ops listed=[]:=by kernel_rfl):RD P n ops M keeps fuel listed ρ h (fun ρ' h'=>∃s,E s h'/\Sub (F s) ρ') X:=Bu hr ⟨s,hE,hs⟩
theorem aF (he:h=h0) (hs:Sub ρ1 ρ:=by exact sb rfl) (e:Nat.ble ops.size i=true:=by exact rfl):RW P n ops i ρ h (fun ρ' h'=>h'=h0/\Sub ρ1 ρ') X:=kR e ⟨he,hs⟩
theorem zV {E:σ->ai->Prop}{F:σ->Env}(s:σ) (hE:E s h) (hs:Sub (F s) ρ:=by exact sb rfl) (e:Nat.ble ops.size i=true:=by exact rfl):RW P n ops i ρ h (fun ρ' h'=>∃s,E s h'/\Sub (F s) ρ') X:=kR e ⟨s,hE,hs⟩
end
section
variable {P:Program}{f:FuncId}{fn:Func}{k:List It}{ρ ρ1:Env}{h:ai}{R:Ending->ai->Prop}{p:List Nat}
theorem iT {fuel:Nat}{M:Nat->Prop}{keeps:Nat->Bool}{listed:Array Bool}{X:List PanicEntry->ai->Prop}(next:G P f fn k ρ h R) (hr:Region.ready .any ops listed=[]:=by kernel_rfl) :
 RD P n ops M keeps fuel listed ρ h (fun ρ' h'=>G P f fn k ρ' h' R) X:=Bu hr next
theorem me (sz:Nat) (M:Nat->Prop) (keeps:Nat->Bool) (next:RD P fn.ntmps (opsOf (Lw.sub (ax fn) p)) M keeps sz (Array.replicate sz false) ρ h (fun ρ' h'=>G P f fn k ρ' h' R) (fun ch h'=>R (.panicked ch) h')) [c:bF P f fn] [m:Ny P]
 (hk:kind (Lw.sub (ax fn) p)=6:=by exact rfl) (hsz:(opsOf (Lw.sub (ax fn) p)).size=sz:=by exact rfl):G P f fn (.code p::k) ρ h R:=sS M keeps c.e m.e hk hsz rfl next
theorem LR (sz bar:Nat) (next:RD P fn.ntmps (opsOf (Lw.sub (ax fn) p)) (fun b=>h.size<=b) (fun i=>Nat.blt i bar) sz (Array.replicate sz false) ρ h (fun ρ' h'=>G P f fn k ρ' h' R) (fun ch h'=>R (.panicked ch) h')) [c:bF P f fn] [m:Ny P]
 (hk:kind (Lw.sub (ax fn) p)=6:=by exact rfl) (hsz:(opsOf (Lw.sub (ax fn) p)).size=sz:=by exact rfl):G P f fn (.code p::k) ρ h R:=sS _ _ c.e m.e hk hsz rfl next
theorem fL (new:Env) (e:nT (opsOf (Lw.sub (ax fn) p)).toList ρ []=some ρ1) (mJ:RW P fn.ntmps (opsOf (Lw.sub (ax fn) p)) 0 ρ h (fun ρ' h'=>h'=h/\Sub (new++ρ1) ρ') (fun _ _=>False))
 (next:G P f fn k (new++ρ1) h R) [c:bF P f fn] (hk:kind (Lw.sub (ax fn) p)=5:=by exact rfl):G P f fn (.code p::k) ρ h R:=G.ML new ρ1 (qZ e) c.e hk mJ next
theorem PK (E:σ->ai->Prop) (new:σ->Env) (e:nT (opsOf (Lw.sub (ax fn) p)).toList ρ []=some ρ1) (mJ:RW P fn.ntmps (opsOf (Lw.sub (ax fn) p)) 0 ρ h (fun ρ' h'=>∃s,E s h'/\Sub (new s++ρ1) ρ') (fun ch h'=>R (.panicked ch) h'))
 (next:∀s h',E s h'->G P f fn k (new s++ρ1) h' R) [c:bF P f fn] (hk:kind (Lw.sub (ax fn) p)=5:=by exact rfl):G P f fn (.code p::k) ρ h R:=G.MK E new ρ1 (qZ e) c.e hk mJ next
theorem Mq (sz:Nat) (M:Nat->Prop) (keeps:Nat->Bool) (new:Env) (e:nT (opsOf (Lw.sub (ax fn) p)).toList ρ []=some ρ1) (mJ:RD P fn.ntmps (opsOf (Lw.sub (ax fn) p)) M keeps sz (Array.replicate sz false) ρ h (fun ρ' h'=>h'=h/\Sub (new++ρ1) ρ') (fun ch h'=>R (.panicked ch) h'))
 (next:G P f fn k (new++ρ1) h R) [c:bF P f fn] [m:Ny P] (hk:kind (Lw.sub (ax fn) p)=6:=by exact rfl) (hsz:(opsOf (Lw.sub (ax fn) p)).size=sz:=by exact rfl):G P f fn (.code p::k) ρ h R:=G.Lf new ρ1 (qZ e) M keeps c.e m.e hk hsz rfl mJ next
theorem NV (sz:Nat) (M:Nat->Prop) (keeps:Nat->Bool) (E:σ->ai->Prop) (new:σ->Env) (e:nT (opsOf (Lw.sub (ax fn) p)).toList ρ []=some ρ1) (mJ:RD P fn.ntmps (opsOf (Lw.sub (ax fn) p)) M keeps sz (Array.replicate sz false) ρ h (fun ρ' h'=>∃s,E s h'/\Sub (new s++ρ1) ρ') (fun ch h'=>R (.panicked ch) h'))
 (next:∀s h',E s h'->G P f fn k (new s++ρ1) h' R) [c:bF P f fn] [m:Ny P] (hk:kind (Lw.sub (ax fn) p)=6:=by exact rfl) (hsz:(opsOf (Lw.sub (ax fn) p)).size=sz:=by exact rfl):G P f fn (.code p::k) ρ h R:=G.Le E new ρ1 (qZ e) M keeps c.e m.e hk hsz rfl mJ next
end
def Kp:Code->Nat->Bool
 |.region _ ops _,i=>wr ops.toList i
 |.seq a b,i=>Kp a i ||Kp b i
 |.cond _ a b,i=>Kp a i ||Kp b i
 |.block _ b,i=>Kp b i
 |.loop b,i=>Kp b i
 |.scope b,i=>Kp b i
 |.rangeFunc ..,_=>true
 |_,_=>false
def wo (c:Code):Env->Env->Option Env
 | [],acc=>some acc
 |(i,v)::r,acc=>match Kp c i with
  |true=>wo c r acc
  |false=>match acc.at i with
   |some _=>wo c r acc
   |none=>wo c r ((i,v)::acc)
theorem oN {c:Code}{ρ0:Env}:∀{ρ acc ρ1:Env},wo c ρ acc=some ρ1->Sub acc ρ0->(∀j v,Kp c j=false->acc.at j=none->ρ.at j=some v->ρ0.at j=some v)->Sub ρ1 ρ0
 | [],acc,ρ1,e,h,_=>by simp only[wo,Option.some.injEq] at e;subst e;exact h
 |(i,v)::r,acc,ρ1,e,h,hr=>by
  rw[wo] at e;have key:∀j u,Kp c j=false->acc.at j=none->j≠i->Env.at r j=some u->ρ0.at j=some u:=fun j u h0 h1 h2 h3=>hr j u h0 h1 (by rw[Env.fH,if_neg (Ne.symm h2)];exact h3)
  split at e
  · rename_i hw;exact oN e h fun j u h0 h1 h3=>key j u h0 h1 (fun q=>by subst q;rw[hw] at h0;cases h0) h3
  · rename_i hw;split at e
    · rename_i x hx;exact oN e h fun j u h0 h1 h3=>key j u h0 h1 (fun q=>by subst q;rw[hx] at h1;cases h1) h3
    · rename_i hx;refine oN e ⟨hr i v hw hx (by rw[Env.fH,if_pos rfl]),h⟩ fun j u h0 h1 h3=>?_
      rw[Env.fH] at h1;split at h1
      · cases h1
      · rename_i q;exact key j u h0 h1 (fun q'=>q q'.symm) h3
theorem FX:∀{a b ρ:Env},Sub a ρ->Sub b ρ->Sub (a++b) ρ
 | [],_,_,_,h=>h
 |(_,_)::_,_,_,⟨h1,h2⟩,h=>⟨h1,FX h2 h⟩
section
variable {P:Program}{f:FuncId}{fn:Func}{k:List It}{ρ ρ1:Env}{h:ai}{R:Ending->ai->Prop}{p:List Nat}
theorem gY (new:σ->Env) (I:σ->ai->Prop) (μ:σ->Nat) (s0:σ) (h0:I s0 h) (e:wo (Lw.sub (ax fn) p) ρ []=some ρ1)
 (round:∀s h,I s h->(∀s' {h' ρ'},I s' h'->(hm:μ s' < μ s:=by first|(dsimp only;omega)|omega)->(hs:Sub (new s'++ρ1) ρ':=by exact sb rfl)->G P f fn (.loop (0::p)::k) ρ' h' R)->G P f fn (.code (0::p):: .loop (0::p)::k) (new s++ρ1) h R)
 (hk:kind (Lw.sub (ax fn) p)=3:=by exact rfl) (hs:Sub (new s0) ρ:=by exact sb rfl):G P f fn (.code p::k) ρ h R :=
 Bx (fun s=>new s++ρ1) I μ s0 hk (FX hs (oN e trivial fun _ _ _ _ h=>h)) h0 (fun s h hi ih=>round s h hi (fun s' _ _ h1 h2 h3=>ih s' _ _ h3 h1 h2))
theorem cq:fD P ρ h [] []:=.nil
theorem eo {t:Tmp}(k:fD P ρ h rs vs) (hx:ρ.at t=some v:=by exact rfl):fD P ρ h (.tmp t::rs) (v::vs):=.cons (fU.tmp hx) k
theorem Ru {a:Tmp}{q:Addr}(hx:ρ.at a=some (.pointer (some q))) (hc:cellAt h q=some v) (k:fD P ρ h rs vs) [c:lF P t false]:fD P ρ h (.cell a t::rs) (v::vs):=.cons (fU.cell c.e hx hc) k
theorem cj {a:Tmp}{o:Nat}(hx:ρ.at a=some (.pointer (some ⟨b,o,none⟩))) (hc:rowAt h b o cs) (k:fD P ρ h rs vs) [c:lF P t true] [d:nq P t sz] (hn:cs.length=sz:=by first|exact rfl|(simp;done)|(simp;omega)) :
 fD P ρ h (.cell a t::rs) (.agg cs.toArray::vs):=.cons (fU.MJ c.e d.e hx hc hn) k
theorem ct (hr:fD P ρ h fn.results.toList vs) (hR:R (.returned (packed vs)) h) [c:bF P f fn] (hk:kind (Lw.sub (ax fn) p)=4:=by exact rfl):G P f fn (.code p::k) ρ h R:=G.Qw c.e hk hr hR
end
section
variable {P:Program}{n:Nat}{ops:Array Oper}{i:Nat}{ρ:Env}{h:ai}{M:Nat->Prop}{keeps:Nat->Bool}{fuel:Nat}{listed:Array Bool}{X:List PanicEntry->ai->Prop}{N:Env->ai->Prop}
theorem dG (d:Nat){b:Bool}(ht:b=true->RW P n ops i ((d,.bool true)::ρ) h N X) (hn:b=false->RW P n ops i ((d,.bool false)::ρ) h N X) (hb:ρ.at d=some (.bool b):=by exact rfl):RW P n ops i ρ h N X:=xN hb ht hn
theorem RJ (d:Nat){b:Bool}(ht:b=true->RD P n ops M keeps fuel listed ((d,.bool true)::ρ) h N X) (hn:b=false->RD P n ops M keeps fuel listed ((d,.bool false)::ρ) h N X) (hb:ρ.at d=some (.bool b):=by exact rfl):RD P n ops M keeps fuel listed ρ h N X:=Dm hb ht hn
theorem Rv {N:Env->Prop}(d:Nat){b:Bool}(ht:b=true->RQ P n ops i ((d,.bool true)::ρ) h N) (hn:b=false->RQ P n ops i ((d,.bool false)::ρ) h N) (hb:ρ.at d=some (.bool b):=by exact rfl):RQ P n ops i ρ h N:=Dl hb ht hn
end
structure Q4 (p:Prop):Prop where
 on:p
theorem af {g g':Prop}(next:g') (k:Q4 g'->g:=by
 intro n
 repeat first
  |refine Rt ?_
  |refine aW ?_
  |refine cX ?_
  |refine RH ?_
  |refine cD ?_
  |refine ud ?_
  |refine Rw ?_
  |refine Rx ?_
  |refine RI ?_
  |refine Rs ?_
 exact n.on):g:=k ⟨next⟩
end
end Go.Lw

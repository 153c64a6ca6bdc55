/- What the proof of the statement leans on (part 14). -/
import Derived.Lib.MakeNoZero
import Derived.Laws.CopyOwn
import Derived.Test.YtpjgdgdnbkjoiaaGreatDoorQm

namespace Go.Lw
open Go.RowKit
section
variable {P:Program}{ρ:Env}{h:ai}{dst:Option Nat}{ty:TypeId}{pos:String}{after:Array Edge}{guard:Option (Nat×Bool)}{X:List PanicEntry->ai->Prop}
theorem an.CY {t e:TypeId}{x:Operand}{oa:Option Addr}{n c:Nat}(hu:P.underlying t=some (.slice e)) (hx:aV ρ x=some (.slice oa n c)) :
 an P ⟨dst,.call ⟨.builtin .cap,#[x],#[t]⟩,ty,pos,after,guard⟩ ρ h (.int .i64 c):=by
 intro _ B a w hf _;simp[execOp,resolve,invoke,builtin,Builtin.cap_,run_underlying hu,hf.eval hx,goInt]
theorem an.Jw {t t' e:TypeId}{x y:Operand}{oa ob:Option Addr}{n c m d:Nat}(hu:P.underlying t=some (.slice e)) (hs:(P.info? e).map (·.size)=some 1) (hx:aV ρ x=some (.slice oa n c)) (hy:aV ρ y=some (.slice ob m d)) (h0:Nat.min m n=0) :
 an P ⟨dst,.call ⟨.builtin .copy,#[x,y],#[t,t']⟩,ty,pos,after,guard⟩ ρ h (.int .i64 0):=by
 intro _ B a w hf _;have hrun:=run_copy_none (P:=P) w t t' ty e oa ob n c m d hu hs h0;simp[execOp,resolve,invoke,builtin,hf.eval hx,hf.eval hy,hrun,goInt]
theorem az.makeNoZero {f:FuncId}{fn:Func}{x:Operand}{ts ps:Array TypeId}{t e:TypeId}{i:Int}(hf:P.funcs[f]? =some fn) (hname:(fn.name == "runtime.NumGoroutine")=false)
 (hb:fn.body.isNone=true) (hn:Extern.findNext fn=none) (he:Extern.find fn=some (Extern.BytealgMakeNoZero.makeNoZero ps #[t])) (ht:P.underlying t=some (.slice e)) (hx:aV ρ x=some (.int .i64 i)) (n:Nat) (hi:i=n) (hle:n<=1000000000) :
 az P ⟨dst,.call ⟨.value (.func f),#[x],ts⟩,ty,pos,after,guard⟩ ρ h (fun v g=>∃cs:Array Value,v= .slice (some ⟨h.size,0,none⟩) n cs.size/\g=h.push (.cells cs e)/\n<=cs.size/\cs.size<=maxLen) X:=by
 intro nn B a w hfit ha next Q hq _
 subst hi;obtain⟨cs,hr,h1,h2⟩:=Lib.run_makeNoZero (P:=P) w ps t e ht n (by omega);have hc:=run_callFunc_extern (P:=P) hf hname hb hn he #[.int .i64 n] w;rw[hr] at hc
 have hrun:(execOp a.eval ⟨dst,.call ⟨.value (.func f),#[x],ts⟩,ty,pos,after,guard⟩).run P w= .ok (.value (.slice (some ⟨w.heap.size,0,none⟩) n cs.size)) (w.drew.drew.alloc (.cells cs e)):=by
  simp only[execOp,resolve,Act.eval,Deferred.ofValue,invoke];simp[hfit.eval hx,hc]
 unfold Oper.wp;rw[hrun];refine hq _ (w.heap.push (.cells cs e)) _ ⟨rfl,ha.os,ha.tape,ha.output⟩ ⟨cs,by rw[ha.heap],by rw[ha.heap],h1,h2 (by simp only[maxLen];omega)⟩
end
end Go.Lw
namespace Go.Lw
class pL (P:Program) (t:TypeId) (d:outParam TypeDesc):Prop where e:P.underlying t=some d
class ql (P:Program) (t:TypeId) (n:outParam Nat):Prop where e:cq P t=some n
class ni (P:Program) (t:TypeId) (b:outParam Bool):Prop where e:aU P t=some b
class EY (P:Program) (t:TypeId) (s b:outParam Nat):Prop where e:dW P t s b
class JV (P:Program) (t:TypeId) (z:outParam Value):Prop where e:(P.info? t).bind (·.zero)=some z
class b6 (P:Program) (f:FuncId) (fn:outParam Func):Prop where e:P.funcs[f]? =some fn
class Le (P:Program):Prop where e:(P.funcs.toList.all fun fn=> !(fn.name == "runtime.NumGoroutine"))=true
class M7 (P:Program):Prop where e:P.follows .mixedOrders=true
class Qt (P:Program) (t:TypeId):Prop where e:P.concrete t=true
class jc (P:Program) (t:TypeId) (i:Nat) (off:outParam Nat):Prop where
 e:∃fs fd k,P.underlying t=some (.struct fs)/\fs[i]? =some fd/\fd.offset=off/\cq P fd.type=some (k+1)
class Q4 (P:Program) (t:TypeId) (i:Nat) (off:outParam Nat):Prop where
 e:∃fs fd,P.underlying t=some (.struct fs)/\fs[i]? =some fd/\fd.offset=off/\aU P fd.type=some false
section
variable {f:FuncId}{fn:Func}{t e:TypeId}{x y:Operand}{i b sz n d size bytes:Nat}{o:Oper}{v:Value}{cs vs:List Value}{k:IntKind}{j:Int}{xs:Array Operand}{ts:Array TypeId}{Φ:Value->ai->Prop}{h0:ai}{ρ1:Env}{ops:Array Oper}{σ:Type}{rs:List ResultVar}
theorem Le.at {P:Program}[g:Le P] (h:P.funcs[f]? =some fn):(fn.name == "runtime.NumGoroutine")=false:=by
 have:=List.all_eq_true.1 g.e fn (by simpa using Array.mem_of_getElem? h);simpa using this
section
variable {P:Program}{ρ:Env}{h:ai}{dst:Option Nat}{ty:TypeId}{pos:String}{after:Array Edge}{guard:Option (Nat×Bool)}{X:List PanicEntry->ai->Prop}
theorem QE {o off:Nat}[c:jc P t i off] (hx:aV ρ x=some (.pointer (some ⟨b,o,none⟩)):=by exact rfl) :
 an P ⟨dst,.fieldAddr t x i,ty,pos,after,guard⟩ ρ h (.pointer (some ⟨b,o+off,none⟩)):=by
 obtain⟨fs,fd,k,h1,h2,h3,h4⟩:=c.e;exact aa h1 h2 h3 h4 hx
theorem aM {p:Addr}(hx:aV ρ x=some (.pointer (some p))) (hc:cellAt h p=some v) [c:ni P t false] :
 an P ⟨dst,.load t x,ty,pos,after,guard⟩ ρ h v:=au c.e hx hc
theorem eN {o:Nat}(hx:aV ρ x=some (.pointer (some ⟨b,o,none⟩))) (hc:rowAt h b o cs) [c:ni P t true] [d:ql P t sz]
 (hn:cs.length=sz:=by first|exact rfl|(simp;done)|(simp;omega)):an P ⟨dst,.load t x,ty,pos,after,guard⟩ ρ h (.agg cs.toArray):=an.aG c.e d.e hx hc hn
theorem eK {oa:Option Addr}{o c:Nat}[u:pL P t (.slice e)] [s:ql P e sz] (hx:aV ρ x=some (.slice oa n c)) (hy:aV ρ y=some (.int k j)) (i:Nat) (hj:j=i) (ha:oa=some ⟨b,o,none⟩) (hi:i<n:=by omega) :
 an P ⟨dst,.indexAddr t x y,ty,pos,after,guard⟩ ρ h (.pointer (some ⟨b,o+i*sz,none⟩)):=an.cx u.e s.e hx hy i hj ha hi
theorem Dl {o:Nat}[u:pL P t (.array n e)] [s:ql P e sz] (hx:aV ρ x=some (.pointer (some ⟨b,o,none⟩))) (hy:aV ρ y=some (.int k j)) (i:Nat) (hj:j=i:=by exact rfl) (hi:i<n:=by first|decide|omega) :
 an P ⟨dst,.indexAddr t x y,ty,pos,after,guard⟩ ρ h (.pointer (some ⟨b,o+i*sz,none⟩)):=an.I8 u.e s.e hx hy i hj hi
theorem Lp {s:ByteArray}{b:UInt8}[u:pL P t .string] (hx:aV ρ x=some (.string s)) (hy:aV ρ y=some (.int k j)) (i:Nat) (hj:j=i) (hb:s.data[i]? =some b) :
 an P ⟨dst,.index t x y,ty,pos,after,guard⟩ ρ h (.int .u8 b.toNat):=an.fF u.e hx hy i hj hb
def Oc:TypeDesc->Option Value->Option Value
 |.slice _,some (.slice _ n _)=>some (.int .i64 (n:Nat))
 |.string,some (.string s)=>some (.int .i64 (s.size:Nat))
 |.array n _,some _=>some (.int .i64 (n:Nat))
 |_,_=>none
theorem QC {d:TypeDesc}[u:pL P t d] (e:Oc d (aV ρ x)=some v:=by exact rfl):an P ⟨dst,.call ⟨.builtin .len,#[x],#[t]⟩,ty,pos,after,guard⟩ ρ h v:=by
 unfold Oc at e;split at e<;>cases e
 · rename_i hx;exact an.cM u.e hx
 · rename_i hx;exact an.bH u.e hx
 · rename_i hx;exact an.IX u.e hx
theorem QA {off:Nat}{cs:Array Value}[c:Q4 P t i off]
 (hx:aV ρ x=some (.agg cs):=by exact rfl) (hv:cs[off]? =some v:=by exact rfl):an P ⟨dst,.field t x i,ty,pos,after,guard⟩ ρ h v:=by
 obtain⟨fs,fd,h1,h2,h3,h4⟩:=c.e;exact an.field h1 h2 h3 h4 hx hv
theorem QF {yt:TypeId}{i j:Bool}[u:pL P t .bool] (hx:aV ρ x=some (.bool i):=by exact rfl) (hy:aV ρ y=some (.bool j):=by exact rfl) :
 an P ⟨dst,.binOp .eql t x y yt,ty,pos,after,guard⟩ ρ h (.bool (i ==j)):=an.KQ u.e hx hy
theorem QB {s d:TypeId}{ds:TypeDesc}{k':IntKind}{i:Int}[u:pL P s ds] [w:pL P d (.int k')] (hx:aV ρ x=some (.int k i):=by exact rfl) :
 an P ⟨dst,.convert s d x,ty,pos,after,guard⟩ ρ h (.int k' (k'.wrap i)):=an.u9 u.e w.e hx
theorem Ns {s d:TypeId}{ds:TypeDesc}{k':IntKind}{i:Int}[u:pL P s ds] [w:pL P d (.int k')] (hx:aV ρ x=some (.int k i)) (hw:k'.wrap i=i) :
 an P ⟨dst,.convert s d x,ty,pos,after,guard⟩ ρ h (.int k' i):=an.MU u.e w.e hx hw
theorem QD [c:Qt P t] (hx:aV ρ x=some v:=by exact rfl):an P ⟨dst,.makeInterface t x,ty,pos,after,guard⟩ ρ h (.iface t v):=kE c.e hx
def xQ (ρ:Env):List Operand->Option (List Value)
 | []=>some []
 |x::r=>match aV ρ x with
  |some v=>match xQ ρ r with
   |some vs=>some (v::vs)
   |none=>none
  |none=>none
theorem sG:∀{xs:List Operand}{vs:List Value},xQ ρ xs=some vs->xs.map (aV ρ)=vs.map some
 | [],vs,h=>by simp only[xQ,Option.some.injEq] at h;subst h;rfl
 |x::r,vs,h=>by
  rw[xQ] at h;split at h
  · rename_i v hv;split at h
    · rename_i us hu;cases h;rw[List.map_cons,List.map_cons,hv,sG hu]
    · cases h
  · cases h
theorem bl (hvs:xQ ρ xs.toList=some vs) (k:af P f vs.toArray h (aX Φ)) [c:b6 P f fn] [g:Le P] (hb:fn.body.isSome=true:=by exact rfl) :
 az P ⟨dst,.call ⟨.value (.func f),xs,ts⟩,ty,pos,after,guard⟩ ρ h Φ X:=ay c.e hb (Le.at c.e) (sG hvs) (af.cD k)
theorem yp {X0:List PanicEntry->ai->Prop}(hvs:xQ ρ xs.toList=some vs) (k:af P f vs.toArray h (EP Φ X0)) (hx:∀c h',X0 c h'->X c h') [c:b6 P f fn] [g:Le P] (hb:fn.body.isSome=true:=by exact rfl) :
 az P ⟨dst,.call ⟨.value (.func f),xs,ts⟩,ty,pos,after,guard⟩ ρ h Φ X:=ay c.e hb (Le.at c.e) (sG hvs) (af.NA k hx)
theorem nk (hx:aV ρ x=some v:=by exact rfl) :
 az P ⟨dst,.box t x,ty,pos,after,guard⟩ ρ h (fun u g=>u= .pointer (some ⟨h.size,0,none⟩)/\aE g h.size t v.cells.toList/\ak h g/\g.size=h.size+1) X:=az.iQ hx
theorem iT {z:Value}[c:JV P t z] :
 az P ⟨dst,.alloc t,ty,pos,after,guard⟩ ρ h (fun u g=>u= .pointer (some ⟨h.size,0,none⟩)/\aE g h.size t z.cells.toList/\ak h g/\g.size=h.size+1) X:=az.cC c.e
theorem gq {g o:Nat}{cur:List Value}[c:ql P t 1] (hx:aV ρ x=some (.pointer (some ⟨g,o,none⟩))) (hy:aV ρ y=some v) (hk:aE h g e cur) (h1:v.oneCell'=true:=by exact rfl)
 (hl:o<cur.length:=by first|decide|exact of_decide_eq_true rfl|(simp;done)|(simp;omega)) :
 az P ⟨dst,.store t x y,ty,pos,after,guard⟩ ρ h (fun u h'=>u=undef/\aE h' g e (cur.set o v)/\Ext (fun b=>b=g) h h'/\h'.size=h.size) X:=az.aO c.e hx hy hk hl h1
theorem er {g o:Nat}{cur:List Value}{cs:Array Value}[c:ql P t sz] (hx:aV ρ x=some (.pointer (some ⟨g,o,none⟩))) (hy:aV ρ y=some (.agg cs)) (hk:aE h g e cur) (h1:∀v∈cs.toList,v.oneCell'=true:=by first|decide|simp[Value.oneCell'])
 (hn:cs.size=sz:=by first|exact rfl|(simp;done)|(simp;omega)) (hl:o+sz<=cur.length:=by first|decide|exact of_decide_eq_true rfl|(simp;done)|(simp;omega)) :
 az P ⟨dst,.store t x y,ty,pos,after,guard⟩ ρ h (fun u h'=>u=undef/\aE h' g e (over cur o cs.toList)/\Ext (fun b=>b=g) h h'/\h'.size=h.size) X:=az.aH c.e hx hy hk hn hl h1
theorem E1 {xs news:List Value}{m c base:Nat}[u:pL P t (.slice e)] [w:EY P e size bytes] (hx:aV ρ x=some v) (hy:aV ρ y=some (.slice (some ⟨h0.size,0,none⟩) m c)) (hown:ax h0 base e size v n xs)
 (hh:h=h0.push (.cells news.toArray e)) (hl:news.length=m*size) (hn:n+m<=1000000000:=by omega) (hbase:base<=h0.size:=by omega)
 (h1:∀u∈news,u.oneCell'=true:=by first|decide|simp[Value.oneCell']) (hby:bytes<=1000:=by decide) :
 az P ⟨dst,.call ⟨.builtin .append,#[x,y],#[t,t]⟩,ty,pos,after,guard⟩ ρ h (fun v' h'=>ax h' base e size v' (n+m) (xs++news)/\Ext (bV v.ownBlock) h0 h'/\Ext (bV v.ownBlock) h h'/\(∀b,v'.ownBlock=some b->v.ownBlock=some b\/h0.size<=b)) X :=
 az.fM u.e w.e hx hy hown hh hl h1 hn hby hbase
theorem Kh {ps:Array (Nat×Operand)}[u:pL P t (.slice e)] [w:EY P e size bytes] (hps:ps.toList.map (fun p=>(p.1,aV ρ p.2))=[(0,some (.agg cs.toArray))]:=by exact rfl) (hn:cs.length=size:=by exact rfl) (hsz:size<=16777216:=by decide) :
 az P ⟨dst,.buildSlice t 1 ps,ty,pos,after,guard⟩ ρ h (fun u g=>u= .slice (some ⟨h.size,0,none⟩) 1 1/\g=h.push (.cells cs.toArray e)) X:=az.cy u.e w.e hps hn hsz
theorem sO {len:Nat}{ps:Array (Nat×Operand)}(us:List Value) [u:pL P t (.slice e)] [w:EY P e 1 bytes] (hps:ps.toList.map (fun p=>(p.1,aV ρ p.2))=(us.zipIdx.map fun p=>(p.2,p.1)).map (fun p=>(p.1,some p.2)):=by exact rfl)
 (hl:us.length=len:=by exact rfl) (hlen:len<=16777216:=by decide) (h1:∀u∈us,u.oneCell'=true:=by simp[Value.oneCell']) :
 az P ⟨dst,.buildSlice t len ps,ty,pos,after,guard⟩ ρ h (fun u g=>u= .slice (some ⟨h.size,0,none⟩) len len/\g=h.push (.cells us.toArray e)) X:=az.pz u.e w.e hps hl hlen h1
theorem Qh [u:pL P t (.slice e)] [w:EY P e size bytes]:az P ⟨dst,.buildSlice t 0 #[],ty,pos,after,guard⟩ ρ h (fun u g=>u= .slice (some ⟨h.size,0,none⟩) 0 0/\g=h.push (.cells #[] e)) X:=az.ED u.e w.e
end
theorem OX {P:Program}{ρ:Env}{h:ai}(k:an P o ρ h v:=by
 first
 |exact A7 rfl
 |exact QE
 |exact QC
 |exact an.dm rfl rfl ⟨by omega,by omega⟩
 |exact an.kV rfl rfl ⟨by omega,by omega⟩
 |exact an.xm rfl rfl
 |exact an.AK rfl rfl
 |exact Dl rfl rfl _
 |exact QA
 |exact QF
 |exact QD
 |exact QB
 |exact an.min2 rfl rfl
 |exact an.max2 rfl rfl
 |exact an.mM rfl rfl (by omega)):an P o ρ h v:=k
section
variable {P:Program}{n:Nat}{ops:Array Oper}{i:Nat}{ρ ρ':Env}{h:ai}{N:Env->ai->Prop}{X:List PanicEntry->ai->Prop}
theorem b7 (next:RW P n ops (i+1) ((d,v)::ρ) h N X)
 (e:(nth ops.toList i,aJ ops ρ o,o.dst,Nat.blt d n)=(some o,some true,some d,true):=by exact rfl) (k:an P o ρ h v:=by exact OX):RW P n ops i ρ h N X:=xp e k next
theorem bQ (e:(nth ops.toList i,aJ ops ρ o,o.dst)=(some o,some true,none)) (k:az P o ρ h Φ X) (next:∀v h',Φ v h'->RW P n ops (i+1) ρ h' N X):RW P n ops i ρ h N X:=by
 simp only[Prod.mk.injEq] at e;exact RW.fS e.1 e.2.1 e.2.2 k next
theorem Qd (next:RW P n ops (i+1) ((d,undef)::ρ) h N X)
 (e:(nth ops.toList i,aJ ops ρ o,o.dst,Nat.blt d n)=(some o,some false,some d,true):=by exact rfl):RW P n ops i ρ h N X:=xk e next
theorem Qu (next:RW P n ops (i+1) ρ h N X)
 (e:(nth ops.toList i,aJ ops ρ o,o.dst)=(some o,some false,none):=by exact rfl):RW P n ops i ρ h N X:=by
 simp only[Prod.mk.injEq] at e;exact RW.NQ e.1 e.2.1 e.2.2 next
def Gk (n:Nat) (ops:Array Oper):Nat->Nat->Env->Option (Nat×Env)
 | 0,i,ρ=>some (i,ρ)
 |k+1,i,ρ=>match nth ops.toList i with
  |some o=>match o.dst with
   |some d=>match Nat.blt d n with
    |true=>match aJ ops ρ o with
     |some true=>match Oi ρ o.op with
      |some v=>Gk n ops k (i+1) ((d,v)::ρ)
      |none=>some (i,ρ)
     |some false=>Gk n ops k (i+1) ((d,undef)::ρ)
     |none=>some (i,ρ)
    |false=>some (i,ρ)
   |none=>some (i,ρ)
  |none=>some (i,ρ)
theorem Au {j:Nat}:∀(k i:Nat) (ρ:Env),Gk n ops k i ρ=some (j,ρ')->RW P n ops j ρ' h N X->RW P n ops i ρ h N X
 | 0,i,ρ,e,next=>by simp only[Gk,Option.some.injEq,Prod.mk.injEq] at e;obtain⟨rfl,rfl⟩:=e;exact next
 |k+1,i,ρ,e,next=>by
  rw[Gk] at e;have fin:some (i,ρ)=some (j,ρ')->RW P n ops i ρ h N X:=fun e=>by simp only[Option.some.injEq,Prod.mk.injEq] at e;obtain⟨rfl,rfl⟩:=e;exact next
  split at e
  · rename_i o ho;split at e
    · rename_i d hd;split at e
      · rename_i hb;split at e
        · rename_i hw;split at e
          · rename_i v hv;exact RW.aD ho hw hd hb (A7 hv) (Au k _ _ e next)
          · exact fin e
        · rename_i hw;exact RW.bn ho hw hd hb (Au k _ _ e next)
        · exact fin e
      · exact fin e
    · exact fin e
  · exact fin e
def NT (n:Nat) (ops:Array Oper) (i:Nat) (ρ:Env):Option (Nat×Env):=match As n ops 1 i ρ with
 |some ρ'=>Gk n ops 200 (i+1) ρ'
 |none=>none
theorem Qv {j:Nat}(next:RW P n ops j ρ' h N X) (e:NT n ops i ρ=some (j,ρ'):=by exact rfl):RW P n ops i ρ h N X:=by
 unfold NT at e;split at e
 · rename_i r hr;exact dz 1 hr (Au _ _ _ e next)
 · cases e
end
section
variable {P:Program}{n:Nat}{ops:Array Oper}{i:Nat}{ρ ρ':Env}{h:ai}{N:Env->Prop}
theorem nj (e:(nth ops.toList i,aJ ops ρ o,o.dst,Nat.blt d n)=(some o,some true,some d,true)) (k:an P o ρ h v) (next:RQ P n ops (i+1) ((d,v)::ρ) h N):RQ P n ops i ρ h N:=by
 simp only[Prod.mk.injEq] at e;exact RQ.aD e.1 e.2.1 e.2.2.1 e.2.2.2 k next
theorem Ng (next:RQ P n ops (i+1) ((d,v)::ρ) h N)
 (e:(nth ops.toList i,aJ ops ρ o,o.dst,Nat.blt d n)=(some o,some true,some d,true):=by exact rfl) (k:an P o ρ h v:=by exact OX):RQ P n ops i ρ h N:=nj e k next
theorem Qx (next:RQ P n ops (i+1) ((d,undef)::ρ) h N)
 (e:(nth ops.toList i,aJ ops ρ o,o.dst,Nat.blt d n)=(some o,some false,some d,true):=by exact rfl):RQ P n ops i ρ h N:=by
 simp only[Prod.mk.injEq] at e;exact RQ.bn e.1 e.2.1 e.2.2.1 e.2.2.2 next
theorem Qz {dst:Option Nat}{ty:TypeId}{pos:String}{after:Array Edge}{guard:Option (Nat×Bool)}
 (k:af P f vs.toArray h (aX fun u h'=>u=v/\h'=h)) (next:RQ P n ops (i+1) ((d,v)::ρ) h N) [c:b6 P f fn] [g:Le P] (ho:nth ops.toList i=some ⟨dst,.call ⟨.value (.func f),xs,ts⟩,ty,pos,after,guard⟩:=by exact rfl)
 (e:(aJ ops ρ ⟨dst,.call ⟨.value (.func f),xs,ts⟩,ty,pos,after,guard⟩,dst,Nat.blt d n)=(some true,some d,true):=by exact rfl) (hb:fn.body.isSome=true:=by exact rfl) (hvs:xQ ρ xs.toList=some vs:=by exact rfl):RQ P n ops i ρ h N:=by
 simp only[Prod.mk.injEq] at e;exact RQ.Ov ho rfl e.1 e.2.1 e.2.2 c.e hb (Le.at c.e) (sG hvs) k next
end
def Mn:Op->Bool
 |.makeFunc .. |.lookup .. |.move .. |.assign .. |.pick .. |.binOp .. |.unOp .. |.convert .. |.extract .. |.nilCheck .. |.load .. |.indexAddr .. |.index .. |.fieldAddr .. |.slice .. |.field .. |.build .. |.makeInterface .. =>true
 |.call ⟨.builtin b,_,_⟩=>match b with
  |.len|.cap|.min|.max=>true
  |_=>false
 |_=>false
def Ic (fn:Func):List It->Option (List It)
 |.blk _::k=>some k
 |.scp _::k=>some k
 |.code p::k=>match sub (av fn) p with
  |.skip=>some k
  |.label .. =>some k
  |.seq .. =>some (.code (0::p):: .code (1::p)::k)
  |.block id _=>some (.code (0::p):: .blk id::k)
  |.scope _=>some (.code (0::p):: .scp (0::p)::k)
  |.exit id=>qe id k
  |_=>none
 |_=>none
def Ib (fn:Func):Nat->List It->Option (List It)
 | 0,k=>some k
 |n+1,k=>match Ic fn k with
  |some k'=>Ib fn n k'
  |none=>some k
def NM (fn:Func) (k:List It):Option (List It):=match Ic fn k with
 |some k'=>Ib fn 99 k'
 |none=>none
def wr:List Oper->Nat->Bool
 | [],_=>false
 |o::r,i=>match o.dst with
  |some d=>match Nat.beq d i with
   |true=>true
   |false=>wr r i
  |none=>wr r i
def og (l:List Oper):Env->Env->Option Env
 | [],acc=>some acc
 |(i,v)::r,acc=>match wr l i with
  |true=>og l r acc
  |false=>match acc.at i with
   |some _=>og l r acc
   |none=>og l r ((i,v)::acc)
theorem o8 {l:List Oper}{ρ0:Env}:∀{ρ acc ρ1:Env},og l ρ acc=some ρ1->Sub acc ρ0->(∀j v,wr l j=false->acc.at j=none->ρ.at j=some v->ρ0.at j=some v)->Sub ρ1 ρ0
 | [],acc,ρ1,e,h,_=>by simp only[og,Option.some.injEq] at e;subst e;exact h
 |(i,v)::r,acc,ρ1,e,h,hr=>by
  rw[og] at e;have key:∀j u,wr l j=false->acc.at j=none->j≠i->Env.at r j=some u->ρ0.at j=some u:=fun j u h0 h1 h2 h3=>hr j u h0 h1 (by rw[Env.fL,if_neg (Ne.symm h2)];exact h3)
  split at e
  · rename_i hw;exact o8 e h fun j u h0 h1 h3=>key j u h0 h1 (fun q=>by subst q;rw[hw] at h0;cases h0) h3
  · rename_i hw;split at e
    · rename_i x hx;exact o8 e h fun j u h0 h1 h3=>key j u h0 h1 (fun q=>by subst q;rw[hx] at h1;cases h1) h3
    · rename_i hx;refine o8 e ⟨hr i v hw hx (by rw[Env.fL,if_pos rfl]),h⟩ fun j u h0 h1 h3=>?_
      rw[Env.fL] at h1;split at h1
      · cases h1
      · rename_i q;exact key j u h0 h1 (fun q'=>q q'.symm) h3
theorem rZ {l:List Oper}{ρ:Env}(e:og l ρ []=some ρ1):Sub ρ1 ρ:=o8 e trivial fun _ _ _ _ h=>h
section
variable {P:Program}{f:FuncId}{fn:Func}{k k':List It}{ρ ρ':Env}{h:ai}{R:Ending->ai->Prop}{p:List Nat}
theorem Ak (e:Ic fn k=some k') (next:G P f fn k' ρ h R):G P f fn k ρ h R:=by
 unfold Ic at e;split at e
 · cases e;exact G.cz next
 · cases e;exact G.Mk next
 · split at e
   · rename_i hc;cases e;exact aR (by rw[hc];rfl) next
   · rename_i hc;cases e;exact FU (by rw[hc];rfl) next
   · rename_i hc;cases e;exact aC (by rw[hc];rfl) next
   · rename_i hc;cases e;exact G.block (by rw[hc];rfl) (by rw[hc];rfl) next
   · rename_i hc;cases e;exact FT (by rw[hc];rfl) next
   · rename_i hc;exact jb (by rw[hc];rfl) (by rw[hc];exact e) next
   · cases e
 · cases e
theorem E7:∀(n:Nat) (k:List It),Ib fn n k=some k'->G P f fn k' ρ h R->G P f fn k ρ h R
 | 0,k,e,next=>by simp only[Ib,Option.some.injEq] at e;subst e;exact next
 |n+1,k,e,next=>by
  rw[Ib] at e;split at e
  · rename_i h1;exact Ak h1 (E7 n _ e next)
  · cases e;exact next
theorem QG (next:G P f fn k' ρ h R) (e:NM fn k=some k':=by exact rfl):G P f fn k ρ h R:=by
 unfold NM at e;split at e
 · rename_i h1;exact Ak h1 (E7 _ _ e next)
 · cases e
theorem bZ (next:G P f fn k' ρ h R) (e:Ic fn k=some k':=by exact rfl):G P f fn k ρ h R:=Ak e next
theorem eu (next:RW P fn.ntmps (opsOf (Lw.sub (av fn) p)) 0 ρ h (fun ρ' h'=>G P f fn k ρ' h' R) (fun ch h'=>R (.panicked ch) h')) [c:b6 P f fn] (hk:kind (Lw.sub (av fn) p)=5:=by exact rfl):G P f fn (.code p::k) ρ h R:=G.eM c.e hk next
theorem QH (next:RQ P fn.ntmps (opsOf (Lw.sub (av fn) p)) 0 ρ h (fun ρ'=>G P f fn k ρ' h R)) [c:b6 P f fn] [m:M7 P] (hk:kind (Lw.sub (av fn) p)=6:=by exact rfl) (hB:Region.lexB .any (opsOf (Lw.sub (av fn) p))=true:=by kernel_rfl):G P f fn (.code p::k) ρ h R:=G.CP c.e m.e hk hB next
theorem QI (next:RQ P fn.ntmps (opsOf (Lw.sub (av fn) p)) 0 ρ h (fun ρ'=>G P f fn k ρ' h R)) [c:b6 P f fn] [m:M7 P] (hk:kind (Lw.sub (av fn) p)=6:=by exact rfl)
 (_:(opsOf (Lw.sub (av fn) p)).toList.all (fun o=>Mn o.op)=true:=by exact rfl) (hB:Region.lexB .any (opsOf (Lw.sub (av fn) p))=true:=by kernel_rfl):G P f fn (.code p::k) ρ h R:=G.CP c.e m.e hk hB next
theorem fu {X:List PanicEntry->ai->Prop}(next:G P f fn k ρ h R) (e:Nat.ble ops.size i=true:=by exact rfl):RW P n ops i ρ h (fun ρ' h'=>G P f fn k ρ' h' R) X:=RW.done e next
theorem Qy (next:G P f fn k ρ h R) (e:Nat.ble ops.size i=true:=by exact rfl):RQ P n ops i ρ h (fun ρ'=>G P f fn k ρ' h R):=RQ.done e next
theorem bN {φ:Prop}{_:Decidable φ}(ht:φ->G P f fn (.code (0::p)::k) ρ h R) (hn:¬φ->G P f fn (.code (1::p)::k) ρ h R) (hk:kind (Lw.sub (av fn) p)=7:=by exact rfl)
 (hc:aV ρ (oA (Lw.sub (av fn) p))=some (.bool (decide φ)):=by exact rfl):G P f fn (.code p::k) ρ h R:=dQ hk hc ht hn
theorem Dm {t:Bool}(ht:t=true->G P f fn (.code (0::p)::k) ρ h R) (hn:t=false->G P f fn (.code (1::p)::k) ρ h R) (hk:kind (Lw.sub (av fn) p)=7:=by exact rfl)
 (hc:aV ρ (oA (Lw.sub (av fn) p))=some (.bool t):=by exact rfl):G P f fn (.code p::k) ρ h R:=aA hk hc ht hn
theorem mX {t:Bool}(hc:aV ρ (oA (Lw.sub (av fn) p))=some (.bool t)) (hb:¬t=false) (next:G P f fn (.code (0::p)::k) ρ h R) (hk:kind (Lw.sub (av fn) p)=7:=by exact rfl):G P f fn (.code p::k) ρ h R :=
 aA hk hc (fun _=>next) (fun e=>absurd e hb)
theorem mQ {t:Bool}(hc:aV ρ (oA (Lw.sub (av fn) p))=some (.bool t)) (hb:¬t=true) (next:G P f fn (.code (1::p)::k) ρ h R) (hk:kind (Lw.sub (av fn) p)=7:=by exact rfl):G P f fn (.code p::k) ρ h R :=
 aA hk hc (fun e=>absurd e hb) (fun _=>next)
theorem bE (hR:R (.returned (packed vs)) h) [c:b6 P f fn] (hk:kind (Lw.sub (av fn) p)=4:=by exact rfl) (hr:gi ρ fn.results.toList=some vs:=by exact rfl):G P f fn (.code p::k) ρ h R:=bM c.e hk hr hR
theorem J7 (hR:R (.returned (packed vs)) h) [c:b6 P f fn] (hr:gi ρ fn.results.toList=some vs:=by exact rfl):G P f fn [] ρ h R:=G.G2 c.e hr hR
theorem cu (next:G P f fn [.code []] (mL 0 vs) h R) [c:b6 P f fn] (hb:fn.body.isSome=true:=by exact rfl) (hn:Nat.ble vs.length fn.ntmps=true:=by exact rfl):af P f vs.toArray h R:=af.of c.e hb hn next
theorem Nt (E:σ->Env) (I:σ->ai->Prop) (μ:σ->Nat) (s0:σ) (h0:I s0 h)
 (round:∀s h,I s h->(∀s' {h' ρ'},I s' h'->(hm:μ s' < μ s:=by first|(dsimp only;omega)|omega)->(hs:Sub (E s') ρ':=by exact sb rfl)->G P f fn (.loop (0::p)::k) ρ' h' R)->G P f fn (.code (0::p):: .loop (0::p)::k) (E s) h R)
 (hk:kind (Lw.sub (av fn) p)=3:=by exact rfl) (hs:Sub (E s0) ρ:=by exact sb rfl):G P f fn (.code p::k) ρ h R :=
 hU E I μ s0 hk hs h0 (fun s h hi ih=>round s h hi (fun s' _ _ h1 h2 h3=>ih s' _ _ h3 h1 h2))
end
section
variable {P:Program}{n:Nat}{ops:Array Oper}{M:Nat->Prop}{keeps:Nat->Bool}{fuel:Nat}{listed:Array Bool}{ρ:Env}{h:ai}{N:Env->ai->Prop}{X:List PanicEntry->ai->Prop}
def N0 (ops:Array Oper) (keeps:Nat->Bool) (listed:Array Bool) (i:Nat):Bool:=Region.noSelect ops && (uk ops keeps listed i && (Region.ready .any ops listed).contains i)
theorem cA (i:Nat) (e:(nth ops.toList i,aJ ops ρ o,o.dst,Nat.blt d n)=(some o,some true,some d,true)) (k:∀h',Ext M h h'->an P o ρ h' v)
 (next:RD P n ops M keeps fuel (listed.setIfInBounds i true) ((d,v)::ρ) h N X) (hk:N0 ops keeps listed i=true:=by kernel_rfl):RD P n ops M keeps (fuel+1) listed ρ h N X:=by
 simp only[Prod.mk.injEq] at e;simp only[N0,Bool.and_eq_true] at hk;exact RD.HW i e.1 hk.1 hk.2.1 hk.2.2 e.2.1 e.2.2.1 e.2.2.2 k rfl next
theorem aZ (i:Nat) (next:RD P n ops M keeps fuel (listed.setIfInBounds i true) ((d,v)::ρ) h N X) (e:(nth ops.toList i,aJ ops ρ o,o.dst,Nat.blt d n)=(some o,some true,some d,true):=by exact rfl)
 (k:∀h',Ext M h h'->an P o ρ h' v:=by intro _ _;exact OX) (hk:N0 ops keeps listed i=true:=by kernel_rfl):RD P n ops M keeps (fuel+1) listed ρ h N X:=cA i e k next hk
theorem nu (i:Nat) (next:RD P n ops M keeps fuel (listed.setIfInBounds i true) ((d,undef)::ρ) h N X) (e:(nth ops.toList i,aJ ops ρ o,o.dst,Nat.blt d n)=(some o,some false,some d,true):=by exact rfl)
 (hk:N0 ops keeps listed i=true:=by kernel_rfl):RD P n ops M keeps (fuel+1) listed ρ h N X:=by
 simp only[Prod.mk.injEq] at e;simp only[N0,Bool.and_eq_true] at hk;exact RD.bn i e.1 hk.1 hk.2.1 hk.2.2 e.2.1 e.2.2.1 e.2.2.2 rfl next
theorem iL (i:Nat) (e:(nth ops.toList i,aJ ops ρ o,o.dst,Nat.blt d n)=(some o,some true,some d,true)) (k:az P o ρ h Φ X)
 (next:∀v h',Φ v h'->(keeps i=true->Ext M h h')/\RD P n ops M keeps fuel (listed.setIfInBounds i true) ((d,v)::ρ) h' N X) (hr:Region.ready .any ops listed=[i]:=by kernel_rfl):RD P n ops M keeps (fuel+1) listed ρ h N X:=by
 simp only[Prod.mk.injEq] at e;exact RD.NY i e.1 hr e.2.1 e.2.2.1 e.2.2.2 k rfl next
theorem pO (i:Nat) (e:(nth ops.toList i,aJ ops ρ o,o.dst)=(some o,some true,none)) (k:az P o ρ h Φ X)
 (next:∀v h',Φ v h'->(keeps i=true->Ext M h h')/\RD P n ops M keeps fuel (listed.setIfInBounds i true) ρ h' N X) (hr:Region.ready .any ops listed=[i]:=by kernel_rfl):RD P n ops M keeps (fuel+1) listed ρ h N X:=by
 simp only[Prod.mk.injEq] at e;exact RD.NZ i e.1 hr e.2.1 e.2.2 k rfl next
theorem O8 (i:Nat) (e:(nth ops.toList i,aJ ops ρ o,o.dst,Nat.blt d n)=(some o,some true,some d,true)) (k:an P o ρ h v)
 (next:RD P n ops M keeps fuel (listed.setIfInBounds i true) ((d,v)::ρ) h N X) (hr:Region.ready .any ops listed=[i]:=by kernel_rfl):RD P n ops M keeps (fuel+1) listed ρ h N X :=
 iL i e k.cD (fun u h' hq=>by obtain⟨rfl,rfl⟩:=hq;exact⟨fun _=>Ext.refl _ _,next⟩) hr
theorem J8 (i:Nat) (next:RD P n ops M keeps fuel (listed.setIfInBounds i true) ((d,v)::ρ) h N X) (e:(nth ops.toList i,aJ ops ρ o,o.dst,Nat.blt d n)=(some o,some true,some d,true):=by exact rfl) (k:an P o ρ h v:=by exact OX)
 (hr:Region.ready .any ops listed=[i]:=by kernel_rfl):RD P n ops M keeps (fuel+1) listed ρ h N X:=O8 i e k next hr
theorem OY (i j:Nat){oi oj:Oper}{Φ':Value->ai->Prop}{di dj:Nat}(ei:(nth ops.toList i,aJ ops ρ oi,oi.dst,Nat.blt di n)=(some oi,some true,some di,true)) (ej:(nth ops.toList j,aJ ops ρ oj,oj.dst,Nat.blt dj n)=(some oj,some true,some dj,true))
 (ki:az P oi ρ h Φ X) (kj:az P oj ρ h Φ' X)
 (nexti:∀v h',Φ v h'->(keeps i=true->Ext M h h')/\RD P n ops M keeps fuel (listed.setIfInBounds i true) ((di,v)::ρ) h' N X)
 (nextj:∀v h',Φ' v h'->(keeps j=true->Ext M h h')/\RD P n ops M keeps fuel (listed.setIfInBounds j true) ((dj,v)::ρ) h' N X) (hr:Region.ready .any ops listed=[i,j]:=by kernel_rfl):RD P n ops M keeps (fuel+1) listed ρ h N X:=by
 simp only[Prod.mk.injEq] at ei ej;exact RD.yx i j ei.1 ej.1 hr ei.2.1 ej.2.1 ei.2.2.1 ej.2.2.1 ei.2.2.2 ej.2.2.2 ki kj rfl rfl nexti nextj
theorem HG (he:h=h0) (hs:Sub ρ1 ρ:=by exact sb rfl) (hr:Region.ready .any ops listed=[]:=by kernel_rfl):RD P n ops M keeps fuel listed ρ h (fun ρ' h'=>h'=h0/\Sub ρ1 ρ') X:=RD.done hr ⟨he,hs⟩
theorem HF {E:σ->ai->Prop}{F:σ->Env}(s:σ) (hE:E s h) (hs:Sub (F s) ρ:=by exact sb rfl) (hr:Region.ready .any ops listed=[]:=by kernel_rfl):RD P n ops M keeps fuel listed ρ h (fun ρ' h'=>∃s,E s h'/\Sub (F s) ρ') X:=RD.done hr ⟨s,hE,hs⟩
theorem bq (he:h=h0) (hs:Sub ρ1 ρ:=by exact sb rfl) (e:Nat.ble ops.size i=true:=by exact rfl):RW P n ops i ρ h (fun ρ' h'=>h'=h0/\Sub ρ1 ρ') X:=RW.done e ⟨he,hs⟩
theorem FX {E:σ->ai->Prop}{F:σ->Env}(s:σ) (hE:E s h) (hs:Sub (F s) ρ:=by exact sb rfl) (e:Nat.ble ops.size i=true:=by exact rfl):RW P n ops i ρ h (fun ρ' h'=>∃s,E s h'/\Sub (F s) ρ') X:=RW.done e ⟨s,hE,hs⟩
theorem L7 (he:h=h0) (hs:Sub ρ1 ρ:=by exact sb rfl) (e:Nat.ble ops.size i=true:=by exact rfl):RQ P n ops i ρ h (fun ρ'=>h=h0/\Sub ρ1 ρ'):=RQ.done e ⟨he,hs⟩
end
section
variable {P:Program}{f:FuncId}{fn:Func}{k:List It}{ρ ρ1:Env}{h:ai}{R:Ending->ai->Prop}{p:List Nat}
theorem pQ {fuel:Nat}{M:Nat->Prop}{keeps:Nat->Bool}{listed:Array Bool}{X:List PanicEntry->ai->Prop}(next:G P f fn k ρ h R) (hr:Region.ready .any ops listed=[]:=by kernel_rfl) :
 RD P n ops M keeps fuel listed ρ h (fun ρ' h'=>G P f fn k ρ' h' R) X:=RD.done hr next
theorem vi (sz:Nat) (M:Nat->Prop) (keeps:Nat->Bool) (next:RD P fn.ntmps (opsOf (Lw.sub (av fn) p)) M keeps sz (Array.replicate sz false) ρ h (fun ρ' h'=>G P f fn k ρ' h' R) (fun ch h'=>R (.panicked ch) h')) [c:b6 P f fn] [m:M7 P]
 (hk:kind (Lw.sub (av fn) p)=6:=by exact rfl) (hsz:(opsOf (Lw.sub (av fn) p)).size=sz:=by exact rfl):G P f fn (.code p::k) ρ h R:=cU M keeps c.e m.e hk hsz rfl next
theorem L8 (sz bar:Nat) (next:RD P fn.ntmps (opsOf (Lw.sub (av fn) p)) (fun b=>h.size<=b) (fun i=>Nat.blt i bar) sz (Array.replicate sz false) ρ h (fun ρ' h'=>G P f fn k ρ' h' R) (fun ch h'=>R (.panicked ch) h')) [c:b6 P f fn] [m:M7 P]
 (hk:kind (Lw.sub (av fn) p)=6:=by exact rfl) (hsz:(opsOf (Lw.sub (av fn) p)).size=sz:=by exact rfl):G P f fn (.code p::k) ρ h R:=cU _ _ c.e m.e hk hsz rfl next
theorem jR (new:Env) (e:og (opsOf (Lw.sub (av fn) p)).toList ρ []=some ρ1) (eM:RW P fn.ntmps (opsOf (Lw.sub (av fn) p)) 0 ρ h (fun ρ' h'=>h'=h/\Sub (new++ρ1) ρ') (fun _ _=>False))
 (next:G P f fn k (new++ρ1) h R) [c:b6 P f fn] (hk:kind (Lw.sub (av fn) p)=5:=by exact rfl):G P f fn (.code p::k) ρ h R:=G.eF new ρ1 (rZ e) c.e hk eM next
theorem O9 (E:σ->ai->Prop) (new:σ->Env) (e:og (opsOf (Lw.sub (av fn) p)).toList ρ []=some ρ1) (eM:RW P fn.ntmps (opsOf (Lw.sub (av fn) p)) 0 ρ h (fun ρ' h'=>∃s,E s h'/\Sub (new s++ρ1) ρ') (fun ch h'=>R (.panicked ch) h'))
 (next:∀s h',E s h'->G P f fn k (new s++ρ1) h' R) [c:b6 P f fn] (hk:kind (Lw.sub (av fn) p)=5:=by exact rfl):G P f fn (.code p::k) ρ h R:=G.DP E new ρ1 (rZ e) c.e hk eM next
theorem L9 (sz:Nat) (M:Nat->Prop) (keeps:Nat->Bool) (new:Env) (e:og (opsOf (Lw.sub (av fn) p)).toList ρ []=some ρ1) (eM:RD P fn.ntmps (opsOf (Lw.sub (av fn) p)) M keeps sz (Array.replicate sz false) ρ h (fun ρ' h'=>h'=h/\Sub (new++ρ1) ρ') (fun ch h'=>R (.panicked ch) h'))
 (next:G P f fn k (new++ρ1) h R) [c:b6 P f fn] [m:M7 P] (hk:kind (Lw.sub (av fn) p)=6:=by exact rfl) (hsz:(opsOf (Lw.sub (av fn) p)).size=sz:=by exact rfl):G P f fn (.code p::k) ρ h R:=G.pq new ρ1 (rZ e) M keeps c.e m.e hk hsz rfl eM next
theorem Nu (sz:Nat) (M:Nat->Prop) (keeps:Nat->Bool) (E:σ->ai->Prop) (new:σ->Env) (e:og (opsOf (Lw.sub (av fn) p)).toList ρ []=some ρ1) (eM:RD P fn.ntmps (opsOf (Lw.sub (av fn) p)) M keeps sz (Array.replicate sz false) ρ h (fun ρ' h'=>∃s,E s h'/\Sub (new s++ρ1) ρ') (fun ch h'=>R (.panicked ch) h'))
 (next:∀s h',E s h'->G P f fn k (new s++ρ1) h' R) [c:b6 P f fn] [m:M7 P] (hk:kind (Lw.sub (av fn) p)=6:=by exact rfl) (hsz:(opsOf (Lw.sub (av fn) p)).size=sz:=by exact rfl):G P f fn (.code p::k) ρ h R:=G.sy E new ρ1 (rZ e) M keeps c.e m.e hk hsz rfl eM next
end
def J9:Code->Nat->Bool
 |.region _ ops _,i=>wr ops.toList i
 |.seq a b,i=>J9 a i ||J9 b i
 |.cond _ a b,i=>J9 a i ||J9 b i
 |.block _ b,i=>J9 b i
 |.loop b,i=>J9 b i
 |.scope b,i=>J9 b i
 |.rangeFunc ..,_=>true
 |_,_=>false
def wO (c:Code):Env->Env->Option Env
 | [],acc=>some acc
 |(i,v)::r,acc=>match J9 c i with
  |true=>wO c r acc
  |false=>match acc.at i with
   |some _=>wO c r acc
   |none=>wO c r ((i,v)::acc)
theorem o7 {c:Code}{ρ0:Env}:∀{ρ acc ρ1:Env},wO c ρ acc=some ρ1->Sub acc ρ0->(∀j v,J9 c j=false->acc.at j=none->ρ.at j=some v->ρ0.at j=some v)->Sub ρ1 ρ0
 | [],acc,ρ1,e,h,_=>by simp only[wO,Option.some.injEq] at e;subst e;exact h
 |(i,v)::r,acc,ρ1,e,h,hr=>by
  rw[wO] at e;have key:∀j u,J9 c j=false->acc.at j=none->j≠i->Env.at r j=some u->ρ0.at j=some u:=fun j u h0 h1 h2 h3=>hr j u h0 h1 (by rw[Env.fL,if_neg (Ne.symm h2)];exact h3)
  split at e
  · rename_i hw;exact o7 e h fun j u h0 h1 h3=>key j u h0 h1 (fun q=>by subst q;rw[hw] at h0;cases h0) h3
  · rename_i hw;split at e
    · rename_i x hx;exact o7 e h fun j u h0 h1 h3=>key j u h0 h1 (fun q=>by subst q;rw[hx] at h1;cases h1) h3
    · rename_i hx;refine o7 e ⟨hr i v hw hx (by rw[Env.fL,if_pos rfl]),h⟩ fun j u h0 h1 h3=>?_
      rw[Env.fL] at h1;split at h1
      · cases h1
      · rename_i q;exact key j u h0 h1 (fun q'=>q q'.symm) h3
theorem Sub.app:∀{a b ρ:Env},Sub a ρ->Sub b ρ->Sub (a++b) ρ
 | [],_,_,_,h=>h
 |(_,_)::_,_,_,⟨h1,h2⟩,h=>⟨h1,Sub.app h2 h⟩
section
variable {P:Program}{f:FuncId}{fn:Func}{k:List It}{ρ ρ1:Env}{h:ai}{R:Ending->ai->Prop}{p:List Nat}
theorem nq (new:σ->Env) (I:σ->ai->Prop) (μ:σ->Nat) (s0:σ) (h0:I s0 h) (e:wO (Lw.sub (av fn) p) ρ []=some ρ1)
 (round:∀s h,I s h->(∀s' {h' ρ'},I s' h'->(hm:μ s' < μ s:=by first|(dsimp only;omega)|omega)->(hs:Sub (new s'++ρ1) ρ':=by exact sb rfl)->G P f fn (.loop (0::p)::k) ρ' h' R)->G P f fn (.code (0::p):: .loop (0::p)::k) (new s++ρ1) h R)
 (hk:kind (Lw.sub (av fn) p)=3:=by exact rfl) (hs:Sub (new s0) ρ:=by exact sb rfl):G P f fn (.code p::k) ρ h R :=
 hU (fun s=>new s++ρ1) I μ s0 hk (Sub.app hs (o7 e trivial fun _ _ _ _ h=>h)) h0 (fun s h hi ih=>round s h hi (fun s' _ _ h1 h2 h3=>ih s' _ _ h3 h1 h2))
theorem jP:gZ P ρ h [] []:=.nil
theorem Kg {t:Tmp}(k:gZ P ρ h rs vs) (hx:ρ.at t=some v:=by exact rfl):gZ P ρ h (.tmp t::rs) (v::vs):=.cons (cP.tmp hx) k
theorem Qw {a:Tmp}{q:Addr}(hx:ρ.at a=some (.pointer (some q))) (hc:cellAt h q=some v) (k:gZ P ρ h rs vs) [c:ni P t false]:gZ P ρ h (.cell a t::rs) (v::vs):=.cons (cP.cell c.e hx hc) k
theorem jd {a:Tmp}{o:Nat}(hx:ρ.at a=some (.pointer (some ⟨b,o,none⟩))) (hc:rowAt h b o cs) (k:gZ P ρ h rs vs) [c:ni P t true] [d:ql P t sz] (hn:cs.length=sz:=by first|exact rfl|(simp;done)|(simp;omega)) :
 gZ P ρ h (.cell a t::rs) (.agg cs.toArray::vs):=.cons (cP.nM c.e d.e hx hc hn) k
theorem jQ (hr:gZ P ρ h fn.results.toList vs) (hR:R (.returned (packed vs)) h) [c:b6 P f fn] (hk:kind (Lw.sub (av fn) p)=4:=by exact rfl):G P f fn (.code p::k) ρ h R:=G.qu c.e hk hr hR
end
section
variable {P:Program}{n:Nat}{ops:Array Oper}{i:Nat}{ρ:Env}{h:ai}{M:Nat->Prop}{keeps:Nat->Bool}{fuel:Nat}{listed:Array Bool}{X:List PanicEntry->ai->Prop}{N:Env->ai->Prop}
theorem gU (d:Nat){b:Bool}(ht:b=true->RW P n ops i ((d,.bool true)::ρ) h N X) (hn:b=false->RW P n ops i ((d,.bool false)::ρ) h N X) (hb:ρ.at d=some (.bool b):=by exact rfl):RW P n ops i ρ h N X:=RW.split hb ht hn
theorem Qi (d:Nat){b:Bool}(ht:b=true->RD P n ops M keeps fuel listed ((d,.bool true)::ρ) h N X) (hn:b=false->RD P n ops M keeps fuel listed ((d,.bool false)::ρ) h N X) (hb:ρ.at d=some (.bool b):=by exact rfl):RD P n ops M keeps fuel listed ρ h N X:=RD.split hb ht hn
theorem Qg {N:Env->Prop}(d:Nat){b:Bool}(ht:b=true->RQ P n ops i ((d,.bool true)::ρ) h N) (hn:b=false->RQ P n ops i ((d,.bool false)::ρ) h N) (hb:ρ.at d=some (.bool b):=by exact rfl):RQ P n ops i ρ h N:=RQ.split hb ht hn
end
structure Qb (p:Prop):Prop where
 on:p
theorem ah {g g':Prop}(next:g') (k:Qb g'->g:=by
 intro n
 repeat first
  |refine Qv ?_
  |refine b7 ?_
  |refine fu ?_
  |refine QG ?_
  |refine eu ?_
  |refine Ng ?_
  |refine Qx ?_
  |refine Qy ?_
  |refine QI ?_
  |refine Qu ?_
 exact n.on):g:=k ⟨next⟩
end
end Go.Lw

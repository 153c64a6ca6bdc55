/- What the proof of the statement leans on (part 13). -/
import Derived.Lib.ConvBytes
import Derived.Lib.AtoiErrMem
import Derived.Laws.Runes
import Derived.Lib.MakeNoZero
import Derived.Laws.CopyOwn
import Derived.Test.YtdgckfkoihcmjaaGreatDoorQl

namespace Go.Lw
class kE (P:Program) (t:TypeId) (d:outParam TypeDesc):Prop where e:P.underlying t=some d
class kV (P:Program) (t:TypeId) (n:outParam Nat):Prop where e:cq P t=some n
class kG (P:Program) (t:TypeId) (b:outParam Bool):Prop where e:aO P t=some b
class BS (P:Program) (t:TypeId) (s b:outParam Nat):Prop where e:dV P t s b
class BL (P:Program) (t:TypeId) (z:outParam Value):Prop where e:(P.info? t).bind (·.zero)=some z
class bI (P:Program) (f:FuncId) (fn:outParam Func):Prop where e:P.funcs[f]? =some fn
class JP (P:Program):Prop where e:(P.funcs.toList.all fun fn=> !(fn.name == "runtime.NumGoroutine"))=true
class Ll (P:Program):Prop where e:P.follows .mixedOrders=true
class OU (P:Program) (t:TypeId):Prop where e:P.concrete t=true
class gI (P:Program) (t:TypeId) (i:Nat) (off:outParam Nat):Prop where
 e:∃fs fd k,P.underlying t=some (.struct fs)/\fs[i]? =some fd/\fd.offset=off/\cq P fd.type=some (k+1)
class PU (P:Program) (t:TypeId) (i:Nat) (off:outParam Nat):Prop where
 e:∃fs fd,P.underlying t=some (.struct fs)/\fs[i]? =some fd/\fd.offset=off/\aO P fd.type=some false
section
variable {f:FuncId}{fn:Func}{t e s:TypeId}{x y:Operand}{i b sz n d size bytes:Nat}{o:Oper}{v:Value}{cs vs:List Value}{k:IntKind}{j:Int}{xs:Array Operand}{ts:Array TypeId}{Φ:Value->aj->Prop}{h0:aj}{ρ1:Env}{ops:Array Oper}{σ:Type}{rs:List ResultVar}
theorem JP.at {P:Program}[g:JP P] (h:P.funcs[f]? =some fn):(fn.name == "runtime.NumGoroutine")=false:=by
 have:=List.all_eq_true.1 g.e fn (by simpa using Array.mem_of_getElem? h);simpa using this
section
variable {P:Program}{ρ:Env}{h:aj}{dst:Option Nat}{ty:TypeId}{pos:String}{after:Array Edge}{guard:Option (Nat×Bool)}{X:List PanicEntry->aj->Prop}
theorem Pa {o off:Nat}[c:gI P t i off] (hx:aQ ρ x=some (.pointer (some ⟨b,o,none⟩)):=by exact rfl) :
 ay P ⟨dst,.fieldAddr t x i,ty,pos,after,guard⟩ ρ h (.pointer (some ⟨b,o+off,none⟩)):=by
 obtain⟨fs,fd,k,h1,h2,h3,h4⟩:=c.e;exact bZ h1 h2 h3 h4 hx
theorem az {p:Addr}(hx:aQ ρ x=some (.pointer (some p))) (hc:cellAt h p=some v) [c:kG P t false] :
 ay P ⟨dst,.load t x,ty,pos,after,guard⟩ ρ h v:=cv c.e hx hc
theorem bV {o:Nat}(hx:aQ ρ x=some (.pointer (some ⟨b,o,none⟩))) (hc:rowAt h b o cs) [c:kG P t true] [d:kV P t sz]
 (hn:cs.length=sz:=by first|exact rfl|(simp;done)|(simp;omega)):ay P ⟨dst,.load t x,ty,pos,after,guard⟩ ρ h (.agg cs.toArray):=ay.jo c.e d.e hx hc hn
theorem cK {oa:Option Addr}{o c:Nat}[u:kE P t (.slice e)] [s:kV P e sz] (hx:aQ ρ x=some (.slice oa n c)) (hy:aQ ρ y=some (.int k j)) (i:Nat) (hj:j=i) (ha:oa=some ⟨b,o,none⟩) (hi:i<n:=by omega) :
 ay P ⟨dst,.indexAddr t x y,ty,pos,after,guard⟩ ρ h (.pointer (some ⟨b,o+i*sz,none⟩)):=ay.oJ u.e s.e hx hy i hj ha hi
theorem xM {o:Nat}[u:kE P t (.array n e)] [s:kV P e sz] (hx:aQ ρ x=some (.pointer (some ⟨b,o,none⟩))) (hy:aQ ρ y=some (.int k j)) (i:Nat) (hj:j=i:=by exact rfl) (hi:i<n:=by first|decide|omega) :
 ay P ⟨dst,.indexAddr t x y,ty,pos,after,guard⟩ ρ h (.pointer (some ⟨b,o+i*sz,none⟩)):=ay.G6 u.e s.e hx hy i hj hi
theorem sG {s:ByteArray}{b:UInt8}[u:kE P t .string] (hx:aQ ρ x=some (.string s)) (hy:aQ ρ y=some (.int k j)) (i:Nat) (hj:j=i) (hb:s.data[i]? =some b) :
 ay P ⟨dst,.index t x y,ty,pos,after,guard⟩ ρ h (.int .u8 b.toNat):=ay.G5 u.e hx hy i hj hb
def Mn:TypeDesc->Option Value->Option Value
 |.slice _,some (.slice _ n _)=>some (.int .i64 (n:Nat))
 |.string,some (.string s)=>some (.int .i64 (s.size:Nat))
 |.array n _,some _=>some (.int .i64 (n:Nat))
 |_,_=>none
theorem O8 {d:TypeDesc}[u:kE P t d] (e:Mn d (aQ ρ x)=some v:=by exact rfl):ay P ⟨dst,.call ⟨.builtin .len,#[x],#[t]⟩,ty,pos,after,guard⟩ ρ h v:=by
 unfold Mn at e;split at e<;>cases e
 · rename_i hx;exact ay.GS u.e hx
 · rename_i hx;exact ay.EN u.e hx
 · rename_i hx;exact ay.GU u.e hx
theorem O1 {off:Nat}{cs:Array Value}[c:PU P t i off]
 (hx:aQ ρ x=some (.agg cs):=by exact rfl) (hv:cs[off]? =some v:=by exact rfl):ay P ⟨dst,.field t x i,ty,pos,after,guard⟩ ρ h v:=by
 obtain⟨fs,fd,h1,h2,h3,h4⟩:=c.e;exact ay.field h1 h2 h3 h4 hx hv
theorem Pc {yt:TypeId}{i j:Bool}[u:kE P t .bool] (hx:aQ ρ x=some (.bool i):=by exact rfl) (hy:aQ ρ y=some (.bool j):=by exact rfl) :
 ay P ⟨dst,.binOp .eql t x y yt,ty,pos,after,guard⟩ ρ h (.bool (i ==j)):=ay.Jm u.e hx hy
theorem O5 {d:TypeId}{ds:TypeDesc}{k':IntKind}{i:Int}[u:kE P s ds] [w:kE P d (.int k')] (hx:aQ ρ x=some (.int k i):=by exact rfl) :
 ay P ⟨dst,.convert s d x,ty,pos,after,guard⟩ ρ h (.int k' (k'.wrap i)):=ay.DH u.e w.e hx
theorem NL {d:TypeId}{ds:TypeDesc}{k':IntKind}{i:Int}[u:kE P s ds] [w:kE P d (.int k')] (hx:aQ ρ x=some (.int k i)) (hw:k'.wrap i=i) :
 ay P ⟨dst,.convert s d x,ty,pos,after,guard⟩ ρ h (.int k' i):=ay.K5 u.e w.e hx hw
theorem O7 {d:TypeId}{O:Nat->Prop}{l:List UInt8}[a:kE P s (.slice e)] [b:kE P e (.int .u8)] [c:kE P d .string] (hx:aQ ρ x=some v) (hv:aY .byte h O v l) :
 ay P ⟨dst,.convert s d x,ty,pos,after,guard⟩ ρ h (.string ⟨l.toArray⟩):=ay.Fg a.e b.e c.e hx hv
theorem O9 [c:OU P t] (hx:aQ ρ x=some v:=by exact rfl):ay P ⟨dst,.makeInterface t x,ty,pos,after,guard⟩ ρ h (.iface t v):=jW c.e hx
def vu (ρ:Env):List Operand->Option (List Value)
 | []=>some []
 |x::r=>match aQ ρ x with
  |some v=>match vu ρ r with
   |some vs=>some (v::vs)
   |none=>none
  |none=>none
theorem qq:∀{xs:List Operand}{vs:List Value},vu ρ xs=some vs->xs.map (aQ ρ)=vs.map some
 | [],vs,h=>by simp only[vu,Option.some.injEq] at h;subst h;rfl
 |x::r,vs,h=>by
  rw[vu] at h;split at h
  · rename_i v hv;split at h
    · rename_i us hu;cases h;rw[List.map_cons,List.map_cons,hv,qq hu]
    · cases h
  · cases h
theorem aF (hvs:vu ρ xs.toList=some vs) (k:av P f vs.toArray h (bq Φ)) [c:bI P f fn] [g:JP P] (hb:fn.body.isSome=true:=by exact rfl) :
 aT P ⟨dst,.call ⟨.value (.func f),xs,ts⟩,ty,pos,after,guard⟩ ρ h Φ X:=qx c.e hb (JP.at c.e) (qq hvs) (av.J2 k)
theorem vO {X0:List PanicEntry->aj->Prop}(hvs:vu ρ xs.toList=some vs) (k:av P f vs.toArray h (C5 Φ X0)) (hx:∀c h',X0 c h'->X c h') [c:bI P f fn] [g:JP P] (hb:fn.body.isSome=true:=by exact rfl) :
 aT P ⟨dst,.call ⟨.value (.func f),xs,ts⟩,ty,pos,after,guard⟩ ρ h Φ X:=qx c.e hb (JP.at c.e) (qq hvs) (av.LJ k hx)
theorem iF (hx:aQ ρ x=some v:=by exact rfl) :
 aT P ⟨dst,.box t x,ty,pos,after,guard⟩ ρ h (fun u g=>u= .pointer (some ⟨h.size,0,none⟩)/\aC g h.size t v.cells.toList/\aq h g/\g.size=h.size+1) X:=aT.ML hx
theorem cm {z:Value}[c:BL P t z] :
 aT P ⟨dst,.alloc t,ty,pos,after,guard⟩ ρ h (fun u g=>u= .pointer (some ⟨h.size,0,none⟩)/\aC g h.size t z.cells.toList/\aq h g/\g.size=h.size+1) X:=aT.zB c.e
theorem kY {g o:Nat}{cur:List Value}[c:kV P t 1] (hx:aQ ρ x=some (.pointer (some ⟨g,o,none⟩))) (hy:aQ ρ y=some v) (hk:aC h g e cur) (h1:v.oneCell'=true:=by exact rfl)
 (hl:o<cur.length:=by first|decide|exact of_decide_eq_true rfl|(simp;done)|(simp;omega)) :
 aT P ⟨dst,.store t x y,ty,pos,after,guard⟩ ρ h (fun u h'=>u=undef/\aC h' g e (cur.set o v)/\Ext (fun b=>b=g) h h'/\h'.size=h.size) X:=aT.jd c.e hx hy hk hl h1
theorem aK {g o:Nat}{cur:List Value}{cs:Array Value}[c:kV P t sz] (hx:aQ ρ x=some (.pointer (some ⟨g,o,none⟩))) (hy:aQ ρ y=some (.agg cs)) (hk:aC h g e cur) (h1:∀v∈cs.toList,v.oneCell'=true:=by first|decide|simp[Value.oneCell'])
 (hn:cs.size=sz:=by first|exact rfl|(simp;done)|(simp;omega)) (hl:o+sz<=cur.length:=by first|decide|exact of_decide_eq_true rfl|(simp;done)|(simp;omega)) :
 aT P ⟨dst,.store t x y,ty,pos,after,guard⟩ ρ h (fun u h'=>u=undef/\aC h' g e (over cur o cs.toList)/\Ext (fun b=>b=g) h h'/\h'.size=h.size) X:=aT.gv c.e hx hy hk hn hl h1
theorem wC {xs news:List Value}{m c base:Nat}[u:kE P t (.slice e)] [w:BS P e size bytes] (hx:aQ ρ x=some v) (hy:aQ ρ y=some (.slice (some ⟨h0.size,0,none⟩) m c)) (hown:aB h0 base e size v n xs)
 (hh:h=h0.push (.cells news.toArray e)) (hl:news.length=m*size) (hn:n+m<=1000000000:=by omega) (hbase:base<=h0.size:=by omega)
 (h1:∀u∈news,u.oneCell'=true:=by first|decide|simp[Value.oneCell']) (hby:bytes<=1000:=by decide) :
 aT P ⟨dst,.call ⟨.builtin .append,#[x,y],#[t,t]⟩,ty,pos,after,guard⟩ ρ h (fun v' h'=>aB h' base e size v' (n+m) (xs++news)/\Ext (cu v.ownBlock) h0 h'/\Ext (cu v.ownBlock) h h'/\(∀b,v'.ownBlock=some b->v.ownBlock=some b\/h0.size<=b)) X :=
 aT.gm u.e w.e hx hy hown hh hl h1 hn hby hbase
theorem sH {ps:Array (Nat×Operand)}[u:kE P t (.slice e)] [w:BS P e size bytes] (hps:ps.toList.map (fun p=>(p.1,aQ ρ p.2))=[(0,some (.agg cs.toArray))]:=by exact rfl) (hn:cs.length=size:=by exact rfl) (hsz:size<=16777216:=by decide) :
 aT P ⟨dst,.buildSlice t 1 ps,ty,pos,after,guard⟩ ρ h (fun u g=>u= .slice (some ⟨h.size,0,none⟩) 1 1/\g=h.push (.cells cs.toArray e)) X:=aT.u5 u.e w.e hps hn hsz
theorem jG {len:Nat}{ps:Array (Nat×Operand)}(us:List Value) [u:kE P t (.slice e)] [w:BS P e 1 bytes] (hps:ps.toList.map (fun p=>(p.1,aQ ρ p.2))=(us.zipIdx.map fun p=>(p.2,p.1)).map (fun p=>(p.1,some p.2)):=by exact rfl)
 (hl:us.length=len:=by exact rfl) (hlen:len<=16777216:=by decide) (h1:∀u∈us,u.oneCell'=true:=by simp[Value.oneCell']) :
 aT P ⟨dst,.buildSlice t len ps,ty,pos,after,guard⟩ ρ h (fun u g=>u= .slice (some ⟨h.size,0,none⟩) len len/\g=h.push (.cells us.toArray e)) X:=aT.xF u.e w.e hps hl hlen h1
theorem Pb [u:kE P t (.slice e)] [w:BS P e size bytes]:aT P ⟨dst,.buildSlice t 0 #[],ty,pos,after,guard⟩ ρ h (fun u g=>u= .slice (some ⟨h.size,0,none⟩) 0 0/\g=h.push (.cells #[] e)) X:=aT.CX u.e w.e
end
theorem Nn {P:Program}{ρ:Env}{h:aj}(k:ay P o ρ h v:=by
 first
 |exact CO rfl
 |exact Pa
 |exact O8
 |exact ay.Nb rfl rfl ⟨by omega,by omega⟩
 |exact ay.L2 rfl rfl ⟨by omega,by omega⟩
 |exact ay.yZ rfl rfl
 |exact ay.GK rfl rfl
 |exact xM rfl rfl _
 |exact O1
 |exact Pc
 |exact O9
 |exact O5
 |exact ay.min2 rfl rfl
 |exact ay.max2 rfl rfl
 |exact ay.C4 rfl rfl (by omega)):ay P o ρ h v:=k
section
variable {P:Program}{n:Nat}{ops:Array Oper}{i:Nat}{ρ ρ':Env}{h:aj}{N:Env->aj->Prop}{X:List PanicEntry->aj->Prop}
theorem aZ (next:RW P n ops (i+1) ((d,v)::ρ) h N X)
 (e:(nth ops.toList i,aN ops ρ o,o.dst,Nat.blt d n)=(some o,some true,some d,true):=by exact rfl) (k:ay P o ρ h v:=by exact Nn):RW P n ops i ρ h N X:=xp e k next
theorem aH (e:(nth ops.toList i,aN ops ρ o,o.dst)=(some o,some true,none)) (k:aT P o ρ h Φ X) (next:∀v h',Φ v h'->RW P n ops (i+1) ρ h' N X):RW P n ops i ρ h N X:=by
 simp only[Prod.mk.injEq] at e;exact RW.zL e.1 e.2.1 e.2.2 k next
theorem so (next:RW P n ops (i+1) ((d,undef)::ρ) h N X)
 (e:(nth ops.toList i,aN ops ρ o,o.dst,Nat.blt d n)=(some o,some false,some d,true):=by exact rfl):RW P n ops i ρ h N X:=xk e next
theorem OV (next:RW P n ops (i+1) ρ h N X)
 (e:(nth ops.toList i,aN ops ρ o,o.dst)=(some o,some false,none):=by exact rfl):RW P n ops i ρ h N X:=by
 simp only[Prod.mk.injEq] at e;exact RW.L4 e.1 e.2.1 e.2.2 next
def Ej (n:Nat) (ops:Array Oper):Nat->Nat->Env->Option (Nat×Env)
 | 0,i,ρ=>some (i,ρ)
 |k+1,i,ρ=>match nth ops.toList i with
  |some o=>match o.dst with
   |some d=>match Nat.blt d n with
    |true=>match aN ops ρ o with
     |some true=>match Ny ρ o.op with
      |some v=>Ej n ops k (i+1) ((d,v)::ρ)
      |none=>some (i,ρ)
     |some false=>Ej n ops k (i+1) ((d,undef)::ρ)
     |none=>some (i,ρ)
    |false=>some (i,ρ)
   |none=>some (i,ρ)
  |none=>some (i,ρ)
theorem yp {j:Nat}:∀(k i:Nat) (ρ:Env),Ej n ops k i ρ=some (j,ρ')->RW P n ops j ρ' h N X->RW P n ops i ρ h N X
 | 0,i,ρ,e,next=>by simp only[Ej,Option.some.injEq,Prod.mk.injEq] at e;obtain⟨rfl,rfl⟩:=e;exact next
 |k+1,i,ρ,e,next=>by
  rw[Ej] at e;have fin:some (i,ρ)=some (j,ρ')->RW P n ops i ρ h N X:=fun e=>by simp only[Option.some.injEq,Prod.mk.injEq] at e;obtain⟨rfl,rfl⟩:=e;exact next
  split at e
  · rename_i o ho;split at e
    · rename_i d hd;split at e
      · rename_i hb;split at e
        · rename_i hw;split at e
          · rename_i v hv;exact RW.bl ho hw hd hb (CO hv) (yp k _ _ e next)
          · exact fin e
        · rename_i hw;exact RW.tC ho hw hd hb (yp k _ _ e next)
        · exact fin e
      · exact fin e
    · exact fin e
  · exact fin e
def L8 (n:Nat) (ops:Array Oper) (i:Nat) (ρ:Env):Option (Nat×Env):=match Gj n ops 1 i ρ with
 |some ρ'=>Ej n ops 200 (i+1) ρ'
 |none=>none
theorem OW {j:Nat}(next:RW P n ops j ρ' h N X) (e:L8 n ops i ρ=some (j,ρ'):=by exact rfl):RW P n ops i ρ h N X:=by
 unfold L8 at e;split at e
 · rename_i r hr;exact Fz 1 hr (yp _ _ _ e next)
 · cases e
end
section
variable {P:Program}{n:Nat}{ops:Array Oper}{i:Nat}{ρ ρ':Env}{h:aj}{N:Env->Prop}
theorem eO (e:(nth ops.toList i,aN ops ρ o,o.dst,Nat.blt d n)=(some o,some true,some d,true)) (k:ay P o ρ h v) (next:RQ P n ops (i+1) ((d,v)::ρ) h N):RQ P n ops i ρ h N:=by
 simp only[Prod.mk.injEq] at e;exact RQ.bl e.1 e.2.1 e.2.2.1 e.2.2.2 k next
theorem BX (next:RQ P n ops (i+1) ((d,v)::ρ) h N)
 (e:(nth ops.toList i,aN ops ρ o,o.dst,Nat.blt d n)=(some o,some true,some d,true):=by exact rfl) (k:ay P o ρ h v:=by exact Nn):RQ P n ops i ρ h N:=eO e k next
theorem OZ (next:RQ P n ops (i+1) ((d,undef)::ρ) h N)
 (e:(nth ops.toList i,aN ops ρ o,o.dst,Nat.blt d n)=(some o,some false,some d,true):=by exact rfl):RQ P n ops i ρ h N:=by
 simp only[Prod.mk.injEq] at e;exact RQ.tC e.1 e.2.1 e.2.2.1 e.2.2.2 next
theorem OL {dst:Option Nat}{ty:TypeId}{pos:String}{after:Array Edge}{guard:Option (Nat×Bool)}
 (k:av P f vs.toArray h (bq fun u h'=>u=v/\h'=h)) (next:RQ P n ops (i+1) ((d,v)::ρ) h N) [c:bI P f fn] [g:JP P] (ho:nth ops.toList i=some ⟨dst,.call ⟨.value (.func f),xs,ts⟩,ty,pos,after,guard⟩:=by exact rfl)
 (e:(aN ops ρ ⟨dst,.call ⟨.value (.func f),xs,ts⟩,ty,pos,after,guard⟩,dst,Nat.blt d n)=(some true,some d,true):=by exact rfl) (hb:fn.body.isSome=true:=by exact rfl) (hvs:vu ρ xs.toList=some vs:=by exact rfl):RQ P n ops i ρ h N:=by
 simp only[Prod.mk.injEq] at e;exact RQ.MI ho rfl e.1 e.2.1 e.2.2 c.e hb (JP.at c.e) (qq hvs) k next
end
def KL:Op->Bool
 |.makeFunc .. |.lookup .. |.move .. |.assign .. |.pick .. |.binOp .. |.unOp .. |.convert .. |.extract .. |.nilCheck .. |.load .. |.indexAddr .. |.index .. |.fieldAddr .. |.slice .. |.field .. |.build .. |.makeInterface .. =>true
 |.call ⟨.builtin b,_,_⟩=>match b with
  |.len|.cap|.min|.max=>true
  |_=>false
 |_=>false
def F6 (fn:Func):List It->Option (List It)
 |.blk _::k=>some k
 |.scp _::k=>some k
 |.code p::k=>match sub (ax fn) p with
  |.skip=>some k
  |.label .. =>some k
  |.seq .. =>some (.code (0::p):: .code (1::p)::k)
  |.block id _=>some (.code (0::p):: .blk id::k)
  |.scope _=>some (.code (0::p):: .scp (0::p)::k)
  |.exit id=>oh id k
  |_=>none
 |_=>none
def F0 (fn:Func):Nat->List It->Option (List It)
 | 0,k=>some k
 |n+1,k=>match F6 fn k with
  |some k'=>F0 fn n k'
  |none=>some k
def L3 (fn:Func) (k:List It):Option (List It):=match F6 fn k with
 |some k'=>F0 fn 99 k'
 |none=>none
def wr:List Oper->Nat->Bool
 | [],_=>false
 |o::r,i=>match o.dst with
  |some d=>match Nat.beq d i with
   |true=>true
   |false=>wr r i
  |none=>wr r i
def mM (l:List Oper):Env->Env->Option Env
 | [],acc=>some acc
 |(i,v)::r,acc=>match wr l i with
  |true=>mM l r acc
  |false=>match acc.at i with
   |some _=>mM l r acc
   |none=>mM l r ((i,v)::acc)
theorem nE {l:List Oper}{ρ0:Env}:∀{ρ acc ρ1:Env},mM l ρ acc=some ρ1->Sub acc ρ0->(∀j v,wr l j=false->acc.at j=none->ρ.at j=some v->ρ0.at j=some v)->Sub ρ1 ρ0
 | [],acc,ρ1,e,h,_=>by simp only[mM,Option.some.injEq] at e;subst e;exact h
 |(i,v)::r,acc,ρ1,e,h,hr=>by
  rw[mM] at e;have key:∀j u,wr l j=false->acc.at j=none->j≠i->Env.at r j=some u->ρ0.at j=some u:=fun j u h0 h1 h2 h3=>hr j u h0 h1 (by rw[Env.fk,if_neg (Ne.symm h2)];exact h3)
  split at e
  · rename_i hw;exact nE e h fun j u h0 h1 h3=>key j u h0 h1 (fun q=>by subst q;rw[hw] at h0;cases h0) h3
  · rename_i hw;split at e
    · rename_i x hx;exact nE e h fun j u h0 h1 h3=>key j u h0 h1 (fun q=>by subst q;rw[hx] at h1;cases h1) h3
    · rename_i hx;refine nE e ⟨hr i v hw hx (by rw[Env.fk,if_pos rfl]),h⟩ fun j u h0 h1 h3=>?_
      rw[Env.fk] at h1;split at h1
      · cases h1
      · rename_i q;exact key j u h0 h1 (fun q'=>q q'.symm) h3
theorem pY {l:List Oper}{ρ:Env}(e:mM l ρ []=some ρ1):Sub ρ1 ρ:=nE e trivial fun _ _ _ _ h=>h
section
variable {P:Program}{f:FuncId}{fn:Func}{k k':List It}{ρ ρ':Env}{h:aj}{R:Ending->aj->Prop}{p:List Nat}
theorem yd (e:F6 fn k=some k') (next:G P f fn k' ρ h R):G P f fn k ρ h R:=by
 unfold F6 at e;split at e
 · cases e;exact G.u7 next
 · cases e;exact G.KF next
 · split at e
   · rename_i hc;cases e;exact De (by rw[hc];rfl) next
   · rename_i hc;cases e;exact JU (by rw[hc];rfl) next
   · rename_i hc;cases e;exact sj (by rw[hc];rfl) next
   · rename_i hc;cases e;exact G.block (by rw[hc];rfl) (by rw[hc];rfl) next
   · rename_i hc;cases e;exact JT (by rw[hc];rfl) next
   · rename_i hc;exact Lo (by rw[hc];rfl) (by rw[hc];exact e) next
   · cases e
 · cases e
theorem Dl:∀(n:Nat) (k:List It),F0 fn n k=some k'->G P f fn k' ρ h R->G P f fn k ρ h R
 | 0,k,e,next=>by simp only[F0,Option.some.injEq] at e;subst e;exact next
 |n+1,k,e,next=>by
  rw[F0] at e;split at e
  · rename_i h1;exact yd h1 (Dl n _ e next)
  · cases e;exact next
theorem Pd (next:G P f fn k' ρ h R) (e:L3 fn k=some k':=by exact rfl):G P f fn k ρ h R:=by
 unfold L3 at e;split at e
 · rename_i h1;exact yd h1 (Dl _ _ e next)
 · cases e
theorem aR (next:G P f fn k' ρ h R) (e:F6 fn k=some k':=by exact rfl):G P f fn k ρ h R:=yd e next
theorem de (next:RW P fn.ntmps (opsOf (Lw.sub (ax fn) p)) 0 ρ h (fun ρ' h'=>G P f fn k ρ' h' R) (fun ch h'=>R (.panicked ch) h')) [c:bI P f fn] (hk:kind (Lw.sub (ax fn) p)=5:=by exact rfl):G P f fn (.code p::k) ρ h R:=G.nP c.e hk next
theorem FE (next:RQ P fn.ntmps (opsOf (Lw.sub (ax fn) p)) 0 ρ h (fun ρ'=>G P f fn k ρ' h R)) [c:bI P f fn] [m:Ll P] (hk:kind (Lw.sub (ax fn) p)=6:=by exact rfl) (hB:Region.lexB .any (opsOf (Lw.sub (ax fn) p))=true:=by kernel_rfl):G P f fn (.code p::k) ρ h R:=G.Ki c.e m.e hk hB next
theorem Pe (next:RQ P fn.ntmps (opsOf (Lw.sub (ax fn) p)) 0 ρ h (fun ρ'=>G P f fn k ρ' h R)) [c:bI P f fn] [m:Ll P] (hk:kind (Lw.sub (ax fn) p)=6:=by exact rfl)
 (_:(opsOf (Lw.sub (ax fn) p)).toList.all (fun o=>KL o.op)=true:=by exact rfl) (hB:Region.lexB .any (opsOf (Lw.sub (ax fn) p))=true:=by kernel_rfl):G P f fn (.code p::k) ρ h R:=G.Ki c.e m.e hk hB next
theorem cV {X:List PanicEntry->aj->Prop}(next:G P f fn k ρ h R) (e:Nat.ble ops.size i=true:=by exact rfl):RW P n ops i ρ h (fun ρ' h'=>G P f fn k ρ' h' R) X:=eK e next
theorem O0 (next:G P f fn k ρ h R) (e:Nat.ble ops.size i=true:=by exact rfl):RQ P n ops i ρ h (fun ρ'=>G P f fn k ρ' h R):=JH e next
theorem aP {φ:Prop}{_:Decidable φ}(ht:φ->G P f fn (.code (0::p)::k) ρ h R) (hn:¬φ->G P f fn (.code (1::p)::k) ρ h R) (hk:kind (Lw.sub (ax fn) p)=7:=by exact rfl)
 (hc:aQ ρ (mT (Lw.sub (ax fn) p))=some (.bool (decide φ)):=by exact rfl):G P f fn (.code p::k) ρ h R:=Nj hk hc ht hn
theorem fF {t:Bool}(ht:t=true->G P f fn (.code (0::p)::k) ρ h R) (hn:t=false->G P f fn (.code (1::p)::k) ρ h R) (hk:kind (Lw.sub (ax fn) p)=7:=by exact rfl)
 (hc:aQ ρ (mT (Lw.sub (ax fn) p))=some (.bool t):=by exact rfl):G P f fn (.code p::k) ρ h R:=zH hk hc ht hn
theorem eu {t:Bool}(hc:aQ ρ (mT (Lw.sub (ax fn) p))=some (.bool t)) (hb:¬t=false) (next:G P f fn (.code (0::p)::k) ρ h R) (hk:kind (Lw.sub (ax fn) p)=7:=by exact rfl):G P f fn (.code p::k) ρ h R :=
 zH hk hc (fun _=>next) (fun e=>absurd e hb)
theorem eC {t:Bool}(hc:aQ ρ (mT (Lw.sub (ax fn) p))=some (.bool t)) (hb:¬t=true) (next:G P f fn (.code (1::p)::k) ρ h R) (hk:kind (Lw.sub (ax fn) p)=7:=by exact rfl):G P f fn (.code p::k) ρ h R :=
 zH hk hc (fun e=>absurd e hb) (fun _=>next)
theorem bh (hR:R (.returned (packed vs)) h) [c:bI P f fn] (hk:kind (Lw.sub (ax fn) p)=4:=by exact rfl) (hr:fJ ρ fn.results.toList=some vs:=by exact rfl):G P f fn (.code p::k) ρ h R:=G.ret c.e hk hr hR
theorem Ir (hR:R (.returned (packed vs)) h) [c:bI P f fn] (hr:fJ ρ fn.results.toList=some vs:=by exact rfl):G P f fn [] ρ h R:=G.Oj c.e hr hR
theorem bP (next:G P f fn [.code []] (lP 0 vs) h R) [c:bI P f fn] (hb:fn.body.isSome=true:=by exact rfl) (hn:Nat.ble vs.length fn.ntmps=true:=by exact rfl):av P f vs.toArray h R:=av.of c.e hb hn next
theorem LC (E:σ->Env) (I:σ->aj->Prop) (μ:σ->Nat) (s0:σ) (h0:I s0 h)
 (round:∀s h,I s h->(∀s' {h' ρ'},I s' h'->(hm:μ s' < μ s:=by first|(dsimp only;omega)|omega)->(hs:Sub (E s') ρ':=by exact sb rfl)->G P f fn (.loop (0::p)::k) ρ' h' R)->G P f fn (.code (0::p):: .loop (0::p)::k) (E s) h R)
 (hk:kind (Lw.sub (ax fn) p)=3:=by exact rfl) (hs:Sub (E s0) ρ:=by exact sb rfl):G P f fn (.code p::k) ρ h R :=
 Ib E I μ s0 hk hs h0 (fun s h hi ih=>round s h hi (fun s' _ _ h1 h2 h3=>ih s' _ _ h3 h1 h2))
end
section
variable {P:Program}{n:Nat}{ops:Array Oper}{M:Nat->Prop}{keeps:Nat->Bool}{fuel:Nat}{listed:Array Bool}{ρ:Env}{h:aj}{N:Env->aj->Prop}{X:List PanicEntry->aj->Prop}
def Im (ops:Array Oper) (keeps:Nat->Bool) (listed:Array Bool) (i:Nat):Bool:=Region.noSelect ops && (uG ops keeps listed i && (Region.ready .any ops listed).contains i)
theorem bC (i:Nat) (e:(nth ops.toList i,aN ops ρ o,o.dst,Nat.blt d n)=(some o,some true,some d,true)) (k:∀h',Ext M h h'->ay P o ρ h' v)
 (next:RD P n ops M keeps fuel (listed.setIfInBounds i true) ((d,v)::ρ) h N X) (hk:Im ops keeps listed i=true:=by kernel_rfl):RD P n ops M keeps (fuel+1) listed ρ h N X:=by
 simp only[Prod.mk.injEq] at e;simp only[Im,Bool.and_eq_true] at hk;exact RD.LK i e.1 hk.1 hk.2.1 hk.2.2 e.2.1 e.2.2.1 e.2.2.2 k rfl next
theorem aG (i:Nat) (next:RD P n ops M keeps fuel (listed.setIfInBounds i true) ((d,v)::ρ) h N X) (e:(nth ops.toList i,aN ops ρ o,o.dst,Nat.blt d n)=(some o,some true,some d,true):=by exact rfl)
 (k:∀h',Ext M h h'->ay P o ρ h' v:=by intro _ _;exact Nn) (hk:Im ops keeps listed i=true:=by kernel_rfl):RD P n ops M keeps (fuel+1) listed ρ h N X:=bC i e k next hk
theorem BY (i:Nat) (next:RD P n ops M keeps fuel (listed.setIfInBounds i true) ((d,undef)::ρ) h N X) (e:(nth ops.toList i,aN ops ρ o,o.dst,Nat.blt d n)=(some o,some false,some d,true):=by exact rfl)
 (hk:Im ops keeps listed i=true:=by kernel_rfl):RD P n ops M keeps (fuel+1) listed ρ h N X:=by
 simp only[Prod.mk.injEq] at e;simp only[Im,Bool.and_eq_true] at hk;exact RD.tC i e.1 hk.1 hk.2.1 hk.2.2 e.2.1 e.2.2.1 e.2.2.2 rfl next
theorem cU (i:Nat) (e:(nth ops.toList i,aN ops ρ o,o.dst,Nat.blt d n)=(some o,some true,some d,true)) (k:aT P o ρ h Φ X)
 (next:∀v h',Φ v h'->(keeps i=true->Ext M h h')/\RD P n ops M keeps fuel (listed.setIfInBounds i true) ((d,v)::ρ) h' N X) (hr:Region.ready .any ops listed=[i]:=by kernel_rfl):RD P n ops M keeps (fuel+1) listed ρ h N X:=by
 simp only[Prod.mk.injEq] at e;exact RD.Oc i e.1 hr e.2.1 e.2.2.1 e.2.2.2 k rfl next
theorem iA (i:Nat) (e:(nth ops.toList i,aN ops ρ o,o.dst)=(some o,some true,none)) (k:aT P o ρ h Φ X)
 (next:∀v h',Φ v h'->(keeps i=true->Ext M h h')/\RD P n ops M keeps fuel (listed.setIfInBounds i true) ρ h' N X) (hr:Region.ready .any ops listed=[i]:=by kernel_rfl):RD P n ops M keeps (fuel+1) listed ρ h N X:=by
 simp only[Prod.mk.injEq] at e;exact RD.Od i e.1 hr e.2.1 e.2.2 k rfl next
theorem LD (i:Nat) (e:(nth ops.toList i,aN ops ρ o,o.dst,Nat.blt d n)=(some o,some true,some d,true)) (k:ay P o ρ h v)
 (next:RD P n ops M keeps fuel (listed.setIfInBounds i true) ((d,v)::ρ) h N X) (hr:Region.ready .any ops listed=[i]:=by kernel_rfl):RD P n ops M keeps (fuel+1) listed ρ h N X :=
 cU i e k.J2 (fun u h' hq=>by obtain⟨rfl,rfl⟩:=hq;exact⟨fun _=>Ext.refl _ _,next⟩) hr
theorem Iu (i:Nat) (next:RD P n ops M keeps fuel (listed.setIfInBounds i true) ((d,v)::ρ) h N X) (e:(nth ops.toList i,aN ops ρ o,o.dst,Nat.blt d n)=(some o,some true,some d,true):=by exact rfl) (k:ay P o ρ h v:=by exact Nn)
 (hr:Region.ready .any ops listed=[i]:=by kernel_rfl):RD P n ops M keeps (fuel+1) listed ρ h N X:=LD i e k next hr
theorem Ls (i j:Nat){oi oj:Oper}{Φ':Value->aj->Prop}{di dj:Nat}(ei:(nth ops.toList i,aN ops ρ oi,oi.dst,Nat.blt di n)=(some oi,some true,some di,true)) (ej:(nth ops.toList j,aN ops ρ oj,oj.dst,Nat.blt dj n)=(some oj,some true,some dj,true))
 (ki:aT P oi ρ h Φ X) (kj:aT P oj ρ h Φ' X)
 (nexti:∀v h',Φ v h'->(keeps i=true->Ext M h h')/\RD P n ops M keeps fuel (listed.setIfInBounds i true) ((di,v)::ρ) h' N X)
 (nextj:∀v h',Φ' v h'->(keeps j=true->Ext M h h')/\RD P n ops M keeps fuel (listed.setIfInBounds j true) ((dj,v)::ρ) h' N X) (hr:Region.ready .any ops listed=[i,j]:=by kernel_rfl):RD P n ops M keeps (fuel+1) listed ρ h N X:=by
 simp only[Prod.mk.injEq] at ei ej;exact RD.NM i j ei.1 ej.1 hr ei.2.1 ej.2.1 ei.2.2.1 ej.2.2.1 ei.2.2.2 ej.2.2.2 ki kj rfl rfl nexti nextj
theorem Is (he:h=h0) (hs:Sub ρ1 ρ:=by exact sb rfl) (hr:Region.ready .any ops listed=[]:=by kernel_rfl):RD P n ops M keeps fuel listed ρ h (fun ρ' h'=>h'=h0/\Sub ρ1 ρ') X:=zD hr ⟨he,hs⟩
theorem DW {E:σ->aj->Prop}{F:σ->Env}(s:σ) (hE:E s h) (hs:Sub (F s) ρ:=by exact sb rfl) (hr:Region.ready .any ops listed=[]:=by kernel_rfl):RD P n ops M keeps fuel listed ρ h (fun ρ' h'=>∃s,E s h'/\Sub (F s) ρ') X:=zD hr ⟨s,hE,hs⟩
theorem aA (he:h=h0) (hs:Sub ρ1 ρ:=by exact sb rfl) (e:Nat.ble ops.size i=true:=by exact rfl):RW P n ops i ρ h (fun ρ' h'=>h'=h0/\Sub ρ1 ρ') X:=eK e ⟨he,hs⟩
theorem lg {E:σ->aj->Prop}{F:σ->Env}(s:σ) (hE:E s h) (hs:Sub (F s) ρ:=by exact sb rfl) (e:Nat.ble ops.size i=true:=by exact rfl):RW P n ops i ρ h (fun ρ' h'=>∃s,E s h'/\Sub (F s) ρ') X:=eK e ⟨s,hE,hs⟩
end
section
variable {P:Program}{f:FuncId}{fn:Func}{k:List It}{ρ ρ1:Env}{h:aj}{R:Ending->aj->Prop}{p:List Nat}
theorem gV {fuel:Nat}{M:Nat->Prop}{keeps:Nat->Bool}{listed:Array Bool}{X:List PanicEntry->aj->Prop}(next:G P f fn k ρ h R) (hr:Region.ready .any ops listed=[]:=by kernel_rfl) :
 RD P n ops M keeps fuel listed ρ h (fun ρ' h'=>G P f fn k ρ' h' R) X:=zD hr next
theorem kH (sz:Nat) (M:Nat->Prop) (keeps:Nat->Bool) (next:RD P fn.ntmps (opsOf (Lw.sub (ax fn) p)) M keeps sz (Array.replicate sz false) ρ h (fun ρ' h'=>G P f fn k ρ' h' R) (fun ch h'=>R (.panicked ch) h')) [c:bI P f fn] [m:Ll P]
 (hk:kind (Lw.sub (ax fn) p)=6:=by exact rfl) (hsz:(opsOf (Lw.sub (ax fn) p)).size=sz:=by exact rfl):G P f fn (.code p::k) ρ h R:=vL M keeps c.e m.e hk hsz rfl next
theorem Ij (sz bar:Nat) (next:RD P fn.ntmps (opsOf (Lw.sub (ax fn) p)) (fun b=>h.size<=b) (fun i=>Nat.blt i bar) sz (Array.replicate sz false) ρ h (fun ρ' h'=>G P f fn k ρ' h' R) (fun ch h'=>R (.panicked ch) h')) [c:bI P f fn] [m:Ll P]
 (hk:kind (Lw.sub (ax fn) p)=6:=by exact rfl) (hsz:(opsOf (Lw.sub (ax fn) p)).size=sz:=by exact rfl):G P f fn (.code p::k) ρ h R:=vL _ _ c.e m.e hk hsz rfl next
theorem dW (new:Env) (e:mM (opsOf (Lw.sub (ax fn) p)).toList ρ []=some ρ1) (nP:RW P fn.ntmps (opsOf (Lw.sub (ax fn) p)) 0 ρ h (fun ρ' h'=>h'=h/\Sub (new++ρ1) ρ') (fun _ _=>False))
 (next:G P f fn k (new++ρ1) h R) [c:bI P f fn] (hk:kind (Lw.sub (ax fn) p)=5:=by exact rfl):G P f fn (.code p::k) ρ h R:=G.yx new ρ1 (pY e) c.e hk nP next
theorem J0 (E:σ->aj->Prop) (new:σ->Env) (e:mM (opsOf (Lw.sub (ax fn) p)).toList ρ []=some ρ1) (nP:RW P fn.ntmps (opsOf (Lw.sub (ax fn) p)) 0 ρ h (fun ρ' h'=>∃s,E s h'/\Sub (new s++ρ1) ρ') (fun ch h'=>R (.panicked ch) h'))
 (next:∀s h',E s h'->G P f fn k (new s++ρ1) h' R) [c:bI P f fn] (hk:kind (Lw.sub (ax fn) p)=5:=by exact rfl):G P f fn (.code p::k) ρ h R:=G.KI E new ρ1 (pY e) c.e hk nP next
theorem Ku (sz:Nat) (M:Nat->Prop) (keeps:Nat->Bool) (new:Env) (e:mM (opsOf (Lw.sub (ax fn) p)).toList ρ []=some ρ1) (nP:RD P fn.ntmps (opsOf (Lw.sub (ax fn) p)) M keeps sz (Array.replicate sz false) ρ h (fun ρ' h'=>h'=h/\Sub (new++ρ1) ρ') (fun ch h'=>R (.panicked ch) h'))
 (next:G P f fn k (new++ρ1) h R) [c:bI P f fn] [m:Ll P] (hk:kind (Lw.sub (ax fn) p)=6:=by exact rfl) (hsz:(opsOf (Lw.sub (ax fn) p)).size=sz:=by exact rfl):G P f fn (.code p::k) ρ h R:=G.Jq new ρ1 (pY e) M keeps c.e m.e hk hsz rfl nP next
theorem LF (sz:Nat) (M:Nat->Prop) (keeps:Nat->Bool) (E:σ->aj->Prop) (new:σ->Env) (e:mM (opsOf (Lw.sub (ax fn) p)).toList ρ []=some ρ1) (nP:RD P fn.ntmps (opsOf (Lw.sub (ax fn) p)) M keeps sz (Array.replicate sz false) ρ h (fun ρ' h'=>∃s,E s h'/\Sub (new s++ρ1) ρ') (fun ch h'=>R (.panicked ch) h'))
 (next:∀s h',E s h'->G P f fn k (new s++ρ1) h' R) [c:bI P f fn] [m:Ll P] (hk:kind (Lw.sub (ax fn) p)=6:=by exact rfl) (hsz:(opsOf (Lw.sub (ax fn) p)).size=sz:=by exact rfl):G P f fn (.code p::k) ρ h R:=G.Jp E new ρ1 (pY e) M keeps c.e m.e hk hsz rfl nP next
end
def Ik:Code->Nat->Bool
 |.region _ ops _,i=>wr ops.toList i
 |.seq a b,i=>Ik a i ||Ik b i
 |.cond _ a b,i=>Ik a i ||Ik b i
 |.block _ b,i=>Ik b i
 |.loop b,i=>Ik b i
 |.scope b,i=>Ik b i
 |.rangeFunc ..,_=>true
 |_,_=>false
def uy (c:Code):Env->Env->Option Env
 | [],acc=>some acc
 |(i,v)::r,acc=>match Ik c i with
  |true=>uy c r acc
  |false=>match acc.at i with
   |some _=>uy c r acc
   |none=>uy c r ((i,v)::acc)
theorem nD {c:Code}{ρ0:Env}:∀{ρ acc ρ1:Env},uy c ρ acc=some ρ1->Sub acc ρ0->(∀j v,Ik c j=false->acc.at j=none->ρ.at j=some v->ρ0.at j=some v)->Sub ρ1 ρ0
 | [],acc,ρ1,e,h,_=>by simp only[uy,Option.some.injEq] at e;subst e;exact h
 |(i,v)::r,acc,ρ1,e,h,hr=>by
  rw[uy] at e;have key:∀j u,Ik c j=false->acc.at j=none->j≠i->Env.at r j=some u->ρ0.at j=some u:=fun j u h0 h1 h2 h3=>hr j u h0 h1 (by rw[Env.fk,if_neg (Ne.symm h2)];exact h3)
  split at e
  · rename_i hw;exact nD e h fun j u h0 h1 h3=>key j u h0 h1 (fun q=>by subst q;rw[hw] at h0;cases h0) h3
  · rename_i hw;split at e
    · rename_i x hx;exact nD e h fun j u h0 h1 h3=>key j u h0 h1 (fun q=>by subst q;rw[hx] at h1;cases h1) h3
    · rename_i hx;refine nD e ⟨hr i v hw hx (by rw[Env.fk,if_pos rfl]),h⟩ fun j u h0 h1 h3=>?_
      rw[Env.fk] at h1;split at h1
      · cases h1
      · rename_i q;exact key j u h0 h1 (fun q'=>q q'.symm) h3
theorem DP:∀{a b ρ:Env},Sub a ρ->Sub b ρ->Sub (a++b) ρ
 | [],_,_,_,h=>h
 |(_,_)::_,_,_,⟨h1,h2⟩,h=>⟨h1,DP h2 h⟩
section
variable {P:Program}{f:FuncId}{fn:Func}{k:List It}{ρ ρ1:Env}{h:aj}{R:Ending->aj->Prop}{p:List Nat}
theorem gJ (new:σ->Env) (I:σ->aj->Prop) (μ:σ->Nat) (s0:σ) (h0:I s0 h) (e:uy (Lw.sub (ax fn) p) ρ []=some ρ1)
 (round:∀s h,I s h->(∀s' {h' ρ'},I s' h'->(hm:μ s' < μ s:=by first|(dsimp only;omega)|omega)->(hs:Sub (new s'++ρ1) ρ':=by exact sb rfl)->G P f fn (.loop (0::p)::k) ρ' h' R)->G P f fn (.code (0::p):: .loop (0::p)::k) (new s++ρ1) h R)
 (hk:kind (Lw.sub (ax fn) p)=3:=by exact rfl) (hs:Sub (new s0) ρ:=by exact sb rfl):G P f fn (.code p::k) ρ h R :=
 Ib (fun s=>new s++ρ1) I μ s0 hk (DP hs (nD e trivial fun _ _ _ _ h=>h)) h0 (fun s h hi ih=>round s h hi (fun s' _ _ h1 h2 h3=>ih s' _ _ h3 h1 h2))
theorem bE:fe P ρ h [] []:=.nil
theorem dM {t:Tmp}(k:fe P ρ h rs vs) (hx:ρ.at t=some v:=by exact rfl):fe P ρ h (.tmp t::rs) (v::vs):=.cons (fH.tmp hx) k
theorem OX {a:Tmp}{q:Addr}(hx:ρ.at a=some (.pointer (some q))) (hc:cellAt h q=some v) (k:fe P ρ h rs vs) [c:kG P t false]:fe P ρ h (.cell a t::rs) (v::vs):=.cons (fH.cell c.e hx hc) k
theorem br {a:Tmp}{o:Nat}(hx:ρ.at a=some (.pointer (some ⟨b,o,none⟩))) (hc:rowAt h b o cs) (k:fe P ρ h rs vs) [c:kG P t true] [d:kV P t sz] (hn:cs.length=sz:=by first|exact rfl|(simp;done)|(simp;omega)) :
 fe P ρ h (.cell a t::rs) (.agg cs.toArray::vs):=.cons (fH.KH c.e d.e hx hc hn) k
theorem bF (hr:fe P ρ h fn.results.toList vs) (hR:R (.returned (packed vs)) h) [c:bI P f fn] (hk:kind (Lw.sub (ax fn) p)=4:=by exact rfl):G P f fn (.code p::k) ρ h R:=G.N8 c.e hk hr hR
end
section
variable {P:Program}{n:Nat}{ops:Array Oper}{i:Nat}{ρ:Env}{h:aj}{M:Nat->Prop}{keeps:Nat->Bool}{fuel:Nat}{listed:Array Bool}{X:List PanicEntry->aj->Prop}{N:Env->aj->Prop}
theorem b9 (d:Nat){b:Bool}(ht:b=true->RW P n ops i ((d,.bool true)::ρ) h N X) (hn:b=false->RW P n ops i ((d,.bool false)::ρ) h N X) (hb:ρ.at d=some (.bool b):=by exact rfl):RW P n ops i ρ h N X:=dD hb ht hn
theorem Pf (d:Nat){b:Bool}(ht:b=true->RD P n ops M keeps fuel listed ((d,.bool true)::ρ) h N X) (hn:b=false->RD P n ops M keeps fuel listed ((d,.bool false)::ρ) h N X) (hb:ρ.at d=some (.bool b):=by exact rfl):RD P n ops M keeps fuel listed ρ h N X:=BP hb ht hn
theorem OY {N:Env->Prop}(d:Nat){b:Bool}(ht:b=true->RQ P n ops i ((d,.bool true)::ρ) h N) (hn:b=false->RQ P n ops i ((d,.bool false)::ρ) h N) (hb:ρ.at d=some (.bool b):=by exact rfl):RQ P n ops i ρ h N:=BO hb ht hn
end
structure OI (p:Prop):Prop where
 on:p
theorem af {g g':Prop}(next:g') (k:OI g'->g:=by
 intro n
 repeat first
  |refine OW ?_
  |refine aZ ?_
  |refine cV ?_
  |refine Pd ?_
  |refine de ?_
  |refine BX ?_
  |refine OZ ?_
  |refine O0 ?_
  |refine Pe ?_
  |refine OV ?_
 exact n.on):g:=k ⟨next⟩
end
end Go.Lw

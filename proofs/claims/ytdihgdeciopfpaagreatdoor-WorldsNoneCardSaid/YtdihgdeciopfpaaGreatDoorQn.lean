/- What the proof of the statement leans on (part 14). -/
import Derived.Lib.MakeNoZero
import Derived.Laws.CopyOwn
import Derived.Test.YtdihgdeciopfpaaGreatDoorQm

namespace Go.Lw
class nV (P:Program) (t:TypeId) (d:outParam TypeDesc):Prop where e:P.underlying t=some d
class oD (P:Program) (t:TypeId) (n:outParam Nat):Prop where e:bU P t=some n
class nF (P:Program) (t:TypeId) (b:outParam Bool):Prop where e:aO P t=some b
class E3 (P:Program) (t:TypeId) (s b:outParam Nat):Prop where e:dn P t s b
class Kj (P:Program) (t:TypeId) (z:outParam Value):Prop where e:(P.info? t).bind (·.zero)=some z
class cw (P:Program) (f:FuncId) (fn:outParam Func):Prop where e:P.funcs[f]? =some fn
class Lx (P:Program):Prop where e:(P.funcs.toList.all fun fn=> !(fn.name == "runtime.NumGoroutine"))=true
class Oc (P:Program):Prop where e:P.follows .mixedOrders=true
class SA (P:Program) (t:TypeId):Prop where e:P.concrete t=true
class jq (P:Program) (t:TypeId) (i:Nat) (off:outParam Nat):Prop where
 e:∃fs fd k,P.underlying t=some (.struct fs)/\fs[i]? =some fd/\fd.offset=off/\bU P fd.type=some (k+1)
class Tc (P:Program) (t:TypeId) (i:Nat) (off:outParam Nat):Prop where
 e:∃fs fd,P.underlying t=some (.struct fs)/\fs[i]? =some fd/\fd.offset=off/\aO P fd.type=some false
section
variable {f:FuncId}{fn:Func}{t e:TypeId}{x y:Operand}{i b sz n d size bytes:Nat}{o:Oper}{v:Value}{cs vs:List Value}{k:IntKind}{j:Int}{xs:Array Operand}{ts:Array TypeId}{Φ:Value->aj->Prop}{h0:aj}{ρ1:Env}{ops:Array Oper}{σ:Type}{rs:List ResultVar}
theorem Lx.at {P:Program}[g:Lx P] (h:P.funcs[f]? =some fn):(fn.name == "runtime.NumGoroutine")=false:=by
 have:=List.all_eq_true.1 g.e fn (by simpa using Array.mem_of_getElem? h);simpa using this
section
variable {P:Program}{ρ:Env}{h:aj}{dst:Option Nat}{ty:TypeId}{pos:String}{after:Array Edge}{guard:Option (Nat×Bool)}{X:List PanicEntry->aj->Prop}
theorem SL {o off:Nat}[c:jq P t i off] (hx:aU ρ x=some (.pointer (some ⟨b,o,none⟩)):=by exact rfl) :
 ai P ⟨dst,.fieldAddr t x i,ty,pos,after,guard⟩ ρ h (.pointer (some ⟨b,o+off,none⟩)):=by
 obtain⟨fs,fd,k,h1,h2,h3,h4⟩:=c.e;exact aa h1 h2 h3 h4 hx
theorem bJ {p:Addr}(hx:aU ρ x=some (.pointer (some p))) (hc:cellAt h p=some v) [c:nF P t false] :
 ai P ⟨dst,.load t x,ty,pos,after,guard⟩ ρ h v:=ah c.e hx hc
theorem jT {o:Nat}(hx:aU ρ x=some (.pointer (some ⟨b,o,none⟩))) (hc:rowAt h b o cs) [c:nF P t true] [d:oD P t sz]
 (hn:cs.length=sz:=by first|exact rfl|(simp;done)|(simp;omega)):ai P ⟨dst,.load t x,ty,pos,after,guard⟩ ρ h (.agg cs.toArray):=ai.aF c.e d.e hx hc hn
theorem fN {oa:Option Addr}{o c:Nat}[u:nV P t (.slice e)] [s:oD P e sz] (hx:aU ρ x=some (.slice oa n c)) (hy:aU ρ y=some (.int k j)) (i:Nat) (hj:j=i) (ha:oa=some ⟨b,o,none⟩) (hi:i<n:=by omega) :
 ai P ⟨dst,.indexAddr t x y,ty,pos,after,guard⟩ ρ h (.pointer (some ⟨b,o+i*sz,none⟩)):=ai.aN u.e s.e hx hy i hj ha hi
theorem Dt {o:Nat}[u:nV P t (.array n e)] [s:oD P e sz] (hx:aU ρ x=some (.pointer (some ⟨b,o,none⟩))) (hy:aU ρ y=some (.int k j)) (i:Nat) (hj:j=i:=by exact rfl) (hi:i<n:=by first|decide|omega) :
 ai P ⟨dst,.indexAddr t x y,ty,pos,after,guard⟩ ρ h (.pointer (some ⟨b,o+i*sz,none⟩)):=ai.CL u.e s.e hx hy i hj hi
theorem Oj {s:ByteArray}{b:UInt8}[u:nV P t .string] (hx:aU ρ x=some (.string s)) (hy:aU ρ y=some (.int k j)) (i:Nat) (hj:j=i) (hb:s.data[i]? =some b) :
 ai P ⟨dst,.index t x y,ty,pos,after,guard⟩ ρ h (.int .u8 b.toNat):=ai.hU u.e hx hy i hj hb
def Qj:TypeDesc->Option Value->Option Value
 |.slice _,some (.slice _ n _)=>some (.int .i64 (n:Nat))
 |.string,some (.string s)=>some (.int .i64 (s.size:Nat))
 |.array n _,some _=>some (.int .i64 (n:Nat))
 |_,_=>none
theorem SJ {d:TypeDesc}[u:nV P t d] (e:Qj d (aU ρ x)=some v:=by exact rfl):ai P ⟨dst,.call ⟨.builtin .len,#[x],#[t]⟩,ty,pos,after,guard⟩ ρ h v:=by
 unfold Qj at e;split at e<;>cases e
 · rename_i hx;exact ai.aX u.e hx
 · rename_i hx;exact ai.br u.e hx
 · rename_i hx;exact ai.I9 u.e hx
theorem SH {off:Nat}{cs:Array Value}[c:Tc P t i off]
 (hx:aU ρ x=some (.agg cs):=by exact rfl) (hv:cs[off]? =some v:=by exact rfl):ai P ⟨dst,.field t x i,ty,pos,after,guard⟩ ρ h v:=by
 obtain⟨fs,fd,h1,h2,h3,h4⟩:=c.e;exact ai.field h1 h2 h3 h4 hx hv
theorem SM {yt:TypeId}{i j:Bool}[u:nV P t .bool] (hx:aU ρ x=some (.bool i):=by exact rfl) (hy:aU ρ y=some (.bool j):=by exact rfl) :
 ai P ⟨dst,.binOp .eql t x y yt,ty,pos,after,guard⟩ ρ h (.bool (i ==j)):=ai.K4 u.e hx hy
theorem SI {s d:TypeId}{ds:TypeDesc}{k':IntKind}{i:Int}[u:nV P s ds] [w:nV P d (.int k')] (hx:aU ρ x=some (.int k i):=by exact rfl) :
 ai P ⟨dst,.convert s d x,ty,pos,after,guard⟩ ρ h (.int k' (k'.wrap i)):=ai.tQ u.e w.e hx
theorem OI {s d:TypeId}{ds:TypeDesc}{k':IntKind}{i:Int}[u:nV P s ds] [w:nV P d (.int k')] (hx:aU ρ x=some (.int k i)) (hw:k'.wrap i=i) :
 ai P ⟨dst,.convert s d x,ty,pos,after,guard⟩ ρ h (.int k' i):=ai.EC u.e w.e hx hw
theorem SK [c:SA P t] (hx:aU ρ x=some v:=by exact rfl):ai P ⟨dst,.makeInterface t x,ty,pos,after,guard⟩ ρ h (.iface t v):=gG c.e hx
def wQ (ρ:Env):List Operand->Option (List Value)
 | []=>some []
 |x::r=>match aU ρ x with
  |some v=>match wQ ρ r with
   |some vs=>some (v::vs)
   |none=>none
  |none=>none
theorem qI:∀{xs:List Operand}{vs:List Value},wQ ρ xs=some vs->xs.map (aU ρ)=vs.map some
 | [],vs,h=>by simp only[wQ,Option.some.injEq] at h;subst h;rfl
 |x::r,vs,h=>by
  rw[wQ] at h;split at h
  · rename_i v hv;split at h
    · rename_i us hu;cases h;rw[List.map_cons,List.map_cons,hv,qI hu]
    · cases h
  · cases h
theorem dz (hvs:wQ ρ xs.toList=some vs) (k:af P f vs.toArray h (bf Φ)) [c:cw P f fn] [g:Lx P] (hb:fn.body.isSome=true:=by exact rfl) :
 aB P ⟨dst,.call ⟨.value (.func f),xs,ts⟩,ty,pos,after,guard⟩ ρ h Φ X:=au c.e hb (Lx.at c.e) (qI hvs) (af.bD k)
theorem xL {X0:List PanicEntry->aj->Prop}(hvs:wQ ρ xs.toList=some vs) (k:af P f vs.toArray h (EV Φ X0)) (hx:∀c h',X0 c h'->X c h') [c:cw P f fn] [g:Lx P] (hb:fn.body.isSome=true:=by exact rfl) :
 aB P ⟨dst,.call ⟨.value (.func f),xs,ts⟩,ty,pos,after,guard⟩ ρ h Φ X:=au c.e hb (Lx.at c.e) (qI hvs) (af.OQ k hx)
theorem Bu (hx:aU ρ x=some v:=by exact rfl) :
 aB P ⟨dst,.box t x,ty,pos,after,guard⟩ ρ h (fun u g=>u= .pointer (some ⟨h.size,0,none⟩)/\aH g h.size t v.cells.toList/\aq h g/\g.size=h.size+1) X:=aB.cx hx
theorem pI {z:Value}[c:Kj P t z] :
 aB P ⟨dst,.alloc t,ty,pos,after,guard⟩ ρ h (fun u g=>u= .pointer (some ⟨h.size,0,none⟩)/\aH g h.size t z.cells.toList/\aq h g/\g.size=h.size+1) X:=aB.aQ c.e
theorem qY {g o:Nat}{cur:List Value}[c:oD P t 1] (hx:aU ρ x=some (.pointer (some ⟨g,o,none⟩))) (hy:aU ρ y=some v) (hk:aH h g e cur) (h1:v.oneCell'=true:=by exact rfl)
 (hl:o<cur.length:=by first|decide|exact of_decide_eq_true rfl|(simp;done)|(simp;omega)) :
 aB P ⟨dst,.store t x y,ty,pos,after,guard⟩ ρ h (fun u h'=>u=undef/\aH h' g e (cur.set o v)/\Ext (fun b=>b=g) h h'/\h'.size=h.size) X:=aB.aS c.e hx hy hk hl h1
theorem iV {g o:Nat}{cur:List Value}{cs:Array Value}[c:oD P t sz] (hx:aU ρ x=some (.pointer (some ⟨g,o,none⟩))) (hy:aU ρ y=some (.agg cs)) (hk:aH h g e cur) (h1:∀v∈cs.toList,v.oneCell'=true:=by first|decide|simp[Value.oneCell'])
 (hn:cs.size=sz:=by first|exact rfl|(simp;done)|(simp;omega)) (hl:o+sz<=cur.length:=by first|decide|exact of_decide_eq_true rfl|(simp;done)|(simp;omega)) :
 aB P ⟨dst,.store t x y,ty,pos,after,guard⟩ ρ h (fun u h'=>u=undef/\aH h' g e (over cur o cs.toList)/\Ext (fun b=>b=g) h h'/\h'.size=h.size) X:=aB.aG c.e hx hy hk hn hl h1
theorem F9 {xs news:List Value}{m c base:Nat}[u:nV P t (.slice e)] [w:E3 P e size bytes] (hx:aU ρ x=some v) (hy:aU ρ y=some (.slice (some ⟨h0.size,0,none⟩) m c)) (hown:az h0 base e size v n xs)
 (hh:h=h0.push (.cells news.toArray e)) (hl:news.length=m*size) (hn:n+m<=1000000000:=by omega) (hbase:base<=h0.size:=by omega)
 (h1:∀u∈news,u.oneCell'=true:=by first|decide|simp[Value.oneCell']) (hby:bytes<=1000:=by decide) :
 aB P ⟨dst,.call ⟨.builtin .append,#[x,y],#[t,t]⟩,ty,pos,after,guard⟩ ρ h (fun v' h'=>az h' base e size v' (n+m) (xs++news)/\Ext (cj v.ownBlock) h0 h'/\Ext (cj v.ownBlock) h h'/\(∀b,v'.ownBlock=some b->v.ownBlock=some b\/h0.size<=b)) X :=
 aB.dZ u.e w.e hx hy hown hh hl h1 hn hby hbase
theorem LL {ps:Array (Nat×Operand)}[u:nV P t (.slice e)] [w:E3 P e size bytes] (hps:ps.toList.map (fun p=>(p.1,aU ρ p.2))=[(0,some (.agg cs.toArray))]:=by exact rfl) (hn:cs.length=size:=by exact rfl) (hsz:size<=16777216:=by decide) :
 aB P ⟨dst,.buildSlice t 1 ps,ty,pos,after,guard⟩ ρ h (fun u g=>u= .slice (some ⟨h.size,0,none⟩) 1 1/\g=h.push (.cells cs.toArray e)) X:=aB.cv u.e w.e hps hn hsz
theorem xI {len:Nat}{ps:Array (Nat×Operand)}(us:List Value) [u:nV P t (.slice e)] [w:E3 P e 1 bytes] (hps:ps.toList.map (fun p=>(p.1,aU ρ p.2))=(us.zipIdx.map fun p=>(p.2,p.1)).map (fun p=>(p.1,some p.2)):=by exact rfl)
 (hl:us.length=len:=by exact rfl) (hlen:len<=16777216:=by decide) (h1:∀u∈us,u.oneCell'=true:=by simp[Value.oneCell']) :
 aB P ⟨dst,.buildSlice t len ps,ty,pos,after,guard⟩ ρ h (fun u g=>u= .slice (some ⟨h.size,0,none⟩) len len/\g=h.push (.cells us.toArray e)) X:=aB.dB u.e w.e hps hl hlen h1
theorem Sp [u:nV P t (.slice e)] [w:E3 P e size bytes]:aB P ⟨dst,.buildSlice t 0 #[],ty,pos,after,guard⟩ ρ h (fun u g=>u= .slice (some ⟨h.size,0,none⟩) 0 0/\g=h.push (.cells #[] e)) X:=aB.EJ u.e w.e
end
theorem Q7 {P:Program}{ρ:Env}{h:aj}(k:ai P o ρ h v:=by
 first
 |exact A5 rfl
 |exact SL
 |exact SJ
 |exact ai.ck rfl rfl ⟨by omega,by omega⟩
 |exact ai.gZ rfl rfl ⟨by omega,by omega⟩
 |exact ai.mW rfl rfl
 |exact ai.vu rfl rfl
 |exact Dt rfl rfl _
 |exact SH
 |exact SM
 |exact SK
 |exact SI
 |exact ai.min2 rfl rfl
 |exact ai.max2 rfl rfl
 |exact ai.jm rfl rfl (by omega)):ai P o ρ h v:=k
section
variable {P:Program}{n:Nat}{ops:Array Oper}{i:Nat}{ρ ρ':Env}{h:aj}{N:Env->aj->Prop}{X:List PanicEntry->aj->Prop}
theorem cG (next:RW P n ops (i+1) ((d,v)::ρ) h N X)
 (e:(nth ops.toList i,aM ops ρ o,o.dst,Nat.blt d n)=(some o,some true,some d,true):=by exact rfl) (k:ai P o ρ h v:=by exact Q7):RW P n ops i ρ h N X:=xp e k next
theorem dD (e:(nth ops.toList i,aM ops ρ o,o.dst)=(some o,some true,none)) (k:aB P o ρ h Φ X) (next:∀v h',Φ v h'->RW P n ops (i+1) ρ h' N X):RW P n ops i ρ h N X:=by
 simp only[Prod.mk.injEq] at e;exact RW.dQ e.1 e.2.1 e.2.2 k next
theorem Sm (next:RW P n ops (i+1) ((d,undef)::ρ) h N X)
 (e:(nth ops.toList i,aM ops ρ o,o.dst,Nat.blt d n)=(some o,some false,some d,true):=by exact rfl):RW P n ops i ρ h N X:=xk e next
theorem SB (next:RW P n ops (i+1) ρ h N X)
 (e:(nth ops.toList i,aM ops ρ o,o.dst)=(some o,some false,none):=by exact rfl):RW P n ops i ρ h N X:=by
 simp only[Prod.mk.injEq] at e;exact RW.O5 e.1 e.2.1 e.2.2 next
def Gt (n:Nat) (ops:Array Oper):Nat->Nat->Env->Option (Nat×Env)
 | 0,i,ρ=>some (i,ρ)
 |k+1,i,ρ=>match nth ops.toList i with
  |some o=>match o.dst with
   |some d=>match Nat.blt d n with
    |true=>match aM ops ρ o with
     |some true=>match Qs ρ o.op with
      |some v=>Gt n ops k (i+1) ((d,v)::ρ)
      |none=>some (i,ρ)
     |some false=>Gt n ops k (i+1) ((d,undef)::ρ)
     |none=>some (i,ρ)
    |false=>some (i,ρ)
   |none=>some (i,ρ)
  |none=>some (i,ρ)
theorem Au {j:Nat}:∀(k i:Nat) (ρ:Env),Gt n ops k i ρ=some (j,ρ')->RW P n ops j ρ' h N X->RW P n ops i ρ h N X
 | 0,i,ρ,e,next=>by simp only[Gt,Option.some.injEq,Prod.mk.injEq] at e;obtain⟨rfl,rfl⟩:=e;exact next
 |k+1,i,ρ,e,next=>by
  rw[Gt] at e;have fin:some (i,ρ)=some (j,ρ')->RW P n ops i ρ h N X:=fun e=>by simp only[Option.some.injEq,Prod.mk.injEq] at e;obtain⟨rfl,rfl⟩:=e;exact next
  split at e
  · rename_i o ho;split at e
    · rename_i d hd;split at e
      · rename_i hb;split at e
        · rename_i hw;split at e
          · rename_i v hv;exact RW.an ho hw hd hb (A5 hv) (Au k _ _ e next)
          · exact fin e
        · rename_i hw;exact RW.aK ho hw hd hb (Au k _ _ e next)
        · exact fin e
      · exact fin e
    · exact fin e
  · exact fin e
def O8 (n:Nat) (ops:Array Oper) (i:Nat) (ρ:Env):Option (Nat×Env):=match As n ops 1 i ρ with
 |some ρ'=>Gt n ops 200 (i+1) ρ'
 |none=>none
theorem SC {j:Nat}(next:RW P n ops j ρ' h N X) (e:O8 n ops i ρ=some (j,ρ'):=by exact rfl):RW P n ops i ρ h N X:=by
 unfold O8 at e;split at e
 · rename_i r hr;exact bW 1 hr (Au _ _ _ e next)
 · cases e
end
section
variable {P:Program}{n:Nat}{ops:Array Oper}{i:Nat}{ρ ρ':Env}{h:aj}{N:Env->Prop}
theorem rU (e:(nth ops.toList i,aM ops ρ o,o.dst,Nat.blt d n)=(some o,some true,some d,true)) (k:ai P o ρ h v) (next:RQ P n ops (i+1) ((d,v)::ρ) h N):RQ P n ops i ρ h N:=by
 simp only[Prod.mk.injEq] at e;exact RQ.an e.1 e.2.1 e.2.2.1 e.2.2.2 k next
theorem OH (next:RQ P n ops (i+1) ((d,v)::ρ) h N)
 (e:(nth ops.toList i,aM ops ρ o,o.dst,Nat.blt d n)=(some o,some true,some d,true):=by exact rfl) (k:ai P o ρ h v:=by exact Q7):RQ P n ops i ρ h N:=rU e k next
theorem SE (next:RQ P n ops (i+1) ((d,undef)::ρ) h N)
 (e:(nth ops.toList i,aM ops ρ o,o.dst,Nat.blt d n)=(some o,some false,some d,true):=by exact rfl):RQ P n ops i ρ h N:=by
 simp only[Prod.mk.injEq] at e;exact RQ.aK e.1 e.2.1 e.2.2.1 e.2.2.2 next
theorem SG {dst:Option Nat}{ty:TypeId}{pos:String}{after:Array Edge}{guard:Option (Nat×Bool)}
 (k:af P f vs.toArray h (bf fun u h'=>u=v/\h'=h)) (next:RQ P n ops (i+1) ((d,v)::ρ) h N) [c:cw P f fn] [g:Lx P] (ho:nth ops.toList i=some ⟨dst,.call ⟨.value (.func f),xs,ts⟩,ty,pos,after,guard⟩:=by exact rfl)
 (e:(aM ops ρ ⟨dst,.call ⟨.value (.func f),xs,ts⟩,ty,pos,after,guard⟩,dst,Nat.blt d n)=(some true,some d,true):=by exact rfl) (hb:fn.body.isSome=true:=by exact rfl) (hvs:wQ ρ xs.toList=some vs:=by exact rfl):RQ P n ops i ρ h N:=by
 simp only[Prod.mk.injEq] at e;exact RQ.QD ho rfl e.1 e.2.1 e.2.2 c.e hb (Lx.at c.e) (qI hvs) k next
end
def Nt:Op->Bool
 |.makeFunc .. |.lookup .. |.move .. |.assign .. |.pick .. |.binOp .. |.unOp .. |.convert .. |.extract .. |.nilCheck .. |.load .. |.indexAddr .. |.index .. |.fieldAddr .. |.slice .. |.field .. |.build .. |.makeInterface .. =>true
 |.call ⟨.builtin b,_,_⟩=>match b with
  |.len|.cap|.min|.max=>true
  |_=>false
 |_=>false
def Ii (fn:Func):List It->Option (List It)
 |.blk _::k=>some k
 |.scp _::k=>some k
 |.code p::k=>match sub (ay fn) p with
  |.skip=>some k
  |.label .. =>some k
  |.seq .. =>some (.code (0::p):: .code (1::p)::k)
  |.block id _=>some (.code (0::p):: .blk id::k)
  |.scope _=>some (.code (0::p):: .scp (0::p)::k)
  |.exit id=>ow id k
  |_=>none
 |_=>none
def Ih (fn:Func):Nat->List It->Option (List It)
 | 0,k=>some k
 |n+1,k=>match Ii fn k with
  |some k'=>Ih fn n k'
  |none=>some k
def O0 (fn:Func) (k:List It):Option (List It):=match Ii fn k with
 |some k'=>Ih fn 99 k'
 |none=>none
def wr:List Oper->Nat->Bool
 | [],_=>false
 |o::r,i=>match o.dst with
  |some d=>match Nat.beq d i with
   |true=>true
   |false=>wr r i
  |none=>wr r i
def mR (l:List Oper):Env->Env->Option Env
 | [],acc=>some acc
 |(i,v)::r,acc=>match wr l i with
  |true=>mR l r acc
  |false=>match acc.at i with
   |some _=>mR l r acc
   |none=>mR l r ((i,v)::acc)
theorem nL {l:List Oper}{ρ0:Env}:∀{ρ acc ρ1:Env},mR l ρ acc=some ρ1->Sub acc ρ0->(∀j v,wr l j=false->acc.at j=none->ρ.at j=some v->ρ0.at j=some v)->Sub ρ1 ρ0
 | [],acc,ρ1,e,h,_=>by simp only[mR,Option.some.injEq] at e;subst e;exact h
 |(i,v)::r,acc,ρ1,e,h,hr=>by
  rw[mR] at e;have key:∀j u,wr l j=false->acc.at j=none->j≠i->Env.at r j=some u->ρ0.at j=some u:=fun j u h0 h1 h2 h3=>hr j u h0 h1 (by rw[Env.eT,if_neg (Ne.symm h2)];exact h3)
  split at e
  · rename_i hw;exact nL e h fun j u h0 h1 h3=>key j u h0 h1 (fun q=>by subst q;rw[hw] at h0;cases h0) h3
  · rename_i hw;split at e
    · rename_i x hx;exact nL e h fun j u h0 h1 h3=>key j u h0 h1 (fun q=>by subst q;rw[hx] at h1;cases h1) h3
    · rename_i hx;refine nL e ⟨hr i v hw hx (by rw[Env.eT,if_pos rfl]),h⟩ fun j u h0 h1 h3=>?_
      rw[Env.eT] at h1;split at h1
      · cases h1
      · rename_i q;exact key j u h0 h1 (fun q'=>q q'.symm) h3
theorem qu {l:List Oper}{ρ:Env}(e:mR l ρ []=some ρ1):Sub ρ1 ρ:=nL e trivial fun _ _ _ _ h=>h
section
variable {P:Program}{f:FuncId}{fn:Func}{k k':List It}{ρ ρ':Env}{h:aj}{R:Ending->aj->Prop}{p:List Nat}
theorem Aj (e:Ii fn k=some k') (next:G P f fn k' ρ h R):G P f fn k ρ h R:=by
 unfold Ii at e;split at e
 · cases e;exact G.bE next
 · cases e;exact G.Nn next
 · split at e
   · rename_i hc;cases e;exact aI (by rw[hc];rfl) next
   · rename_i hc;cases e;exact F8 (by rw[hc];rfl) next
   · rename_i hc;cases e;exact av (by rw[hc];rfl) next
   · rename_i hc;cases e;exact G.block (by rw[hc];rfl) (by rw[hc];rfl) next
   · rename_i hc;cases e;exact F7 (by rw[hc];rfl) next
   · rename_i hc;exact cy (by rw[hc];rfl) (by rw[hc];exact e) next
   · cases e
 · cases e
theorem Fe:∀(n:Nat) (k:List It),Ih fn n k=some k'->G P f fn k' ρ h R->G P f fn k ρ h R
 | 0,k,e,next=>by simp only[Ih,Option.some.injEq] at e;subst e;exact next
 |n+1,k,e,next=>by
  rw[Ih] at e;split at e
  · rename_i h1;exact Aj h1 (Fe n _ e next)
  · cases e;exact next
theorem SN (next:G P f fn k' ρ h R) (e:O0 fn k=some k':=by exact rfl):G P f fn k ρ h R:=by
 unfold O0 at e;split at e
 · rename_i h1;exact Aj h1 (Fe _ _ e next)
 · cases e
theorem dc (next:G P f fn k' ρ h R) (e:Ii fn k=some k':=by exact rfl):G P f fn k ρ h R:=Aj e next
theorem fE (next:RW P fn.ntmps (opsOf (Lw.sub (ay fn) p)) 0 ρ h (fun ρ' h'=>G P f fn k ρ' h' R) (fun ch h'=>R (.panicked ch) h')) [c:cw P f fn] (hk:kind (Lw.sub (ay fn) p)=5:=by exact rfl):G P f fn (.code p::k) ρ h R:=G.cA c.e hk next
theorem SO (next:RQ P fn.ntmps (opsOf (Lw.sub (ay fn) p)) 0 ρ h (fun ρ'=>G P f fn k ρ' h R)) [c:cw P f fn] [m:Oc P] (hk:kind (Lw.sub (ay fn) p)=6:=by exact rfl) (hB:Region.lexB .any (opsOf (Lw.sub (ay fn) p))=true:=by kernel_rfl):G P f fn (.code p::k) ρ h R:=G.l7 c.e m.e hk hB next
theorem SP (next:RQ P fn.ntmps (opsOf (Lw.sub (ay fn) p)) 0 ρ h (fun ρ'=>G P f fn k ρ' h R)) [c:cw P f fn] [m:Oc P] (hk:kind (Lw.sub (ay fn) p)=6:=by exact rfl)
 (_:(opsOf (Lw.sub (ay fn) p)).toList.all (fun o=>Nt o.op)=true:=by exact rfl) (hB:Region.lexB .any (opsOf (Lw.sub (ay fn) p))=true:=by kernel_rfl):G P f fn (.code p::k) ρ h R:=G.l7 c.e m.e hk hB next
theorem iF {X:List PanicEntry->aj->Prop}(next:G P f fn k ρ h R) (e:Nat.ble ops.size i=true:=by exact rfl):RW P n ops i ρ h (fun ρ' h'=>G P f fn k ρ' h' R) X:=RW.done e next
theorem SF (next:G P f fn k ρ h R) (e:Nat.ble ops.size i=true:=by exact rfl):RQ P n ops i ρ h (fun ρ'=>G P f fn k ρ' h R):=RQ.done e next
theorem dM {φ:Prop}{_:Decidable φ}(ht:φ->G P f fn (.code (0::p)::k) ρ h R) (hn:¬φ->G P f fn (.code (1::p)::k) ρ h R) (hk:kind (Lw.sub (ay fn) p)=7:=by exact rfl)
 (hc:aU ρ (jM (Lw.sub (ay fn) p))=some (.bool (decide φ)):=by exact rfl):G P f fn (.code p::k) ρ h R:=dm hk hc ht hn
theorem E4 {t:Bool}(ht:t=true->G P f fn (.code (0::p)::k) ρ h R) (hn:t=false->G P f fn (.code (1::p)::k) ρ h R) (hk:kind (Lw.sub (ay fn) p)=7:=by exact rfl)
 (hc:aU ρ (jM (Lw.sub (ay fn) p))=some (.bool t):=by exact rfl):G P f fn (.code p::k) ρ h R:=aA hk hc ht hn
theorem tf {t:Bool}(hc:aU ρ (jM (Lw.sub (ay fn) p))=some (.bool t)) (hb:¬t=false) (next:G P f fn (.code (0::p)::k) ρ h R) (hk:kind (Lw.sub (ay fn) p)=7:=by exact rfl):G P f fn (.code p::k) ρ h R :=
 aA hk hc (fun _=>next) (fun e=>absurd e hb)
theorem qT {t:Bool}(hc:aU ρ (jM (Lw.sub (ay fn) p))=some (.bool t)) (hb:¬t=true) (next:G P f fn (.code (1::p)::k) ρ h R) (hk:kind (Lw.sub (ay fn) p)=7:=by exact rfl):G P f fn (.code p::k) ρ h R :=
 aA hk hc (fun e=>absurd e hb) (fun _=>next)
theorem dS (hR:R (.returned (packed vs)) h) [c:cw P f fn] (hk:kind (Lw.sub (ay fn) p)=4:=by exact rfl) (hr:fI ρ fn.results.toList=some vs:=by exact rfl):G P f fn (.code p::k) ρ h R:=G.ret c.e hk hr hR
theorem M9 (hR:R (.returned (packed vs)) h) [c:cw P f fn] (hr:fI ρ fn.results.toList=some vs:=by exact rfl):G P f fn [] ρ h R:=G.kJ c.e hr hR
theorem eV (next:G P f fn [.code []] (lP 0 vs) h R) [c:cw P f fn] (hb:fn.body.isSome=true:=by exact rfl) (hn:Nat.ble vs.length fn.ntmps=true:=by exact rfl):af P f vs.toArray h R:=af.of c.e hb hn next
theorem OJ (E:σ->Env) (I:σ->aj->Prop) (μ:σ->Nat) (s0:σ) (h0:I s0 h)
 (round:∀s h,I s h->(∀s' {h' ρ'},I s' h'->(hm:μ s' < μ s:=by first|(dsimp only;omega)|omega)->(hs:Sub (E s') ρ':=by exact sb rfl)->G P f fn (.loop (0::p)::k) ρ' h' R)->G P f fn (.code (0::p):: .loop (0::p)::k) (E s) h R)
 (hk:kind (Lw.sub (ay fn) p)=3:=by exact rfl) (hs:Sub (E s0) ρ:=by exact sb rfl):G P f fn (.code p::k) ρ h R :=
 cL E I μ s0 hk hs h0 (fun s h hi ih=>round s h hi (fun s' _ _ h1 h2 h3=>ih s' _ _ h3 h1 h2))
end
section
variable {P:Program}{n:Nat}{ops:Array Oper}{M:Nat->Prop}{keeps:Nat->Bool}{fuel:Nat}{listed:Array Bool}{ρ:Env}{h:aj}{N:Env->aj->Prop}{X:List PanicEntry->aj->Prop}
def Pk (ops:Array Oper) (keeps:Nat->Bool) (listed:Array Bool) (i:Nat):Bool:=Region.noSelect ops && (sK ops keeps listed i && (Region.ready .any ops listed).contains i)
theorem eO (i:Nat) (e:(nth ops.toList i,aM ops ρ o,o.dst,Nat.blt d n)=(some o,some true,some d,true)) (k:∀h',Ext M h h'->ai P o ρ h' v)
 (next:RD P n ops M keeps fuel (listed.setIfInBounds i true) ((d,v)::ρ) h N X) (hk:Pk ops keeps listed i=true:=by kernel_rfl):RD P n ops M keeps (fuel+1) listed ρ h N X:=by
 simp only[Prod.mk.injEq] at e;simp only[Pk,Bool.and_eq_true] at hk;exact RD.HY i e.1 hk.1 hk.2.1 hk.2.2 e.2.1 e.2.2.1 e.2.2.2 k rfl next
theorem cS (i:Nat) (next:RD P n ops M keeps fuel (listed.setIfInBounds i true) ((d,v)::ρ) h N X) (e:(nth ops.toList i,aM ops ρ o,o.dst,Nat.blt d n)=(some o,some true,some d,true):=by exact rfl)
 (k:∀h',Ext M h h'->ai P o ρ h' v:=by intro _ _;exact Q7) (hk:Pk ops keeps listed i=true:=by kernel_rfl):RD P n ops M keeps (fuel+1) listed ρ h N X:=eO i e k next hk
theorem zdK (i:Nat) (next:RD P n ops M keeps fuel (listed.setIfInBounds i true) ((d,undef)::ρ) h N X) (e:(nth ops.toList i,aM ops ρ o,o.dst,Nat.blt d n)=(some o,some false,some d,true):=by exact rfl)
 (hk:Pk ops keeps listed i=true:=by kernel_rfl):RD P n ops M keeps (fuel+1) listed ρ h N X:=by
 simp only[Prod.mk.injEq] at e;simp only[Pk,Bool.and_eq_true] at hk;exact RD.aK i e.1 hk.1 hk.2.1 hk.2.2 e.2.1 e.2.2.1 e.2.2.2 rfl next
theorem nG (i:Nat) (e:(nth ops.toList i,aM ops ρ o,o.dst,Nat.blt d n)=(some o,some true,some d,true)) (k:aB P o ρ h Φ X)
 (next:∀v h',Φ v h'->(keeps i=true->Ext M h h')/\RD P n ops M keeps fuel (listed.setIfInBounds i true) ((d,v)::ρ) h' N X) (hr:Region.ready .any ops listed=[i]:=by kernel_rfl):RD P n ops M keeps (fuel+1) listed ρ h N X:=by
 simp only[Prod.mk.injEq] at e;exact RD.Ph i e.1 hr e.2.1 e.2.2.1 e.2.2.2 k rfl next
theorem zS (i:Nat) (e:(nth ops.toList i,aM ops ρ o,o.dst)=(some o,some true,none)) (k:aB P o ρ h Φ X)
 (next:∀v h',Φ v h'->(keeps i=true->Ext M h h')/\RD P n ops M keeps fuel (listed.setIfInBounds i true) ρ h' N X) (hr:Region.ready .any ops listed=[i]:=by kernel_rfl):RD P n ops M keeps (fuel+1) listed ρ h N X:=by
 simp only[Prod.mk.injEq] at e;exact RD.Pj i e.1 hr e.2.1 e.2.2 k rfl next
theorem Rm (i:Nat) (e:(nth ops.toList i,aM ops ρ o,o.dst,Nat.blt d n)=(some o,some true,some d,true)) (k:ai P o ρ h v)
 (next:RD P n ops M keeps fuel (listed.setIfInBounds i true) ((d,v)::ρ) h N X) (hr:Region.ready .any ops listed=[i]:=by kernel_rfl):RD P n ops M keeps (fuel+1) listed ρ h N X :=
 nG i e k.bD (fun u h' hq=>by obtain⟨rfl,rfl⟩:=hq;exact⟨fun _=>Ext.refl _ _,next⟩) hr
theorem LM (i:Nat) (next:RD P n ops M keeps fuel (listed.setIfInBounds i true) ((d,v)::ρ) h N X) (e:(nth ops.toList i,aM ops ρ o,o.dst,Nat.blt d n)=(some o,some true,some d,true):=by exact rfl) (k:ai P o ρ h v:=by exact Q7)
 (hr:Region.ready .any ops listed=[i]:=by kernel_rfl):RD P n ops M keeps (fuel+1) listed ρ h N X:=Rm i e k next hr
theorem SQ (i j:Nat){oi oj:Oper}{Φ':Value->aj->Prop}{di dj:Nat}(ei:(nth ops.toList i,aM ops ρ oi,oi.dst,Nat.blt di n)=(some oi,some true,some di,true)) (ej:(nth ops.toList j,aM ops ρ oj,oj.dst,Nat.blt dj n)=(some oj,some true,some dj,true))
 (ki:aB P oi ρ h Φ X) (kj:aB P oj ρ h Φ' X)
 (nexti:∀v h',Φ v h'->(keeps i=true->Ext M h h')/\RD P n ops M keeps fuel (listed.setIfInBounds i true) ((di,v)::ρ) h' N X)
 (nextj:∀v h',Φ' v h'->(keeps j=true->Ext M h h')/\RD P n ops M keeps fuel (listed.setIfInBounds j true) ((dj,v)::ρ) h' N X) (hr:Region.ready .any ops listed=[i,j]:=by kernel_rfl):RD P n ops M keeps (fuel+1) listed ρ h N X:=by
 simp only[Prod.mk.injEq] at ei ej;exact RD.pP i j ei.1 ej.1 hr ei.2.1 ej.2.1 ei.2.2.1 ej.2.2.1 ei.2.2.2 ej.2.2.2 ki kj rfl rfl nexti nextj
theorem zdf1 (he:h=h0) (hs:Sub ρ1 ρ:=by exact sb rfl) (hr:Region.ready .any ops listed=[]:=by kernel_rfl):RD P n ops M keeps fuel listed ρ h (fun ρ' h'=>h'=h0/\Sub ρ1 ρ') X:=RD.done hr ⟨he,hs⟩
theorem zdfX {E:σ->aj->Prop}{F:σ->Env}(s:σ) (hE:E s h) (hs:Sub (F s) ρ:=by exact sb rfl) (hr:Region.ready .any ops listed=[]:=by kernel_rfl):RD P n ops M keeps fuel listed ρ h (fun ρ' h'=>∃s,E s h'/\Sub (F s) ρ') X:=RD.done hr ⟨s,hE,hs⟩
theorem cY (he:h=h0) (hs:Sub ρ1 ρ:=by exact sb rfl) (e:Nat.ble ops.size i=true:=by exact rfl):RW P n ops i ρ h (fun ρ' h'=>h'=h0/\Sub ρ1 ρ') X:=RW.done e ⟨he,hs⟩
theorem OA {E:σ->aj->Prop}{F:σ->Env}(s:σ) (hE:E s h) (hs:Sub (F s) ρ:=by exact sb rfl) (e:Nat.ble ops.size i=true:=by exact rfl):RW P n ops i ρ h (fun ρ' h'=>∃s,E s h'/\Sub (F s) ρ') X:=RW.done e ⟨s,hE,hs⟩
theorem M8 (he:h=h0) (hs:Sub ρ1 ρ:=by exact sb rfl) (e:Nat.ble ops.size i=true:=by exact rfl):RQ P n ops i ρ h (fun ρ'=>h=h0/\Sub ρ1 ρ'):=RQ.done e ⟨he,hs⟩
end
section
variable {P:Program}{f:FuncId}{fn:Func}{k:List It}{ρ ρ1:Env}{h:aj}{R:Ending->aj->Prop}{p:List Nat}
theorem xM {fuel:Nat}{M:Nat->Prop}{keeps:Nat->Bool}{listed:Array Bool}{X:List PanicEntry->aj->Prop}(next:G P f fn k ρ h R) (hr:Region.ready .any ops listed=[]:=by kernel_rfl) :
 RD P n ops M keeps fuel listed ρ h (fun ρ' h'=>G P f fn k ρ' h' R) X:=RD.done hr next
theorem Bt (sz:Nat) (M:Nat->Prop) (keeps:Nat->Bool) (next:RD P fn.ntmps (opsOf (Lw.sub (ay fn) p)) M keeps sz (Array.replicate sz false) ρ h (fun ρ' h'=>G P f fn k ρ' h' R) (fun ch h'=>R (.panicked ch) h')) [c:cw P f fn] [m:Oc P]
 (hk:kind (Lw.sub (ay fn) p)=6:=by exact rfl) (hsz:(opsOf (Lw.sub (ay fn) p)).size=sz:=by exact rfl):G P f fn (.code p::k) ρ h R:=cq M keeps c.e m.e hk hsz rfl next
theorem Sq (sz bar:Nat) (next:RD P fn.ntmps (opsOf (Lw.sub (ay fn) p)) (fun b=>h.size<=b) (fun i=>Nat.blt i bar) sz (Array.replicate sz false) ρ h (fun ρ' h'=>G P f fn k ρ' h' R) (fun ch h'=>R (.panicked ch) h')) [c:cw P f fn] [m:Oc P]
 (hk:kind (Lw.sub (ay fn) p)=6:=by exact rfl) (hsz:(opsOf (Lw.sub (ay fn) p)).size=sz:=by exact rfl):G P f fn (.code p::k) ρ h R:=cq _ _ c.e m.e hk hsz rfl next
theorem rV (new:Env) (e:mR (opsOf (Lw.sub (ay fn) p)).toList ρ []=some ρ1) (cA:RW P fn.ntmps (opsOf (Lw.sub (ay fn) p)) 0 ρ h (fun ρ' h'=>h'=h/\Sub (new++ρ1) ρ') (fun _ _=>False))
 (next:G P f fn k (new++ρ1) h R) [c:cw P f fn] (hk:kind (Lw.sub (ay fn) p)=5:=by exact rfl):G P f fn (.code p::k) ρ h R:=G.bK new ρ1 (qu e) c.e hk cA next
theorem SR (E:σ->aj->Prop) (new:σ->Env) (e:mR (opsOf (Lw.sub (ay fn) p)).toList ρ []=some ρ1) (cA:RW P fn.ntmps (opsOf (Lw.sub (ay fn) p)) 0 ρ h (fun ρ' h'=>∃s,E s h'/\Sub (new s++ρ1) ρ') (fun ch h'=>R (.panicked ch) h'))
 (next:∀s h',E s h'->G P f fn k (new s++ρ1) h' R) [c:cw P f fn] (hk:kind (Lw.sub (ay fn) p)=5:=by exact rfl):G P f fn (.code p::k) ρ h R:=G.AA E new ρ1 (qu e) c.e hk cA next
theorem zcd1 (sz:Nat) (M:Nat->Prop) (keeps:Nat->Bool) (new:Env) (e:mR (opsOf (Lw.sub (ay fn) p)).toList ρ []=some ρ1) (cA:RD P fn.ntmps (opsOf (Lw.sub (ay fn) p)) M keeps sz (Array.replicate sz false) ρ h (fun ρ' h'=>h'=h/\Sub (new++ρ1) ρ') (fun ch h'=>R (.panicked ch) h'))
 (next:G P f fn k (new++ρ1) h R) [c:cw P f fn] [m:Oc P] (hk:kind (Lw.sub (ay fn) p)=6:=by exact rfl) (hsz:(opsOf (Lw.sub (ay fn) p)).size=sz:=by exact rfl):G P f fn (.code p::k) ρ h R:=G.tO new ρ1 (qu e) M keeps c.e m.e hk hsz rfl cA next
theorem zcdX (sz:Nat) (M:Nat->Prop) (keeps:Nat->Bool) (E:σ->aj->Prop) (new:σ->Env) (e:mR (opsOf (Lw.sub (ay fn) p)).toList ρ []=some ρ1) (cA:RD P fn.ntmps (opsOf (Lw.sub (ay fn) p)) M keeps sz (Array.replicate sz false) ρ h (fun ρ' h'=>∃s,E s h'/\Sub (new s++ρ1) ρ') (fun ch h'=>R (.panicked ch) h'))
 (next:∀s h',E s h'->G P f fn k (new s++ρ1) h' R) [c:cw P f fn] [m:Oc P] (hk:kind (Lw.sub (ay fn) p)=6:=by exact rfl) (hsz:(opsOf (Lw.sub (ay fn) p)).size=sz:=by exact rfl):G P f fn (.code p::k) ρ h R:=G.iN E new ρ1 (qu e) M keeps c.e m.e hk hsz rfl cA next
end
def Ke:Code->Nat->Bool
 |.region _ ops _,i=>wr ops.toList i
 |.seq a b,i=>Ke a i ||Ke b i
 |.cond _ a b,i=>Ke a i ||Ke b i
 |.block _ b,i=>Ke b i
 |.loop b,i=>Ke b i
 |.scope b,i=>Ke b i
 |.rangeFunc ..,_=>true
 |_,_=>false
def vR (c:Code):Env->Env->Option Env
 | [],acc=>some acc
 |(i,v)::r,acc=>match Ke c i with
  |true=>vR c r acc
  |false=>match acc.at i with
   |some _=>vR c r acc
   |none=>vR c r ((i,v)::acc)
theorem nK {c:Code}{ρ0:Env}:∀{ρ acc ρ1:Env},vR c ρ acc=some ρ1->Sub acc ρ0->(∀j v,Ke c j=false->acc.at j=none->ρ.at j=some v->ρ0.at j=some v)->Sub ρ1 ρ0
 | [],acc,ρ1,e,h,_=>by simp only[vR,Option.some.injEq] at e;subst e;exact h
 |(i,v)::r,acc,ρ1,e,h,hr=>by
  rw[vR] at e;have key:∀j u,Ke c j=false->acc.at j=none->j≠i->Env.at r j=some u->ρ0.at j=some u:=fun j u h0 h1 h2 h3=>hr j u h0 h1 (by rw[Env.eT,if_neg (Ne.symm h2)];exact h3)
  split at e
  · rename_i hw;exact nK e h fun j u h0 h1 h3=>key j u h0 h1 (fun q=>by subst q;rw[hw] at h0;cases h0) h3
  · rename_i hw;split at e
    · rename_i x hx;exact nK e h fun j u h0 h1 h3=>key j u h0 h1 (fun q=>by subst q;rw[hx] at h1;cases h1) h3
    · rename_i hx;refine nK e ⟨hr i v hw hx (by rw[Env.eT,if_pos rfl]),h⟩ fun j u h0 h1 h3=>?_
      rw[Env.eT] at h1;split at h1
      · cases h1
      · rename_i q;exact key j u h0 h1 (fun q'=>q q'.symm) h3
theorem Sub.app:∀{a b ρ:Env},Sub a ρ->Sub b ρ->Sub (a++b) ρ
 | [],_,_,_,h=>h
 |(_,_)::_,_,_,⟨h1,h2⟩,h=>⟨h1,Sub.app h2 h⟩
section
variable {P:Program}{f:FuncId}{fn:Func}{k:List It}{ρ ρ1:Env}{h:aj}{R:Ending->aj->Prop}{p:List Nat}
theorem qS (new:σ->Env) (I:σ->aj->Prop) (μ:σ->Nat) (s0:σ) (h0:I s0 h) (e:vR (Lw.sub (ay fn) p) ρ []=some ρ1)
 (round:∀s h,I s h->(∀s' {h' ρ'},I s' h'->(hm:μ s' < μ s:=by first|(dsimp only;omega)|omega)->(hs:Sub (new s'++ρ1) ρ':=by exact sb rfl)->G P f fn (.loop (0::p)::k) ρ' h' R)->G P f fn (.code (0::p):: .loop (0::p)::k) (new s++ρ1) h R)
 (hk:kind (Lw.sub (ay fn) p)=3:=by exact rfl) (hs:Sub (new s0) ρ:=by exact sb rfl):G P f fn (.code p::k) ρ h R :=
 cL (fun s=>new s++ρ1) I μ s0 hk (Sub.app hs (nK e trivial fun _ _ _ _ h=>h)) h0 (fun s h hi ih=>round s h hi (fun s' _ _ h1 h2 h3=>ih s' _ _ h3 h1 h2))
theorem qW:fY P ρ h [] []:=.nil
theorem M6 {t:Tmp}(k:fY P ρ h rs vs) (hx:ρ.at t=some v:=by exact rfl):fY P ρ h (.tmp t::rs) (v::vs):=.cons (bT.tmp hx) k
theorem SD {a:Tmp}{q:Addr}(hx:ρ.at a=some (.pointer (some q))) (hc:cellAt h q=some v) (k:fY P ρ h rs vs) [c:nF P t false]:fY P ρ h (.cell a t::rs) (v::vs):=.cons (bT.cell c.e hx hc) k
theorem pH {a:Tmp}{o:Nat}(hx:ρ.at a=some (.pointer (some ⟨b,o,none⟩))) (hc:rowAt h b o cs) (k:fY P ρ h rs vs) [c:nF P t true] [d:oD P t sz] (hn:cs.length=sz:=by first|exact rfl|(simp;done)|(simp;omega)) :
 fY P ρ h (.cell a t::rs) (.agg cs.toArray::vs):=.cons (bT.ja c.e d.e hx hc hn) k
theorem qZ (hr:fY P ρ h fn.results.toList vs) (hR:R (.returned (packed vs)) h) [c:cw P f fn] (hk:kind (Lw.sub (ay fn) p)=4:=by exact rfl):G P f fn (.code p::k) ρ h R:=G.jI c.e hk hr hR
end
section
variable {P:Program}{n:Nat}{ops:Array Oper}{i:Nat}{ρ:Env}{h:aj}{M:Nat->Prop}{keeps:Nat->Bool}{fuel:Nat}{listed:Array Bool}{X:List PanicEntry->aj->Prop}{N:Env->aj->Prop}
theorem qV (d:Nat){b:Bool}(ht:b=true->RW P n ops i ((d,.bool true)::ρ) h N X) (hn:b=false->RW P n ops i ((d,.bool false)::ρ) h N X) (hb:ρ.at d=some (.bool b):=by exact rfl):RW P n ops i ρ h N X:=RW.split hb ht hn
theorem zds (d:Nat){b:Bool}(ht:b=true->RD P n ops M keeps fuel listed ((d,.bool true)::ρ) h N X) (hn:b=false->RD P n ops M keeps fuel listed ((d,.bool false)::ρ) h N X) (hb:ρ.at d=some (.bool b):=by exact rfl):RD P n ops M keeps fuel listed ρ h N X:=RD.split hb ht hn
theorem So {N:Env->Prop}(d:Nat){b:Bool}(ht:b=true->RQ P n ops i ((d,.bool true)::ρ) h N) (hn:b=false->RQ P n ops i ((d,.bool false)::ρ) h N) (hb:ρ.at d=some (.bool b):=by exact rfl):RQ P n ops i ρ h N:=RQ.split hb ht hn
end
structure Si (p:Prop):Prop where
 on:p
theorem ax {g g':Prop}(next:g') (k:Si g'->g:=by
 intro n
 repeat first
  |refine SC ?_
  |refine cG ?_
  |refine iF ?_
  |refine SN ?_
  |refine fE ?_
  |refine OH ?_
  |refine SE ?_
  |refine SF ?_
  |refine SP ?_
  |refine SB ?_
 exact n.on):g:=k ⟨next⟩
end
end Go.Lw

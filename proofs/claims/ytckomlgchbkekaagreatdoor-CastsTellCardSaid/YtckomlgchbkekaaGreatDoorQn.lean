/- What the proof of the statement leans on (part 14). -/
import Derived.Lib.MakeNoZero
import Derived.Laws.CopyOwn
import Derived.Test.YtckomlgchbkekaaGreatDoorQm

namespace Go.Lw
class iy (P:Program) (t:TypeId) (d:outParam TypeDesc):Prop where e:P.underlying t=some d
class ia (P:Program) (t:TypeId) (n:outParam Nat):Prop where e:bE P t=some n
class gD (P:Program) (t:TypeId) (b:outParam Bool):Prop where e:aJ P t=some b
class wJ (P:Program) (t:TypeId) (s b:outParam Nat):Prop where e:cD P t s b
class qx (P:Program) (t:TypeId) (z:outParam Value):Prop where e:(P.info? t).bind (·.zero)=some z
class aZ (P:Program) (f:FuncId) (fn:outParam Func):Prop where e:P.funcs[f]? =some fn
class Jw (P:Program):Prop where e:(P.funcs.toList.all fun fn=> !(fn.name == "runtime.NumGoroutine"))=true
class LQ (P:Program):Prop where e:P.follows .mixedOrders=true
class PE (P:Program) (t:TypeId):Prop where e:P.concrete t=true
class cB (P:Program) (t:TypeId) (i:Nat) (off:outParam Nat):Prop where
 e:∃fs fd k,P.underlying t=some (.struct fs)/\fs[i]? =some fd/\fd.offset=off/\bE P fd.type=some (k+1)
class Qr (P:Program) (t:TypeId) (i:Nat) (off:outParam Nat):Prop where
 e:∃fs fd,P.underlying t=some (.struct fs)/\fs[i]? =some fd/\fd.offset=off/\aJ P fd.type=some false
section
variable {f:FuncId}{fn:Func}{t e s:TypeId}{x y:Operand}{i b sz n d size bytes:Nat}{o:Oper}{v:Value}{cs vs:List Value}{k:IntKind}{j:Int}{xs:Array Operand}{ts:Array TypeId}{Φ:Value->ai->Prop}{h0:ai}{ρ1:Env}{ops:Array Oper}{σ:Type}{rs:List ResultVar}
theorem Jw.at {P:Program}[g:Jw P] (h:P.funcs[f]? =some fn):(fn.name == "runtime.NumGoroutine")=false:=by
 have:=List.all_eq_true.1 g.e fn (by simpa using Array.mem_of_getElem? h);simpa using this
section
variable {P:Program}{ρ:Env}{h:ai}{dst:Option Nat}{ty:TypeId}{pos:String}{after:Array Edge}{guard:Option (Nat×Bool)}{X:List PanicEntry->ai->Prop}
theorem P2 {o off:Nat}[c:cB P t i off] (hx:aT ρ x=some (.pointer (some ⟨b,o,none⟩)):=by exact rfl) :
 an P ⟨dst,.fieldAddr t x i,ty,pos,after,guard⟩ ρ h (.pointer (some ⟨b,o+off,none⟩)):=by
 obtain⟨fs,fd,k,h1,h2,h3,h4⟩:=c.e;exact aM h1 h2 h3 h4 hx
theorem aA {p:Addr}(hx:aT ρ x=some (.pointer (some p))) (hc:cellAt h p=some v) [c:gD P t false] :
 an P ⟨dst,.load t x,ty,pos,after,guard⟩ ρ h v:=bn c.e hx hc
theorem bI {o:Nat}(hx:aT ρ x=some (.pointer (some ⟨b,o,none⟩))) (hc:rowAt h b o cs) [c:gD P t true] [d:ia P t sz]
 (hn:cs.length=sz:=by first|exact rfl|(simp;done)|(simp;omega)):an P ⟨dst,.load t x,ty,pos,after,guard⟩ ρ h (.agg cs.toArray):=an.bB c.e d.e hx hc hn
theorem bT {oa:Option Addr}{o c:Nat}[u:iy P t (.slice e)] [s:ia P e sz] (hx:aT ρ x=some (.slice oa n c)) (hy:aT ρ y=some (.int k j)) (i:Nat) (hj:j=i) (ha:oa=some ⟨b,o,none⟩) (hi:i<n:=by omega) :
 an P ⟨dst,.indexAddr t x y,ty,pos,after,guard⟩ ρ h (.pointer (some ⟨b,o+i*sz,none⟩)):=an.nk u.e s.e hx hy i hj ha hi
theorem Ds {o:Nat}[u:iy P t (.array n e)] [s:ia P e sz] (hx:aT ρ x=some (.pointer (some ⟨b,o,none⟩))) (hy:aT ρ y=some (.int k j)) (i:Nat) (hj:j=i:=by exact rfl) (hi:i<n:=by first|decide|omega) :
 an P ⟨dst,.indexAddr t x y,ty,pos,after,guard⟩ ρ h (.pointer (some ⟨b,o+i*sz,none⟩)):=an.G3 u.e s.e hx hy i hj hi
theorem oK {s:ByteArray}{b:UInt8}[u:iy P t .string] (hx:aT ρ x=some (.string s)) (hy:aT ρ y=some (.int k j)) (i:Nat) (hj:j=i) (hb:s.data[i]? =some b) :
 an P ⟨dst,.index t x y,ty,pos,after,guard⟩ ρ h (.int .u8 b.toNat):=an.sU u.e hx hy i hj hb
def M4:TypeDesc->Option Value->Option Value
 |.slice _,some (.slice _ n _)=>some (.int .i64 (n:Nat))
 |.string,some (.string s)=>some (.int .i64 (s.size:Nat))
 |.array n _,some _=>some (.int .i64 (n:Nat))
 |_,_=>none
theorem P0 {d:TypeDesc}[u:iy P t d] (e:M4 d (aT ρ x)=some v:=by exact rfl):an P ⟨dst,.call ⟨.builtin .len,#[x],#[t]⟩,ty,pos,after,guard⟩ ρ h v:=by
 unfold M4 at e;split at e<;>cases e
 · rename_i hx;exact an.gO u.e hx
 · rename_i hx;exact an.vZ u.e hx
 · rename_i hx;exact an.GR u.e hx
theorem PY {off:Nat}{cs:Array Value}[c:Qr P t i off]
 (hx:aT ρ x=some (.agg cs):=by exact rfl) (hv:cs[off]? =some v:=by exact rfl):an P ⟨dst,.field t x i,ty,pos,after,guard⟩ ρ h v:=by
 obtain⟨fs,fd,h1,h2,h3,h4⟩:=c.e;exact an.field h1 h2 h3 h4 hx hv
theorem P3 {yt:TypeId}{i j:Bool}[u:iy P t .bool] (hx:aT ρ x=some (.bool i):=by exact rfl) (hy:aT ρ y=some (.bool j):=by exact rfl) :
 an P ⟨dst,.binOp .eql t x y yt,ty,pos,after,guard⟩ ρ h (.bool (i ==j)):=an.I1 u.e hx hy
theorem PZ {d:TypeId}{ds:TypeDesc}{k':IntKind}{i:Int}[u:iy P s ds] [w:iy P d (.int k')] (hx:aT ρ x=some (.int k i):=by exact rfl) :
 an P ⟨dst,.convert s d x,ty,pos,after,guard⟩ ρ h (.int k' (k'.wrap i)):=an.D4 u.e w.e hx
theorem ur {d:TypeId}{ds:TypeDesc}{k':IntKind}{i:Int}[u:iy P s ds] [w:iy P d (.int k')] (hx:aT ρ x=some (.int k i)) (hw:k'.wrap i=i) :
 an P ⟨dst,.convert s d x,ty,pos,after,guard⟩ ρ h (.int k' i):=an.Hx u.e w.e hx hw
theorem Ie {d:TypeId}{O:Nat->Prop}{l:List UInt8}[a:iy P s (.slice e)] [b:iy P e (.int .u8)] [c:iy P d .string] (hx:aT ρ x=some v) (hv:aR .byte h O v l) :
 an P ⟨dst,.convert s d x,ty,pos,after,guard⟩ ρ h (.string ⟨l.toArray⟩):=an.Fe a.e b.e c.e hx hv
theorem P1 [c:PE P t] (hx:aT ρ x=some v:=by exact rfl):an P ⟨dst,.makeInterface t x,ty,pos,after,guard⟩ ρ h (.iface t v):=iY c.e hx
def ue (ρ:Env):List Operand->Option (List Value)
 | []=>some []
 |x::r=>match aT ρ x with
  |some v=>match ue ρ r with
   |some vs=>some (v::vs)
   |none=>none
  |none=>none
theorem oG:∀{xs:List Operand}{vs:List Value},ue ρ xs=some vs->xs.map (aT ρ)=vs.map some
 | [],vs,h=>by simp only[ue,Option.some.injEq] at h;subst h;rfl
 |x::r,vs,h=>by
  rw[ue] at h;split at h
  · rename_i v hv;split at h
    · rename_i us hu;cases h;rw[List.map_cons,List.map_cons,hv,oG hu]
    · cases h
  · cases h
theorem aG (hvs:ue ρ xs.toList=some vs) (k:aj P f vs.toArray h (aN Φ)) [c:aZ P f fn] [g:Jw P] (hb:fn.body.isSome=true:=by exact rfl) :
 aH P ⟨dst,.call ⟨.value (.func f),xs,ts⟩,ty,pos,after,guard⟩ ρ h Φ X:=bu c.e hb (Jw.at c.e) (oG hvs) (aj.jF k)
theorem uu {X0:List PanicEntry->ai->Prop}(hvs:ue ρ xs.toList=some vs) (k:aj P f vs.toArray h (Dj Φ X0)) (hx:∀c h',X0 c h'->X c h') [c:aZ P f fn] [g:Jw P] (hb:fn.body.isSome=true:=by exact rfl) :
 aH P ⟨dst,.call ⟨.value (.func f),xs,ts⟩,ty,pos,after,guard⟩ ρ h Φ X:=bu c.e hb (Jw.at c.e) (oG hvs) (aj.Mg k hx)
theorem cM (hx:aT ρ x=some v:=by exact rfl) :
 aH P ⟨dst,.box t x,ty,pos,after,guard⟩ ρ h (fun u g=>u= .pointer (some ⟨h.size,0,none⟩)/\az g h.size t v.cells.toList/\ah h g/\g.size=h.size+1) X:=aH.Jc hx
theorem cC {z:Value}[c:qx P t z] :
 aH P ⟨dst,.alloc t,ty,pos,after,guard⟩ ρ h (fun u g=>u= .pointer (some ⟨h.size,0,none⟩)/\az g h.size t z.cells.toList/\ah h g/\g.size=h.size+1) X:=aH.lW c.e
theorem b7 {g o:Nat}{cur:List Value}[c:ia P t 1] (hx:aT ρ x=some (.pointer (some ⟨g,o,none⟩))) (hy:aT ρ y=some v) (hk:az h g e cur) (h1:v.oneCell'=true:=by exact rfl)
 (hl:o<cur.length:=by first|decide|exact of_decide_eq_true rfl|(simp;done)|(simp;omega)) :
 aH P ⟨dst,.store t x y,ty,pos,after,guard⟩ ρ h (fun u h'=>u=undef/\az h' g e (cur.set o v)/\Ext (fun b=>b=g) h h'/\h'.size=h.size) X:=aH.br c.e hx hy hk hl h1
theorem bM {g o:Nat}{cur:List Value}{cs:Array Value}[c:ia P t sz] (hx:aT ρ x=some (.pointer (some ⟨g,o,none⟩))) (hy:aT ρ y=some (.agg cs)) (hk:az h g e cur) (h1:∀v∈cs.toList,v.oneCell'=true:=by first|decide|simp[Value.oneCell'])
 (hn:cs.size=sz:=by first|exact rfl|(simp;done)|(simp;omega)) (hl:o+sz<=cur.length:=by first|decide|exact of_decide_eq_true rfl|(simp;done)|(simp;omega)) :
 aH P ⟨dst,.store t x y,ty,pos,after,guard⟩ ρ h (fun u h'=>u=undef/\az h' g e (over cur o cs.toList)/\Ext (fun b=>b=g) h h'/\h'.size=h.size) X:=aH.bZ c.e hx hy hk hn hl h1
theorem Dr {xs news:List Value}{m c base:Nat}[u:iy P t (.slice e)] [w:wJ P e size bytes] (hx:aT ρ x=some v) (hy:aT ρ y=some (.slice (some ⟨h0.size,0,none⟩) m c)) (hown:ay h0 base e size v n xs)
 (hh:h=h0.push (.cells news.toArray e)) (hl:news.length=m*size) (hn:n+m<=1000000000:=by omega) (hbase:base<=h0.size:=by omega)
 (h1:∀u∈news,u.oneCell'=true:=by first|decide|simp[Value.oneCell']) (hby:bytes<=1000:=by decide) :
 aH P ⟨dst,.call ⟨.builtin .append,#[x,y],#[t,t]⟩,ty,pos,after,guard⟩ ρ h (fun v' h'=>ay h' base e size v' (n+m) (xs++news)/\Ext (b8 v.ownBlock) h0 h'/\Ext (b8 v.ownBlock) h h'/\(∀b,v'.ownBlock=some b->v.ownBlock=some b\/h0.size<=b)) X :=
 aH.dO u.e w.e hx hy hown hh hl h1 hn hby hbase
theorem mz {ps:Array (Nat×Operand)}[u:iy P t (.slice e)] [w:wJ P e size bytes] (hps:ps.toList.map (fun p=>(p.1,aT ρ p.2))=[(0,some (.agg cs.toArray))]:=by exact rfl) (hn:cs.length=size:=by exact rfl) (hsz:size<=16777216:=by decide) :
 aH P ⟨dst,.buildSlice t 1 ps,ty,pos,after,guard⟩ ρ h (fun u g=>u= .slice (some ⟨h.size,0,none⟩) 1 1/\g=h.push (.cells cs.toArray e)) X:=aH.tQ u.e w.e hps hn hsz
theorem kI {len:Nat}{ps:Array (Nat×Operand)}(us:List Value) [u:iy P t (.slice e)] [w:wJ P e 1 bytes] (hps:ps.toList.map (fun p=>(p.1,aT ρ p.2))=(us.zipIdx.map fun p=>(p.2,p.1)).map (fun p=>(p.1,some p.2)):=by exact rfl)
 (hl:us.length=len:=by exact rfl) (hlen:len<=16777216:=by decide) (h1:∀u∈us,u.oneCell'=true:=by simp[Value.oneCell']) :
 aH P ⟨dst,.buildSlice t len ps,ty,pos,after,guard⟩ ρ h (fun u g=>u= .slice (some ⟨h.size,0,none⟩) len len/\g=h.push (.cells us.toArray e)) X:=aH.pq u.e w.e hps hl hlen h1
theorem PG [u:iy P t (.slice e)] [w:wJ P e size bytes]:aH P ⟨dst,.buildSlice t 0 #[],ty,pos,after,guard⟩ ρ h (fun u g=>u= .slice (some ⟨h.size,0,none⟩) 0 0/\g=h.push (.cells #[] e)) X:=aH.C8 u.e w.e
end
theorem Oi {P:Program}{ρ:Env}{h:ai}(k:an P o ρ h v:=by
 first
 |exact tD rfl
 |exact P2
 |exact P0
 |exact an.dZ rfl rfl ⟨by omega,by omega⟩
 |exact an.pQ rfl rfl ⟨by omega,by omega⟩
 |exact an.Lb rfl rfl
 |exact an.su rfl rfl
 |exact Ds rfl rfl _
 |exact PY
 |exact P3
 |exact P1
 |exact PZ
 |exact an.min2 rfl rfl
 |exact an.max2 rfl rfl
 |exact an.bL rfl rfl (by omega)):an P o ρ h v:=k
section
variable {P:Program}{n:Nat}{ops:Array Oper}{i:Nat}{ρ ρ':Env}{h:ai}{N:Env->ai->Prop}{X:List PanicEntry->ai->Prop}
theorem aU (next:RW P n ops (i+1) ((d,v)::ρ) h N X)
 (e:(nth ops.toList i,aK ops ρ o,o.dst,Nat.blt d n)=(some o,some true,some d,true):=by exact rfl) (k:an P o ρ h v:=by exact Oi):RW P n ops i ρ h N X:=xp e k next
theorem aY (e:(nth ops.toList i,aK ops ρ o,o.dst)=(some o,some true,none)) (k:aH P o ρ h Φ X) (next:∀v h',Φ v h'->RW P n ops (i+1) ρ h' N X):RW P n ops i ρ h N X:=by
 simp only[Prod.mk.injEq] at e;exact RW.mL e.1 e.2.1 e.2.2 k next
theorem OA (next:RW P n ops (i+1) ((d,undef)::ρ) h N X)
 (e:(nth ops.toList i,aK ops ρ o,o.dst,Nat.blt d n)=(some o,some false,some d,true):=by exact rfl):RW P n ops i ρ h N X:=xk e next
theorem PU (next:RW P n ops (i+1) ρ h N X)
 (e:(nth ops.toList i,aK ops ρ o,o.dst)=(some o,some false,none):=by exact rfl):RW P n ops i ρ h N X:=by
 simp only[Prod.mk.injEq] at e;exact RW.MG e.1 e.2.1 e.2.2 next
def EC (n:Nat) (ops:Array Oper):Nat->Nat->Env->Option (Nat×Env)
 | 0,i,ρ=>some (i,ρ)
 |k+1,i,ρ=>match nth ops.toList i with
  |some o=>match o.dst with
   |some d=>match Nat.blt d n with
    |true=>match aK ops ρ o with
     |some true=>match LJ ρ o.op with
      |some v=>EC n ops k (i+1) ((d,v)::ρ)
      |none=>some (i,ρ)
     |some false=>EC n ops k (i+1) ((d,undef)::ρ)
     |none=>some (i,ρ)
    |false=>some (i,ρ)
   |none=>some (i,ρ)
  |none=>some (i,ρ)
theorem xx {j:Nat}:∀(k i:Nat) (ρ:Env),EC n ops k i ρ=some (j,ρ')->RW P n ops j ρ' h N X->RW P n ops i ρ h N X
 | 0,i,ρ,e,next=>by simp only[EC,Option.some.injEq,Prod.mk.injEq] at e;obtain⟨rfl,rfl⟩:=e;exact next
 |k+1,i,ρ,e,next=>by
  rw[EC] at e;have fin:some (i,ρ)=some (j,ρ')->RW P n ops i ρ h N X:=fun e=>by simp only[Option.some.injEq,Prod.mk.injEq] at e;obtain⟨rfl,rfl⟩:=e;exact next
  split at e
  · rename_i o ho;split at e
    · rename_i d hd;split at e
      · rename_i hb;split at e
        · rename_i hw;split at e
          · rename_i v hv;exact RW.aB ho hw hd hb (tD hv) (xx k _ _ e next)
          · exact fin e
        · rename_i hw;exact RW.mG ho hw hd hb (xx k _ _ e next)
        · exact fin e
      · exact fin e
    · exact fin e
  · exact fin e
def ML (n:Nat) (ops:Array Oper) (i:Nat) (ρ:Env):Option (Nat×Env):=match xw n ops 1 i ρ with
 |some ρ'=>EC n ops 200 (i+1) ρ'
 |none=>none
theorem PV {j:Nat}(next:RW P n ops j ρ' h N X) (e:ML n ops i ρ=some (j,ρ'):=by exact rfl):RW P n ops i ρ h N X:=by
 unfold ML at e;split at e
 · rename_i r hr;exact oH 1 hr (xx _ _ _ e next)
 · cases e
end
section
variable {P:Program}{n:Nat}{ops:Array Oper}{i:Nat}{ρ ρ':Env}{h:ai}{N:Env->Prop}
theorem bP (e:(nth ops.toList i,aK ops ρ o,o.dst,Nat.blt d n)=(some o,some true,some d,true)) (k:an P o ρ h v) (next:RQ P n ops (i+1) ((d,v)::ρ) h N):RQ P n ops i ρ h N:=by
 simp only[Prod.mk.injEq] at e;exact RQ.aB e.1 e.2.1 e.2.2.1 e.2.2.2 k next
theorem mU (next:RQ P n ops (i+1) ((d,v)::ρ) h N)
 (e:(nth ops.toList i,aK ops ρ o,o.dst,Nat.blt d n)=(some o,some true,some d,true):=by exact rfl) (k:an P o ρ h v:=by exact Oi):RQ P n ops i ρ h N:=bP e k next
theorem PW (next:RQ P n ops (i+1) ((d,undef)::ρ) h N)
 (e:(nth ops.toList i,aK ops ρ o,o.dst,Nat.blt d n)=(some o,some false,some d,true):=by exact rfl):RQ P n ops i ρ h N:=by
 simp only[Prod.mk.injEq] at e;exact RQ.mG e.1 e.2.1 e.2.2.1 e.2.2.2 next
theorem PX {dst:Option Nat}{ty:TypeId}{pos:String}{after:Array Edge}{guard:Option (Nat×Bool)}
 (k:aj P f vs.toArray h (aN fun u h'=>u=v/\h'=h)) (next:RQ P n ops (i+1) ((d,v)::ρ) h N) [c:aZ P f fn] [g:Jw P] (ho:nth ops.toList i=some ⟨dst,.call ⟨.value (.func f),xs,ts⟩,ty,pos,after,guard⟩:=by exact rfl)
 (e:(aK ops ρ ⟨dst,.call ⟨.value (.func f),xs,ts⟩,ty,pos,after,guard⟩,dst,Nat.blt d n)=(some true,some d,true):=by exact rfl) (hb:fn.body.isSome=true:=by exact rfl) (hvs:ue ρ xs.toList=some vs:=by exact rfl):RQ P n ops i ρ h N:=by
 simp only[Prod.mk.injEq] at e;exact RQ.NC ho rfl e.1 e.2.1 e.2.2 c.e hb (Jw.at c.e) (oG hvs) k next
end
def KN:Op->Bool
 |.makeFunc .. |.lookup .. |.move .. |.assign .. |.pick .. |.binOp .. |.unOp .. |.convert .. |.extract .. |.nilCheck .. |.load .. |.indexAddr .. |.index .. |.fieldAddr .. |.slice .. |.field .. |.build .. |.makeInterface .. =>true
 |.call ⟨.builtin b,_,_⟩=>match b with
  |.len|.cap|.min|.max=>true
  |_=>false
 |_=>false
def F9 (fn:Func):List It->Option (List It)
 |.blk _::k=>some k
 |.scp _::k=>some k
 |.code p::k=>match sub (aq fn) p with
  |.skip=>some k
  |.label .. =>some k
  |.seq .. =>some (.code (0::p):: .code (1::p)::k)
  |.block id _=>some (.code (0::p):: .blk id::k)
  |.scope _=>some (.code (0::p):: .scp (0::p)::k)
  |.exit id=>mQ id k
  |_=>none
 |_=>none
def F8 (fn:Func):Nat->List It->Option (List It)
 | 0,k=>some k
 |n+1,k=>match F9 fn k with
  |some k'=>F8 fn n k'
  |none=>some k
def ME (fn:Func) (k:List It):Option (List It):=match F9 fn k with
 |some k'=>F8 fn 99 k'
 |none=>none
def wr:List Oper->Nat->Bool
 | [],_=>false
 |o::r,i=>match o.dst with
  |some d=>match Nat.beq d i with
   |true=>true
   |false=>wr r i
  |none=>wr r i
def mN (l:List Oper):Env->Env->Option Env
 | [],acc=>some acc
 |(i,v)::r,acc=>match wr l i with
  |true=>mN l r acc
  |false=>match acc.at i with
   |some _=>mN l r acc
   |none=>mN l r ((i,v)::acc)
theorem mg {l:List Oper}{ρ0:Env}:∀{ρ acc ρ1:Env},mN l ρ acc=some ρ1->Sub acc ρ0->(∀j v,wr l j=false->acc.at j=none->ρ.at j=some v->ρ0.at j=some v)->Sub ρ1 ρ0
 | [],acc,ρ1,e,h,_=>by simp only[mN,Option.some.injEq] at e;subst e;exact h
 |(i,v)::r,acc,ρ1,e,h,hr=>by
  rw[mN] at e;have key:∀j u,wr l j=false->acc.at j=none->j≠i->Env.at r j=some u->ρ0.at j=some u:=fun j u h0 h1 h2 h3=>hr j u h0 h1 (by rw[Env.dY,if_neg (Ne.symm h2)];exact h3)
  split at e
  · rename_i hw;exact mg e h fun j u h0 h1 h3=>key j u h0 h1 (fun q=>by subst q;rw[hw] at h0;cases h0) h3
  · rename_i hw;split at e
    · rename_i x hx;exact mg e h fun j u h0 h1 h3=>key j u h0 h1 (fun q=>by subst q;rw[hx] at h1;cases h1) h3
    · rename_i hx;refine mg e ⟨hr i v hw hx (by rw[Env.dY,if_pos rfl]),h⟩ fun j u h0 h1 h3=>?_
      rw[Env.dY] at h1;split at h1
      · cases h1
      · rename_i q;exact key j u h0 h1 (fun q'=>q q'.symm) h3
theorem sO {l:List Oper}{ρ:Env}(e:mN l ρ []=some ρ1):Sub ρ1 ρ:=mg e trivial fun _ _ _ _ h=>h
section
variable {P:Program}{f:FuncId}{fn:Func}{k k':List It}{ρ ρ':Env}{h:ai}{R:Ending->ai->Prop}{p:List Nat}
theorem wY (e:F9 fn k=some k') (next:G P f fn k' ρ h R):G P f fn k ρ h R:=by
 unfold F9 at e;split at e
 · cases e;exact G.gr next
 · cases e;exact G.KL next
 · split at e
   · rename_i hc;cases e;exact fR (by rw[hc];rfl) next
   · rename_i hc;cases e;exact JB (by rw[hc];rfl) next
   · rename_i hc;cases e;exact G.seq (by rw[hc];rfl) next
   · rename_i hc;cases e;exact G.block (by rw[hc];rfl) (by rw[hc];rfl) next
   · rename_i hc;cases e;exact JA (by rw[hc];rfl) next
   · rename_i hc;exact Ly (by rw[hc];rfl) (by rw[hc];exact e) next
   · cases e
 · cases e
theorem Dz:∀(n:Nat) (k:List It),F8 fn n k=some k'->G P f fn k' ρ h R->G P f fn k ρ h R
 | 0,k,e,next=>by simp only[F8,Option.some.injEq] at e;subst e;exact next
 |n+1,k,e,next=>by
  rw[F8] at e;split at e
  · rename_i h1;exact wY h1 (Dz n _ e next)
  · cases e;exact next
theorem P4 (next:G P f fn k' ρ h R) (e:ME fn k=some k':=by exact rfl):G P f fn k ρ h R:=by
 unfold ME at e;split at e
 · rename_i h1;exact wY h1 (Dz _ _ e next)
 · cases e
theorem aI (next:G P f fn k' ρ h R) (e:F9 fn k=some k':=by exact rfl):G P f fn k ρ h R:=wY e next
theorem bU (next:RW P fn.ntmps (opsOf (Lw.sub (aq fn) p)) 0 ρ h (fun ρ' h'=>G P f fn k ρ' h' R) (fun ch h'=>R (.panicked ch) h')) [c:aZ P f fn] (hk:kind (Lw.sub (aq fn) p)=5:=by exact rfl):G P f fn (.code p::k) ρ h R:=G.eE c.e hk next
theorem PI (next:RQ P fn.ntmps (opsOf (Lw.sub (aq fn) p)) 0 ρ h (fun ρ'=>G P f fn k ρ' h R)) [c:aZ P f fn] [m:LQ P] (hk:kind (Lw.sub (aq fn) p)=6:=by exact rfl) (hB:Region.lexB .any (opsOf (Lw.sub (aq fn) p))=true:=by kernel_rfl):G P f fn (.code p::k) ρ h R:=G.Ht c.e m.e hk hB next
theorem P5 (next:RQ P fn.ntmps (opsOf (Lw.sub (aq fn) p)) 0 ρ h (fun ρ'=>G P f fn k ρ' h R)) [c:aZ P f fn] [m:LQ P] (hk:kind (Lw.sub (aq fn) p)=6:=by exact rfl)
 (_:(opsOf (Lw.sub (aq fn) p)).toList.all (fun o=>KN o.op)=true:=by exact rfl) (hB:Region.lexB .any (opsOf (Lw.sub (aq fn) p))=true:=by kernel_rfl):G P f fn (.code p::k) ρ h R:=G.Ht c.e m.e hk hB next
theorem bJ {X:List PanicEntry->ai->Prop}(next:G P f fn k ρ h R) (e:Nat.ble ops.size i=true:=by exact rfl):RW P n ops i ρ h (fun ρ' h'=>G P f fn k ρ' h' R) X:=eH e next
theorem PF (next:G P f fn k ρ h R) (e:Nat.ble ops.size i=true:=by exact rfl):RQ P n ops i ρ h (fun ρ'=>G P f fn k ρ' h R):=qZ e next
theorem aQ {φ:Prop}{_:Decidable φ}(ht:φ->G P f fn (.code (0::p)::k) ρ h R) (hn:¬φ->G P f fn (.code (1::p)::k) ρ h R) (hk:kind (Lw.sub (aq fn) p)=7:=by exact rfl)
 (hc:aT ρ (j8 (Lw.sub (aq fn) p))=some (.bool (decide φ)):=by exact rfl):G P f fn (.code p::k) ρ h R:=wI hk hc ht hn
theorem oL {t:Bool}(ht:t=true->G P f fn (.code (0::p)::k) ρ h R) (hn:t=false->G P f fn (.code (1::p)::k) ρ h R) (hk:kind (Lw.sub (aq fn) p)=7:=by exact rfl)
 (hc:aT ρ (j8 (Lw.sub (aq fn) p))=some (.bool t):=by exact rfl):G P f fn (.code p::k) ρ h R:=jm hk hc ht hn
theorem fH {t:Bool}(hc:aT ρ (j8 (Lw.sub (aq fn) p))=some (.bool t)) (hb:¬t=false) (next:G P f fn (.code (0::p)::k) ρ h R) (hk:kind (Lw.sub (aq fn) p)=7:=by exact rfl):G P f fn (.code p::k) ρ h R :=
 jm hk hc (fun _=>next) (fun e=>absurd e hb)
theorem bV {t:Bool}(hc:aT ρ (j8 (Lw.sub (aq fn) p))=some (.bool t)) (hb:¬t=true) (next:G P f fn (.code (1::p)::k) ρ h R) (hk:kind (Lw.sub (aq fn) p)=7:=by exact rfl):G P f fn (.code p::k) ρ h R :=
 jm hk hc (fun e=>absurd e hb) (fun _=>next)
theorem aW (hR:R (.returned (packed vs)) h) [c:aZ P f fn] (hk:kind (Lw.sub (aq fn) p)=4:=by exact rfl) (hr:eT ρ fn.results.toList=some vs:=by exact rfl):G P f fn (.code p::k) ρ h R:=G.ret c.e hk hr hR
theorem gE (hR:R (.returned (packed vs)) h) [c:aZ P f fn] (hr:eT ρ fn.results.toList=some vs:=by exact rfl):G P f fn [] ρ h R:=G.Pd c.e hr hR
theorem bf (next:G P f fn [.code []] (kE 0 vs) h R) [c:aZ P f fn] (hb:fn.body.isSome=true:=by exact rfl) (hn:Nat.ble vs.length fn.ntmps=true:=by exact rfl):aj P f vs.toArray h R:=aj.of c.e hb hn next
theorem zB (E:σ->Env) (I:σ->ai->Prop) (μ:σ->Nat) (s0:σ) (h0:I s0 h)
 (round:∀s h,I s h->(∀s' {h' ρ'},I s' h'->(hm:μ s' < μ s:=by first|(dsimp only;omega)|omega)->(hs:Sub (E s') ρ':=by exact sb rfl)->G P f fn (.loop (0::p)::k) ρ' h' R)->G P f fn (.code (0::p):: .loop (0::p)::k) (E s) h R)
 (hk:kind (Lw.sub (aq fn) p)=3:=by exact rfl) (hs:Sub (E s0) ρ:=by exact sb rfl):G P f fn (.code p::k) ρ h R :=
 nC E I μ s0 hk hs h0 (fun s h hi ih=>round s h hi (fun s' _ _ h1 h2 h3=>ih s' _ _ h3 h1 h2))
end
section
variable {P:Program}{n:Nat}{ops:Array Oper}{M:Nat->Prop}{keeps:Nat->Bool}{fuel:Nat}{listed:Array Bool}{ρ:Env}{h:ai}{N:Env->ai->Prop}{X:List PanicEntry->ai->Prop}
def MV (ops:Array Oper) (keeps:Nat->Bool) (listed:Array Bool) (i:Nat):Bool:=Region.noSelect ops && (qh ops keeps listed i && (Region.ready .any ops listed).contains i)
theorem aS (i:Nat) (e:(nth ops.toList i,aK ops ρ o,o.dst,Nat.blt d n)=(some o,some true,some d,true)) (k:∀h',Ext M h h'->an P o ρ h' v)
 (next:RD P n ops M keeps fuel (listed.setIfInBounds i true) ((d,v)::ρ) h N X) (hk:MV ops keeps listed i=true:=by kernel_rfl):RD P n ops M keeps (fuel+1) listed ρ h N X:=by
 simp only[Prod.mk.injEq] at e;simp only[MV,Bool.and_eq_true] at hk;exact RD.FY i e.1 hk.1 hk.2.1 hk.2.2 e.2.1 e.2.2.1 e.2.2.2 k rfl next
theorem ax (i:Nat) (next:RD P n ops M keeps fuel (listed.setIfInBounds i true) ((d,v)::ρ) h N X) (e:(nth ops.toList i,aK ops ρ o,o.dst,Nat.blt d n)=(some o,some true,some d,true):=by exact rfl)
 (k:∀h',Ext M h h'->an P o ρ h' v:=by intro _ _;exact Oi) (hk:MV ops keeps listed i=true:=by kernel_rfl):RD P n ops M keeps (fuel+1) listed ρ h N X:=aS i e k next hk
theorem Dt (i:Nat) (next:RD P n ops M keeps fuel (listed.setIfInBounds i true) ((d,undef)::ρ) h N X) (e:(nth ops.toList i,aK ops ρ o,o.dst,Nat.blt d n)=(some o,some false,some d,true):=by exact rfl)
 (hk:MV ops keeps listed i=true:=by kernel_rfl):RD P n ops M keeps (fuel+1) listed ρ h N X:=by
 simp only[Prod.mk.injEq] at e;simp only[MV,Bool.and_eq_true] at hk;exact RD.mG i e.1 hk.1 hk.2.1 hk.2.2 e.2.1 e.2.2.1 e.2.2.2 rfl next
theorem ct (i:Nat) (e:(nth ops.toList i,aK ops ρ o,o.dst,Nat.blt d n)=(some o,some true,some d,true)) (k:aH P o ρ h Φ X)
 (next:∀v h',Φ v h'->(keeps i=true->Ext M h h')/\RD P n ops M keeps fuel (listed.setIfInBounds i true) ((d,v)::ρ) h' N X) (hr:Region.ready .any ops listed=[i]:=by kernel_rfl):RD P n ops M keeps (fuel+1) listed ρ h N X:=by
 simp only[Prod.mk.injEq] at e;exact RD.MU i e.1 hr e.2.1 e.2.2.1 e.2.2.2 k rfl next
theorem eK (i:Nat) (e:(nth ops.toList i,aK ops ρ o,o.dst)=(some o,some true,none)) (k:aH P o ρ h Φ X)
 (next:∀v h',Φ v h'->(keeps i=true->Ext M h h')/\RD P n ops M keeps fuel (listed.setIfInBounds i true) ρ h' N X) (hr:Region.ready .any ops listed=[i]:=by kernel_rfl):RD P n ops M keeps (fuel+1) listed ρ h N X:=by
 simp only[Prod.mk.injEq] at e;exact RD.OX i e.1 hr e.2.1 e.2.2 k rfl next
theorem Ip (i:Nat) (e:(nth ops.toList i,aK ops ρ o,o.dst,Nat.blt d n)=(some o,some true,some d,true)) (k:an P o ρ h v)
 (next:RD P n ops M keeps fuel (listed.setIfInBounds i true) ((d,v)::ρ) h N X) (hr:Region.ready .any ops listed=[i]:=by kernel_rfl):RD P n ops M keeps (fuel+1) listed ρ h N X :=
 ct i e k.jF (fun u h' hq=>by obtain⟨rfl,rfl⟩:=hq;exact⟨fun _=>av _ _,next⟩) hr
theorem BO (i:Nat) (next:RD P n ops M keeps fuel (listed.setIfInBounds i true) ((d,v)::ρ) h N X) (e:(nth ops.toList i,aK ops ρ o,o.dst,Nat.blt d n)=(some o,some true,some d,true):=by exact rfl) (k:an P o ρ h v:=by exact Oi)
 (hr:Region.ready .any ops listed=[i]:=by kernel_rfl):RD P n ops M keeps (fuel+1) listed ρ h N X:=Ip i e k next hr
theorem LB (i j:Nat){oi oj:Oper}{Φ':Value->ai->Prop}{di dj:Nat}(ei:(nth ops.toList i,aK ops ρ oi,oi.dst,Nat.blt di n)=(some oi,some true,some di,true)) (ej:(nth ops.toList j,aK ops ρ oj,oj.dst,Nat.blt dj n)=(some oj,some true,some dj,true))
 (ki:aH P oi ρ h Φ X) (kj:aH P oj ρ h Φ' X)
 (nexti:∀v h',Φ v h'->(keeps i=true->Ext M h h')/\RD P n ops M keeps fuel (listed.setIfInBounds i true) ((di,v)::ρ) h' N X)
 (nextj:∀v h',Φ' v h'->(keeps j=true->Ext M h h')/\RD P n ops M keeps fuel (listed.setIfInBounds j true) ((dj,v)::ρ) h' N X) (hr:Region.ready .any ops listed=[i,j]:=by kernel_rfl):RD P n ops M keeps (fuel+1) listed ρ h N X:=by
 simp only[Prod.mk.injEq] at ei ej;exact RD.OL i j ei.1 ej.1 hr ei.2.1 ej.2.1 ei.2.2.1 ej.2.2.1 ei.2.2.2 ej.2.2.2 ki kj rfl rfl nexti nextj
theorem qz {E:σ->ai->Prop}{F:σ->Env}(s:σ) (hE:E s h) (hs:Sub (F s) ρ:=by exact sb rfl) (hr:Region.ready .any ops listed=[]:=by kernel_rfl):RD P n ops M keeps fuel listed ρ h (fun ρ' h'=>∃s,E s h'/\Sub (F s) ρ') X:=rf hr ⟨s,hE,hs⟩
theorem aL (he:h=h0) (hs:Sub ρ1 ρ:=by exact sb rfl) (e:Nat.ble ops.size i=true:=by exact rfl):RW P n ops i ρ h (fun ρ' h'=>h'=h0/\Sub ρ1 ρ') X:=eH e ⟨he,hs⟩
theorem ef {E:σ->ai->Prop}{F:σ->Env}(s:σ) (hE:E s h) (hs:Sub (F s) ρ:=by exact sb rfl) (e:Nat.ble ops.size i=true:=by exact rfl):RW P n ops i ρ h (fun ρ' h'=>∃s,E s h'/\Sub (F s) ρ') X:=eH e ⟨s,hE,hs⟩
theorem jq (he:h=h0) (hs:Sub ρ1 ρ:=by exact sb rfl) (e:Nat.ble ops.size i=true:=by exact rfl):RQ P n ops i ρ h (fun ρ'=>h=h0/\Sub ρ1 ρ'):=qZ e ⟨he,hs⟩
end
section
variable {P:Program}{f:FuncId}{fn:Func}{k:List It}{ρ ρ1:Env}{h:ai}{R:Ending->ai->Prop}{p:List Nat}
theorem dP {fuel:Nat}{M:Nat->Prop}{keeps:Nat->Bool}{listed:Array Bool}{X:List PanicEntry->ai->Prop}(next:G P f fn k ρ h R) (hr:Region.ready .any ops listed=[]:=by kernel_rfl) :
 RD P n ops M keeps fuel listed ρ h (fun ρ' h'=>G P f fn k ρ' h' R) X:=rf hr next
theorem uq (sz:Nat) (M:Nat->Prop) (keeps:Nat->Bool) (next:RD P fn.ntmps (opsOf (Lw.sub (aq fn) p)) M keeps sz (Array.replicate sz false) ρ h (fun ρ' h'=>G P f fn k ρ' h' R) (fun ch h'=>R (.panicked ch) h')) [c:aZ P f fn] [m:LQ P]
 (hk:kind (Lw.sub (aq fn) p)=6:=by exact rfl) (hsz:(opsOf (Lw.sub (aq fn) p)).size=sz:=by exact rfl):G P f fn (.code p::k) ρ h R:=uo M keeps c.e m.e hk hsz rfl next
theorem ic (sz bar:Nat) (next:RD P fn.ntmps (opsOf (Lw.sub (aq fn) p)) (fun b=>h.size<=b) (fun i=>Nat.blt i bar) sz (Array.replicate sz false) ρ h (fun ρ' h'=>G P f fn k ρ' h' R) (fun ch h'=>R (.panicked ch) h')) [c:aZ P f fn] [m:LQ P]
 (hk:kind (Lw.sub (aq fn) p)=6:=by exact rfl) (hsz:(opsOf (Lw.sub (aq fn) p)).size=sz:=by exact rfl):G P f fn (.code p::k) ρ h R:=uo _ _ c.e m.e hk hsz rfl next
theorem dM (new:Env) (e:mN (opsOf (Lw.sub (aq fn) p)).toList ρ []=some ρ1) (eE:RW P fn.ntmps (opsOf (Lw.sub (aq fn) p)) 0 ρ h (fun ρ' h'=>h'=h/\Sub (new++ρ1) ρ') (fun _ _=>False))
 (next:G P f fn k (new++ρ1) h R) [c:aZ P f fn] (hk:kind (Lw.sub (aq fn) p)=5:=by exact rfl):G P f fn (.code p::k) ρ h R:=G.Gn new ρ1 (sO e) c.e hk eE next
theorem BS (E:σ->ai->Prop) (new:σ->Env) (e:mN (opsOf (Lw.sub (aq fn) p)).toList ρ []=some ρ1) (eE:RW P fn.ntmps (opsOf (Lw.sub (aq fn) p)) 0 ρ h (fun ρ' h'=>∃s,E s h'/\Sub (new s++ρ1) ρ') (fun ch h'=>R (.panicked ch) h'))
 (next:∀s h',E s h'->G P f fn k (new s++ρ1) h' R) [c:aZ P f fn] (hk:kind (Lw.sub (aq fn) p)=5:=by exact rfl):G P f fn (.code p::k) ρ h R:=G.Ce E new ρ1 (sO e) c.e hk eE next
theorem Ej (sz:Nat) (M:Nat->Prop) (keeps:Nat->Bool) (E:σ->ai->Prop) (new:σ->Env) (e:mN (opsOf (Lw.sub (aq fn) p)).toList ρ []=some ρ1) (eE:RD P fn.ntmps (opsOf (Lw.sub (aq fn) p)) M keeps sz (Array.replicate sz false) ρ h (fun ρ' h'=>∃s,E s h'/\Sub (new s++ρ1) ρ') (fun ch h'=>R (.panicked ch) h'))
 (next:∀s h',E s h'->G P f fn k (new s++ρ1) h' R) [c:aZ P f fn] [m:LQ P] (hk:kind (Lw.sub (aq fn) p)=6:=by exact rfl) (hsz:(opsOf (Lw.sub (aq fn) p)).size=sz:=by exact rfl):G P f fn (.code p::k) ρ h R:=G.D3 E new ρ1 (sO e) M keeps c.e m.e hk hsz rfl eE next
end
def Ih:Code->Nat->Bool
 |.region _ ops _,i=>wr ops.toList i
 |.seq a b,i=>Ih a i ||Ih b i
 |.cond _ a b,i=>Ih a i ||Ih b i
 |.block _ b,i=>Ih b i
 |.loop b,i=>Ih b i
 |.scope b,i=>Ih b i
 |.rangeFunc ..,_=>true
 |_,_=>false
def sN (c:Code):Env->Env->Option Env
 | [],acc=>some acc
 |(i,v)::r,acc=>match Ih c i with
  |true=>sN c r acc
  |false=>match acc.at i with
   |some _=>sN c r acc
   |none=>sN c r ((i,v)::acc)
theorem me {c:Code}{ρ0:Env}:∀{ρ acc ρ1:Env},sN c ρ acc=some ρ1->Sub acc ρ0->(∀j v,Ih c j=false->acc.at j=none->ρ.at j=some v->ρ0.at j=some v)->Sub ρ1 ρ0
 | [],acc,ρ1,e,h,_=>by simp only[sN,Option.some.injEq] at e;subst e;exact h
 |(i,v)::r,acc,ρ1,e,h,hr=>by
  rw[sN] at e;have key:∀j u,Ih c j=false->acc.at j=none->j≠i->Env.at r j=some u->ρ0.at j=some u:=fun j u h0 h1 h2 h3=>hr j u h0 h1 (by rw[Env.dY,if_neg (Ne.symm h2)];exact h3)
  split at e
  · rename_i hw;exact me e h fun j u h0 h1 h3=>key j u h0 h1 (fun q=>by subst q;rw[hw] at h0;cases h0) h3
  · rename_i hw;split at e
    · rename_i x hx;exact me e h fun j u h0 h1 h3=>key j u h0 h1 (fun q=>by subst q;rw[hx] at h1;cases h1) h3
    · rename_i hx;refine me e ⟨hr i v hw hx (by rw[Env.dY,if_pos rfl]),h⟩ fun j u h0 h1 h3=>?_
      rw[Env.dY] at h1;split at h1
      · cases h1
      · rename_i q;exact key j u h0 h1 (fun q'=>q q'.symm) h3
theorem Eb:∀{a b ρ:Env},Sub a ρ->Sub b ρ->Sub (a++b) ρ
 | [],_,_,_,h=>h
 |(_,_)::_,_,_,⟨h1,h2⟩,h=>⟨h1,Eb h2 h⟩
section
variable {P:Program}{f:FuncId}{fn:Func}{k:List It}{ρ ρ1:Env}{h:ai}{R:Ending->ai->Prop}{p:List Nat}
theorem eR (new:σ->Env) (I:σ->ai->Prop) (μ:σ->Nat) (s0:σ) (h0:I s0 h) (e:sN (Lw.sub (aq fn) p) ρ []=some ρ1)
 (round:∀s h,I s h->(∀s' {h' ρ'},I s' h'->(hm:μ s' < μ s:=by first|(dsimp only;omega)|omega)->(hs:Sub (new s'++ρ1) ρ':=by exact sb rfl)->G P f fn (.loop (0::p)::k) ρ' h' R)->G P f fn (.code (0::p):: .loop (0::p)::k) (new s++ρ1) h R)
 (hk:kind (Lw.sub (aq fn) p)=3:=by exact rfl) (hs:Sub (new s0) ρ:=by exact sb rfl):G P f fn (.code p::k) ρ h R :=
 nC (fun s=>new s++ρ1) I μ s0 hk (Eb hs (me e trivial fun _ _ _ _ h=>h)) h0 (fun s h hi ih=>round s h hi (fun s' _ _ h1 h2 h3=>ih s' _ _ h3 h1 h2))
theorem fF:dS P ρ h [] []:=.nil
theorem kZ {t:Tmp}(k:dS P ρ h rs vs) (hx:ρ.at t=some v:=by exact rfl):dS P ρ h (.tmp t::rs) (v::vs):=.cons (cX.tmp hx) k
theorem OB {a:Tmp}{q:Addr}(hx:ρ.at a=some (.pointer (some q))) (hc:cellAt h q=some v) (k:dS P ρ h rs vs) [c:gD P t false]:dS P ρ h (.cell a t::rs) (v::vs):=.cons (cX.cell c.e hx hc) k
theorem fT {a:Tmp}{o:Nat}(hx:ρ.at a=some (.pointer (some ⟨b,o,none⟩))) (hc:rowAt h b o cs) (k:dS P ρ h rs vs) [c:gD P t true] [d:ia P t sz] (hn:cs.length=sz:=by first|exact rfl|(simp;done)|(simp;omega)) :
 dS P ρ h (.cell a t::rs) (.agg cs.toArray::vs):=.cons (cX.KM c.e d.e hx hc hn) k
theorem fG (hr:dS P ρ h fn.results.toList vs) (hR:R (.returned (packed vs)) h) [c:aZ P f fn] (hk:kind (Lw.sub (aq fn) p)=4:=by exact rfl):G P f fn (.code p::k) ρ h R:=G.OU c.e hk hr hR
end
section
variable {P:Program}{n:Nat}{ops:Array Oper}{i:Nat}{ρ:Env}{h:ai}{M:Nat->Prop}{keeps:Nat->Bool}{fuel:Nat}{listed:Array Bool}{X:List PanicEntry->ai->Prop}{N:Env->ai->Prop}
theorem dx (d:Nat){b:Bool}(ht:b=true->RW P n ops i ((d,.bool true)::ρ) h N X) (hn:b=false->RW P n ops i ((d,.bool false)::ρ) h N X) (hb:ρ.at d=some (.bool b):=by exact rfl):RW P n ops i ρ h N X:=BK hb ht hn
theorem Ic {N:Env->Prop}(d:Nat){b:Bool}(ht:b=true->RQ P n ops i ((d,.bool true)::ρ) h N) (hn:b=false->RQ P n ops i ((d,.bool false)::ρ) h N) (hb:ρ.at d=some (.bool b):=by exact rfl):RQ P n ops i ρ h N:=BL hb ht hn
end
structure PD (p:Prop):Prop where
 on:p
theorem aa {g g':Prop}(next:g') (k:PD g'->g:=by
 intro n
 repeat first
  |refine PV ?_
  |refine aU ?_
  |refine bJ ?_
  |refine P4 ?_
  |refine bU ?_
  |refine mU ?_
  |refine PW ?_
  |refine PF ?_
  |refine P5 ?_
  |refine PU ?_
 exact n.on):g:=k ⟨next⟩
end
end Go.Lw

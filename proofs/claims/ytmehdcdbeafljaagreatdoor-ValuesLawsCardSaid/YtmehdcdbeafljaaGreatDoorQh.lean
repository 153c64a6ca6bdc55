/- What the proof of the statement leans on (part 8). -/
import Derived.Lib.Builder
import Derived.Lib.AppendStr
import Derived.Lib.UnsafeStr
import Derived.Laws.Externs
import Derived.Laws.StructEq
import Derived.Test.YtmehdcdbeafljaaGreatDoorQg

namespace Go.Lw
open Go.RowKit
section
variable {h:aA}{b:Nat}{t e:TypeId}{cs:List Value}{j:TypeInfo}{x:Operand}{v:Value}{l:List UInt8}
section
variable {P:Program}{ρ:Env}{h:aA}{dst:Option Nat}{ty:TypeId}{pos:String}{after:Array Edge}{guard:Option (Nat×Bool)}{X:List PanicEntry->aA->Prop}
theorem zC {B:World}{w:World}(ha:At B h w) (k:bh h b t cs):w.shape? b=some (t,cs.length):=by
 unfold bh at k;simp[World.shape?,ha.heap,k]
theorem aj.Bp {yt:TypeId}{y:Operand}{a:Addr}(hu:P.underlying t=some (.pointer e)) (hj:P.info? e=some j) (hx:bW ρ x=some (.pointer (some a))) (hy:bW ρ y=some (.pointer (some a))) :
 aj P ⟨dst,.binOp .neq t x y yt,ty,pos,after,guard⟩ ρ h (.bool false):=by
 intro _ B w' w hf _;have:=Lib.run_neq_ptr_same (P:=P) w a hu hj;simp[execOp,eqGuard,hf.eval hx,hf.eval hy,this]
theorem aj.Ep {s d:TypeId}{o:Nat}(hs:P.underlying s=some (.pointer t)) (hd:P.underlying d=some .unsafePointer) (ht:P.info? t=some j) (hj:j.size≠0)
 (hk:bh h b e cs) (ho:o<cs.length) (hx:bW ρ x=some (.pointer (some ⟨b,o,none⟩))):aj P ⟨dst,.convert s d x,ty,pos,after,guard⟩ ρ h (.pointer (some ⟨b,o,none⟩)):=by
 intro _ B a w hf ha;have:=Lib.run_to_unsafe (P:=P) w ⟨b,o,none⟩ hs hd ht hj (zC ha hk) ho;simp only[execOp,hf.eval hx,Sem.run_bind,this,Result.andThen_ok,Sem.run_pure]
theorem aj.BG {s d u:TypeId}{o:Nat}(hs:P.underlying s=some .unsafePointer) (hd:P.underlying d=some (.pointer u)) (hu:P.info? u=some j)
 (hk:bh h b e cs) (hl:liesAt P P.depth e (cs.length / P.cellsOf e) o u 1=true) (hx:bW ρ x=some (.pointer (some ⟨b,o,none⟩))):aj P ⟨dst,.convert s d x,ty,pos,after,guard⟩ ρ h (.pointer (some ⟨b,o,none⟩)):=by
 intro _ B a w hf ha;have:=Lib.run_from_unsafe (P:=P) w ⟨b,o,none⟩ hs hd hu (zC ha hk) hl;simp only[execOp,hf.eval hx,Sem.run_bind,this,Result.andThen_ok,Sem.run_pure]
theorem aj.E9 {f:FuncId}{fn:Func}{ts:Array TypeId}(hf:P.funcs[f]? =some fn) (hname:(fn.name == "runtime.NumGoroutine")=false)
 (hb:fn.body.isNone=true) (hn:Extern.findNext fn=none) (he:Extern.find fn=some Extern.AbiNoEscape.same) (hx:bW ρ x=some v) :
 aj P ⟨dst,.call ⟨.value (.func f),#[x],ts⟩,ty,pos,after,guard⟩ ρ h v:=by
 intro _ B a w hfit _;have hc:=run_callFunc_extern (P:=P) hf hname hb hn he #[v] w;rw[Lib.run_noEscape] at hc;simp only[execOp,resolve,Act.eval,Deferred.ofValue,invoke];simp[hfit.eval hx,hc]
theorem az.DZ {u:TypeId}{i:TypeInfo}{y:Operand}{s:ByteArray}{base:Nat}(ht:P.underlying t=some (.slice e)) (hu:P.underlying u=some .string) (hi:P.info? e=some i) (hz:i.zero=some (.int .u8 0))
 (hsize:i.size=1) (hby:i.bytes=1) (hx:bW ρ x=some v) (hy:bW ρ y=some (.string s)) (hown:Ea h base e v l) (hl:l.length+s.size<=140737488355328) (hbase:base<=h.size) :
 az P ⟨dst,.call ⟨.builtin .append,#[x,y],#[t,u]⟩,ty,pos,after,guard⟩ ρ h (fun v' h'=>Ea h' base e v' (l++s.data.toList)/\Ext (cV v.ownBlock) h h') X:=by
 intro nn B a w hf ha next Q hn _
 have hw:w.ownsRow base e 1 v l.length (l.map uk):=ha.own.2 hown;obtain⟨v',w',hr,hown',hg,_⟩:=Lib.run_append_own_string (P:=P) w base t u ty e i ht hu hi hz hsize hby v l.length (l.map uk) hw s (by simp only[maxLen];omega) hl (by rw[ha.heap];exact hbase)
 have hrun:(execOp a.eval ⟨dst,.call ⟨.builtin .append,#[x,y],#[t,u]⟩,ty,pos,after,guard⟩).run P w= .ok (.value v') w':=by
  simp[execOp,resolve,invoke,builtin,hf.eval hx,hf.eval hy,hr]
 unfold Oper.wp;rw[hrun];have hat:=ha.grown hg;refine hn v' w'.heap w' hat ⟨?_,by rw[<-ha.heap];exact kX hg⟩;have h2:=hat.own.1 hown'
 show aT _ _ _ _ _ _ _
 have e1:(l++s.data.toList).length=l.length+s.size:=by simp
 have e2:(l++s.data.toList).map uk=l.map uk++Lib.strCells s:=by simp[Lib.strCells,uk]
 rw[e1,e2];exact h2
def Seen (h:aA) (base:Nat) (e:TypeId) (q:Option Addr) (l:List UInt8):Prop :=
 l≠[]->∃g cur,q=some ⟨g,0,none⟩/\base<=g/\h[g]? =some (.cells cur e (0,0))/\l.length<=cur.size/\∀j x,l[j]? =some x->cellAt h ⟨g,j,none⟩=some (uk x)
theorem az.C7 {base:Nat}(hp:P.underlying ty=some (.pointer e)) (hx:bW ρ x=some v) (hown:Ea h base e v l) :
 az P ⟨dst,.call ⟨.builtin .unsafeSliceData,#[x],#[t]⟩,ty,pos,after,guard⟩ ρ h (fun u h'=>(∃q,u= .pointer q/\Seen h' base e q l)/\aC h h') X:=by
 intro nn B a w hf ha next Q hn _
 have go:∀q w',(Builtin.unsafeSliceData_ #[t] ty #[v]).run P w= .ok (.pointer q) w'->At B w'.heap w'->Seen w'.heap base e q l->aC h w'.heap ->
  Oper.wp P ⟨dst,.call ⟨.builtin .unsafeSliceData,#[x],#[t]⟩,ty,pos,after,guard⟩ a w next Q:=by
  intro q w' hr hat hs he
  have hrun:(execOp a.eval ⟨dst,.call ⟨.builtin .unsafeSliceData,#[x],#[t]⟩,ty,pos,after,guard⟩).run P w= .ok (.value (.pointer q)) w':=by
   simp[execOp,resolve,invoke,builtin,hf.eval hx,hr]
  unfold Oper.wp;rw[hrun];exact hn _ _ _ hat ⟨⟨q,rfl,hs⟩,he⟩
 rcases hown.2 with ⟨rfl,h0⟩|⟨g,cap,cur,rfl,hb,hg,hnc,hc,hs,ht⟩
 · have hl:l=[]:=List.eq_nil_of_length_eq_zero h0;subst hl;exact go none w (Lib.run_unsafeSliceData_nil w _ _ _ _) (ha.heap▸ha) (fun k=>absurd rfl k) (by rw[ha.heap];exact Ext.refl _ _)
 · by_cases hc0:cap=0
   · subst hc0;have hl:l=[]:=List.eq_nil_of_length_eq_zero (by omega);subst hl;have hsh:w.shape? g=some (e,cur.size):=by simp[World.shape?,ha.heap,hg]
     refine go _ _ (Lib.run_unsafeSliceData_zero w #[t] ty e hp ⟨g,0,none⟩ 0 _ hsh) ?_ (fun k=>absurd rfl k) ?_
     · exact⟨rfl,ha.os,ha.tape,ha.output⟩
     · show aC h (w.heap.push _)
       rw[ha.heap];exact Ext.push _ _ _
   · refine go _ w (Lib.run_unsafeSliceData_row w _ _ _ _ _ hc0) (ha.heap▸ha) ?_ (by rw[ha.heap];exact Ext.refl _ _);rw[ha.heap];refine fun _=>⟨g,cur,rfl,hb,hg,by omega,fun j y hy=>?_⟩
     have hj:j<l.length:=(List.getElem?_eq_some_iff.1 hy).1;have h2:(l.map uk)[j]? =some (uk y):=by simp[hy]
     rw[<-ht,List.getElem?_take,if_pos (by omega)] at h2;simpa [cellAt,hg] using h2
theorem qI {pt it e:TypeId}{x y:Operand}{q:Option Addr}{l:List UInt8}{base:Nat}(hp:P.underlying pt=some (.pointer e)) (hc:P.cellsOf e=1) (hx:bW ρ x=some (.pointer q)) (hy:bW ρ y=some (.int .i64 l.length))
 (hs:Seen h base e q l) (hl:l.length<=140737488355328) :
 az P ⟨dst,.call ⟨.builtin .unsafeString,#[x,y],#[pt,it]⟩,ty,pos,after,guard⟩ ρ h (fun u h'=>u= .string ⟨l.toArray⟩/\Ext (fun i=>base<=i) h h') X:=by
 intro nn B a w hf ha next Q hn _
 have go:∀w',(Builtin.unsafeString_ #[pt,it] ty #[.pointer q,.int .i64 l.length]).run P w= .ok (.string ⟨l.toArray⟩) w'->At B w'.heap w'->Ext (fun i=>base<=i) h w'.heap ->
  Oper.wp P ⟨dst,.call ⟨.builtin .unsafeString,#[x,y],#[pt,it]⟩,ty,pos,after,guard⟩ a w next Q:=by
  intro w' hr hat he
  have hrun:(execOp a.eval ⟨dst,.call ⟨.builtin .unsafeString,#[x,y],#[pt,it]⟩,ty,pos,after,guard⟩).run P w= .ok (.value (.string ⟨l.toArray⟩)) w':=by
   simp[execOp,resolve,invoke,builtin,hf.eval hx,hf.eval hy,hr]
  unfold Oper.wp;rw[hrun];exact hn _ _ _ hat ⟨rfl,he⟩
 by_cases h0:l=[]
 · subst h0;exact go w (Lib.run_unsafeString_none w pt it ty q) (ha.heap▸ha) (by rw[ha.heap];exact Ext.refl _ _)
 · obtain⟨g,cur,rfl,hb,hg,hle,hcell⟩:=hs h0;have hsh:w.shape? g=some (e,cur.size):=by simp[World.shape?,ha.heap,hg]
   refine go _ (Lib.run_unsafeString_row w pt it ty e hp hc g cur.size hsh l h0 hle (by omega) (fun j z hz=>?_)) ?_ ?_
   · rw[ha.cell];have:=hcell j z hz;simpa [Addr.add_mid,uk] using this
   · refine⟨rfl,?_,?_,?_⟩<;>(unfold World.freeze;split)
     · exact ha.os
     · exact ha.os
     · exact ha.tape
     · exact ha.tape
     · exact ha.output
     · exact ha.output
   · unfold World.freeze;split
     · rw[ha.heap];exact Ext.refl _ _
     · refine⟨by simp[ha.heap],fun i hi hm=>?_⟩;simp only;rw[Array.getElem?_modify,if_neg (by omega),ha.heap]
end
def qc (h:aA) (b:Nat) (T e:TypeId) (l:List UInt8):Prop :=
 ∃p v,bh h b T [p,v]/\(p= .pointer none\/p= .pointer (some ⟨b,0,none⟩))/\Ea h (b+1) e v l
theorem lY (o:Ea h (b+1) e v l):∀g,cV v.ownBlock g->b<g:=by
 intro g hg
 rcases o.2 with ⟨rfl,_⟩|⟨g',cap,cur,rfl,hb,_⟩
 · cases hg
 · have:g=g':=by simpa [cV,Value.ownBlock] using hg
   omega
theorem B5 {T:TypeId}(k:bh h b T [.pointer none,.slice none 0 0]):qc h b T e []:=⟨_,_,k,.inl rfl,cR.nil _ _ _ _⟩
end
end Go.Lw
namespace Go.Lw
section
variable {P:Program}{ρ:Env}{h:aA}{dst:Option Nat}{ty:TypeId}{pos:String}{after:Array Edge}{guard:Option (Nat×Bool)}
def mw:Value->Bool
 |.nilIface=>true
 |_=>false
theorem aj.o8 {t yt:TypeId}{ms:Array (String×TypeId)}{x:Operand}{v:Value}(hu:P.underlying t=some (.interface ms)) (hx:bW ρ x=some v) (hv:v= .nilIface\/∃tx vx,v= .iface tx vx) :
 aj P ⟨dst,.binOp .neq t x (.const .nilIface) yt,ty,pos,after,guard⟩ ρ h (.bool (!mw v)):=by
 intro _ B a w hf _;have h1:∀d:Nat,(Op.equalIn (d+1) t .nilIface .nilIface).run P w= .ok true w:=fun d=>by simp[Op.equalIn,run_underlying hu]
 have h2:∀(d:Nat) tx vx,(Op.equalIn (d+1) t (.iface tx vx) .nilIface).run P w= .ok false w:=fun d tx vx=>by simp[Op.equalIn,run_underlying hu]
 have h3:a.eval (.const .nilIface)= .nilIface:=rfl
 rcases hv with rfl|⟨tx,vx,rfl⟩
 · simp[execOp,eqGuard,binOp,hf.eval hx,h3,Op.equal,Op.maxDepth,h1 9999,mw]
 · simp[execOp,eqGuard,binOp,hf.eval hx,h3,Op.equal,Op.maxDepth,h2 9999,mw]
end
def yU (P:Program) (h:aA) (name:String):Option (Array Value) :=
 (P.globalNamed name).bind fun g=>match h[g]? with|some (.cells cs _ _)=>some cs|_=>none
theorem yT (P:Program) (w:World) (name:String):w.var? P name=yU P w.heap name:=rfl
theorem A4 {P:Program}{h h':aA}{name:String}{cs:Array Value}(e:aC h h') (k:yU P h name=some cs):yU P h' name=some cs:=by
 unfold yU at k ⊢;cases hg:P.globalNamed name with
 |none=>simp[hg] at k
 |some g =>
  simp only[hg,Option.bind_some] at k ⊢
  have hlt:g<h.size:=by
   rcases Nat.lt_or_ge g h.size with h1|h1
   · exact h1
   · rw[Array.getElem?_eq_none h1] at k;cases k
  rw[e.block g hlt (fun k=>k)];exact k
end Go.Lw
namespace Go.Lw
section
variable {P:Program}{ρ:Env}{h:aA}{dst:Option Nat}{ty:TypeId}{pos:String}{after:Array Edge}{guard:Option (Nat×Bool)}
end
end Go.Lw
namespace Go.Lw
section
variable {o:Oper}{v:Value}{d:Nat}{Φ:Value->aA->Prop}
def L8 (ρ:Env):Op->Option Value
 |.move x=>bW ρ x
 |.assign x=>bW ρ x
 |.extract x i=>match bW ρ x with|some (.tuple vs)=>vs[i]? |_=>none
 |.nilCheck x=>match bW ρ x with|some (.pointer (some a))=>some (.pointer (some a))|_=>none
 |.pick c x y=>match bW ρ c with|some (.bool true)=>bW ρ x|some (.bool false)=>bW ρ y|_=>none
 |.unOp .not _ x=>match bW ρ x with|some (.bool b)=>some (.bool (!b))|_=>none
 |.binOp op _ x y _=>match bW ρ x,bW ρ y with
  |some (.int k i),some (.int k' j)=>if k=k' then (match op with
   |.eql=>some (.bool (decide (i=j)))
   |.neq=>some (.bool (decide (¬i=j)))
   |.lss=>some (.bool (decide (i<j)))
   |.leq=>some (.bool (decide (i<=j)))
   |.gtr=>some (.bool (decide (j<i)))
   |.geq=>some (.bool (decide (j<=i)))
   |_=>none) else none
  |_,_=>none
 |_=>none
theorem FP {P:Program}{ρ:Env}{h:aA}(hv:L8 ρ o.op=some v):aj P o ρ h v:=by
 obtain⟨dst,op,ty,pos,after,guard⟩:=o;simp only at hv;unfold L8 at hv;split at hv
 · exact aP hv
 · exact aj.assign hv
 · split at hv
   · rename_i hx;exact aj.extract hx hv
   · cases hv
 · split at hv
   · rename_i hx;cases hv;exact aO hx
   · cases hv
 · split at hv
   · rename_i hc;exact aj.lX hc hv
   · rename_i hc;exact aj.nF hc hv
   · cases hv
 · split at hv
   · rename_i hx;cases hv;exact aj.E8 hx
   · cases hv
 · split at hv
   · rename_i hx hy;split at hv
     · rename_i hk;subst hk;split at hv
       · cases hv;exact aj.Jv hx hy
       · cases hv;exact aj.Bq hx hy
       · cases hv;exact CP hx hy
       · cases hv;exact HN hx hy
       · cases hv;exact CQ hx hy
       · cases hv;exact lC hx hy
       · cases hv
     · cases hv
   · cases hv
 · cases hv
def keep:List Nat->Env->Option Env
 | [],_=>some []
 |i::r,ρ=>match ρ.at i with
  |some v=>match keep r ρ with
   |some e=>some ((i,v)::e)
   |none=>none
  |none=>none
theorem pG:∀(ns:List Nat){ρ ρ':Env},keep ns ρ=some ρ'->Sub ρ' ρ
 | [],ρ,ρ',h=>by cases h;trivial
 |i::r,ρ,ρ',h=>by
  rw[keep] at h;split at h
  · rename_i v hv;split at h
    · rename_i e he;cases h;exact⟨hv,pG r he⟩
    · cases h
  · cases h
section
variable {P:Program}{n:Nat}{ops:Array Oper}{i:Nat}{ρ ρ':Env}{h:aA}{N:Env->aA->Prop}{X:List PanicEntry->aA->Prop}
theorem xp (e:(nth ops.toList i,b7 ops ρ o,o.dst,Nat.blt d n)=(some o,some true,some d,true)) (k:aj P o ρ h v) (next:RW P n ops (i+1) ((d,v)::ρ) h N X):RW P n ops i ρ h N X:=by
 simp only[Prod.mk.injEq] at e;exact RW.ay e.1 e.2.1 e.2.2.1 e.2.2.2 k next
theorem xo (e:(nth ops.toList i,b7 ops ρ o,o.dst,Nat.blt d n)=(some o,some true,some d,true)) (k:az P o ρ h Φ X) (next:∀v h',Φ v h'->RW P n ops (i+1) ((d,v)::ρ) h' N X):RW P n ops i ρ h N X:=by
 simp only[Prod.mk.injEq] at e;exact RW.Di e.1 e.2.1 e.2.2.1 e.2.2.2 k next
theorem xk (e:(nth ops.toList i,b7 ops ρ o,o.dst,Nat.blt d n)=(some o,some false,some d,true)) (next:RW P n ops (i+1) ((d,undef)::ρ) h N X):RW P n ops i ρ h N X:=by
 simp only[Prod.mk.injEq] at e;exact RW.aU e.1 e.2.1 e.2.2.1 e.2.2.2 next
end
section
variable {P:Program}{n:Nat}{ops:Array Oper}{i:Nat}{f:FuncId}{fn:Func}{k:List It}{ρ ρ':Env}{h:aA}{R:Ending->aA->Prop}{X:List PanicEntry->aA->Prop}{p:List Nat}
theorem xu (ns:List Nat) (e:keep ns ρ=some ρ') (next:G P f fn k ρ' h R):G P f fn k ρ h R:=G.sub (pG ns e) next
theorem xd (ns:List Nat) (e:(Nat.ble ops.size i,keep ns ρ)=(true,some ρ')) (next:G P f fn k ρ' h R):RW P n ops i ρ h (fun ρ' h'=>G P f fn k ρ' h' R) X:=by
 simp only[Prod.mk.injEq] at e;exact aD e.1 (G.sub (pG ns e.2) next)
theorem xr (hfn:P.funcs[f]? =some fn) (e:(kind (Lw.sub (aK fn) p),kind (Lw.sub (aK fn) (0::p)))=(1,5))
 (next:RW P fn.ntmps (opsOf (Lw.sub (aK fn) (0::p))) 0 ρ h (fun ρ' h'=>G P f fn (.code (1::p)::k) ρ' h' R) (fun ch h'=>R (.panicked ch) h')):G P f fn (.code p::k) ρ h R:=by
 simp only[Prod.mk.injEq] at e;exact av e.1 (G.cz hfn e.2 next)
end
def zF (n:Nat) (ops:Array Oper):Nat->Nat->Env->Option Env
 | 0,_,ρ=>some ρ
 |k+1,i,ρ=>match nth ops.toList i with
  |some o=>match o.dst with
   |some d=>match Nat.blt d n with
    |true=>match b7 ops ρ o with
     |some true=>match L8 ρ o.op with
      |some v=>zF n ops k (i+1) ((d,v)::ρ)
      |none=>none
     |some false=>zF n ops k (i+1) ((d,undef)::ρ)
     |none=>none
    |false=>none
   |none=>none
  |none=>none
section
variable {P:Program}{n:Nat}{ops:Array Oper}{ρ':Env}{h:aA}{N:Env->aA->Prop}{X:List PanicEntry->aA->Prop}
theorem aV:∀(k:Nat){i:Nat}{ρ:Env}(_:zF n ops k i ρ=some ρ') (_:RW P n ops (i+k) ρ' h N X),RW P n ops i ρ h N X
 | 0,i,ρ,e,next=>by cases e;exact next
 |k+1,i,ρ,e,next=>by
  rw[zF] at e;split at e
  · rename_i o ho;split at e
    · rename_i d hd;split at e
      · rename_i hb;split at e
        · rename_i hw;split at e
          · rename_i v hv;exact RW.ay ho hw hd hb (FP hv) (aV k e (by rw[Nat.add_assoc,Nat.add_comm 1 k];exact next))
          · cases e
        · rename_i hw;exact RW.aU ho hw hd hb (aV k e (by rw[Nat.add_assoc,Nat.add_comm 1 k];exact next))
        · cases e
      · cases e
    · cases e
  · cases e
theorem cI (k:Nat){i:Nat}{ρ:Env}(e1:zF n ops k i ρ=some ρ') (e:(nth ops.toList (i+k),b7 ops ρ' o,o.dst,Nat.blt d n)=(some o,some true,some d,true)) (q:aj P o ρ' h v)
 (next:RW P n ops (i+k+1) ((d,v)::ρ') h N X):RW P n ops i ρ h N X:=aV k e1 (xp e q next)
end
def xN (ops:Array Oper) (i:Nat) (ns:List Nat):Option Env->Option Env
 |some ρ=>match Nat.ble ops.size i with
  |true=>keep ns ρ
  |false=>none
 |none=>none
section
variable {P:Program}{n:Nat}{ops:Array Oper}{i:Nat}{f:FuncId}{fn:Func}{k:List It}{ρ ρ':Env}{h:aA}{R:Ending->aA->Prop}{X:List PanicEntry->aA->Prop}{p:List Nat}
theorem aN (m:Nat) (ns:List Nat) (e:xN ops (i+m) ns (zF n ops m i ρ)=some ρ') (next:G P f fn k ρ' h R):RW P n ops i ρ h (fun ρ' h'=>G P f fn k ρ' h' R) X:=by
 unfold xN at e;split at e
 · rename_i r hr;split at e
   · rename_i hb;exact aV m hr (aD hb (G.sub (pG ns e) next))
   · cases e
 · cases e
theorem bl (hfn:P.funcs[f]? =some fn) (m:Nat) (e:(kind (Lw.sub (aK fn) p),kind (Lw.sub (aK fn) (0::p)),zF fn.ntmps (opsOf (Lw.sub (aK fn) (0::p))) m 0 ρ)=(1,5,some ρ'))
 (next:RW P fn.ntmps (opsOf (Lw.sub (aK fn) (0::p))) (0+m) ρ' h (fun ρ' h'=>G P f fn (.code (1::p)::k) ρ' h' R) (fun ch h'=>R (.panicked ch) h')):G P f fn (.code p::k) ρ h R:=by
 simp only[Prod.mk.injEq] at e;exact av e.1 (G.cz hfn e.2.1 (aV m e.2.2 next))
theorem bf (hfn:P.funcs[f]? =some fn) (m:Nat) (ns:List Nat) (e:(kind (Lw.sub (aK fn) p),kind (Lw.sub (aK fn) (0::p)),xN (opsOf (Lw.sub (aK fn) (0::p))) (0+m) ns (zF fn.ntmps (opsOf (Lw.sub (aK fn) (0::p))) m 0 ρ))=(1,5,some ρ'))
 (next:G P f fn (.code (1::p)::k) ρ' h R):G P f fn (.code p::k) ρ h R:=by
 simp only[Prod.mk.injEq] at e;exact av e.1 (G.cz hfn e.2.1 (aN m ns e.2.2 next))
end
def la (n m:Nat):Array Bool:=((List.range n).map fun i=>m.testBit i).toArray
def JM (ops:Array Oper) (keeps:Nat->Bool) (listed:Array Bool) (i:Nat) (l':Array Bool):Bool:=Region.noSelect ops && (tS ops keeps listed i && ((Region.ready .any ops listed).contains i && decide (listed.setIfInBounds i true=l')))
def okO (ops:Array Oper) (listed:Array Bool) (i:Nat) (l':Array Bool):Bool:=decide (Region.ready .any ops listed=[i]) && decide (listed.setIfInBounds i true=l')
section
variable {P:Program}{n:Nat}{ops:Array Oper}{M:Nat->Prop}{keeps:Nat->Bool}{fuel:Nat}{listed:Array Bool}{ρ:Env}{h:aA}{N:Env->aA->Prop}{X:List PanicEntry->aA->Prop}
theorem bP (i m:Nat) (hk:JM ops keeps listed i (la ops.size m)=true) (e:(nth ops.toList i,b7 ops ρ o,o.dst,Nat.blt d n)=(some o,some true,some d,true)) (k:∀h',Ext M h h'->aj P o ρ h' v)
 (next:RD P n ops M keeps fuel (la ops.size m) ((d,v)::ρ) h N X):RD P n ops M keeps (fuel+1) listed ρ h N X:=by
 simp only[Prod.mk.injEq] at e;simp only[JM,Bool.and_eq_true,decide_eq_true_eq] at hk;exact RD.HY i e.1 hk.1 hk.2.1 hk.2.2.1 e.2.1 e.2.2.1 e.2.2.2 k hk.2.2.2 next
theorem cu (i m:Nat) (hk:JM ops keeps listed i (la ops.size m)=true) (e:(nth ops.toList i,b7 ops ρ o,o.dst,Nat.blt d n,L8 ρ o.op)=(some o,some true,some d,true,some v))
 (next:RD P n ops M keeps fuel (la ops.size m) ((d,v)::ρ) h N X):RD P n ops M keeps (fuel+1) listed ρ h N X:=by
 simp only[Prod.mk.injEq] at e;simp only[JM,Bool.and_eq_true,decide_eq_true_eq] at hk;exact RD.HY i e.1 hk.1 hk.2.1 hk.2.2.1 e.2.1 e.2.2.1 e.2.2.2.1 (fun _ _=>FP e.2.2.2.2) hk.2.2.2 next
theorem AV (i m:Nat) (hk:JM ops keeps listed i (la ops.size m)=true) (e:(nth ops.toList i,b7 ops ρ o,o.dst,Nat.blt d n)=(some o,some false,some d,true))
 (next:RD P n ops M keeps fuel (la ops.size m) ((d,undef)::ρ) h N X):RD P n ops M keeps (fuel+1) listed ρ h N X:=by
 simp only[Prod.mk.injEq] at e;simp only[JM,Bool.and_eq_true,decide_eq_true_eq] at hk;exact RD.aU i e.1 hk.1 hk.2.1 hk.2.2.1 e.2.1 e.2.2.1 e.2.2.2 hk.2.2.2 next
theorem dZ (i m:Nat) (hk:okO ops listed i (la ops.size m)=true) (e:(nth ops.toList i,b7 ops ρ o,o.dst,Nat.blt d n)=(some o,some true,some d,true)) (k:az P o ρ h Φ X)
 (next:∀v h',Φ v h'->(keeps i=true->Ext M h h')/\RD P n ops M keeps fuel (la ops.size m) ((d,v)::ρ) h' N X):RD P n ops M keeps (fuel+1) listed ρ h N X:=by
 simp only[Prod.mk.injEq] at e;simp only[okO,Bool.and_eq_true,decide_eq_true_eq] at hk;exact RD.Ms i e.1 hk.1 e.2.1 e.2.2.1 e.2.2.2 k hk.2 next
theorem jG (i m:Nat) (hk:okO ops listed i (la ops.size m)=true) (e:(nth ops.toList i,b7 ops ρ o,o.dst)=(some o,some true,none)) (k:az P o ρ h Φ X)
 (next:∀v h',Φ v h'->(keeps i=true->Ext M h h')/\RD P n ops M keeps fuel (la ops.size m) ρ h' N X):RD P n ops M keeps (fuel+1) listed ρ h N X:=by
 simp only[Prod.mk.injEq] at e;simp only[okO,Bool.and_eq_true,decide_eq_true_eq] at hk;exact RD.Mt i e.1 hk.1 e.2.1 e.2.2 k hk.2 next
end
end
end Go.Lw

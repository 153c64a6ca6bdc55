/- What the proof of the statement leans on (part 8). -/
import Derived.Lib.Builder
import Derived.Lib.AppendStr
import Derived.Lib.UnsafeStr
import Derived.Laws.Externs
import Derived.Laws.StructEq
import Derived.Test.YtdihgdeciopfpaaGreatDoorQg

namespace Go.Lw
open Go.RowKit
section
variable {h:au}{b:Nat}{t e:TypeId}{cs:List Value}{j:TypeInfo}{x:Operand}{v:Value}{l:List UInt8}
section
variable {P:Program}{ρ:Env}{h:au}{dst:Option Nat}{ty:TypeId}{pos:String}{after:Array Edge}{guard:Option (Nat×Bool)}{X:List PanicEntry->au->Prop}
theorem yK {B:World}{w:World}(ha:At B h w) (k:aL h b t cs):w.shape? b=some (t,cs.length):=by
 unfold aL at k;simp[World.shape?,ha.heap,k]
theorem ai.rO {yt:TypeId}{y:Operand}{a:Addr}(hu:P.underlying t=some (.pointer e)) (hj:P.info? e=some j) (hx:bE ρ x=some (.pointer (some a))) (hy:bE ρ y=some (.pointer (some a))) :
 ai P ⟨dst,.binOp .neq t x y yt,ty,pos,after,guard⟩ ρ h (.bool false):=by
 intro _ B w' w hf _;have:=Lib.run_neq_ptr_same (P:=P) w a hu hj;simp[execOp,eqGuard,hf.eval hx,hf.eval hy,this]
theorem ai.yw {s d:TypeId}{o:Nat}(hs:P.underlying s=some (.pointer t)) (hd:P.underlying d=some .unsafePointer) (ht:P.info? t=some j) (hj:j.size≠0)
 (hk:aL h b e cs) (ho:o<cs.length) (hx:bE ρ x=some (.pointer (some ⟨b,o,none⟩))):ai P ⟨dst,.convert s d x,ty,pos,after,guard⟩ ρ h (.pointer (some ⟨b,o,none⟩)):=by
 intro _ B a w hf ha;have:=Lib.run_to_unsafe (P:=P) w ⟨b,o,none⟩ hs hd ht hj (yK ha hk) ho;simp only[execOp,hf.eval hx,Sem.run_bind,this,Result.andThen_ok,Sem.run_pure]
theorem ai.sE {s d u:TypeId}{o:Nat}(hs:P.underlying s=some .unsafePointer) (hd:P.underlying d=some (.pointer u)) (hu:P.info? u=some j)
 (hk:aL h b e cs) (hl:liesAt P P.depth e (cs.length / P.cellsOf e) o u 1=true) (hx:bE ρ x=some (.pointer (some ⟨b,o,none⟩))):ai P ⟨dst,.convert s d x,ty,pos,after,guard⟩ ρ h (.pointer (some ⟨b,o,none⟩)):=by
 intro _ B a w hf ha;have:=Lib.run_from_unsafe (P:=P) w ⟨b,o,none⟩ hs hd hu (yK ha hk) hl;simp only[execOp,hf.eval hx,Sem.run_bind,this,Result.andThen_ok,Sem.run_pure]
theorem ai.zi {f:FuncId}{fn:Func}{ts:Array TypeId}(hf:P.funcs[f]? =some fn) (hname:(fn.name == "runtime.NumGoroutine")=false)
 (hb:fn.body.isNone=true) (hn:Extern.findNext fn=none) (he:Extern.find fn=some Extern.AbiNoEscape.same) (hx:bE ρ x=some v) :
 ai P ⟨dst,.call ⟨.value (.func f),#[x],ts⟩,ty,pos,after,guard⟩ ρ h v:=by
 intro _ B a w hfit _;have hc:=run_callFunc_extern (P:=P) hf hname hb hn he #[v] w;rw[Lib.run_noEscape] at hc;simp only[execOp,resolve,Act.eval,Deferred.ofValue,invoke];simp[hfit.eval hx,hc]
theorem ax.vB {u:TypeId}{i:TypeInfo}{y:Operand}{s:ByteArray}{base:Nat}(ht:P.underlying t=some (.slice e)) (hu:P.underlying u=some .string) (hi:P.info? e=some i) (hz:i.zero=some (.int .u8 0))
 (hsize:i.size=1) (hby:i.bytes=1) (hx:bE ρ x=some v) (hy:bE ρ y=some (.string s)) (hown:EP h base e v l) (hl:l.length+s.size<=140737488355328) (hbase:base<=h.size) :
 ax P ⟨dst,.call ⟨.builtin .append,#[x,y],#[t,u]⟩,ty,pos,after,guard⟩ ρ h (fun v' h'=>EP h' base e v' (l++s.data.toList)/\Ext (cC v.ownBlock) h h') X:=by
 intro nn B a w hf ha next Q hn _
 have hw:w.ownsRow base e 1 v l.length (l.map kE):=ha.own.2 hown;obtain⟨v',w',hr,hown',hg,_⟩:=Lib.run_append_own_string (P:=P) w base t u ty e i ht hu hi hz hsize hby v l.length (l.map kE) hw s (by simp only[maxLen];omega) hl (by rw[ha.heap];exact hbase)
 have hrun:(execOp a.eval ⟨dst,.call ⟨.builtin .append,#[x,y],#[t,u]⟩,ty,pos,after,guard⟩).run P w= .ok (.value v') w':=by
  simp[execOp,resolve,invoke,builtin,hf.eval hx,hf.eval hy,hr]
 unfold Oper.wp;rw[hrun];have hat:=ha.grown hg;refine hn v' w'.heap w' hat ⟨?_,by rw[<-ha.heap];exact gO hg⟩;have h2:=hat.own.1 hown'
 show aC _ _ _ _ _ _ _
 have e1:(l++s.data.toList).length=l.length+s.size:=by simp
 have e2:(l++s.data.toList).map kE=l.map kE++Lib.strCells s:=by simp[Lib.strCells,kE]
 rw[e1,e2];exact h2
def Seen (h:au) (base:Nat) (e:TypeId) (q:Option Addr) (l:List UInt8):Prop :=
 l≠[]->∃g cur,q=some ⟨g,0,none⟩/\base<=g/\h[g]? =some (.cells cur e (0,0))/\l.length<=cur.size/\∀j x,l[j]? =some x->cellAt h ⟨g,j,none⟩=some (kE x)
theorem ax.uO {base:Nat}(hp:P.underlying ty=some (.pointer e)) (hx:bE ρ x=some v) (hown:EP h base e v l) :
 ax P ⟨dst,.call ⟨.builtin .unsafeSliceData,#[x],#[t]⟩,ty,pos,after,guard⟩ ρ h (fun u h'=>(∃q,u= .pointer q/\Seen h' base e q l)/\av h h') X:=by
 intro nn B a w hf ha next Q hn _
 have go:∀q w',(Builtin.unsafeSliceData_ #[t] ty #[v]).run P w= .ok (.pointer q) w'->At B w'.heap w'->Seen w'.heap base e q l->av h w'.heap ->
  Oper.wp P ⟨dst,.call ⟨.builtin .unsafeSliceData,#[x],#[t]⟩,ty,pos,after,guard⟩ a w next Q:=by
  intro q w' hr hat hs he
  have hrun:(execOp a.eval ⟨dst,.call ⟨.builtin .unsafeSliceData,#[x],#[t]⟩,ty,pos,after,guard⟩).run P w= .ok (.value (.pointer q)) w':=by
   simp[execOp,resolve,invoke,builtin,hf.eval hx,hr]
  unfold Oper.wp;rw[hrun];exact hn _ _ _ hat ⟨⟨q,rfl,hs⟩,he⟩
 rcases hown.2 with ⟨rfl,h0⟩|⟨g,cap,cur,rfl,hb,hg,hnc,hc,hs,ht⟩
 · have hl:l=[]:=List.eq_nil_of_length_eq_zero h0;subst hl;exact go none w (Lib.run_unsafeSliceData_nil w _ _ _ _) (ha.heap▸ha) (fun k=>absurd rfl k) (by rw[ha.heap];exact Ext.refl _ _)
 · by_cases hc0:cap=0
   · subst hc0;have hl:l=[]:=List.eq_nil_of_length_eq_zero (by omega);subst hl;have hsh:w.shape? g=some (e,cur.size):=by simp[World.shape?,ha.heap,hg]
     refine go _ _ (Lib.run_unsafeSliceData_zero w #[t] ty e hp ⟨g,0,none⟩ 0 _ hsh) ?_ (fun k=>absurd rfl k) ?_
     · exact⟨rfl,ha.os,ha.tape,ha.output⟩
     · show av h (w.heap.push _)
       rw[ha.heap];exact Ext.push _ _ _
   · refine go _ w (Lib.run_unsafeSliceData_row w _ _ _ _ _ hc0) (ha.heap▸ha) ?_ (by rw[ha.heap];exact Ext.refl _ _);rw[ha.heap];refine fun _=>⟨g,cur,rfl,hb,hg,by omega,fun j y hy=>?_⟩
     have hj:j<l.length:=(List.getElem?_eq_some_iff.1 hy).1;have h2:(l.map kE)[j]? =some (kE y):=by simp[hy]
     rw[<-ht,List.getElem?_take,if_pos (by omega)] at h2;simpa [cellAt,hg] using h2
theorem jr {pt it e:TypeId}{x y:Operand}{q:Option Addr}{l:List UInt8}{base:Nat}(hp:P.underlying pt=some (.pointer e)) (hc:P.cellsOf e=1) (hx:bE ρ x=some (.pointer q)) (hy:bE ρ y=some (.int .i64 l.length))
 (hs:Seen h base e q l) (hl:l.length<=140737488355328) :
 ax P ⟨dst,.call ⟨.builtin .unsafeString,#[x,y],#[pt,it]⟩,ty,pos,after,guard⟩ ρ h (fun u h'=>u= .string ⟨l.toArray⟩/\Ext (fun i=>base<=i) h h') X:=by
 intro nn B a w hf ha next Q hn _
 have go:∀w',(Builtin.unsafeString_ #[pt,it] ty #[.pointer q,.int .i64 l.length]).run P w= .ok (.string ⟨l.toArray⟩) w'->At B w'.heap w'->Ext (fun i=>base<=i) h w'.heap ->
  Oper.wp P ⟨dst,.call ⟨.builtin .unsafeString,#[x,y],#[pt,it]⟩,ty,pos,after,guard⟩ a w next Q:=by
  intro w' hr hat he
  have hrun:(execOp a.eval ⟨dst,.call ⟨.builtin .unsafeString,#[x,y],#[pt,it]⟩,ty,pos,after,guard⟩).run P w= .ok (.value (.string ⟨l.toArray⟩)) w':=by
   simp[execOp,resolve,invoke,builtin,hf.eval hx,hf.eval hy,hr]
  unfold Oper.wp;rw[hrun];exact hn _ _ _ hat ⟨rfl,he⟩
 by_cases h0:l=[]
 · subst h0;exact go w (Lib.run_unsafeString_none w pt it ty q) (ha.heap▸ha) (by rw[ha.heap];exact Ext.refl _ _)
 · obtain⟨g,cur,rfl,hb,hg,hle,hcell⟩:=hs h0;have hsh:w.shape? g=some (e,cur.size):=by simp[World.shape?,ha.heap,hg]
   refine go _ (Lib.run_unsafeString_row w pt it ty e hp hc g cur.size hsh l h0 hle (by omega) (fun j z hz=>?_)) ?_ ?_
   · rw[ha.cell];have:=hcell j z hz;simpa [Addr.add_mid,kE] using this
   · refine⟨rfl,?_,?_,?_⟩<;>(unfold World.freeze;split)
     · exact ha.os
     · exact ha.os
     · exact ha.tape
     · exact ha.tape
     · exact ha.output
     · exact ha.output
   · unfold World.freeze;split
     · rw[ha.heap];exact Ext.refl _ _
     · refine⟨by simp[ha.heap],fun i hi hm=>?_⟩;simp only;rw[Array.getElem?_modify,if_neg (by omega),ha.heap]
end
def iz (h:au) (b:Nat) (T e:TypeId) (l:List UInt8):Prop :=
 ∃p v,aL h b T [p,v]/\(p= .pointer none\/p= .pointer (some ⟨b,0,none⟩))/\EP h (b+1) e v l
theorem fJ (o:EP h (b+1) e v l):∀g,cC v.ownBlock g->b<g:=by
 intro g hg
 rcases o.2 with ⟨rfl,_⟩|⟨g',cap,cur,rfl,hb,_⟩
 · cases hg
 · have:g=g':=by simpa [cC,Value.ownBlock] using hg
   omega
theorem mV {T:TypeId}(k:aL h b T [.pointer none,.slice none 0 0]):iz h b T e []:=⟨_,_,k,.inl rfl,cj.nil _ _ _ _⟩
end
end Go.Lw
namespace Go.Lw
section
variable {P:Program}{ρ:Env}{h:au}{dst:Option Nat}{ty:TypeId}{pos:String}{after:Array Edge}{guard:Option (Nat×Bool)}
def sA:Value->Bool
 |.nilIface=>true
 |_=>false
theorem ai.zm {t yt:TypeId}{ms:Array (String×TypeId)}{x:Operand}{v:Value}(hu:P.underlying t=some (.interface ms)) (hx:bE ρ x=some v) (hv:v= .nilIface\/∃tx vx,v= .iface tx vx) :
 ai P ⟨dst,.binOp .neq t x (.const .nilIface) yt,ty,pos,after,guard⟩ ρ h (.bool (!sA v)):=by
 intro _ B a w hf _;have h1:∀d:Nat,(Op.equalIn (d+1) t .nilIface .nilIface).run P w= .ok true w:=fun d=>by simp[Op.equalIn,run_underlying hu]
 have h2:∀(d:Nat) tx vx,(Op.equalIn (d+1) t (.iface tx vx) .nilIface).run P w= .ok false w:=fun d tx vx=>by simp[Op.equalIn,run_underlying hu]
 have h3:a.eval (.const .nilIface)= .nilIface:=rfl
 rcases hv with rfl|⟨tx,vx,rfl⟩
 · simp[execOp,eqGuard,binOp,hf.eval hx,h3,Op.equal,Op.maxDepth,h1 9999,sA]
 · simp[execOp,eqGuard,binOp,hf.eval hx,h3,Op.equal,Op.maxDepth,h2 9999,sA]
end
def yj (P:Program) (h:au) (name:String):Option (Array Value) :=
 (P.globalNamed name).bind fun g=>match h[g]? with|some (.cells cs _ _)=>some cs|_=>none
theorem yh (P:Program) (w:World) (name:String):w.var? P name=yj P w.heap name:=rfl
theorem A9 {P:Program}{h h':au}{name:String}{cs:Array Value}(e:av h h') (k:yj P h name=some cs):yj P h' name=some cs:=by
 unfold yj at k ⊢;cases hg:P.globalNamed name with
 |none=>simp[hg] at k
 |some g =>
  simp only[hg,Option.bind_some] at k ⊢
  have hlt:g<h.size:=by
   rcases Nat.lt_or_ge g h.size with h1|h1
   · exact h1
   · rw[Array.getElem?_eq_none h1] at k;cases k
  rw[e.block g hlt (fun k=>k)];exact k
end Go.Lw
namespace Go.Lw
section
variable {xs ys:Array Value}{b:Bool}
section
variable {P:Program}{ρ:Env}{h:au}{dst:Option Nat}{ty:TypeId}{pos:String}{after:Array Edge}{guard:Option (Nat×Bool)}
theorem ai.wW {t yt:TypeId}{x y:Operand}(ht:P.underlying t=some (.struct (P.fieldsOf t))) (hp:P.stoodInHeld t=false) (hm:P.eqGuardType P.depth t=false)
 (hx:bE ρ x=some (.agg xs)) (hy:bE ρ y=some (.agg ys)) (heq:∀w,(Op.eqFields 9999 xs ys (P.fieldsOf t).toList).run P w= .ok b w) :
 ai P ⟨dst,.binOp .eql t x y yt,ty,pos,after,guard⟩ ρ h (.bool b):=by
 intro _ B a w hf _;have h1:=run_eqGuard_agg (P:=P) w .eql t x y xs ys hm;have h2:=run_eql_struct (P:=P) w t xs ys;rw[run_equalIn_agg w 9999 t xs ys ht hp,heq w] at h2;simp[execOp,hf.eval hx,hf.eval hy,h1,h2]
theorem ai.BD {t yt:TypeId}{x y:Operand}(ht:P.underlying t=some (.struct (P.fieldsOf t))) (hp:P.stoodInHeld t=false) (hm:P.eqGuardType P.depth t=false)
 (hx:bE ρ x=some (.agg xs)) (hy:bE ρ y=some (.agg ys)) (heq:∀w,(Op.eqFields 9999 xs ys (P.fieldsOf t).toList).run P w= .ok b w) :
 ai P ⟨dst,.binOp .neq t x y yt,ty,pos,after,guard⟩ ρ h (.bool (!b)):=by
 intro _ B a w hf _;have h1:=run_eqGuard_agg (P:=P) w .neq t x y xs ys hm;have h2:=run_neq_struct (P:=P) w t xs ys;rw[run_equalIn_agg w 9999 t xs ys ht hp,heq w] at h2;simp[execOp,hf.eval hx,hf.eval hy,h1,h2]
theorem fB {d:Nat}{f:Field}{fs:List Field}{w:World}{u v:Value}{c:Bool}(hn:f.name≠ "_") (hr:aZ P f.type=some false) (hu:xs[f.offset]? =some u) (hv:ys[f.offset]? =some v)
 (he:(Op.equalIn d f.type u v).run P w= .ok b w) (hs:(Op.eqFields d xs ys fs).run P w= .ok c w):(Op.eqFields d xs ys (f::fs)).run P w= .ok (b && c) w:=by
 have p1:(part f.type xs f.offset).run P w= .ok u w:=by simp[part,hU hr,hu]
 have p2:(part f.type ys f.offset).run P w= .ok v w:=by simp[part,hU hr,hv]
 rw[Op.eqFields,if_pos hn];simp only[Sem.run_bind,p1,p2,he,Result.andThen_ok];cases b
 · simp
 · simpa using hs
end
end
end Go.Lw
namespace Go.Lw
section
variable {o:Oper}{v:Value}{d:Nat}{Φ:Value->au->Prop}
def NG (ρ:Env):Op->Option Value
 |.move x=>bE ρ x
 |.assign x=>bE ρ x
 |.extract x i=>match bE ρ x with|some (.tuple vs)=>vs[i]? |_=>none
 |.nilCheck x=>match bE ρ x with|some (.pointer (some a))=>some (.pointer (some a))|_=>none
 |.pick c x y=>match bE ρ c with|some (.bool true)=>bE ρ x|some (.bool false)=>bE ρ y|_=>none
 |.unOp .not _ x=>match bE ρ x with|some (.bool b)=>some (.bool (!b))|_=>none
 |.binOp op _ x y _=>match bE ρ x,bE ρ y with
  |some (.int k i),some (.int k' j)=>if k=k' then (match op with
   |.eql=>some (.bool (decide (i=j)))
   |.neq=>some (.bool (decide (¬i=j)))
   |.lss=>some (.bool (decide (i<j)))
   |.leq=>some (.bool (decide (i<=j)))
   |.gtr=>some (.bool (decide (j<i)))
   |.geq=>some (.bool (decide (j<=i)))
   |_=>none) else none
  |_,_=>none
 |_=>none
theorem Gt {P:Program}{ρ:Env}{h:au}(hv:NG ρ o.op=some v):ai P o ρ h v:=by
 obtain⟨dst,op,ty,pos,after,guard⟩:=o;simp only at hv;unfold NG at hv;split at hv
 · exact aF hv
 · exact ai.assign hv
 · split at hv
   · rename_i hx;exact ai.extract hx hv
   · cases hv
 · split at hv
   · rename_i hx;cases hv;exact aV hx
   · cases hv
 · split at hv
   · rename_i hc;exact ai.yZ hc hv
   · rename_i hc;exact ai.jW hc hv
   · cases hv
 · split at hv
   · rename_i hx;cases hv;exact ai.rI hx
   · cases hv
 · split at hv
   · rename_i hx hy;split at hv
     · rename_i hk;subst hk;split at hv
       · cases hv;exact ai.mL hx hy
       · cases hv;exact ai.KF hx hy
       · cases hv;exact xW hx hy
       · cases hv;exact Dr hx hy
       · cases hv;exact nU hx hy
       · cases hv;exact nV hx hy
       · cases hv
     · cases hv
   · cases hv
 · cases hv
def keep:List Nat->Env->Option Env
 | [],_=>some []
 |i::r,ρ=>match ρ.at i with
  |some v=>match keep r ρ with
   |some e=>some ((i,v)::e)
   |none=>none
  |none=>none
theorem nF:∀(ns:List Nat){ρ ρ':Env},keep ns ρ=some ρ'->Sub ρ' ρ
 | [],ρ,ρ',h=>by cases h;trivial
 |i::r,ρ,ρ',h=>by
  rw[keep] at h;split at h
  · rename_i v hv;split at h
    · rename_i e he;cases h;exact⟨hv,nF r he⟩
    · cases h
  · cases h
section
variable {P:Program}{n:Nat}{ops:Array Oper}{i:Nat}{ρ ρ':Env}{h:au}{N:Env->au->Prop}{X:List PanicEntry->au->Prop}
theorem xp (e:(nth ops.toList i,bL ops ρ o,o.dst,Nat.blt d n)=(some o,some true,some d,true)) (k:ai P o ρ h v) (next:RW P n ops (i+1) ((d,v)::ρ) h N X):RW P n ops i ρ h N X:=by
 simp only[Prod.mk.injEq] at e;exact RW.an e.1 e.2.1 e.2.2.1 e.2.2.2 k next
theorem xo (e:(nth ops.toList i,bL ops ρ o,o.dst,Nat.blt d n)=(some o,some true,some d,true)) (k:ax P o ρ h Φ X) (next:∀v h',Φ v h'->RW P n ops (i+1) ((d,v)::ρ) h' N X):RW P n ops i ρ h N X:=by
 simp only[Prod.mk.injEq] at e;exact RW.ou e.1 e.2.1 e.2.2.1 e.2.2.2 k next
end
section
variable {P:Program}{n:Nat}{ops:Array Oper}{i:Nat}{f:FuncId}{fn:Func}{k:List It}{ρ ρ':Env}{h:au}{R:Ending->au->Prop}{X:List PanicEntry->au->Prop}{p:List Nat}
theorem xu (ns:List Nat) (e:keep ns ρ=some ρ') (next:G P f fn k ρ' h R):G P f fn k ρ h R:=G.sub (nF ns e) next
theorem xd (ns:List Nat) (e:(Nat.ble ops.size i,keep ns ρ)=(true,some ρ')) (next:G P f fn k ρ' h R):RW P n ops i ρ h (fun ρ' h'=>G P f fn k ρ' h' R) X:=by
 simp only[Prod.mk.injEq] at e;exact RW.done e.1 (G.sub (nF ns e.2) next)
theorem xr (hfn:P.funcs[f]? =some fn) (e:(kind (Lw.sub (aG fn) p),kind (Lw.sub (aG fn) (0::p)))=(1,5))
 (next:RW P fn.ntmps (opsOf (Lw.sub (aG fn) (0::p))) 0 ρ h (fun ρ' h'=>G P f fn (.code (1::p)::k) ρ' h' R) (fun ch h'=>R (.panicked ch) h')):G P f fn (.code p::k) ρ h R:=by
 simp only[Prod.mk.injEq] at e;exact ak e.1 (G.bB hfn e.2 next)
end
def yN (n:Nat) (ops:Array Oper):Nat->Nat->Env->Option Env
 | 0,_,ρ=>some ρ
 |k+1,i,ρ=>match nth ops.toList i with
  |some o=>match o.dst with
   |some d=>match Nat.blt d n with
    |true=>match bL ops ρ o with
     |some true=>match NG ρ o.op with
      |some v=>yN n ops k (i+1) ((d,v)::ρ)
      |none=>none
     |some false=>yN n ops k (i+1) ((d,undef)::ρ)
     |none=>none
    |false=>none
   |none=>none
  |none=>none
section
variable {P:Program}{n:Nat}{ops:Array Oper}{ρ':Env}{h:au}{N:Env->au->Prop}{X:List PanicEntry->au->Prop}
theorem br:∀(k:Nat){i:Nat}{ρ:Env}(_:yN n ops k i ρ=some ρ') (_:RW P n ops (i+k) ρ' h N X),RW P n ops i ρ h N X
 | 0,i,ρ,e,next=>by cases e;exact next
 |k+1,i,ρ,e,next=>by
  rw[yN] at e;split at e
  · rename_i o ho;split at e
    · rename_i d hd;split at e
      · rename_i hb;split at e
        · rename_i hw;split at e
          · rename_i v hv;exact RW.an ho hw hd hb (Gt hv) (br k e (by rw[Nat.add_assoc,Nat.add_comm 1 k];exact next))
          · cases e
        · rename_i hw;exact RW.bD ho hw hd hb (br k e (by rw[Nat.add_assoc,Nat.add_comm 1 k];exact next))
        · cases e
      · cases e
    · cases e
  · cases e
theorem bO (k:Nat){i:Nat}{ρ:Env}(e1:yN n ops k i ρ=some ρ') (e:(nth ops.toList (i+k),bL ops ρ' o,o.dst,Nat.blt d n)=(some o,some true,some d,true)) (q:ai P o ρ' h v)
 (next:RW P n ops (i+k+1) ((d,v)::ρ') h N X):RW P n ops i ρ h N X:=br k e1 (xp e q next)
end
def wQ (ops:Array Oper) (i:Nat) (ns:List Nat):Option Env->Option Env
 |some ρ=>match Nat.ble ops.size i with
  |true=>keep ns ρ
  |false=>none
 |none=>none
section
variable {P:Program}{n:Nat}{ops:Array Oper}{i:Nat}{f:FuncId}{fn:Func}{k:List It}{ρ ρ':Env}{h:au}{R:Ending->au->Prop}{X:List PanicEntry->au->Prop}{p:List Nat}
theorem aM (m:Nat) (ns:List Nat) (e:wQ ops (i+m) ns (yN n ops m i ρ)=some ρ') (next:G P f fn k ρ' h R):RW P n ops i ρ h (fun ρ' h'=>G P f fn k ρ' h' R) X:=by
 unfold wQ at e;split at e
 · rename_i r hr;split at e
   · rename_i hb;exact br m hr (RW.done hb (G.sub (nF ns e) next))
   · cases e
 · cases e
theorem bg (hfn:P.funcs[f]? =some fn) (m:Nat) (e:(kind (Lw.sub (aG fn) p),kind (Lw.sub (aG fn) (0::p)),yN fn.ntmps (opsOf (Lw.sub (aG fn) (0::p))) m 0 ρ)=(1,5,some ρ'))
 (next:RW P fn.ntmps (opsOf (Lw.sub (aG fn) (0::p))) (0+m) ρ' h (fun ρ' h'=>G P f fn (.code (1::p)::k) ρ' h' R) (fun ch h'=>R (.panicked ch) h')):G P f fn (.code p::k) ρ h R:=by
 simp only[Prod.mk.injEq] at e;exact ak e.1 (G.bB hfn e.2.1 (br m e.2.2 next))
theorem aQ (hfn:P.funcs[f]? =some fn) (m:Nat) (ns:List Nat) (e:(kind (Lw.sub (aG fn) p),kind (Lw.sub (aG fn) (0::p)),wQ (opsOf (Lw.sub (aG fn) (0::p))) (0+m) ns (yN fn.ntmps (opsOf (Lw.sub (aG fn) (0::p))) m 0 ρ))=(1,5,some ρ'))
 (next:G P f fn (.code (1::p)::k) ρ' h R):G P f fn (.code p::k) ρ h R:=by
 simp only[Prod.mk.injEq] at e;exact ak e.1 (G.bB hfn e.2.1 (aM m ns e.2.2 next))
end
def la (n m:Nat):Array Bool:=((List.range n).map fun i=>m.testBit i).toArray
def La (ops:Array Oper) (keeps:Nat->Bool) (listed:Array Bool) (i:Nat) (l':Array Bool):Bool:=Region.noSelect ops && (sG ops keeps listed i && ((Region.ready .any ops listed).contains i && decide (listed.setIfInBounds i true=l')))
def okO (ops:Array Oper) (listed:Array Bool) (i:Nat) (l':Array Bool):Bool:=decide (Region.ready .any ops listed=[i]) && decide (listed.setIfInBounds i true=l')
section
variable {P:Program}{n:Nat}{ops:Array Oper}{M:Nat->Prop}{keeps:Nat->Bool}{fuel:Nat}{listed:Array Bool}{ρ:Env}{h:au}{N:Env->au->Prop}{X:List PanicEntry->au->Prop}
theorem bn (i m:Nat) (hk:La ops keeps listed i (la ops.size m)=true) (e:(nth ops.toList i,bL ops ρ o,o.dst,Nat.blt d n)=(some o,some true,some d,true)) (k:∀h',Ext M h h'->ai P o ρ h' v)
 (next:RD P n ops M keeps fuel (la ops.size m) ((d,v)::ρ) h N X):RD P n ops M keeps (fuel+1) listed ρ h N X:=by
 simp only[Prod.mk.injEq] at e;simp only[La,Bool.and_eq_true,decide_eq_true_eq] at hk;exact RD.I6 i e.1 hk.1 hk.2.1 hk.2.2.1 e.2.1 e.2.2.1 e.2.2.2 k hk.2.2.2 next
theorem bu (i m:Nat) (hk:La ops keeps listed i (la ops.size m)=true) (e:(nth ops.toList i,bL ops ρ o,o.dst,Nat.blt d n,NG ρ o.op)=(some o,some true,some d,true,some v))
 (next:RD P n ops M keeps fuel (la ops.size m) ((d,v)::ρ) h N X):RD P n ops M keeps (fuel+1) listed ρ h N X:=by
 simp only[Prod.mk.injEq] at e;simp only[La,Bool.and_eq_true,decide_eq_true_eq] at hk;exact RD.I6 i e.1 hk.1 hk.2.1 hk.2.2.1 e.2.1 e.2.2.1 e.2.2.2.1 (fun _ _=>Gt e.2.2.2.2) hk.2.2.2 next
theorem AY (i m:Nat) (hk:La ops keeps listed i (la ops.size m)=true) (e:(nth ops.toList i,bL ops ρ o,o.dst,Nat.blt d n)=(some o,some false,some d,true))
 (next:RD P n ops M keeps fuel (la ops.size m) ((d,undef)::ρ) h N X):RD P n ops M keeps (fuel+1) listed ρ h N X:=by
 simp only[Prod.mk.injEq] at e;simp only[La,Bool.and_eq_true,decide_eq_true_eq] at hk;exact RD.bD i e.1 hk.1 hk.2.1 hk.2.2.1 e.2.1 e.2.2.1 e.2.2.2 hk.2.2.2 next
theorem cE (i m:Nat) (hk:okO ops listed i (la ops.size m)=true) (e:(nth ops.toList i,bL ops ρ o,o.dst,Nat.blt d n)=(some o,some true,some d,true)) (k:ax P o ρ h Φ X)
 (next:∀v h',Φ v h'->(keeps i=true->Ext M h h')/\RD P n ops M keeps fuel (la ops.size m) ((d,v)::ρ) h' N X):RD P n ops M keeps (fuel+1) listed ρ h N X:=by
 simp only[Prod.mk.injEq] at e;simp only[okO,Bool.and_eq_true,decide_eq_true_eq] at hk;exact RD.NX i e.1 hk.1 e.2.1 e.2.2.1 e.2.2.2 k hk.2 next
theorem jP (i m:Nat) (hk:okO ops listed i (la ops.size m)=true) (e:(nth ops.toList i,bL ops ρ o,o.dst)=(some o,some true,none)) (k:ax P o ρ h Φ X)
 (next:∀v h',Φ v h'->(keeps i=true->Ext M h h')/\RD P n ops M keeps fuel (la ops.size m) ρ h' N X):RD P n ops M keeps (fuel+1) listed ρ h N X:=by
 simp only[Prod.mk.injEq] at e;simp only[okO,Bool.and_eq_true,decide_eq_true_eq] at hk;exact RD.NY i e.1 hk.1 e.2.1 e.2.2 k hk.2 next
end
end
end Go.Lw

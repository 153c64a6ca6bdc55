/- What the proof of the statement leans on (part 7). -/
import Derived.Lib.Builder
import Derived.Lib.AppendStr
import Derived.Lib.UnsafeStr
import Derived.Laws.Externs
import Derived.Laws.StructEq
import Derived.Test.YtdgckfkoihcmjaaGreatDoorQf

namespace Go.Lw
open Go.RowKit
section
variable {h:aj}{b:Nat}{t e:TypeId}{cs:List Value}{j:TypeInfo}{x:Operand}{v:Value}{l:List UInt8}
section
variable {P:Program}{ρ:Env}{h:aj}{dst:Option Nat}{ty:TypeId}{pos:String}{after:Array Edge}{guard:Option (Nat×Bool)}{X:List PanicEntry->aj->Prop}
theorem Ap {B:World}{w:World}(ha:At B h w) (k:aC h b t cs):w.shape? b=some (t,cs.length):=by
 unfold aC at k;simp[World.shape?,ha.heap,k]
theorem ay.Cx {yt:TypeId}{y:Operand}{a:Addr}(hu:P.underlying t=some (.pointer e)) (hj:P.info? e=some j) (hx:aQ ρ x=some (.pointer (some a))) (hy:aQ ρ y=some (.pointer (some a))) :
 ay P ⟨dst,.binOp .neq t x y yt,ty,pos,after,guard⟩ ρ h (.bool false):=by
 intro _ B w' w hf _;have:=Lib.run_neq_ptr_same (P:=P) w a hu hj;simp[execOp,eqGuard,hf.eval hx,hf.eval hy,this]
theorem ay.FO {s d:TypeId}{o:Nat}(hs:P.underlying s=some (.pointer t)) (hd:P.underlying d=some .unsafePointer) (ht:P.info? t=some j) (hj:j.size≠0)
 (hk:aC h b e cs) (ho:o<cs.length) (hx:aQ ρ x=some (.pointer (some ⟨b,o,none⟩))):ay P ⟨dst,.convert s d x,ty,pos,after,guard⟩ ρ h (.pointer (some ⟨b,o,none⟩)):=by
 intro _ B a w hf ha;have:=Lib.run_to_unsafe (P:=P) w ⟨b,o,none⟩ hs hd ht hj (Ap ha hk) ho;simp only[execOp,hf.eval hx,Sem.run_bind,this,Result.andThen_ok,Sem.run_pure]
theorem ay.CM {s d u:TypeId}{o:Nat}(hs:P.underlying s=some .unsafePointer) (hd:P.underlying d=some (.pointer u)) (hu:P.info? u=some j)
 (hk:aC h b e cs) (hl:liesAt P P.depth e (cs.length / P.cellsOf e) o u 1=true) (hx:aQ ρ x=some (.pointer (some ⟨b,o,none⟩))):ay P ⟨dst,.convert s d x,ty,pos,after,guard⟩ ρ h (.pointer (some ⟨b,o,none⟩)):=by
 intro _ B a w hf ha;have:=Lib.run_from_unsafe (P:=P) w ⟨b,o,none⟩ hs hd hu (Ap ha hk) hl;simp only[execOp,hf.eval hx,Sem.run_bind,this,Result.andThen_ok,Sem.run_pure]
theorem ay.GJ {f:FuncId}{fn:Func}{ts:Array TypeId}(hf:P.funcs[f]? =some fn) (hname:(fn.name == "runtime.NumGoroutine")=false)
 (hb:fn.body.isNone=true) (hn:Extern.findNext fn=none) (he:Extern.find fn=some Extern.AbiNoEscape.same) (hx:aQ ρ x=some v) :
 ay P ⟨dst,.call ⟨.value (.func f),#[x],ts⟩,ty,pos,after,guard⟩ ρ h v:=by
 intro _ B a w hfit _;have hc:=run_callFunc_extern (P:=P) hf hname hb hn he #[v] w;rw[Lib.run_noEscape] at hc;simp only[execOp,resolve,Act.eval,Deferred.ofValue,invoke];simp[hfit.eval hx,hc]
theorem aT.Fo {u:TypeId}{i:TypeInfo}{y:Operand}{s:ByteArray}{base:Nat}(ht:P.underlying t=some (.slice e)) (hu:P.underlying u=some .string) (hi:P.info? e=some i) (hz:i.zero=some (.int .u8 0))
 (hsize:i.size=1) (hby:i.bytes=1) (hx:aQ ρ x=some v) (hy:aQ ρ y=some (.string s)) (hown:FC h base e v l) (hl:l.length+s.size<=140737488355328) (hbase:base<=h.size) :
 aT P ⟨dst,.call ⟨.builtin .append,#[x,y],#[t,u]⟩,ty,pos,after,guard⟩ ρ h (fun v' h'=>FC h' base e v' (l++s.data.toList)/\Ext (cu v.ownBlock) h h') X:=by
 intro nn B a w hf ha next Q hn _
 have hw:w.ownsRow base e 1 v l.length (l.map uT):=ha.own.2 hown;obtain⟨v',w',hr,hown',hg,_⟩:=Lib.run_append_own_string (P:=P) w base t u ty e i ht hu hi hz hsize hby v l.length (l.map uT) hw s (by simp only[maxLen];omega) hl (by rw[ha.heap];exact hbase)
 have hrun:(execOp a.eval ⟨dst,.call ⟨.builtin .append,#[x,y],#[t,u]⟩,ty,pos,after,guard⟩).run P w= .ok (.value v') w':=by
  simp[execOp,resolve,invoke,builtin,hf.eval hx,hf.eval hy,hr]
 unfold Oper.wp;rw[hrun];have hat:=ha.grown hg;refine hn v' w'.heap w' hat ⟨?_,by rw[<-ha.heap];exact lJ hg⟩;have h2:=hat.own.1 hown'
 show aB _ _ _ _ _ _ _
 have e1:(l++s.data.toList).length=l.length+s.size:=by simp
 have e2:(l++s.data.toList).map uT=l.map uT++Lib.strCells s:=by simp[Lib.strCells,uT]
 rw[e1,e2];exact h2
def Seen (h:aj) (base:Nat) (e:TypeId) (q:Option Addr) (l:List UInt8):Prop :=
 l≠[]->∃g cur,q=some ⟨g,0,none⟩/\base<=g/\h[g]? =some (.cells cur e (0,0))/\l.length<=cur.size/\∀j x,l[j]? =some x->cellAt h ⟨g,j,none⟩=some (uT x)
theorem aT.Ed {base:Nat}(hp:P.underlying ty=some (.pointer e)) (hx:aQ ρ x=some v) (hown:FC h base e v l) :
 aT P ⟨dst,.call ⟨.builtin .unsafeSliceData,#[x],#[t]⟩,ty,pos,after,guard⟩ ρ h (fun u h'=>(∃q,u= .pointer q/\Seen h' base e q l)/\aq h h') X:=by
 intro nn B a w hf ha next Q hn _
 have go:∀q w',(Builtin.unsafeSliceData_ #[t] ty #[v]).run P w= .ok (.pointer q) w'->At B w'.heap w'->Seen w'.heap base e q l->aq h w'.heap ->
  Oper.wp P ⟨dst,.call ⟨.builtin .unsafeSliceData,#[x],#[t]⟩,ty,pos,after,guard⟩ a w next Q:=by
  intro q w' hr hat hs he
  have hrun:(execOp a.eval ⟨dst,.call ⟨.builtin .unsafeSliceData,#[x],#[t]⟩,ty,pos,after,guard⟩).run P w= .ok (.value (.pointer q)) w':=by
   simp[execOp,resolve,invoke,builtin,hf.eval hx,hr]
  unfold Oper.wp;rw[hrun];exact hn _ _ _ hat ⟨⟨q,rfl,hs⟩,he⟩
 rcases hown.2 with ⟨rfl,h0⟩|⟨g,cap,cur,rfl,hb,hg,hnc,hc,hs,ht⟩
 · have hl:l=[]:=List.eq_nil_of_length_eq_zero h0;subst hl;exact go none w (Lib.run_unsafeSliceData_nil w _ _ _ _) (ha.heap▸ha) (fun k=>absurd rfl k) (by rw[ha.heap];exact Ext.refl _ _)
 · by_cases hc0:cap=0
   · subst hc0;have hl:l=[]:=List.eq_nil_of_length_eq_zero (by omega);subst hl;have hsh:w.shape? g=some (e,cur.size):=by simp[World.shape?,ha.heap,hg]
     refine go _ _ (Lib.run_unsafeSliceData_zero w #[t] ty e hp ⟨g,0,none⟩ 0 _ hsh) ?_ (fun k=>absurd rfl k) ?_
     · exact⟨rfl,ha.os,ha.tape,ha.output⟩
     · show aq h (w.heap.push _)
       rw[ha.heap];exact Ext.push _ _ _
   · refine go _ w (Lib.run_unsafeSliceData_row w _ _ _ _ _ hc0) (ha.heap▸ha) ?_ (by rw[ha.heap];exact Ext.refl _ _);rw[ha.heap];refine fun _=>⟨g,cur,rfl,hb,hg,by omega,fun j y hy=>?_⟩
     have hj:j<l.length:=(List.getElem?_eq_some_iff.1 hy).1;have h2:(l.map uT)[j]? =some (uT y):=by simp[hy]
     rw[<-ht,List.getElem?_take,if_pos (by omega)] at h2;simpa [cellAt,hg] using h2
theorem qZ {pt it e:TypeId}{x y:Operand}{q:Option Addr}{l:List UInt8}{base:Nat}(hp:P.underlying pt=some (.pointer e)) (hc:P.cellsOf e=1) (hx:aQ ρ x=some (.pointer q)) (hy:aQ ρ y=some (.int .i64 l.length))
 (hs:Seen h base e q l) (hl:l.length<=140737488355328) :
 aT P ⟨dst,.call ⟨.builtin .unsafeString,#[x,y],#[pt,it]⟩,ty,pos,after,guard⟩ ρ h (fun u h'=>u= .string ⟨l.toArray⟩/\Ext (fun i=>base<=i) h h') X:=by
 intro nn B a w hf ha next Q hn _
 have go:∀w',(Builtin.unsafeString_ #[pt,it] ty #[.pointer q,.int .i64 l.length]).run P w= .ok (.string ⟨l.toArray⟩) w'->At B w'.heap w'->Ext (fun i=>base<=i) h w'.heap ->
  Oper.wp P ⟨dst,.call ⟨.builtin .unsafeString,#[x,y],#[pt,it]⟩,ty,pos,after,guard⟩ a w next Q:=by
  intro w' hr hat he
  have hrun:(execOp a.eval ⟨dst,.call ⟨.builtin .unsafeString,#[x,y],#[pt,it]⟩,ty,pos,after,guard⟩).run P w= .ok (.value (.string ⟨l.toArray⟩)) w':=by
   simp[execOp,resolve,invoke,builtin,hf.eval hx,hf.eval hy,hr]
  unfold Oper.wp;rw[hrun];exact hn _ _ _ hat ⟨rfl,he⟩
 by_cases h0:l=[]
 · subst h0;exact go w (Lib.run_unsafeString_none w pt it ty q) (ha.heap▸ha) (by rw[ha.heap];exact Ext.refl _ _)
 · obtain⟨g,cur,rfl,hb,hg,hle,hcell⟩:=hs h0;have hsh:w.shape? g=some (e,cur.size):=by simp[World.shape?,ha.heap,hg]
   refine go _ (Lib.run_unsafeString_row w pt it ty e hp hc g cur.size hsh l h0 hle (by omega) (fun j z hz=>?_)) ?_ ?_
   · rw[ha.cell];have:=hcell j z hz;simpa [Addr.add_mid,uT] using this
   · refine⟨rfl,?_,?_,?_⟩<;>(unfold World.freeze;split)
     · exact ha.os
     · exact ha.os
     · exact ha.tape
     · exact ha.tape
     · exact ha.output
     · exact ha.output
   · unfold World.freeze;split
     · rw[ha.heap];exact Ext.refl _ _
     · refine⟨by simp[ha.heap],fun i hi hm=>?_⟩;simp only;rw[Array.getElem?_modify,if_neg (by omega),ha.heap]
end
def qA (h:aj) (b:Nat) (T e:TypeId) (l:List UInt8):Prop :=
 ∃p v,aC h b T [p,v]/\(p= .pointer none\/p= .pointer (some ⟨b,0,none⟩))/\FC h (b+1) e v l
theorem mF (o:FC h (b+1) e v l):∀g,cu v.ownBlock g->b<g:=by
 intro g hg
 rcases o.2 with ⟨rfl,_⟩|⟨g',cap,cur,rfl,hb,_⟩
 · cases hg
 · have:g=g':=by simpa [cu,Value.ownBlock] using hg
   omega
theorem Df {T:TypeId}(k:aC h b T [.pointer none,.slice none 0 0]):qA h b T e []:=⟨_,_,k,.inl rfl,cn.nil _ _ _ _⟩
end
end Go.Lw
namespace Go.Lw
section
variable {P:Program}{ρ:Env}{h:aj}{dst:Option Nat}{ty:TypeId}{pos:String}{after:Array Edge}{guard:Option (Nat×Bool)}
def mO:Value->Bool
 |.nilIface=>true
 |_=>false
theorem ay.pP {t yt:TypeId}{ms:Array (String×TypeId)}{x:Operand}{v:Value}(hu:P.underlying t=some (.interface ms)) (hx:aQ ρ x=some v) (hv:v= .nilIface\/∃tx vx,v= .iface tx vx) :
 ay P ⟨dst,.binOp .neq t x (.const .nilIface) yt,ty,pos,after,guard⟩ ρ h (.bool (!mO v)):=by
 intro _ B a w hf _;have h1:∀d:Nat,(Op.equalIn (d+1) t .nilIface .nilIface).run P w= .ok true w:=fun d=>by simp[Op.equalIn,run_underlying hu]
 have h2:∀(d:Nat) tx vx,(Op.equalIn (d+1) t (.iface tx vx) .nilIface).run P w= .ok false w:=fun d tx vx=>by simp[Op.equalIn,run_underlying hu]
 have h3:a.eval (.const .nilIface)= .nilIface:=rfl
 rcases hv with rfl|⟨tx,vx,rfl⟩
 · simp[execOp,eqGuard,binOp,hf.eval hx,h3,Op.equal,Op.maxDepth,h1 9999,mO]
 · simp[execOp,eqGuard,binOp,hf.eval hx,h3,Op.equal,Op.maxDepth,h2 9999,mO]
end
def zU (P:Program) (h:aj) (name:String):Option (Array Value) :=
 (P.globalNamed name).bind fun g=>match h[g]? with|some (.cells cs _ _)=>some cs|_=>none
theorem zT (P:Program) (w:World) (name:String):w.var? P name=zU P w.heap name:=rfl
theorem B9 {P:Program}{h h':aj}{name:String}{cs:Array Value}(e:aq h h') (k:zU P h name=some cs):zU P h' name=some cs:=by
 unfold zU at k ⊢;cases hg:P.globalNamed name with
 |none=>simp[hg] at k
 |some g =>
  simp only[hg,Option.bind_some] at k ⊢
  have hlt:g<h.size:=by
   rcases Nat.lt_or_ge g h.size with h1|h1
   · exact h1
   · rw[Array.getElem?_eq_none h1] at k;cases k
  rw[e.block g hlt (fun k=>k)];exact k
end Go.Lw
namespace Go.Lw
section
variable {P:Program}{ρ:Env}{h:aj}{dst:Option Nat}{ty:TypeId}{pos:String}{after:Array Edge}{guard:Option (Nat×Bool)}
end
end Go.Lw
namespace Go.Lw
section
variable {h:aj}{o:Oper}{v:Value}{d base:Nat}{α:Type}{O O':Nat->Prop}{t:TypeId}{cs:List Value}
def Ny (ρ:Env):Op->Option Value
 |.move x=>aQ ρ x
 |.assign x=>aQ ρ x
 |.extract x i=>match aQ ρ x with|some (.tuple vs)=>vs[i]? |_=>none
 |.nilCheck x=>match aQ ρ x with|some (.pointer (some a))=>some (.pointer (some a))|_=>none
 |.pick c x y=>match aQ ρ c with|some (.bool true)=>aQ ρ x|some (.bool false)=>aQ ρ y|_=>none
 |.unOp .not _ x=>match aQ ρ x with|some (.bool b)=>some (.bool (!b))|_=>none
 |.binOp op _ x y _=>match aQ ρ x,aQ ρ y with
  |some (.int k i),some (.int k' j)=>if k=k' then (match op with
   |.eql=>some (.bool (decide (i=j)))
   |.neq=>some (.bool (decide (¬i=j)))
   |.lss=>some (.bool (decide (i<j)))
   |.leq=>some (.bool (decide (i<=j)))
   |.gtr=>some (.bool (decide (j<i)))
   |.geq=>some (.bool (decide (j<=i)))
   |_=>none) else none
  |_,_=>none
 |_=>none
theorem CO {P:Program}{ρ:Env}(hv:Ny ρ o.op=some v):ay P o ρ h v:=by
 obtain⟨dst,op,ty,pos,after,guard⟩:=o;simp only at hv;unfold Ny at hv;split at hv
 · exact dc hv
 · exact ay.assign hv
 · split at hv
   · rename_i hx;exact ay.extract hx hv
   · cases hv
 · split at hv
   · rename_i hx;cases hv;exact qy hx
   · cases hv
 · split at hv
   · rename_i hc;exact ay.Ma hc hv
   · rename_i hc;exact ay.Mb hc hv
   · cases hv
 · split at hv
   · rename_i hx;cases hv;exact ay.IT hx
   · cases hv
 · split at hv
   · rename_i hx hy;split at hv
     · rename_i hk;subst hk;split at hv
       · cases hv;exact ay.K0 hx hy
       · cases hv;exact ay.KS hx hy
       · cases hv;exact JK hx hy
       · cases hv;exact JL hx hy
       · cases hv;exact JM hx hy
       · cases hv;exact JN hx hy
       · cases hv
     · cases hv
   · cases hv
 · cases hv
def keep:List Nat->Env->Option Env
 | [],_=>some []
 |i::r,ρ=>match ρ.at i with
  |some v=>match keep r ρ with
   |some e=>some ((i,v)::e)
   |none=>none
  |none=>none
theorem Bb:∀(ns:List Nat){ρ ρ':Env},keep ns ρ=some ρ'->Sub ρ' ρ
 | [],ρ,ρ',h=>by cases h;trivial
 |i::r,ρ,ρ',h=>by
  rw[keep] at h;split at h
  · rename_i v hv;split at h
    · rename_i e he;cases h;exact⟨hv,Bb r he⟩
    · cases h
  · cases h
section
variable {P:Program}{n:Nat}{ops:Array Oper}{i:Nat}{ρ ρ':Env}{h:aj}{N:Env->aj->Prop}{X:List PanicEntry->aj->Prop}
theorem xp (e:(nth ops.toList i,aN ops ρ o,o.dst,Nat.blt d n)=(some o,some true,some d,true)) (k:ay P o ρ h v) (next:RW P n ops (i+1) ((d,v)::ρ) h N X):RW P n ops i ρ h N X:=by
 simp only[Prod.mk.injEq] at e;exact RW.bl e.1 e.2.1 e.2.2.1 e.2.2.2 k next
theorem xo {Φ:Value->aj->Prop}(e:(nth ops.toList i,aN ops ρ o,o.dst,Nat.blt d n)=(some o,some true,some d,true)) (k:aT P o ρ h Φ X) (next:∀v h',Φ v h'->RW P n ops (i+1) ((d,v)::ρ) h' N X):RW P n ops i ρ h N X:=by
 simp only[Prod.mk.injEq] at e;exact RW.Ey e.1 e.2.1 e.2.2.1 e.2.2.2 k next
theorem xk (e:(nth ops.toList i,aN ops ρ o,o.dst,Nat.blt d n)=(some o,some false,some d,true)) (next:RW P n ops (i+1) ((d,undef)::ρ) h N X):RW P n ops i ρ h N X:=by
 simp only[Prod.mk.injEq] at e;exact RW.tC e.1 e.2.1 e.2.2.1 e.2.2.2 next
end
section
variable {P:Program}{n:Nat}{ops:Array Oper}{i:Nat}{f:FuncId}{fn:Func}{k:List It}{ρ ρ':Env}{h:aj}{R:Ending->aj->Prop}{X:List PanicEntry->aj->Prop}{p:List Nat}
theorem xd (ns:List Nat) (e:(Nat.ble ops.size i,keep ns ρ)=(true,some ρ')) (next:G P f fn k ρ' h R):RW P n ops i ρ h (fun ρ' h'=>G P f fn k ρ' h' R) X:=by
 simp only[Prod.mk.injEq] at e;exact eK e.1 (G.sub (Bb ns e.2) next)
theorem xr (hfn:P.funcs[f]? =some fn) (e:(kind (Lw.sub (ax fn) p),kind (Lw.sub (ax fn) (0::p)))=(1,5))
 (next:RW P fn.ntmps (opsOf (Lw.sub (ax fn) (0::p))) 0 ρ h (fun ρ' h'=>G P f fn (.code (1::p)::k) ρ' h' R) (fun ch h'=>R (.panicked ch) h')):G P f fn (.code p::k) ρ h R:=by
 simp only[Prod.mk.injEq] at e;exact sj e.1 (G.nP hfn e.2 next)
end
def Gj (n:Nat) (ops:Array Oper):Nat->Nat->Env->Option Env
 | 0,_,ρ=>some ρ
 |k+1,i,ρ=>match nth ops.toList i with
  |some o=>match o.dst with
   |some d=>match Nat.blt d n with
    |true=>match aN ops ρ o with
     |some true=>match Ny ρ o.op with
      |some v=>Gj n ops k (i+1) ((d,v)::ρ)
      |none=>none
     |some false=>Gj n ops k (i+1) ((d,undef)::ρ)
     |none=>none
    |false=>none
   |none=>none
  |none=>none
section
variable {P:Program}{n:Nat}{ops:Array Oper}{ρ':Env}{h:aj}{N:Env->aj->Prop}{X:List PanicEntry->aj->Prop}
theorem Fz:∀(k:Nat){i:Nat}{ρ:Env}(_:Gj n ops k i ρ=some ρ') (_:RW P n ops (i+k) ρ' h N X),RW P n ops i ρ h N X
 | 0,i,ρ,e,next=>by cases e;exact next
 |k+1,i,ρ,e,next=>by
  rw[Gj] at e;split at e
  · rename_i o ho;split at e
    · rename_i d hd;split at e
      · rename_i hb;split at e
        · rename_i hw;split at e
          · rename_i v hv;exact RW.bl ho hw hd hb (CO hv) (Fz k e (by rw[Nat.add_assoc,Nat.add_comm 1 k];exact next))
          · cases e
        · rename_i hw;exact RW.tC ho hw hd hb (Fz k e (by rw[Nat.add_assoc,Nat.add_comm 1 k];exact next))
        · cases e
      · cases e
    · cases e
  · cases e
end
section
variable {P:Program}{n:Nat}{ops:Array Oper}{i:Nat}{f:FuncId}{fn:Func}{k:List It}{ρ ρ':Env}{h:aj}{R:Ending->aj->Prop}{X:List PanicEntry->aj->Prop}{p:List Nat}
end
def la (n m:Nat):Array Bool:=((List.range n).map fun i=>m.testBit i).toArray
def okO (ops:Array Oper) (listed:Array Bool) (i:Nat) (l':Array Bool):Bool:=decide (Region.ready .any ops listed=[i]) && decide (listed.setIfInBounds i true=l')
section
variable {P:Program}{n:Nat}{ops:Array Oper}{M:Nat->Prop}{keeps:Nat->Bool}{fuel:Nat}{listed:Array Bool}{ρ:Env}{h:aj}{N:Env->aj->Prop}{X:List PanicEntry->aj->Prop}
end
theorem sb {ρ' ρ:Env}(h:ρ'.map (fun p=>ρ.at p.1)=ρ'.map fun p=>some p.2):Sub ρ' ρ:=by
 induction ρ' with
 |nil=>trivial
 |cons p r ih =>
  simp only[List.map_cons,List.cons.injEq] at h;exact⟨h.1,ih h.2⟩
def cy {α:Type}(e:gD α) (O:Nat->Prop) (h:aj) (base:Nat) (t:TypeId) (v:Value) (xs:List α):Prop :=
 ∃css:List (List Value),css.length=xs.length/\aB h base t e.sz v xs.length css.flatten/\∀(i:Nat) (cs:List Value) (x:α),css[i]? =some cs->xs[i]? =some x->e.R h (fun b=>cu v.ownBlock b\/O b) cs x
theorem cy.nil {α:Type}(e:gD α) (O:Nat->Prop) (h:aj) (base:Nat) (t:TypeId):cy e O h base t (.slice none 0 0) [] :=
 ⟨[],rfl,aB.nil h base t e.sz,fun i cs x h1=>by simp at h1⟩
theorem cy.own {e:gD α}{xs:List α}(k:cy e O h base t v xs):∃cells,aB h base t e.sz v xs.length cells:=by
 obtain⟨css,_,h1,_⟩:=k;exact⟨_,h1⟩
theorem cy.mv {α:Type}{e:gD α}{O O':Nat->Prop}{h h':aj}{base:Nat}{t:TypeId}{v:Value}{xs:List α}(k:cy e O h base t v xs) (x:Ext O h h') (hb:∀b,base<=b->¬O b) (hO:∀b,b<h.size->O' b->O b):cy e O' h' base t v xs:=by
 obtain⟨css,h1,h2,h3⟩:=k;have h4:∀b,v.ownBlock=some b->¬O b:=fun b hv=>hb b (h2.lt hv).1
 refine⟨css,h1,h2.ext x h4,fun i cs y hc hy=>e.mv (h3 i cs y hc hy) ⟨x.size,fun b hlt hn=>⟨x.block b hlt (fun k=>hn (.inr k)),fun k=>hn (k.imp id (hO b hlt))⟩⟩⟩
theorem cy.ah {α:Type}{e:gD α}{O:Nat->Prop}{h h':aj}{base:Nat}{t:TypeId}{v:Value}{xs:List α}(k:cy e O h base t v xs) (x:aq h h'):cy e O h' base t v xs:=by
 obtain⟨css,h1,h2,h3⟩:=k;exact⟨css,h1,h2.ext x (fun _ _ k=>k),fun i cs y hc hy=>e.mv (h3 i cs y hc hy) (Mv.ah x)⟩
theorem cy.fC {e:gD α}{h':aj}{v':Value}{xs:List α}{y:α}{css:List (List Value)}(h1:css.length=xs.length)
 (h3:∀(i:Nat) (cs:List Value) (x:α),css[i]? =some cs->xs[i]? =some x->e.R h (fun b=>cu v.ownBlock b\/O b) cs x) (ho:aB h' base t e.sz v' (xs.length+1) (css.flatten++cs))
 (hx:Ext (cu v.ownBlock) h h') (hv:∀b,v'.ownBlock=some b->v.ownBlock=some b\/h.size<=b) (hy:e.R h (fun b=>cu v.ownBlock b\/O b) cs y):cy e O h' base t v' (xs++[y]):=by
 have hm:Mv (fun b=>cu v.ownBlock b\/O b) (fun b=>cu v'.ownBlock b\/O b) h h':=⟨hx.size,fun b hlt hnb=>⟨hx.block b hlt (fun k=>hnb (.inl k)),fun k=>by
  rcases k with k|k
  · rcases hv b k.symm with k'|k'
    · exact hnb (.inl k'.symm)
    · omega
  · exact hnb (.inr k)⟩⟩
 refine⟨css++[cs],by simp[h1],by simpa using ho,fun i cs' y' hc' hy'=>?_⟩
 rcases Nat.lt_or_ge i xs.length with hi|hi
 · rw[List.getElem?_append_left (by omega)] at hc' hy';exact e.mv (h3 i cs' y' hc' hy') hm
 · rw[List.getElem?_append_right (by omega)] at hc' hy';rw[h1] at hc';cases hj:i-xs.length with
   |zero=>rw[hj] at hc' hy';simp at hc' hy';subst hc' hy';exact e.mv hy hm
   |succ j=>rw[hj] at hy';simp at hy'
theorem cy.nY {e:gD α}{x:α}(k:e.R h O cs x) (hb:base<=h.size):cy e O (h.push (.cells cs.toArray t)) base t (.slice (some ⟨h.size,0,none⟩) 1 1) [x]:=by
 have hl:=e.len k;refine⟨[cs],rfl,⟨by simp[hl],.inr ⟨h.size,1,cs.toArray,rfl,hb,by simp,Nat.le_refl _,by simp[maxLen],by simp[hl],by simp[<-hl]⟩⟩,fun i cs' y hc hy=>?_⟩;cases i with
 |zero =>
  simp at hc hy;subst hc hy
  exact e.mv k ⟨by simp,fun b hb' ho=>⟨(Ext.push (fun _=>False) h _).block b hb' (fun k=>k),fun k=>by
   rcases k with k|k
   · simp[cu,Value.ownBlock] at k;omega
   · exact ho k⟩⟩
 |succ i=>simp at hy
theorem jv {α:Type}{sz:Nat}:∀(css:List (List α)) (i:Nat) (cs:List α) (j:Nat) (v:α),(∀c∈css,c.length=sz)->css[i]? =some cs->cs[j]? =some v->css.flatten[i*sz+j]? =some v
 | [],i,cs,j,v,_,hx,_=>by simp at hx
 |c::css,0,cs,j,v,_,hx,hv=>by
  simp at hx;subst hx;have:j<c.length:=(List.getElem?_eq_some_iff.1 hv).1;rw[List.flatten_cons,Nat.zero_mul,Nat.zero_add,List.getElem?_append_left this];exact hv
 |c::css,i+1,cs,j,v,hl,hx,hv=>by
  have h0:c.length=sz:=hl c (by simp);rw[List.flatten_cons,List.getElem?_append_right (by rw[h0,Nat.add_mul];omega),h0];have:(i+1)*sz+j-sz=i*sz+j:=by rw[Nat.add_mul];omega
  rw[this];exact jv css i cs j v (fun c hc=>hl c (by simp[hc])) (by simpa using hx) hv
theorem cy.read {e:gD α}{xs:List α}(k:cy e O h base t v xs) (ho:∀b,base<=b->¬O' b) (hO:∀b,b<h.size->O' b->O b):aY e h O' v xs:=by
 obtain⟨css,h1,h2,h3⟩:=k;have hm:Mv (fun b=>cu v.ownBlock b\/O b) O' h h:=⟨Nat.le_refl _,fun b hb hn=>⟨rfl,fun k=>hn (.inr (hO b hb k))⟩⟩
 have hlen:∀c∈css,c.length=e.sz:=fun c hc=>by
  obtain⟨i,hi⟩:=List.getElem?_of_mem hc;have hlt:i<xs.length:=by rw[<-h1];exact(List.getElem?_eq_some_iff.1 hi).1
  exact e.len (h3 i c xs[i] hi (List.getElem?_eq_getElem hlt))
 rcases h2.2 with ⟨rfl,hn0⟩|⟨g,cap,cur,rfl,hb,hg,hnc,hc,hs,ht⟩
 · exact⟨none,0,0,rfl,hn0,Nat.le_refl _,by simp[maxLen],fun i x hx=>by
    have:xs=[]:=List.eq_nil_of_length_eq_zero hn0;subst this;simp at hx⟩
 · refine⟨some ⟨g,0,none⟩,xs.length,cap,rfl,rfl,hnc,hc,fun i x hx=>?_⟩;have hlt:i<css.length:=by rw[h1];exact(List.getElem?_eq_some_iff.1 hx).1
   refine⟨g,0,css[i],rfl,ho g hb,?_,e.mv (h3 i _ x (List.getElem?_eq_getElem hlt) hx) hm⟩;intro j u hj;have h4:=jv css i css[i] j u hlen (List.getElem?_eq_getElem hlt) hj;rw[<-ht,List.getElem?_take] at h4;split at h4
   · have h5:cur[i*e.sz+j]? =some u:=by simpa using h4
     simpa [cellAt,hg,Nat.add_assoc] using h5
   · cases h4
theorem aY.nY {e:gD α}{x:α}(k:e.R h O cs x) (ho:¬O h.size):aY e (h.push (.cells cs.toArray t)) O (.slice (some ⟨h.size,0,none⟩) 1 1) [x] :=
 ⟨_,1,1,rfl,rfl,Nat.le_refl _,by simp[maxLen],fun i y hy=>by
  cases i with
  |zero =>
   simp at hy;subst hy;refine⟨h.size,0,cs,rfl,ho,?_,e.mv k (Mv.ah (Ext.push _ _ _))⟩;simpa using mw h cs t
  |succ i=>simp at hy⟩
theorem cy.oZ {e:gD α}{M:Nat->Prop}{h':aj}{xs:List α}(k:cy e O h base t v xs) (x:Ext M h h') (hown:∀b,v.ownBlock=some b->¬M b) (hM:∀b,b<h.size->M b->O b) (hO:∀b,b<h.size->O' b->O b):cy e O' h' base t v xs:=by
 obtain⟨css,h1,h2,h3⟩:=k;refine⟨css,h1,h2.ext x hown,fun i cs y hc hy=>e.mv (h3 i cs y hc hy) ⟨x.size,fun b hlt hn=>⟨x.block b hlt (fun k=>hn (.inr (hM b hlt k))),fun k=>hn (k.imp id (hO b hlt))⟩⟩⟩
theorem cy.Dv {e:gD α}{xs:List α}(k:cy e O h base t v xs) (ho:∀b,v.ownBlock=some b->¬O' b) (hO:∀b,b<h.size->O' b->O b):aY e h O' v xs:=by
 obtain⟨css,h1,h2,h3⟩:=k;have hm:Mv (fun b=>cu v.ownBlock b\/O b) O' h h:=⟨Nat.le_refl _,fun b hb hn=>⟨rfl,fun k=>hn (.inr (hO b hb k))⟩⟩
 have hlen:∀c∈css,c.length=e.sz:=fun c hc=>by
  obtain⟨i,hi⟩:=List.getElem?_of_mem hc;have hlt:i<xs.length:=by rw[<-h1];exact(List.getElem?_eq_some_iff.1 hi).1
  exact e.len (h3 i c xs[i] hi (List.getElem?_eq_getElem hlt))
 rcases h2.2 with ⟨rfl,hn0⟩|⟨g,cap,cur,rfl,hb,hg,hnc,hc,hs,ht⟩
 · exact⟨none,0,0,rfl,hn0,Nat.le_refl _,by simp[maxLen],fun i x hx=>by
    have:xs=[]:=List.eq_nil_of_length_eq_zero hn0;subst this;simp at hx⟩
 · refine⟨some ⟨g,0,none⟩,xs.length,cap,rfl,rfl,hnc,hc,fun i x hx=>?_⟩;have hlt:i<css.length:=by rw[h1];exact(List.getElem?_eq_some_iff.1 hx).1
   refine⟨g,0,css[i],rfl,ho g rfl,?_,e.mv (h3 i _ x (List.getElem?_eq_getElem hlt) hx) hm⟩;intro j u hj;have h4:=jv css i css[i] j u hlen (List.getElem?_eq_getElem hlt) hj;rw[<-ht,List.getElem?_take] at h4;split at h4
   · have h5:cur[i*e.sz+j]? =some u:=by simpa using h4
     simpa [cellAt,hg,Nat.add_assoc] using h5
   · cases h4
end
end Go.Lw
namespace Go.Lw
theorem aB.DC {h h':aj}{base:Nat}{t:TypeId}{size:Nat}{v:Value}{n:Nat}{xs:List Value}(k:aB h base t size v n xs) (e:aq h h'):aB h' base t size v n xs:=aB.ext e k (fun _ _ k=>k)
end Go.Lw
namespace Go.Lw
theorem jS {α:Type}{sz:Nat}:∀(css:List (List α)) (i:Nat) (cs:List α) (o:Nat) (u:α),(∀c∈css,c.length=sz)->css[i]? =some cs->o<sz->(css.set i (cs.set o u)).flatten=css.flatten.set (i*sz+o) u
 | [],i,cs,o,u,_,hx,_=>by simp at hx
 |c::css,0,cs,o,u,hl,hx,ho=>by
  simp at hx;subst hx;have h0:c.length=sz:=hl c (by simp);rw[List.set_cons_zero,List.flatten_cons,List.flatten_cons,Nat.zero_mul,Nat.zero_add,List.set_append_left _ _ (by omega)]
 |c::css,i+1,cs,o,u,hl,hx,ho=>by
  have h0:c.length=sz:=hl c (by simp);have hge:c.length<=(i+1)*sz+o:=by rw[h0,Nat.add_mul];omega
  rw[List.set_cons_succ,List.flatten_cons,List.flatten_cons,List.set_append_right _ _ hge,h0];have:(i+1)*sz+o-sz=i*sz+o:=by rw[Nat.add_mul];omega
  rw[this,jS css i cs o u (fun c hc=>hl c (by simp[hc])) (by simpa using hx) ho]
theorem cy.put {α:Type}{e:gD α}{O:Nat->Prop}{h:aj}{base:Nat}{t:TypeId}{v:Value}{xs:List α}(k:cy e O h base t v xs){i:Nat}{x:α}(hx:xs[i]? =some x) :
 ∃g c cs,v= .slice (some ⟨g,0,none⟩) xs.length c/\base<=g/\g<h.size/\Lw.rowAt h g (0+i*e.sz) cs/\(∀o,frozenAt h ⟨g,o,none⟩=false)/\e.R h (fun b=>cu v.ownBlock b\/O b) cs x /\
  ∀(o:Nat) (u:Value) (y:α),o<e.sz->e.R h (fun b=>cu v.ownBlock b\/O b) (cs.set o u) y->cy e O (dK h ⟨g,0+i*e.sz+o,none⟩ u) base t v (xs.set i y):=by
 obtain⟨css,h1,h2,h3⟩:=k;have hi:i<xs.length:=(List.getElem?_eq_some_iff.1 hx).1
 have hlen:∀c∈css,c.length=e.sz:=fun c hc=>by
  obtain⟨j,hj⟩:=List.getElem?_of_mem hc;have hlt:j<xs.length:=by rw[<-h1];exact(List.getElem?_eq_some_iff.1 hj).1
  exact e.len (h3 j c xs[j] hj (List.getElem?_eq_getElem hlt))
 rcases h2.2 with ⟨_,hn0⟩|⟨g,cap,cur,rfl,hb,hg,hnc,hc,hs,ht⟩
 · omega
 have hic:i<css.length:=by omega
 have hcs:css[i]? =some css[i]:=List.getElem?_eq_getElem hic;refine⟨g,cap,css[i],rfl,hb,(Array.getElem?_eq_some_iff.1 hg).1,?_,fun o=>by simp[frozenAt,hg],h3 i _ x hcs hx,fun o u y ho hy=>?_⟩
 · intro j w hj;have h4:=jv css i css[i] j w hlen hcs hj;rw[<-ht,List.getElem?_take] at h4;split at h4
   · have h5:cur[i*e.sz+j]? =some w:=by simpa using h4
     simpa [cellAt,hg] using h5
   · cases h4
 · have hm:Mv (fun b=>cu (Value.slice (some ⟨g,0,none⟩) xs.length cap).ownBlock b\/O b) (fun b=>cu (Value.slice (some ⟨g,0,none⟩) xs.length cap).ownBlock b\/O b) h (dK h ⟨g,0+i*e.sz+o,none⟩ u) :=
    ⟨by rw[iW];exact Nat.le_refl _,fun b hlt hnb=>⟨(Ext.dK (M:=fun b=>b=g) h _ u rfl).block b hlt (fun k=>hnb (.inl (by subst k;rfl))),hnb⟩⟩
   refine⟨css.set i (css[i].set o u),by simp[h1],⟨?_,.inr ⟨g,cap,cur.setIfInBounds (0+i*e.sz+o) u,by simp,hb,pH hg u,by simpa using hnc,hc,by simpa using hs,?_⟩⟩,fun j cs' y' hc' hy'=>?_⟩
   · rw[jS css i _ o u hlen hcs ho,List.length_set,List.length_set];exact h2.1
   · rw[jS css i _ o u hlen hcs ho,Array.toList_setIfInBounds,List.take_set,List.length_set,ht,Nat.zero_add]
   · rcases Nat.decEq i j with hne|rfl
     · rw[List.getElem?_set_ne hne] at hc' hy';exact e.mv (h3 j cs' y' hc' hy') hm
     · rw[List.getElem?_set_self hic] at hc';rw[List.getElem?_set_self hi] at hy';cases hc';cases hy';exact e.mv hy hm
end Go.Lw
namespace Go.Lw
theorem aT.pR {P:Program}{ρ:Env}{h:aj}{dst:Option Nat}{ty:TypeId}{pos:String}{after:Array Edge}{guard:Option (Nat×Bool)}{X:List PanicEntry->aj->Prop}{t e:TypeId}{bytes n:Nat}{x y:Operand}{kl kc:IntKind}{z:Value}
 (ht:P.underlying t=some (.slice e)) (he:dV P e 1 bytes) (hz:(P.info? e).bind (·.zero)=some z) (hx:aQ ρ x=some (.int kl (n:Nat))) (hy:aQ ρ y=some (.int kc (n:Nat))) (hzc:z.cells= #[z]) (hn:n<=1000000000) (hb:bytes<=1000) :
 aT P ⟨dst,.makeSlice t x y,ty,pos,after,guard⟩ ρ h (fun u g=>u= .slice (some ⟨h.size,0,none⟩) n n/\aB g h.size e 1 u n (List.replicate n z)/\aq h g) X:=by
 obtain⟨⟨i,z',hi,hz',hsz,hby,hzs⟩,_⟩:=he;have hzz:z'=z:=by rw[hi] at hz;simpa [hz'] using hz
 subst hzz;intro nn B a w hf ha next Q hnx _
 have hmul:i.bytes*n<=1000*1000000000:=Nat.mul_le_mul (by omega) hn;obtain⟨w',hr,h2,h3⟩:=run_make_full (P:=P) w h.size t e i z' 1 ht hi hz' hsz kl kc n (by omega) (by simp only[maxLen];omega) (by rw[ha.heap];exact Nat.le_refl _);unfold Oper.wp execOp;simp only[hf.eval hx,hf.eval hy,Sem.run_bind,Sem.run_pure,Result.andThen_ok,hr];refine hnx _ w'.heap w' (ha.grown h3) ⟨by rw[ha.heap],?_,?_⟩
 · have h4:=(At.own (ha.grown h3)).1 h2
   have:(madeCells z'.cells (n*1)).toList=List.replicate n z':=by
    rw[hzc,madeCells,Nat.mul_one]
    apply List.ext_getElem
    · simp
    · intro j h1 h2;simp[Nat.mod_one]
   rw[this] at h4;exact h4
 · have h5:=lJ h3;rw[ha.heap] at h5;exact yX h5
section
variable {P:Program}{ρ:Env}{h:aj}{dst:Option Nat}{ty:TypeId}{pos:String}{after:Array Edge}{guard:Option (Nat×Bool)}{X:List PanicEntry->aj->Prop}
theorem aT.CX {t e:TypeId}{size bytes:Nat}(ht:P.underlying t=some (.slice e)) (he:dV P e size bytes) :
 aT P ⟨dst,.buildSlice t 0 #[],ty,pos,after,guard⟩ ρ h (fun u g=>u= .slice (some ⟨h.size,0,none⟩) 0 0/\g=h.push (.cells #[] e)) X :=
 aT.buildSlice (vs:=[]) (cells:= #[]) ht he rfl (by omega) (fun z _=>by simp[Instr.fill])
end
theorem Da (h:aj) (t:TypeId) (size base:Nat) (hb:base<=h.size):aB (h.push (.cells #[] t)) base t size (.slice (some ⟨h.size,0,none⟩) 0 0) 0 [] :=
 ⟨by simp,.inr ⟨h.size,0,#[],rfl,hb,by simp,Nat.le_refl _,by simp[maxLen],by simp,by simp⟩⟩
end Go.Lw
namespace Go.Lw
theorem aY.open_slice {α:Type}{e:gD α}{h:aj}{O:Nat->Prop}{oa:Option Addr}{n c:Nat}{xs:List α}(k:aY e h O (.slice oa n c) xs):Sl e h O oa n c xs:=by
 obtain⟨oa',n',c',hv,k'⟩:=k.open;cases hv;exact k'
theorem Bi {off:Nat}:∀(cs:List Value) (k:Nat) (pre tl:List Value) (rest:List Value),pre.length=off+k->tl.length=cs.length ->
 (cs.zipIdx k).foldl (fun(a:Array Value) (p:Value×Nat)=>a.setIfInBounds (off+p.2) p.1) (pre++(tl++rest)).toArray=(pre++(cs++rest)).toArray
 | [],k,pre,tl,rest,_,hl=>by
  have:tl=[]:=List.eq_nil_of_length_eq_zero (by simpa using hl);subst this;rfl
 |c::cs,k,pre,[],rest,hp,hl=>by simp at hl
 |c::cs,k,pre,t::tl,rest,hp,hl=>by
  rw[List.zipIdx_cons,List.foldl_cons]
  have hset:(pre++(t::tl++rest)).toArray.setIfInBounds (off+k) c=((pre++[c])++(tl++rest)).toArray:=by
   rw[<-hp];simp[List.set_append_right]
  simp only[hset];rw[Bi cs (k+1) (pre++[c]) tl rest (by simp[hp];omega) (by simpa using hl)];simp
theorem xy {sz:Nat}:∀(css:List (List Value)),(∀c∈css,c.length=sz)->∀(k:Nat) (pre tl:List Value),pre.length=k*sz->tl.length=css.length*sz ->
 Instr.fill (fun i=>some (i*sz,sz)) (pre++tl).toArray (css.zipIdx k |>.map fun p=>(p.2,Value.agg p.1.toArray))=some (pre++css.flatten).toArray
 | [],_,k,pre,tl,_,hl=>by
  have:tl=[]:=List.eq_nil_of_length_eq_zero (by simpa using hl);subst this;simp[Instr.fill]
 |c::css,h1,k,pre,tl,hp,hl=>by
  have hc:c.length=sz:=h1 c (by simp);have hl':tl.length=sz+css.length*sz:=by rw[hl,List.length_cons,Nat.add_mul];omega
  have ih:=xy css (fun v hv=>h1 v (by simp[hv])) (k+1) (pre++c) (tl.drop sz) (by rw[List.length_append,hp,hc,Nat.add_mul];omega) (by rw[List.length_drop];omega);simp only[List.zipIdx_cons,List.map_cons,Instr.fill,Value.cells];have htl:tl=tl.take sz++tl.drop sz:=(List.take_append_drop sz tl).symm;have hf:=Bi (off:=k*sz) c 0 pre (tl.take sz) (tl.drop sz) (by rw[hp];omega) (by rw[List.length_take];omega);rw[<-htl] at hf;have h2:¬(c.toArray.size≠sz\/k*sz+c.toArray.size>(pre++tl).toArray.size):=by simp;omega
  have hz:c.toArray.zipIdx.foldl (fun(cs:Array Value) (p:Value×Nat)=>cs.setIfInBounds (k*sz+p.2) p.1) (pre++tl).toArray=(pre++(c++tl.drop sz)).toArray:=by
   rw[<-hf];simp
  simp only[Bool.or_eq_true,decide_eq_true_eq,if_neg h2];rw[if_neg (by simpa using h2)];rw[hz,<-List.append_assoc,ih];simp
section
variable {P:Program}{ρ:Env}{h:aj}{dst:Option Nat}{ty:TypeId}{pos:String}{after:Array Edge}{guard:Option (Nat×Bool)}{X:List PanicEntry->aj->Prop}
theorem aT.kR {t e:TypeId}{size bytes len:Nat}{ps:Array (Nat×Operand)}(ht:P.underlying t=some (.slice e)) (he:dV P e size bytes) (css:List (List Value))
 (hps:ps.toList.map (fun p=>(p.1,aQ ρ p.2))=(css.zipIdx.map fun p=>(p.2,Value.agg p.1.toArray)).map (fun p=>(p.1,some p.2))) (hl:css.length=len) (hlen:len*size<=16777216) (h1:∀c∈css,c.length=size) :
 aT P ⟨dst,.buildSlice t len ps,ty,pos,after,guard⟩ ρ h (fun u g=>u= .slice (some ⟨h.size,0,none⟩) len len/\g=h.push (.cells css.flatten.toArray e)) X:=by
 refine aT.buildSlice ht he hps hlen fun z hz=>?_
 have:=xy css h1 0 [] ((List.range (len*size)).map (fun j=>z[j%z.size]!)) (by simp) (by simp[hl]);rw[List.nil_append,List.nil_append] at this;rw[<-this]
 congr 1
 apply Array.ext';simp
end
end Go.Lw
namespace Go.Lw
open Go.RowKit
section
variable {P:Program}{ρ:Env}{h:aj}{dst:Option Nat}{ty:TypeId}{pos:String}{after:Array Edge}{guard:Option (Nat×Bool)}
theorem ay.KU {t yt:TypeId}{x y:Operand}{a b:ByteArray}(hx:aQ ρ x=some (.string a)) (hy:aQ ρ y=some (.string b)) :
 ay P ⟨dst,.binOp .lss t x y yt,ty,pos,after,guard⟩ ρ h (.bool (Op.bytesLess a.data.toList b.data.toList)):=by
 intro _ B w' w hf _;simp[execOp,eqGuard,binOp,Op.stringOp,hf.eval hx,hf.eval hy,ByteArray.toList_eq]
end
theorem Ext.aW {M N:Nat->Prop}{a b c:aj}(e:Ext M a b) (x:Ext N b c) (hn:∀i,i<a.size->N i->M i):Ext M a c :=
 ⟨Nat.le_trans e.size x.size,fun i hi hm=>(x.block i (Nat.lt_of_lt_of_le hi e.size) (fun q=>hm (hn i hi q))).trans (e.block i hi hm)⟩
section
variable {P:Program}{ρ:Env}{h:aj}{dst:Option Nat}{ty:TypeId}{pos:String}{after:Array Edge}{guard:Option (Nat×Bool)}
theorem ay.EV {t e:TypeId}{n sz:Nat}{x y:Operand}{cs:Array Value}{k:IntKind}{j:Int}{ds:Array Value}(hu:P.underlying t=some (.array n e)) (hs:cq P e=some sz) (hr:aO P e=some true) (hx:aQ ρ x=some (.agg cs)) (hy:aQ ρ y=some (.int k j)) (i:Nat) (hj:j=i) (hi:i<n) (hv:cs.extract (i*sz) (i*sz+sz)=ds) :
 ay P ⟨dst,.index t x y,ty,pos,after,guard⟩ ρ h (.agg ds):=by
 intro _ B a w hf _;subst hj;simp[execOp,Instr.index,run_underlying hu,asIntOf,hf.eval hx,hf.eval hy,run_sizeOf hs,hi,part,jh hr,hv]
end
end Go.Lw
namespace Go.Lw
structure Nk (P:Program) (g:FuncId):Prop where
 ok:∃fn,P.funcs[g]? =some fn/\fn.body.isSome=true/\(fn.name == "runtime.NumGoroutine")=false
section
variable {P:Program}{ρ:Env}{h:aj}{dst:Option Nat}{ty:TypeId}{pos:String}{after:Array Edge}{guard:Option (Nat×Bool)}
theorem aT.MJ {x:Operand}{g:FuncId}{caps:List Value}{xs:Array Operand}{ts:Array TypeId}{vs:List Value}{Φ:Value->aj->Prop}{X:List PanicEntry->aj->Prop}(hx:aQ ρ x=some (.func (.func g) #[] caps.toArray))
 (hf0:Nk P g) (hvs:xs.toList.map (aQ ρ)=vs.map some) (k:av P g (vs++caps).toArray h (fun e h'=>match e with|.returned v=>Φ v h'|.panicked c=>X c h'|.outgrown=>False)) :
 aT P ⟨dst,.call ⟨.value x,xs,ts⟩,ty,pos,after,guard⟩ ρ h Φ X:=by
 obtain⟨fn,hfn,hb,hnm⟩:=hf0.ok;intro n B a w hf ha next Q hn hq
 have hargs:xs.map a.eval=vs.toArray:=by
  apply Array.ext'
  simp only[Array.toList_map]
  have:∀(l:List Operand) (us:List Value),l.map (aQ ρ)=us.map some->l.map a.eval=us:=by
   intro l
   induction l with
   |nil=>intro us hu;cases us<;>simp_all
   |cons x r ih =>
    intro us hu;cases us with
    |nil=>simp at hu
    |cons u us =>
     simp only[List.map_cons,List.cons.injEq] at hu ⊢;exact⟨hf.eval hu.1,ih us hu.2⟩
  exact this _ _ hvs
 have hrun:(execOp a.eval ⟨dst,.call ⟨.value x,xs,ts⟩,ty,pos,after,guard⟩).run P w= .ok (.enter g (vs++caps).toArray) w:=by
  have hb':fn.body≠none:=by intro hbb;simp[hbb] at hb
  have hnm':¬fn.name= "runtime.NumGoroutine" :=by simpa using hnm
  simp[execOp,resolve,hf.eval hx,Deferred.ofValue,invoke,callFunc,hfn,hnm',hb',hargs]
 unfold Oper.wp;rw[hrun];refine(k B w ha).mono fun e w' ⟨h',ha',hr⟩=>?_
 cases e with
 |returned v=>exact hn v h' w' ha' hr
 |panicked c=>exact hq c h' w' ha' hr
 |outgrown=>exact hr.elim
end
end Go.Lw

/- What the proof of the statement leans on (part 7). -/
import Derived.Lib.Builder
import Derived.Lib.AppendStr
import Derived.Lib.UnsafeStr
import Derived.Laws.Externs
import Derived.Laws.StructEq
import Derived.Test.YtckomlgchbkekaaGreatDoorQf

namespace Go.Lw
open Go.RowKit
section
variable {h:ai}{b:Nat}{t e:TypeId}{cs:List Value}{j:TypeInfo}{x:Operand}{v:Value}{l:List UInt8}
section
variable {P:Program}{ρ:Env}{h:ai}{dst:Option Nat}{ty:TypeId}{pos:String}{after:Array Edge}{guard:Option (Nat×Bool)}{X:List PanicEntry->ai->Prop}
theorem Af {B:World}{w:World}(ha:At B h w) (k:az h b t cs):w.shape? b=some (t,cs.length):=by
 unfold az at k;simp[World.shape?,ha.heap,k]
theorem an.sw {yt:TypeId}{y:Operand}{a:Addr}(hu:P.underlying t=some (.pointer e)) (hj:P.info? e=some j) (hx:aT ρ x=some (.pointer (some a))) (hy:aT ρ y=some (.pointer (some a))) :
 an P ⟨dst,.binOp .neq t x y yt,ty,pos,after,guard⟩ ρ h (.bool false):=by
 intro _ B w' w hf _;have:=Lib.run_neq_ptr_same (P:=P) w a hu hj;simp[execOp,eqGuard,hf.eval hx,hf.eval hy,this]
theorem an.zO {s d:TypeId}{o:Nat}(hs:P.underlying s=some (.pointer t)) (hd:P.underlying d=some .unsafePointer) (ht:P.info? t=some j) (hj:j.size≠0)
 (hk:az h b e cs) (ho:o<cs.length) (hx:aT ρ x=some (.pointer (some ⟨b,o,none⟩))):an P ⟨dst,.convert s d x,ty,pos,after,guard⟩ ρ h (.pointer (some ⟨b,o,none⟩)):=by
 intro _ B a w hf ha;have:=Lib.run_to_unsafe (P:=P) w ⟨b,o,none⟩ hs hd ht hj (Af ha hk) ho;simp only[execOp,hf.eval hx,Sem.run_bind,this,Result.andThen_ok,Sem.run_pure]
theorem an.s9 {s d u:TypeId}{o:Nat}(hs:P.underlying s=some .unsafePointer) (hd:P.underlying d=some (.pointer u)) (hu:P.info? u=some j)
 (hk:az h b e cs) (hl:liesAt P P.depth e (cs.length / P.cellsOf e) o u 1=true) (hx:aT ρ x=some (.pointer (some ⟨b,o,none⟩))):an P ⟨dst,.convert s d x,ty,pos,after,guard⟩ ρ h (.pointer (some ⟨b,o,none⟩)):=by
 intro _ B a w hf ha;have:=Lib.run_from_unsafe (P:=P) w ⟨b,o,none⟩ hs hd hu (Af ha hk) hl;simp only[execOp,hf.eval hx,Sem.run_bind,this,Result.andThen_ok,Sem.run_pure]
theorem an.AB {f:FuncId}{fn:Func}{ts:Array TypeId}(hf:P.funcs[f]? =some fn) (hname:(fn.name == "runtime.NumGoroutine")=false)
 (hb:fn.body.isNone=true) (hn:Extern.findNext fn=none) (he:Extern.find fn=some Extern.AbiNoEscape.same) (hx:aT ρ x=some v) :
 an P ⟨dst,.call ⟨.value (.func f),#[x],ts⟩,ty,pos,after,guard⟩ ρ h v:=by
 intro _ B a w hfit _;have hc:=run_callFunc_extern (P:=P) hf hname hb hn he #[v] w;rw[Lib.run_noEscape] at hc;simp only[execOp,resolve,Act.eval,Deferred.ofValue,invoke];simp[hfit.eval hx,hc]
theorem aH.wB {u:TypeId}{i:TypeInfo}{y:Operand}{s:ByteArray}{base:Nat}(ht:P.underlying t=some (.slice e)) (hu:P.underlying u=some .string) (hi:P.info? e=some i) (hz:i.zero=some (.int .u8 0))
 (hsize:i.size=1) (hby:i.bytes=1) (hx:aT ρ x=some v) (hy:aT ρ y=some (.string s)) (hown:FL h base e v l) (hl:l.length+s.size<=140737488355328) (hbase:base<=h.size) :
 aH P ⟨dst,.call ⟨.builtin .append,#[x,y],#[t,u]⟩,ty,pos,after,guard⟩ ρ h (fun v' h'=>FL h' base e v' (l++s.data.toList)/\Ext (b8 v.ownBlock) h h') X:=by
 intro nn B a w hf ha next Q hn _
 have hw:w.ownsRow base e 1 v l.length (l.map uM):=ha.own.2 hown;obtain⟨v',w',hr,hown',hg,_⟩:=Lib.run_append_own_string (P:=P) w base t u ty e i ht hu hi hz hsize hby v l.length (l.map uM) hw s (by simp only[maxLen];omega) hl (by rw[ha.heap];exact hbase)
 have hrun:(execOp a.eval ⟨dst,.call ⟨.builtin .append,#[x,y],#[t,u]⟩,ty,pos,after,guard⟩).run P w= .ok (.value v') w':=by
  simp[execOp,resolve,invoke,builtin,hf.eval hx,hf.eval hy,hr]
 unfold Oper.wp;rw[hrun];have hat:=ha.grown hg;refine hn v' w'.heap w' hat ⟨?_,by rw[<-ha.heap];exact ir hg⟩;have h2:=hat.own.1 hown'
 show ay _ _ _ _ _ _ _
 have e1:(l++s.data.toList).length=l.length+s.size:=by simp
 have e2:(l++s.data.toList).map uM=l.map uM++Lib.strCells s:=by simp[Lib.strCells,uM]
 rw[e1,e2];exact h2
def Seen (h:ai) (base:Nat) (e:TypeId) (q:Option Addr) (l:List UInt8):Prop :=
 l≠[]->∃g cur,q=some ⟨g,0,none⟩/\base<=g/\h[g]? =some (.cells cur e (0,0))/\l.length<=cur.size/\∀j x,l[j]? =some x->cellAt h ⟨g,j,none⟩=some (uM x)
theorem aH.vJ {base:Nat}(hp:P.underlying ty=some (.pointer e)) (hx:aT ρ x=some v) (hown:FL h base e v l) :
 aH P ⟨dst,.call ⟨.builtin .unsafeSliceData,#[x],#[t]⟩,ty,pos,after,guard⟩ ρ h (fun u h'=>(∃q,u= .pointer q/\Seen h' base e q l)/\ah h h') X:=by
 intro nn B a w hf ha next Q hn _
 have go:∀q w',(Builtin.unsafeSliceData_ #[t] ty #[v]).run P w= .ok (.pointer q) w'->At B w'.heap w'->Seen w'.heap base e q l->ah h w'.heap ->
  Oper.wp P ⟨dst,.call ⟨.builtin .unsafeSliceData,#[x],#[t]⟩,ty,pos,after,guard⟩ a w next Q:=by
  intro q w' hr hat hs he
  have hrun:(execOp a.eval ⟨dst,.call ⟨.builtin .unsafeSliceData,#[x],#[t]⟩,ty,pos,after,guard⟩).run P w= .ok (.value (.pointer q)) w':=by
   simp[execOp,resolve,invoke,builtin,hf.eval hx,hr]
  unfold Oper.wp;rw[hrun];exact hn _ _ _ hat ⟨⟨q,rfl,hs⟩,he⟩
 rcases hown.2 with ⟨rfl,h0⟩|⟨g,cap,cur,rfl,hb,hg,hnc,hc,hs,ht⟩
 · have hl:l=[]:=List.eq_nil_of_length_eq_zero h0;subst hl;exact go none w (Lib.run_unsafeSliceData_nil w _ _ _ _) (ha.heap▸ha) (fun k=>absurd rfl k) (by rw[ha.heap];exact av _ _)
 · by_cases hc0:cap=0
   · subst hc0;have hl:l=[]:=List.eq_nil_of_length_eq_zero (by omega);subst hl;have hsh:w.shape? g=some (e,cur.size):=by simp[World.shape?,ha.heap,hg]
     refine go _ _ (Lib.run_unsafeSliceData_zero w #[t] ty e hp ⟨g,0,none⟩ 0 _ hsh) ?_ (fun k=>absurd rfl k) ?_
     · exact⟨rfl,ha.os,ha.tape,ha.output⟩
     · show ah h (w.heap.push _)
       rw[ha.heap];exact Ext.push _ _ _
   · refine go _ w (Lib.run_unsafeSliceData_row w _ _ _ _ _ hc0) (ha.heap▸ha) ?_ (by rw[ha.heap];exact av _ _);rw[ha.heap];refine fun _=>⟨g,cur,rfl,hb,hg,by omega,fun j y hy=>?_⟩
     have hj:j<l.length:=(List.getElem?_eq_some_iff.1 hy).1;have h2:(l.map uM)[j]? =some (uM y):=by simp[hy]
     rw[<-ht,List.getElem?_take,if_pos (by omega)] at h2;simpa [cellAt,hg] using h2
theorem jE {pt it e:TypeId}{x y:Operand}{q:Option Addr}{l:List UInt8}{base:Nat}(hp:P.underlying pt=some (.pointer e)) (hc:P.cellsOf e=1) (hx:aT ρ x=some (.pointer q)) (hy:aT ρ y=some (.int .i64 l.length))
 (hs:Seen h base e q l) (hl:l.length<=140737488355328) :
 aH P ⟨dst,.call ⟨.builtin .unsafeString,#[x,y],#[pt,it]⟩,ty,pos,after,guard⟩ ρ h (fun u h'=>u= .string ⟨l.toArray⟩/\Ext (fun i=>base<=i) h h') X:=by
 intro nn B a w hf ha next Q hn _
 have go:∀w',(Builtin.unsafeString_ #[pt,it] ty #[.pointer q,.int .i64 l.length]).run P w= .ok (.string ⟨l.toArray⟩) w'->At B w'.heap w'->Ext (fun i=>base<=i) h w'.heap ->
  Oper.wp P ⟨dst,.call ⟨.builtin .unsafeString,#[x,y],#[pt,it]⟩,ty,pos,after,guard⟩ a w next Q:=by
  intro w' hr hat he
  have hrun:(execOp a.eval ⟨dst,.call ⟨.builtin .unsafeString,#[x,y],#[pt,it]⟩,ty,pos,after,guard⟩).run P w= .ok (.value (.string ⟨l.toArray⟩)) w':=by
   simp[execOp,resolve,invoke,builtin,hf.eval hx,hf.eval hy,hr]
  unfold Oper.wp;rw[hrun];exact hn _ _ _ hat ⟨rfl,he⟩
 by_cases h0:l=[]
 · subst h0;exact go w (Lib.run_unsafeString_none w pt it ty q) (ha.heap▸ha) (by rw[ha.heap];exact av _ _)
 · obtain⟨g,cur,rfl,hb,hg,hle,hcell⟩:=hs h0;have hsh:w.shape? g=some (e,cur.size):=by simp[World.shape?,ha.heap,hg]
   refine go _ (Lib.run_unsafeString_row w pt it ty e hp hc g cur.size hsh l h0 hle (by omega) (fun j z hz=>?_)) ?_ ?_
   · rw[ha.cell];have:=hcell j z hz;simpa [Addr.add_mid,uM] using this
   · refine⟨rfl,?_,?_,?_⟩<;>(unfold World.freeze;split)
     · exact ha.os
     · exact ha.os
     · exact ha.tape
     · exact ha.tape
     · exact ha.output
     · exact ha.output
   · unfold World.freeze;split
     · rw[ha.heap];exact av _ _
     · refine⟨by simp[ha.heap],fun i hi hm=>?_⟩;simp only;rw[Array.getElem?_modify,if_neg (by omega),ha.heap]
end
def iL (h:ai) (b:Nat) (T e:TypeId) (l:List UInt8):Prop :=
 ∃p v,az h b T [p,v]/\(p= .pointer none\/p= .pointer (some ⟨b,0,none⟩))/\FL h (b+1) e v l
theorem gU (o:FL h (b+1) e v l):∀g,b8 v.ownBlock g->b<g:=by
 intro g hg
 rcases o.2 with ⟨rfl,_⟩|⟨g',cap,cur,rfl,hb,_⟩
 · cases hg
 · have:g=g':=by simpa [b8,Value.ownBlock] using hg
   omega
theorem nF {T:TypeId}(k:az h b T [.pointer none,.slice none 0 0]):iL h b T e []:=⟨_,_,k,.inl rfl,bF.nil _ _ _ _⟩
end
end Go.Lw
namespace Go.Lw
section
variable {P:Program}{ρ:Env}{h:ai}{dst:Option Nat}{ty:TypeId}{pos:String}{after:Array Edge}{guard:Option (Nat×Bool)}
def sW:Value->Bool
 |.nilIface=>true
 |_=>false
theorem an.AG {t yt:TypeId}{ms:Array (String×TypeId)}{x:Operand}{v:Value}(hu:P.underlying t=some (.interface ms)) (hx:aT ρ x=some v) (hv:v= .nilIface\/∃tx vx,v= .iface tx vx) :
 an P ⟨dst,.binOp .neq t x (.const .nilIface) yt,ty,pos,after,guard⟩ ρ h (.bool (!sW v)):=by
 intro _ B a w hf _;have h1:∀d:Nat,(Op.equalIn (d+1) t .nilIface .nilIface).run P w= .ok true w:=fun d=>by simp[Op.equalIn,run_underlying hu]
 have h2:∀(d:Nat) tx vx,(Op.equalIn (d+1) t (.iface tx vx) .nilIface).run P w= .ok false w:=fun d tx vx=>by simp[Op.equalIn,run_underlying hu]
 have h3:a.eval (.const .nilIface)= .nilIface:=rfl
 rcases hv with rfl|⟨tx,vx,rfl⟩
 · simp[execOp,eqGuard,binOp,hf.eval hx,h3,Op.equal,Op.maxDepth,h1 9999,sW]
 · simp[execOp,eqGuard,binOp,hf.eval hx,h3,Op.equal,Op.maxDepth,h2 9999,sW]
end
def zH (P:Program) (h:ai) (name:String):Option (Array Value) :=
 (P.globalNamed name).bind fun g=>match h[g]? with|some (.cells cs _ _)=>some cs|_=>none
theorem zG (P:Program) (w:World) (name:String):w.var? P name=zH P w.heap name:=rfl
theorem BY {P:Program}{h h':ai}{name:String}{cs:Array Value}(e:ah h h') (k:zH P h name=some cs):zH P h' name=some cs:=by
 unfold zH at k ⊢;cases hg:P.globalNamed name with
 |none=>simp[hg] at k
 |some g =>
  simp only[hg,Option.bind_some] at k ⊢
  have hlt:g<h.size:=by
   rcases Nat.lt_or_ge g h.size with h1|h1
   · exact h1
   · rw[Array.getElem?_eq_none h1] at k;cases k
  rw[e.block g hlt (fun k=>k)];exact k
end Go.Lw
namespace Go.Lw
section
variable {xs ys:Array Value}{b:Bool}
section
variable {P:Program}{ρ:Env}{h:ai}{dst:Option Nat}{ty:TypeId}{pos:String}{after:Array Edge}{guard:Option (Nat×Bool)}
theorem an.yy {t yt:TypeId}{x y:Operand}(ht:P.underlying t=some (.struct (P.fieldsOf t))) (hp:P.stoodInHeld t=false) (hm:P.eqGuardType P.depth t=false)
 (hx:aT ρ x=some (.agg xs)) (hy:aT ρ y=some (.agg ys)) (heq:∀w,(Op.eqFields 9999 xs ys (P.fieldsOf t).toList).run P w= .ok b w) :
 an P ⟨dst,.binOp .eql t x y yt,ty,pos,after,guard⟩ ρ h (.bool b):=by
 intro _ B a w hf _;have h1:=run_eqGuard_agg (P:=P) w .eql t x y xs ys hm;have h2:=run_eql_struct (P:=P) w t xs ys;rw[run_equalIn_agg w 9999 t xs ys ht hp,heq w] at h2;simp[execOp,hf.eval hx,hf.eval hy,h1,h2]
theorem an.nh {t yt:TypeId}{x y:Operand}(ht:P.underlying t=some (.struct (P.fieldsOf t))) (hp:P.stoodInHeld t=false) (hm:P.eqGuardType P.depth t=false)
 (hx:aT ρ x=some (.agg xs)) (hy:aT ρ y=some (.agg ys)) (heq:∀w,(Op.eqFields 9999 xs ys (P.fieldsOf t).toList).run P w= .ok b w) :
 an P ⟨dst,.binOp .neq t x y yt,ty,pos,after,guard⟩ ρ h (.bool (!b)):=by
 intro _ B a w hf _;have h1:=run_eqGuard_agg (P:=P) w .neq t x y xs ys hm;have h2:=run_neq_struct (P:=P) w t xs ys;rw[run_equalIn_agg w 9999 t xs ys ht hp,heq w] at h2;simp[execOp,hf.eval hx,hf.eval hy,h1,h2]
theorem bN {d:Nat}{f:Field}{fs:List Field}{w:World}{u v:Value}{c:Bool}(hn:f.name≠ "_") (hr:aJ P f.type=some false) (hu:xs[f.offset]? =some u) (hv:ys[f.offset]? =some v)
 (he:(Op.equalIn d f.type u v).run P w= .ok b w) (hs:(Op.eqFields d xs ys fs).run P w= .ok c w):(Op.eqFields d xs ys (f::fs)).run P w= .ok (b && c) w:=by
 have p1:(part f.type xs f.offset).run P w= .ok u w:=by simp[part,fY hr,hu]
 have p2:(part f.type ys f.offset).run P w= .ok v w:=by simp[part,fY hr,hv]
 rw[Op.eqFields,if_pos hn];simp only[Sem.run_bind,p1,p2,he,Result.andThen_ok];cases b
 · simp
 · simpa using hs
end
end
end Go.Lw
namespace Go.Lw
section
variable {ρ:Env}{h:ai}{o:Oper}{v:Value}{d base:Nat}{α:Type}{O O':Nat->Prop}{t:TypeId}{cs:List Value}
def LJ (ρ:Env):Op->Option Value
 |.move x=>aT ρ x
 |.assign x=>aT ρ x
 |.extract x i=>match aT ρ x with|some (.tuple vs)=>vs[i]? |_=>none
 |.nilCheck x=>match aT ρ x with|some (.pointer (some a))=>some (.pointer (some a))|_=>none
 |.pick c x y=>match aT ρ c with|some (.bool true)=>aT ρ x|some (.bool false)=>aT ρ y|_=>none
 |.unOp .not _ x=>match aT ρ x with|some (.bool b)=>some (.bool (!b))|_=>none
 |.binOp op _ x y _=>match aT ρ x,aT ρ y with
  |some (.int k i),some (.int k' j)=>if k=k' then (match op with
   |.eql=>some (.bool (decide (i=j)))
   |.neq=>some (.bool (decide (¬i=j)))
   |.lss=>some (.bool (decide (i<j)))
   |.leq=>some (.bool (decide (i<=j)))
   |.gtr=>some (.bool (decide (j<i)))
   |.geq=>some (.bool (decide (j<=i)))
   |_=>none) else none
  |_,_=>none
 |_=>none
theorem tD {P:Program}(hv:LJ ρ o.op=some v):an P o ρ h v:=by
 obtain⟨dst,op,ty,pos,after,guard⟩:=o;simp only at hv;unfold LJ at hv;split at hv
 · exact aD hv
 · exact an.assign hv
 · split at hv
   · rename_i hx;exact an.extract hx hv
   · cases hv
 · split at hv
   · rename_i hx;cases hv;exact bh hx
   · cases hv
 · split at hv
   · rename_i hc;exact an.J0 hc hv
   · rename_i hc;exact an.DK hc hv
   · cases hv
 · split at hv
   · rename_i hx;cases hv;exact an.se hx
   · cases hv
 · split at hv
   · rename_i hx hy;split at hv
     · rename_i hk;subst hk;split at hv
       · cases hv;exact an.Hp hx hy
       · cases hv;exact an.KW hx hy
       · cases hv;exact zu hx hy
       · cases hv;exact Jt hx hy
       · cases hv;exact ri hx hy
       · cases hv;exact Ju hx hy
       · cases hv
     · cases hv
   · cases hv
 · cases hv
def keep:List Nat->Env->Option Env
 | [],_=>some []
 |i::r,ρ=>match ρ.at i with
  |some v=>match keep r ρ with
   |some e=>some ((i,v)::e)
   |none=>none
  |none=>none
theorem oe:∀(ns:List Nat){ρ ρ':Env},keep ns ρ=some ρ'->Sub ρ' ρ
 | [],ρ,ρ',h=>by cases h;trivial
 |i::r,ρ,ρ',h=>by
  rw[keep] at h;split at h
  · rename_i v hv;split at h
    · rename_i e he;cases h;exact⟨hv,oe r he⟩
    · cases h
  · cases h
section
variable {P:Program}{n:Nat}{ops:Array Oper}{i:Nat}{ρ ρ':Env}{h:ai}{N:Env->ai->Prop}{X:List PanicEntry->ai->Prop}
theorem xq (e:(nth ops.toList i,aK ops ρ o,o.dst,Nat.blt d n,LJ ρ o.op)=(some o,some true,some d,true,some v)) (next:RW P n ops (i+1) ((d,v)::ρ) h N X):RW P n ops i ρ h N X:=by
 simp only[Prod.mk.injEq] at e;exact RW.aB e.1 e.2.1 e.2.2.1 e.2.2.2.1 (tD e.2.2.2.2) next
theorem xp (e:(nth ops.toList i,aK ops ρ o,o.dst,Nat.blt d n)=(some o,some true,some d,true)) (k:an P o ρ h v) (next:RW P n ops (i+1) ((d,v)::ρ) h N X):RW P n ops i ρ h N X:=by
 simp only[Prod.mk.injEq] at e;exact RW.aB e.1 e.2.1 e.2.2.1 e.2.2.2 k next
theorem xo {Φ:Value->ai->Prop}(e:(nth ops.toList i,aK ops ρ o,o.dst,Nat.blt d n)=(some o,some true,some d,true)) (k:aH P o ρ h Φ X) (next:∀v h',Φ v h'->RW P n ops (i+1) ((d,v)::ρ) h' N X):RW P n ops i ρ h N X:=by
 simp only[Prod.mk.injEq] at e;exact RW.r9 e.1 e.2.1 e.2.2.1 e.2.2.2 k next
theorem xk (e:(nth ops.toList i,aK ops ρ o,o.dst,Nat.blt d n)=(some o,some false,some d,true)) (next:RW P n ops (i+1) ((d,undef)::ρ) h N X):RW P n ops i ρ h N X:=by
 simp only[Prod.mk.injEq] at e;exact RW.mG e.1 e.2.1 e.2.2.1 e.2.2.2 next
end
section
variable {P:Program}{n:Nat}{ops:Array Oper}{i:Nat}{f:FuncId}{fn:Func}{k:List It}{ρ ρ':Env}{h:ai}{R:Ending->ai->Prop}{X:List PanicEntry->ai->Prop}{p:List Nat}
theorem xu (ns:List Nat) (e:keep ns ρ=some ρ') (next:G P f fn k ρ' h R):G P f fn k ρ h R:=G.sub (oe ns e) next
theorem xd (ns:List Nat) (e:(Nat.ble ops.size i,keep ns ρ)=(true,some ρ')) (next:G P f fn k ρ' h R):RW P n ops i ρ h (fun ρ' h'=>G P f fn k ρ' h' R) X:=by
 simp only[Prod.mk.injEq] at e;exact eH e.1 (G.sub (oe ns e.2) next)
theorem xr (hfn:P.funcs[f]? =some fn) (e:(kind (Lw.sub (aq fn) p),kind (Lw.sub (aq fn) (0::p)))=(1,5))
 (next:RW P fn.ntmps (opsOf (Lw.sub (aq fn) (0::p))) 0 ρ h (fun ρ' h'=>G P f fn (.code (1::p)::k) ρ' h' R) (fun ch h'=>R (.panicked ch) h')):G P f fn (.code p::k) ρ h R:=by
 simp only[Prod.mk.injEq] at e;exact G.seq e.1 (G.eE hfn e.2 next)
end
def xw (n:Nat) (ops:Array Oper):Nat->Nat->Env->Option Env
 | 0,_,ρ=>some ρ
 |k+1,i,ρ=>match nth ops.toList i with
  |some o=>match o.dst with
   |some d=>match Nat.blt d n with
    |true=>match aK ops ρ o with
     |some true=>match LJ ρ o.op with
      |some v=>xw n ops k (i+1) ((d,v)::ρ)
      |none=>none
     |some false=>xw n ops k (i+1) ((d,undef)::ρ)
     |none=>none
    |false=>none
   |none=>none
  |none=>none
section
variable {P:Program}{n:Nat}{ops:Array Oper}{ρ':Env}{h:ai}{N:Env->ai->Prop}{X:List PanicEntry->ai->Prop}
theorem oH:∀(k:Nat){i:Nat}{ρ:Env}(_:xw n ops k i ρ=some ρ') (_:RW P n ops (i+k) ρ' h N X),RW P n ops i ρ h N X
 | 0,i,ρ,e,next=>by cases e;exact next
 |k+1,i,ρ,e,next=>by
  rw[xw] at e;split at e
  · rename_i o ho;split at e
    · rename_i d hd;split at e
      · rename_i hb;split at e
        · rename_i hw;split at e
          · rename_i v hv;exact RW.aB ho hw hd hb (tD hv) (oH k e (by rw[Nat.add_assoc,Nat.add_comm 1 k];exact next))
          · cases e
        · rename_i hw;exact RW.mG ho hw hd hb (oH k e (by rw[Nat.add_assoc,Nat.add_comm 1 k];exact next))
        · cases e
      · cases e
    · cases e
  · cases e
theorem Oj (k:Nat){i:Nat}(e1:xw n ops k i ρ=some ρ') (e:(nth ops.toList (i+k),aK ops ρ' o,o.dst,Nat.blt d n)=(some o,some true,some d,true)) (q:an P o ρ' h v)
 (next:RW P n ops (i+k+1) ((d,v)::ρ') h N X):RW P n ops i ρ h N X:=oH k e1 (xp e q next)
end
def yd (ops:Array Oper) (i:Nat) (ns:List Nat):Option Env->Option Env
 |some ρ=>match Nat.ble ops.size i with
  |true=>keep ns ρ
  |false=>none
 |none=>none
section
variable {P:Program}{n:Nat}{ops:Array Oper}{i:Nat}{f:FuncId}{fn:Func}{k:List It}{ρ ρ':Env}{h:ai}{R:Ending->ai->Prop}{X:List PanicEntry->ai->Prop}{p:List Nat}
theorem uv (m:Nat) (ns:List Nat) (e:yd ops (i+m) ns (xw n ops m i ρ)=some ρ') (next:G P f fn k ρ' h R):RW P n ops i ρ h (fun ρ' h'=>G P f fn k ρ' h' R) X:=by
 unfold yd at e;split at e
 · rename_i r hr;split at e
   · rename_i hb;exact oH m hr (eH hb (G.sub (oe ns e) next))
   · cases e
 · cases e
theorem Ma (hfn:P.funcs[f]? =some fn) (m:Nat) (e:(kind (Lw.sub (aq fn) p),kind (Lw.sub (aq fn) (0::p)),xw fn.ntmps (opsOf (Lw.sub (aq fn) (0::p))) m 0 ρ)=(1,5,some ρ'))
 (next:RW P fn.ntmps (opsOf (Lw.sub (aq fn) (0::p))) (0+m) ρ' h (fun ρ' h'=>G P f fn (.code (1::p)::k) ρ' h' R) (fun ch h'=>R (.panicked ch) h')):G P f fn (.code p::k) ρ h R:=by
 simp only[Prod.mk.injEq] at e;exact G.seq e.1 (G.eE hfn e.2.1 (oH m e.2.2 next))
theorem L9 (hfn:P.funcs[f]? =some fn) (m:Nat) (ns:List Nat) (e:(kind (Lw.sub (aq fn) p),kind (Lw.sub (aq fn) (0::p)),yd (opsOf (Lw.sub (aq fn) (0::p))) (0+m) ns (xw fn.ntmps (opsOf (Lw.sub (aq fn) (0::p))) m 0 ρ))=(1,5,some ρ'))
 (next:G P f fn (.code (1::p)::k) ρ' h R):G P f fn (.code p::k) ρ h R:=by
 simp only[Prod.mk.injEq] at e;exact G.seq e.1 (G.eE hfn e.2.1 (uv m ns e.2.2 next))
end
def la (n m:Nat):Array Bool:=((List.range n).map fun i=>m.testBit i).toArray
def Om (ops:Array Oper) (keeps:Nat->Bool) (listed:Array Bool) (i:Nat) (l':Array Bool):Bool:=Region.noSelect ops && (qh ops keeps listed i && ((Region.ready .any ops listed).contains i && decide (listed.setIfInBounds i true=l')))
def okO (ops:Array Oper) (listed:Array Bool) (i:Nat) (l':Array Bool):Bool:=decide (Region.ready .any ops listed=[i]) && decide (listed.setIfInBounds i true=l')
section
variable {P:Program}{n:Nat}{ops:Array Oper}{M:Nat->Prop}{keeps:Nat->Bool}{fuel:Nat}{listed:Array Bool}{ρ:Env}{h:ai}{N:Env->ai->Prop}{X:List PanicEntry->ai->Prop}
theorem Ig (i m:Nat) (hk:Om ops keeps listed i (la ops.size m)=true) (e:(nth ops.toList i,aK ops ρ o,o.dst,Nat.blt d n)=(some o,some true,some d,true)) (k:∀h',Ext M h h'->an P o ρ h' v)
 (next:RD P n ops M keeps fuel (la ops.size m) ((d,v)::ρ) h N X):RD P n ops M keeps (fuel+1) listed ρ h N X:=by
 simp only[Prod.mk.injEq] at e;simp only[Om,Bool.and_eq_true,decide_eq_true_eq] at hk;exact RD.FY i e.1 hk.1 hk.2.1 hk.2.2.1 e.2.1 e.2.2.1 e.2.2.2 k hk.2.2.2 next
theorem BT (i m:Nat) (hk:Om ops keeps listed i (la ops.size m)=true) (e:(nth ops.toList i,aK ops ρ o,o.dst,Nat.blt d n,LJ ρ o.op)=(some o,some true,some d,true,some v))
 (next:RD P n ops M keeps fuel (la ops.size m) ((d,v)::ρ) h N X):RD P n ops M keeps (fuel+1) listed ρ h N X:=by
 simp only[Prod.mk.injEq] at e;simp only[Om,Bool.and_eq_true,decide_eq_true_eq] at hk;exact RD.FY i e.1 hk.1 hk.2.1 hk.2.2.1 e.2.1 e.2.2.1 e.2.2.2.1 (fun _ _=>tD e.2.2.2.2) hk.2.2.2 next
theorem LC (i m:Nat){Φ:Value->ai->Prop}(hk:okO ops listed i (la ops.size m)=true) (e:(nth ops.toList i,aK ops ρ o,o.dst,Nat.blt d n)=(some o,some true,some d,true)) (k:aH P o ρ h Φ X)
 (next:∀v h',Φ v h'->(keeps i=true->Ext M h h')/\RD P n ops M keeps fuel (la ops.size m) ((d,v)::ρ) h' N X):RD P n ops M keeps (fuel+1) listed ρ h N X:=by
 simp only[Prod.mk.injEq] at e;simp only[okO,Bool.and_eq_true,decide_eq_true_eq] at hk;exact RD.MU i e.1 hk.1 e.2.1 e.2.2.1 e.2.2.2 k hk.2 next
end
theorem sb {ρ':Env}(h:ρ'.map (fun p=>ρ.at p.1)=ρ'.map fun p=>some p.2):Sub ρ' ρ:=by
 induction ρ' with
 |nil=>trivial
 |cons p r ih =>
  simp only[List.map_cons,List.cons.injEq] at h;exact⟨h.1,ih h.2⟩
def eY {α:Type}(e:fS α) (O:Nat->Prop) (h:ai) (base:Nat) (t:TypeId) (v:Value) (xs:List α):Prop :=
 ∃css:List (List Value),css.length=xs.length/\ay h base t e.sz v xs.length css.flatten/\∀(i:Nat) (cs:List Value) (x:α),css[i]? =some cs->xs[i]? =some x->e.R h (fun b=>b8 v.ownBlock b\/O b) cs x
theorem eY.nil {α:Type}(e:fS α) (O:Nat->Prop) (h:ai) (base:Nat) (t:TypeId):eY e O h base t (.slice none 0 0) [] :=
 ⟨[],rfl,ay.nil h base t e.sz,fun i cs x h1=>by simp at h1⟩
theorem eY.own {e:fS α}{xs:List α}(k:eY e O h base t v xs):∃cells,ay h base t e.sz v xs.length cells:=by
 obtain⟨css,_,h1,_⟩:=k;exact⟨_,h1⟩
theorem eY.mv {α:Type}{e:fS α}{O O':Nat->Prop}{h h':ai}{base:Nat}{t:TypeId}{v:Value}{xs:List α}(k:eY e O h base t v xs) (x:Ext O h h') (hb:∀b,base<=b->¬O b) (hO:∀b,b<h.size->O' b->O b):eY e O' h' base t v xs:=by
 obtain⟨css,h1,h2,h3⟩:=k;have h4:∀b,v.ownBlock=some b->¬O b:=fun b hv=>hb b (h2.lt hv).1
 refine⟨css,h1,h2.ext x h4,fun i cs y hc hy=>e.mv (h3 i cs y hc hy) ⟨x.size,fun b hlt hn=>⟨x.block b hlt (fun k=>hn (.inr k)),fun k=>hn (k.imp id (hO b hlt))⟩⟩⟩
theorem eY.af {α:Type}{e:fS α}{O:Nat->Prop}{h h':ai}{base:Nat}{t:TypeId}{v:Value}{xs:List α}(k:eY e O h base t v xs) (x:ah h h'):eY e O h' base t v xs:=by
 obtain⟨css,h1,h2,h3⟩:=k;exact⟨css,h1,h2.ext x (fun _ _ k=>k),fun i cs y hc hy=>e.mv (h3 i cs y hc hy) (Mv.af x)⟩
theorem eY.mZ {e:fS α}{h':ai}{v':Value}{xs:List α}{y:α}{css:List (List Value)}(h1:css.length=xs.length)
 (h3:∀(i:Nat) (cs:List Value) (x:α),css[i]? =some cs->xs[i]? =some x->e.R h (fun b=>b8 v.ownBlock b\/O b) cs x) (ho:ay h' base t e.sz v' (xs.length+1) (css.flatten++cs))
 (hx:Ext (b8 v.ownBlock) h h') (hv:∀b,v'.ownBlock=some b->v.ownBlock=some b\/h.size<=b) (hy:e.R h (fun b=>b8 v.ownBlock b\/O b) cs y):eY e O h' base t v' (xs++[y]):=by
 have hm:Mv (fun b=>b8 v.ownBlock b\/O b) (fun b=>b8 v'.ownBlock b\/O b) h h':=⟨hx.size,fun b hlt hnb=>⟨hx.block b hlt (fun k=>hnb (.inl k)),fun k=>by
  rcases k with k|k
  · rcases hv b k.symm with k'|k'
    · exact hnb (.inl k'.symm)
    · omega
  · exact hnb (.inr k)⟩⟩
 refine⟨css++[cs],by simp[h1],by simpa using ho,fun i cs' y' hc' hy'=>?_⟩
 rcases Nat.lt_or_ge i xs.length with hi|hi
 · rw[List.getElem?_append_left (by omega)] at hc' hy';exact e.mv (h3 i cs' y' hc' hy') hm
 · rw[List.getElem?_append_right (by omega)] at hc' hy';rw[h1] at hc';cases hj:i-xs.length with
   |zero=>rw[hj] at hc' hy';simp at hc' hy';subst hc' hy';exact e.mv hy hm
   |succ j=>rw[hj] at hy';simp at hy'
theorem eY.mM {e:fS α}{x:α}(k:e.R h O cs x) (hb:base<=h.size):eY e O (h.push (.cells cs.toArray t)) base t (.slice (some ⟨h.size,0,none⟩) 1 1) [x]:=by
 have hl:=e.len k;refine⟨[cs],rfl,⟨by simp[hl],.inr ⟨h.size,1,cs.toArray,rfl,hb,by simp,Nat.le_refl _,by simp[maxLen],by simp[hl],by simp[<-hl]⟩⟩,fun i cs' y hc hy=>?_⟩;cases i with
 |zero =>
  simp at hc hy;subst hc hy
  exact e.mv k ⟨by simp,fun b hb' ho=>⟨(Ext.push (fun _=>False) h _).block b hb' (fun k=>k),fun k=>by
   rcases k with k|k
   · simp[b8,Value.ownBlock] at k;omega
   · exact ho k⟩⟩
 |succ i=>simp at hy
theorem jY {α:Type}{sz:Nat}:∀(css:List (List α)) (i:Nat) (cs:List α) (j:Nat) (v:α),(∀c∈css,c.length=sz)->css[i]? =some cs->cs[j]? =some v->css.flatten[i*sz+j]? =some v
 | [],i,cs,j,v,_,hx,_=>by simp at hx
 |c::css,0,cs,j,v,_,hx,hv=>by
  simp at hx;subst hx;have:j<c.length:=(List.getElem?_eq_some_iff.1 hv).1;rw[List.flatten_cons,Nat.zero_mul,Nat.zero_add,List.getElem?_append_left this];exact hv
 |c::css,i+1,cs,j,v,hl,hx,hv=>by
  have h0:c.length=sz:=hl c (by simp);rw[List.flatten_cons,List.getElem?_append_right (by rw[h0,Nat.add_mul];omega),h0];have:(i+1)*sz+j-sz=i*sz+j:=by rw[Nat.add_mul];omega
  rw[this];exact jY css i cs j v (fun c hc=>hl c (by simp[hc])) (by simpa using hx) hv
theorem eY.read {e:fS α}{xs:List α}(k:eY e O h base t v xs) (ho:∀b,base<=b->¬O' b) (hO:∀b,b<h.size->O' b->O b):aR e h O' v xs:=by
 obtain⟨css,h1,h2,h3⟩:=k;have hm:Mv (fun b=>b8 v.ownBlock b\/O b) O' h h:=⟨Nat.le_refl _,fun b hb hn=>⟨rfl,fun k=>hn (.inr (hO b hb k))⟩⟩
 have hlen:∀c∈css,c.length=e.sz:=fun c hc=>by
  obtain⟨i,hi⟩:=List.getElem?_of_mem hc;have hlt:i<xs.length:=by rw[<-h1];exact(List.getElem?_eq_some_iff.1 hi).1
  exact e.len (h3 i c xs[i] hi (List.getElem?_eq_getElem hlt))
 rcases h2.2 with ⟨rfl,hn0⟩|⟨g,cap,cur,rfl,hb,hg,hnc,hc,hs,ht⟩
 · exact⟨none,0,0,rfl,hn0,Nat.le_refl _,by simp[maxLen],fun i x hx=>by
    have:xs=[]:=List.eq_nil_of_length_eq_zero hn0;subst this;simp at hx⟩
 · refine⟨some ⟨g,0,none⟩,xs.length,cap,rfl,rfl,hnc,hc,fun i x hx=>?_⟩;have hlt:i<css.length:=by rw[h1];exact(List.getElem?_eq_some_iff.1 hx).1
   refine⟨g,0,css[i],rfl,ho g hb,?_,e.mv (h3 i _ x (List.getElem?_eq_getElem hlt) hx) hm⟩;intro j u hj;have h4:=jY css i css[i] j u hlen (List.getElem?_eq_getElem hlt) hj;rw[<-ht,List.getElem?_take] at h4;split at h4
   · have h5:cur[i*e.sz+j]? =some u:=by simpa using h4
     simpa [cellAt,hg,Nat.add_assoc] using h5
   · cases h4
theorem aR.mM {e:fS α}{x:α}(k:e.R h O cs x) (ho:¬O h.size):aR e (h.push (.cells cs.toArray t)) O (.slice (some ⟨h.size,0,none⟩) 1 1) [x] :=
 ⟨_,1,1,rfl,rfl,Nat.le_refl _,by simp[maxLen],fun i y hy=>by
  cases i with
  |zero =>
   simp at hy;subst hy;refine⟨h.size,0,cs,rfl,ho,?_,e.mv k (Mv.af (Ext.push _ _ _))⟩;simpa using fJ h cs t
  |succ i=>simp at hy⟩
theorem eY.EO {e:fS α}{M:Nat->Prop}{h':ai}{xs:List α}(k:eY e O h base t v xs) (x:Ext M h h') (hown:∀b,v.ownBlock=some b->¬M b) (hM:∀b,b<h.size->M b->O b) (hO:∀b,b<h.size->O' b->O b):eY e O' h' base t v xs:=by
 obtain⟨css,h1,h2,h3⟩:=k;refine⟨css,h1,h2.ext x hown,fun i cs y hc hy=>e.mv (h3 i cs y hc hy) ⟨x.size,fun b hlt hn=>⟨x.block b hlt (fun k=>hn (.inr (hM b hlt k))),fun k=>hn (k.imp id (hO b hlt))⟩⟩⟩
theorem eY.Gp {e:fS α}{xs:List α}(k:eY e O h base t v xs) (ho:∀b,v.ownBlock=some b->¬O' b) (hO:∀b,b<h.size->O' b->O b):aR e h O' v xs:=by
 obtain⟨css,h1,h2,h3⟩:=k;have hm:Mv (fun b=>b8 v.ownBlock b\/O b) O' h h:=⟨Nat.le_refl _,fun b hb hn=>⟨rfl,fun k=>hn (.inr (hO b hb k))⟩⟩
 have hlen:∀c∈css,c.length=e.sz:=fun c hc=>by
  obtain⟨i,hi⟩:=List.getElem?_of_mem hc;have hlt:i<xs.length:=by rw[<-h1];exact(List.getElem?_eq_some_iff.1 hi).1
  exact e.len (h3 i c xs[i] hi (List.getElem?_eq_getElem hlt))
 rcases h2.2 with ⟨rfl,hn0⟩|⟨g,cap,cur,rfl,hb,hg,hnc,hc,hs,ht⟩
 · exact⟨none,0,0,rfl,hn0,Nat.le_refl _,by simp[maxLen],fun i x hx=>by
    have:xs=[]:=List.eq_nil_of_length_eq_zero hn0;subst this;simp at hx⟩
 · refine⟨some ⟨g,0,none⟩,xs.length,cap,rfl,rfl,hnc,hc,fun i x hx=>?_⟩;have hlt:i<css.length:=by rw[h1];exact(List.getElem?_eq_some_iff.1 hx).1
   refine⟨g,0,css[i],rfl,ho g rfl,?_,e.mv (h3 i _ x (List.getElem?_eq_getElem hlt) hx) hm⟩;intro j u hj;have h4:=jY css i css[i] j u hlen (List.getElem?_eq_getElem hlt) hj;rw[<-ht,List.getElem?_take] at h4;split at h4
   · have h5:cur[i*e.sz+j]? =some u:=by simpa using h4
     simpa [cellAt,hg,Nat.add_assoc] using h5
   · cases h4
end
end Go.Lw
namespace Go.Lw
theorem ay.DY {h h':ai}{base:Nat}{t:TypeId}{size:Nat}{v:Value}{n:Nat}{xs:List Value}(k:ay h base t size v n xs) (e:ah h h'):ay h' base t size v n xs:=ay.ext e k (fun _ _ k=>k)
end Go.Lw
namespace Go.Lw
theorem lP {α:Type}{sz:Nat}:∀(css:List (List α)) (i:Nat) (cs:List α) (o:Nat) (u:α),(∀c∈css,c.length=sz)->css[i]? =some cs->o<sz->(css.set i (cs.set o u)).flatten=css.flatten.set (i*sz+o) u
 | [],i,cs,o,u,_,hx,_=>by simp at hx
 |c::css,0,cs,o,u,hl,hx,ho=>by
  simp at hx;subst hx;have h0:c.length=sz:=hl c (by simp);rw[List.set_cons_zero,List.flatten_cons,List.flatten_cons,Nat.zero_mul,Nat.zero_add,List.set_append_left _ _ (by omega)]
 |c::css,i+1,cs,o,u,hl,hx,ho=>by
  have h0:c.length=sz:=hl c (by simp);have hge:c.length<=(i+1)*sz+o:=by rw[h0,Nat.add_mul];omega
  rw[List.set_cons_succ,List.flatten_cons,List.flatten_cons,List.set_append_right _ _ hge,h0];have:(i+1)*sz+o-sz=i*sz+o:=by rw[Nat.add_mul];omega
  rw[this,lP css i cs o u (fun c hc=>hl c (by simp[hc])) (by simpa using hx) ho]
theorem eY.put {α:Type}{e:fS α}{O:Nat->Prop}{h:ai}{base:Nat}{t:TypeId}{v:Value}{xs:List α}(k:eY e O h base t v xs){i:Nat}{x:α}(hx:xs[i]? =some x) :
 ∃g c cs,v= .slice (some ⟨g,0,none⟩) xs.length c/\base<=g/\g<h.size/\Lw.rowAt h g (0+i*e.sz) cs/\(∀o,frozenAt h ⟨g,o,none⟩=false)/\e.R h (fun b=>b8 v.ownBlock b\/O b) cs x /\
  ∀(o:Nat) (u:Value) (y:α),o<e.sz->e.R h (fun b=>b8 v.ownBlock b\/O b) (cs.set o u) y->eY e O (dD h ⟨g,0+i*e.sz+o,none⟩ u) base t v (xs.set i y):=by
 obtain⟨css,h1,h2,h3⟩:=k;have hi:i<xs.length:=(List.getElem?_eq_some_iff.1 hx).1
 have hlen:∀c∈css,c.length=e.sz:=fun c hc=>by
  obtain⟨j,hj⟩:=List.getElem?_of_mem hc;have hlt:j<xs.length:=by rw[<-h1];exact(List.getElem?_eq_some_iff.1 hj).1
  exact e.len (h3 j c xs[j] hj (List.getElem?_eq_getElem hlt))
 rcases h2.2 with ⟨_,hn0⟩|⟨g,cap,cur,rfl,hb,hg,hnc,hc,hs,ht⟩
 · omega
 have hic:i<css.length:=by omega
 have hcs:css[i]? =some css[i]:=List.getElem?_eq_getElem hic;refine⟨g,cap,css[i],rfl,hb,(Array.getElem?_eq_some_iff.1 hg).1,?_,fun o=>by simp[frozenAt,hg],h3 i _ x hcs hx,fun o u y ho hy=>?_⟩
 · intro j w hj;have h4:=jY css i css[i] j w hlen hcs hj;rw[<-ht,List.getElem?_take] at h4;split at h4
   · have h5:cur[i*e.sz+j]? =some w:=by simpa using h4
     simpa [cellAt,hg] using h5
   · cases h4
 · have hm:Mv (fun b=>b8 (Value.slice (some ⟨g,0,none⟩) xs.length cap).ownBlock b\/O b) (fun b=>b8 (Value.slice (some ⟨g,0,none⟩) xs.length cap).ownBlock b\/O b) h (dD h ⟨g,0+i*e.sz+o,none⟩ u) :=
    ⟨by rw[iz];exact Nat.le_refl _,fun b hlt hnb=>⟨(Ext.dD (M:=fun b=>b=g) h _ u rfl).block b hlt (fun k=>hnb (.inl (by subst k;rfl))),hnb⟩⟩
   refine⟨css.set i (css[i].set o u),by simp[h1],⟨?_,.inr ⟨g,cap,cur.setIfInBounds (0+i*e.sz+o) u,by simp,hb,rK hg u,by simpa using hnc,hc,by simpa using hs,?_⟩⟩,fun j cs' y' hc' hy'=>?_⟩
   · rw[lP css i _ o u hlen hcs ho,List.length_set,List.length_set];exact h2.1
   · rw[lP css i _ o u hlen hcs ho,Array.toList_setIfInBounds,List.take_set,List.length_set,ht,Nat.zero_add]
   · rcases Nat.decEq i j with hne|rfl
     · rw[List.getElem?_set_ne hne] at hc' hy';exact e.mv (h3 j cs' y' hc' hy') hm
     · rw[List.getElem?_set_self hic] at hc';rw[List.getElem?_set_self hi] at hy';cases hc';cases hy';exact e.mv hy hm
end Go.Lw
namespace Go.Lw
theorem aH.nX {P:Program}{ρ:Env}{h:ai}{dst:Option Nat}{ty:TypeId}{pos:String}{after:Array Edge}{guard:Option (Nat×Bool)}{X:List PanicEntry->ai->Prop}{t e:TypeId}{bytes n:Nat}{x y:Operand}{kl kc:IntKind}{z:Value}
 (ht:P.underlying t=some (.slice e)) (he:cD P e 1 bytes) (hz:(P.info? e).bind (·.zero)=some z) (hx:aT ρ x=some (.int kl (n:Nat))) (hy:aT ρ y=some (.int kc (n:Nat))) (hzc:z.cells= #[z]) (hn:n<=1000000000) (hb:bytes<=1000) :
 aH P ⟨dst,.makeSlice t x y,ty,pos,after,guard⟩ ρ h (fun u g=>u= .slice (some ⟨h.size,0,none⟩) n n/\ay g h.size e 1 u n (List.replicate n z)/\ah h g) X:=by
 obtain⟨⟨i,z',hi,hz',hsz,hby,hzs⟩,_⟩:=he;have hzz:z'=z:=by rw[hi] at hz;simpa [hz'] using hz
 subst hzz;intro nn B a w hf ha next Q hnx _
 have hmul:i.bytes*n<=1000*1000000000:=Nat.mul_le_mul (by omega) hn;obtain⟨w',hr,h2,h3⟩:=run_make_full (P:=P) w h.size t e i z' 1 ht hi hz' hsz kl kc n (by omega) (by simp only[maxLen];omega) (by rw[ha.heap];exact Nat.le_refl _);unfold Oper.wp execOp;simp only[hf.eval hx,hf.eval hy,Sem.run_bind,Sem.run_pure,Result.andThen_ok,hr];refine hnx _ w'.heap w' (ha.grown h3) ⟨by rw[ha.heap],?_,?_⟩
 · have h4:=(At.own (ha.grown h3)).1 h2
   have:(madeCells z'.cells (n*1)).toList=List.replicate n z':=by
    rw[hzc,madeCells,Nat.mul_one]
    apply List.ext_getElem
    · simp
    · intro j h1 h2;simp[Nat.mod_one]
   rw[this] at h4;exact h4
 · have h5:=ir h3;rw[ha.heap] at h5;exact fO h5
end Go.Lw

/- What the proof of the statement leans on (part 7). -/
import Derived.Lib.Builder
import Derived.Lib.AppendStr
import Derived.Lib.UnsafeStr
import Derived.Laws.Externs
import Derived.Laws.StructEq
import Derived.Test.YtdihgdeciopfpaaGreatDoorQf

namespace Go.Lw
open Go.RowKit
section
variable {h:aj}{b:Nat}{t e:TypeId}{cs:List Value}{j:TypeInfo}{x:Operand}{v:Value}{l:List UInt8}
section
variable {P:Program}{ρ:Env}{h:aj}{dst:Option Nat}{ty:TypeId}{pos:String}{after:Array Edge}{guard:Option (Nat×Bool)}{X:List PanicEntry->aj->Prop}
theorem B0 {B:World}{w:World}(ha:At B h w) (k:aH h b t cs):w.shape? b=some (t,cs.length):=by
 unfold aH at k;simp[World.shape?,ha.heap,k]
theorem ai.vv {yt:TypeId}{y:Operand}{a:Addr}(hu:P.underlying t=some (.pointer e)) (hj:P.info? e=some j) (hx:aU ρ x=some (.pointer (some a))) (hy:aU ρ y=some (.pointer (some a))) :
 ai P ⟨dst,.binOp .neq t x y yt,ty,pos,after,guard⟩ ρ h (.bool false):=by
 intro _ B w' w hf _;have:=Lib.run_neq_ptr_same (P:=P) w a hu hj;simp[execOp,eqGuard,hf.eval hx,hf.eval hy,this]
theorem ai.BE {s d:TypeId}{o:Nat}(hs:P.underlying s=some (.pointer t)) (hd:P.underlying d=some .unsafePointer) (ht:P.info? t=some j) (hj:j.size≠0)
 (hk:aH h b e cs) (ho:o<cs.length) (hx:aU ρ x=some (.pointer (some ⟨b,o,none⟩))):ai P ⟨dst,.convert s d x,ty,pos,after,guard⟩ ρ h (.pointer (some ⟨b,o,none⟩)):=by
 intro _ B a w hf ha;have:=Lib.run_to_unsafe (P:=P) w ⟨b,o,none⟩ hs hd ht hj (B0 ha hk) ho;simp only[execOp,hf.eval hx,Sem.run_bind,this,Result.andThen_ok,Sem.run_pure]
theorem ai.vX {s d u:TypeId}{o:Nat}(hs:P.underlying s=some .unsafePointer) (hd:P.underlying d=some (.pointer u)) (hu:P.info? u=some j)
 (hk:aH h b e cs) (hl:liesAt P P.depth e (cs.length / P.cellsOf e) o u 1=true) (hx:aU ρ x=some (.pointer (some ⟨b,o,none⟩))):ai P ⟨dst,.convert s d x,ty,pos,after,guard⟩ ρ h (.pointer (some ⟨b,o,none⟩)):=by
 intro _ B a w hf ha;have:=Lib.run_from_unsafe (P:=P) w ⟨b,o,none⟩ hs hd hu (B0 ha hk) hl;simp only[execOp,hf.eval hx,Sem.run_bind,this,Result.andThen_ok,Sem.run_pure]
theorem ai.Ck {f:FuncId}{fn:Func}{ts:Array TypeId}(hf:P.funcs[f]? =some fn) (hname:(fn.name == "runtime.NumGoroutine")=false)
 (hb:fn.body.isNone=true) (hn:Extern.findNext fn=none) (he:Extern.find fn=some Extern.AbiNoEscape.same) (hx:aU ρ x=some v) :
 ai P ⟨dst,.call ⟨.value (.func f),#[x],ts⟩,ty,pos,after,guard⟩ ρ h v:=by
 intro _ B a w hfit _;have hc:=run_callFunc_extern (P:=P) hf hname hb hn he #[v] w;rw[Lib.run_noEscape] at hc;simp only[execOp,resolve,Act.eval,Deferred.ofValue,invoke];simp[hfit.eval hx,hc]
theorem aB.zI {u:TypeId}{i:TypeInfo}{y:Operand}{s:ByteArray}{base:Nat}(ht:P.underlying t=some (.slice e)) (hu:P.underlying u=some .string) (hi:P.info? e=some i) (hz:i.zero=some (.int .u8 0))
 (hsize:i.size=1) (hby:i.bytes=1) (hx:aU ρ x=some v) (hy:aU ρ y=some (.string s)) (hown:HM h base e v l) (hl:l.length+s.size<=140737488355328) (hbase:base<=h.size) :
 aB P ⟨dst,.call ⟨.builtin .append,#[x,y],#[t,u]⟩,ty,pos,after,guard⟩ ρ h (fun v' h'=>HM h' base e v' (l++s.data.toList)/\Ext (cj v.ownBlock) h h') X:=by
 intro nn B a w hf ha next Q hn _
 have hw:w.ownsRow base e 1 v l.length (l.map yz):=ha.own.2 hown;obtain⟨v',w',hr,hown',hg,_⟩:=Lib.run_append_own_string (P:=P) w base t u ty e i ht hu hi hz hsize hby v l.length (l.map yz) hw s (by simp only[maxLen];omega) hl (by rw[ha.heap];exact hbase)
 have hrun:(execOp a.eval ⟨dst,.call ⟨.builtin .append,#[x,y],#[t,u]⟩,ty,pos,after,guard⟩).run P w= .ok (.value v') w':=by
  simp[execOp,resolve,invoke,builtin,hf.eval hx,hf.eval hy,hr]
 unfold Oper.wp;rw[hrun];have hat:=ha.grown hg;refine hn v' w'.heap w' hat ⟨?_,by rw[<-ha.heap];exact iL hg⟩;have h2:=hat.own.1 hown'
 show az _ _ _ _ _ _ _
 have e1:(l++s.data.toList).length=l.length+s.size:=by simp
 have e2:(l++s.data.toList).map yz=l.map yz++Lib.strCells s:=by simp[Lib.strCells,yz]
 rw[e1,e2];exact h2
def Seen (h:aj) (base:Nat) (e:TypeId) (q:Option Addr) (l:List UInt8):Prop :=
 l≠[]->∃g cur,q=some ⟨g,0,none⟩/\base<=g/\h[g]? =some (.cells cur e (0,0))/\l.length<=cur.size/\∀j x,l[j]? =some x->cellAt h ⟨g,j,none⟩=some (yz x)
theorem aB.yY {base:Nat}(hp:P.underlying ty=some (.pointer e)) (hx:aU ρ x=some v) (hown:HM h base e v l) :
 aB P ⟨dst,.call ⟨.builtin .unsafeSliceData,#[x],#[t]⟩,ty,pos,after,guard⟩ ρ h (fun u h'=>(∃q,u= .pointer q/\Seen h' base e q l)/\aq h h') X:=by
 intro nn B a w hf ha next Q hn _
 have go:∀q w',(Builtin.unsafeSliceData_ #[t] ty #[v]).run P w= .ok (.pointer q) w'->At B w'.heap w'->Seen w'.heap base e q l->aq h w'.heap ->
  Oper.wp P ⟨dst,.call ⟨.builtin .unsafeSliceData,#[x],#[t]⟩,ty,pos,after,guard⟩ a w next Q:=by
  intro q w' hr hat hs he
  have hrun:(execOp a.eval ⟨dst,.call ⟨.builtin .unsafeSliceData,#[x],#[t]⟩,ty,pos,after,guard⟩).run P w= .ok (.value (.pointer q)) w':=by
   simp[execOp,resolve,invoke,builtin,hf.eval hx,hr]
  unfold Oper.wp;rw[hrun];exact hn _ _ _ hat ⟨⟨q,rfl,hs⟩,he⟩
 rcases hown.2 with ⟨rfl,h0⟩|⟨g,cap,cur,rfl,hb,hg,hnc,hc,hs,ht⟩
 · have hl:l=[]:=List.eq_nil_of_length_eq_zero h0;subst hl;exact go none w (Lib.run_unsafeSliceData_nil w _ _ _ _) (ha.heap▸ha) (fun k=>absurd rfl k) (by rw[ha.heap];exact Ext.refl _ _)
 · by_cases hc0:cap=0
   · subst hc0;have hl:l=[]:=List.eq_nil_of_length_eq_zero (by omega);subst hl;have hsh:w.shape? g=some (e,cur.size):=by simp[World.shape?,ha.heap,hg]
     refine go _ _ (Lib.run_unsafeSliceData_zero w #[t] ty e hp ⟨g,0,none⟩ 0 _ hsh) ?_ (fun k=>absurd rfl k) ?_
     · exact⟨rfl,ha.os,ha.tape,ha.output⟩
     · show aq h (w.heap.push _)
       rw[ha.heap];exact Ext.push _ _ _
   · refine go _ w (Lib.run_unsafeSliceData_row w _ _ _ _ _ hc0) (ha.heap▸ha) ?_ (by rw[ha.heap];exact Ext.refl _ _);rw[ha.heap];refine fun _=>⟨g,cur,rfl,hb,hg,by omega,fun j y hy=>?_⟩
     have hj:j<l.length:=(List.getElem?_eq_some_iff.1 hy).1;have h2:(l.map yz)[j]? =some (yz y):=by simp[hy]
     rw[<-ht,List.getElem?_take,if_pos (by omega)] at h2;simpa [cellAt,hg] using h2
theorem kR {pt it e:TypeId}{x y:Operand}{q:Option Addr}{l:List UInt8}{base:Nat}(hp:P.underlying pt=some (.pointer e)) (hc:P.cellsOf e=1) (hx:aU ρ x=some (.pointer q)) (hy:aU ρ y=some (.int .i64 l.length))
 (hs:Seen h base e q l) (hl:l.length<=140737488355328) :
 aB P ⟨dst,.call ⟨.builtin .unsafeString,#[x,y],#[pt,it]⟩,ty,pos,after,guard⟩ ρ h (fun u h'=>u= .string ⟨l.toArray⟩/\Ext (fun i=>base<=i) h h') X:=by
 intro nn B a w hf ha next Q hn _
 have go:∀w',(Builtin.unsafeString_ #[pt,it] ty #[.pointer q,.int .i64 l.length]).run P w= .ok (.string ⟨l.toArray⟩) w'->At B w'.heap w'->Ext (fun i=>base<=i) h w'.heap ->
  Oper.wp P ⟨dst,.call ⟨.builtin .unsafeString,#[x,y],#[pt,it]⟩,ty,pos,after,guard⟩ a w next Q:=by
  intro w' hr hat he
  have hrun:(execOp a.eval ⟨dst,.call ⟨.builtin .unsafeString,#[x,y],#[pt,it]⟩,ty,pos,after,guard⟩).run P w= .ok (.value (.string ⟨l.toArray⟩)) w':=by
   simp[execOp,resolve,invoke,builtin,hf.eval hx,hf.eval hy,hr]
  unfold Oper.wp;rw[hrun];exact hn _ _ _ hat ⟨rfl,he⟩
 by_cases h0:l=[]
 · subst h0;exact go w (Lib.run_unsafeString_none w pt it ty q) (ha.heap▸ha) (by rw[ha.heap];exact Ext.refl _ _)
 · obtain⟨g,cur,rfl,hb,hg,hle,hcell⟩:=hs h0;have hsh:w.shape? g=some (e,cur.size):=by simp[World.shape?,ha.heap,hg]
   refine go _ (Lib.run_unsafeString_row w pt it ty e hp hc g cur.size hsh l h0 hle (by omega) (fun j z hz=>?_)) ?_ ?_
   · rw[ha.cell];have:=hcell j z hz;simpa [Addr.add_mid,yz] using this
   · refine⟨rfl,?_,?_,?_⟩<;>(unfold World.freeze;split)
     · exact ha.os
     · exact ha.os
     · exact ha.tape
     · exact ha.tape
     · exact ha.output
     · exact ha.output
   · unfold World.freeze;split
     · rw[ha.heap];exact Ext.refl _ _
     · refine⟨by simp[ha.heap],fun i hi hm=>?_⟩;simp only;rw[Array.getElem?_modify,if_neg (by omega),ha.heap]
end
def nE (h:aj) (b:Nat) (T e:TypeId) (l:List UInt8):Prop :=
 ∃p v,aH h b T [p,v]/\(p= .pointer none\/p= .pointer (some ⟨b,0,none⟩))/\HM h (b+1) e v l
theorem fc (o:HM h (b+1) e v l):∀g,cj v.ownBlock g->b<g:=by
 intro g hg
 rcases o.2 with ⟨rfl,_⟩|⟨g',cap,cur,rfl,hb,_⟩
 · cases hg
 · have:g=g':=by simpa [cj,Value.ownBlock] using hg
   omega
theorem xG {T:TypeId}(k:aH h b T [.pointer none,.slice none 0 0]):nE h b T e []:=⟨_,_,k,.inl rfl,b7.nil _ _ _ _⟩
end
end Go.Lw
namespace Go.Lw
section
variable {P:Program}{ρ:Env}{h:aj}{dst:Option Nat}{ty:TypeId}{pos:String}{after:Array Edge}{guard:Option (Nat×Bool)}
def kI:Value->Bool
 |.nilIface=>true
 |_=>false
theorem ai.Jz {t yt:TypeId}{ms:Array (String×TypeId)}{x:Operand}{v:Value}(hu:P.underlying t=some (.interface ms)) (hx:aU ρ x=some v) (hv:v= .nilIface\/∃tx vx,v= .iface tx vx) :
 ai P ⟨dst,.binOp .eql t x (.const .nilIface) yt,ty,pos,after,guard⟩ ρ h (.bool (kI v)):=by
 intro _ B a w hf _;have h1:∀d:Nat,(Op.equalIn (d+1) t .nilIface .nilIface).run P w= .ok true w:=fun d=>by simp[Op.equalIn,run_underlying hu]
 have h2:∀(d:Nat) tx vx,(Op.equalIn (d+1) t (.iface tx vx) .nilIface).run P w= .ok false w:=fun d tx vx=>by simp[Op.equalIn,run_underlying hu]
 have h3:a.eval (.const .nilIface)= .nilIface:=rfl
 rcases hv with rfl|⟨tx,vx,rfl⟩
 · simp[execOp,eqGuard,binOp,hf.eval hx,h3,Op.equal,Op.maxDepth,h1 9999,kI]
 · simp[execOp,eqGuard,binOp,hf.eval hx,h3,Op.equal,Op.maxDepth,h2 9999,kI]
theorem ai.Cp {t yt:TypeId}{ms:Array (String×TypeId)}{x:Operand}{v:Value}(hu:P.underlying t=some (.interface ms)) (hx:aU ρ x=some v) (hv:v= .nilIface\/∃tx vx,v= .iface tx vx) :
 ai P ⟨dst,.binOp .neq t x (.const .nilIface) yt,ty,pos,after,guard⟩ ρ h (.bool (!kI v)):=by
 intro _ B a w hf _;have h1:∀d:Nat,(Op.equalIn (d+1) t .nilIface .nilIface).run P w= .ok true w:=fun d=>by simp[Op.equalIn,run_underlying hu]
 have h2:∀(d:Nat) tx vx,(Op.equalIn (d+1) t (.iface tx vx) .nilIface).run P w= .ok false w:=fun d tx vx=>by simp[Op.equalIn,run_underlying hu]
 have h3:a.eval (.const .nilIface)= .nilIface:=rfl
 rcases hv with rfl|⟨tx,vx,rfl⟩
 · simp[execOp,eqGuard,binOp,hf.eval hx,h3,Op.equal,Op.maxDepth,h1 9999,kI]
 · simp[execOp,eqGuard,binOp,hf.eval hx,h3,Op.equal,Op.maxDepth,h2 9999,kI]
end
def Bx (P:Program) (h:aj) (name:String):Option (Array Value) :=
 (P.globalNamed name).bind fun g=>match h[g]? with|some (.cells cs _ _)=>some cs|_=>none
theorem Bw (P:Program) (w:World) (name:String):w.var? P name=Bx P w.heap name:=rfl
theorem DC {P:Program}{h h':aj}{name:String}{cs:Array Value}(e:aq h h') (k:Bx P h name=some cs):Bx P h' name=some cs:=by
 unfold Bx at k ⊢;cases hg:P.globalNamed name with
 |none=>simp[hg] at k
 |some g =>
  simp only[hg,Option.bind_some] at k ⊢
  have hlt:g<h.size:=by
   rcases Nat.lt_or_ge g h.size with h1|h1
   · exact h1
   · rw[Array.getElem?_eq_none h1] at k;cases k
  rw[e.block g hlt (fun k=>k)];exact k
end Go.Lw
namespace Go.Lw
section
variable {xs ys:Array Value}{b:Bool}
section
variable {P:Program}{ρ:Env}{h:aj}{dst:Option Nat}{ty:TypeId}{pos:String}{after:Array Edge}{guard:Option (Nat×Bool)}
theorem ai.A6 {t yt:TypeId}{x y:Operand}(ht:P.underlying t=some (.struct (P.fieldsOf t))) (hp:P.stoodInHeld t=false) (hm:P.eqGuardType P.depth t=false)
 (hx:aU ρ x=some (.agg xs)) (hy:aU ρ y=some (.agg ys)) (heq:∀w,(Op.eqFields 9999 xs ys (P.fieldsOf t).toList).run P w= .ok b w) :
 ai P ⟨dst,.binOp .eql t x y yt,ty,pos,after,guard⟩ ρ h (.bool b):=by
 intro _ B a w hf _;have h1:=run_eqGuard_agg (P:=P) w .eql t x y xs ys hm;have h2:=run_eql_struct (P:=P) w t xs ys;rw[run_equalIn_agg w 9999 t xs ys ht hp,heq w] at h2;simp[execOp,hf.eval hx,hf.eval hy,h1,h2]
theorem ai.IT {t yt:TypeId}{x y:Operand}(ht:P.underlying t=some (.struct (P.fieldsOf t))) (hp:P.stoodInHeld t=false) (hm:P.eqGuardType P.depth t=false)
 (hx:aU ρ x=some (.agg xs)) (hy:aU ρ y=some (.agg ys)) (heq:∀w,(Op.eqFields 9999 xs ys (P.fieldsOf t).toList).run P w= .ok b w) :
 ai P ⟨dst,.binOp .neq t x y yt,ty,pos,after,guard⟩ ρ h (.bool (!b)):=by
 intro _ B a w hf _;have h1:=run_eqGuard_agg (P:=P) w .neq t x y xs ys hm;have h2:=run_neq_struct (P:=P) w t xs ys;rw[run_equalIn_agg w 9999 t xs ys ht hp,heq w] at h2;simp[execOp,hf.eval hx,hf.eval hy,h1,h2]
theorem lH {d:Nat}{f:Field}{fs:List Field}{w:World}{u v:Value}{c:Bool}(hn:f.name≠ "_") (hr:aO P f.type=some false) (hu:xs[f.offset]? =some u) (hv:ys[f.offset]? =some v)
 (he:(Op.equalIn d f.type u v).run P w= .ok b w) (hs:(Op.eqFields d xs ys fs).run P w= .ok c w):(Op.eqFields d xs ys (f::fs)).run P w= .ok (b && c) w:=by
 have p1:(part f.type xs f.offset).run P w= .ok u w:=by simp[part,gN hr,hu]
 have p2:(part f.type ys f.offset).run P w= .ok v w:=by simp[part,gN hr,hv]
 rw[Op.eqFields,if_pos hn];simp only[Sem.run_bind,p1,p2,he,Result.andThen_ok];cases b
 · simp
 · simpa using hs
end
end
end Go.Lw
namespace Go.Lw
section
variable {ρ:Env}{h:aj}{o:Oper}{v:Value}{d base:Nat}{Φ:Value->aj->Prop}{α:Type}{O O':Nat->Prop}{t:TypeId}{cs:List Value}
def Qs (ρ:Env):Op->Option Value
 |.move x=>aU ρ x
 |.assign x=>aU ρ x
 |.extract x i=>match aU ρ x with|some (.tuple vs)=>vs[i]? |_=>none
 |.nilCheck x=>match aU ρ x with|some (.pointer (some a))=>some (.pointer (some a))|_=>none
 |.pick c x y=>match aU ρ c with|some (.bool true)=>aU ρ x|some (.bool false)=>aU ρ y|_=>none
 |.unOp .not _ x=>match aU ρ x with|some (.bool b)=>some (.bool (!b))|_=>none
 |.binOp op _ x y _=>match aU ρ x,aU ρ y with
  |some (.int k i),some (.int k' j)=>if k=k' then (match op with
   |.eql=>some (.bool (decide (i=j)))
   |.neq=>some (.bool (decide (¬i=j)))
   |.lss=>some (.bool (decide (i<j)))
   |.leq=>some (.bool (decide (i<=j)))
   |.gtr=>some (.bool (decide (j<i)))
   |.geq=>some (.bool (decide (j<=i)))
   |_=>none) else none
  |_,_=>none
 |_=>none
theorem A5 {P:Program}(hv:Qs ρ o.op=some v):ai P o ρ h v:=by
 obtain⟨dst,op,ty,pos,after,guard⟩:=o;simp only at hv;unfold Qs at hv;split at hv
 · exact aD hv
 · exact ai.assign hv
 · split at hv
   · rename_i hx;exact ai.extract hx hv
   · cases hv
 · split at hv
   · rename_i hx;cases hv;exact aV hx
   · cases hv
 · split at hv
   · rename_i hc;exact ai.og hc hv
   · rename_i hc;exact ai.iB hc hv
   · cases hv
 · split at hv
   · rename_i hx;cases hv;exact ai.D8 hx
   · cases hv
 · split at hv
   · rename_i hx hy;split at hv
     · rename_i hk;subst hk;split at hv
       · cases hv;exact ai.mX hx hy
       · cases hv;exact ai.NI hx hy
       · cases hv;exact qP hx hy
       · cases hv;exact F3 hx hy
       · cases hv;exact qQ hx hy
       · cases hv;exact tS hx hy
       · cases hv
     · cases hv
   · cases hv
 · cases hv
def keep:List Nat->Env->Option Env
 | [],_=>some []
 |i::r,ρ=>match ρ.at i with
  |some v=>match keep r ρ with
   |some e=>some ((i,v)::e)
   |none=>none
  |none=>none
theorem qt:∀(ns:List Nat){ρ ρ':Env},keep ns ρ=some ρ'->Sub ρ' ρ
 | [],ρ,ρ',h=>by cases h;trivial
 |i::r,ρ,ρ',h=>by
  rw[keep] at h;split at h
  · rename_i v hv;split at h
    · rename_i e he;cases h;exact⟨hv,qt r he⟩
    · cases h
  · cases h
section
variable {P:Program}{n:Nat}{ops:Array Oper}{i:Nat}{ρ ρ':Env}{h:aj}{N:Env->aj->Prop}{X:List PanicEntry->aj->Prop}
theorem xp (e:(nth ops.toList i,aM ops ρ o,o.dst,Nat.blt d n)=(some o,some true,some d,true)) (k:ai P o ρ h v) (next:RW P n ops (i+1) ((d,v)::ρ) h N X):RW P n ops i ρ h N X:=by
 simp only[Prod.mk.injEq] at e;exact RW.an e.1 e.2.1 e.2.2.1 e.2.2.2 k next
theorem xo (e:(nth ops.toList i,aM ops ρ o,o.dst,Nat.blt d n)=(some o,some true,some d,true)) (k:aB P o ρ h Φ X) (next:∀v h',Φ v h'->RW P n ops (i+1) ((d,v)::ρ) h' N X):RW P n ops i ρ h N X:=by
 simp only[Prod.mk.injEq] at e;exact RW.xJ e.1 e.2.1 e.2.2.1 e.2.2.2 k next
theorem xk (e:(nth ops.toList i,aM ops ρ o,o.dst,Nat.blt d n)=(some o,some false,some d,true)) (next:RW P n ops (i+1) ((d,undef)::ρ) h N X):RW P n ops i ρ h N X:=by
 simp only[Prod.mk.injEq] at e;exact RW.aK e.1 e.2.1 e.2.2.1 e.2.2.2 next
end
section
variable {P:Program}{n:Nat}{ops:Array Oper}{i:Nat}{f:FuncId}{fn:Func}{k:List It}{ρ ρ':Env}{h:aj}{R:Ending->aj->Prop}{X:List PanicEntry->aj->Prop}{p:List Nat}
theorem xu (ns:List Nat) (e:keep ns ρ=some ρ') (next:G P f fn k ρ' h R):G P f fn k ρ h R:=G.sub (qt ns e) next
theorem xd (ns:List Nat) (e:(Nat.ble ops.size i,keep ns ρ)=(true,some ρ')) (next:G P f fn k ρ' h R):RW P n ops i ρ h (fun ρ' h'=>G P f fn k ρ' h' R) X:=by
 simp only[Prod.mk.injEq] at e;exact RW.done e.1 (G.sub (qt ns e.2) next)
theorem xr (hfn:P.funcs[f]? =some fn) (e:(kind (Lw.sub (ay fn) p),kind (Lw.sub (ay fn) (0::p)))=(1,5))
 (next:RW P fn.ntmps (opsOf (Lw.sub (ay fn) (0::p))) 0 ρ h (fun ρ' h'=>G P f fn (.code (1::p)::k) ρ' h' R) (fun ch h'=>R (.panicked ch) h')):G P f fn (.code p::k) ρ h R:=by
 simp only[Prod.mk.injEq] at e;exact av e.1 (G.cA hfn e.2 next)
end
def As (n:Nat) (ops:Array Oper):Nat->Nat->Env->Option Env
 | 0,_,ρ=>some ρ
 |k+1,i,ρ=>match nth ops.toList i with
  |some o=>match o.dst with
   |some d=>match Nat.blt d n with
    |true=>match aM ops ρ o with
     |some true=>match Qs ρ o.op with
      |some v=>As n ops k (i+1) ((d,v)::ρ)
      |none=>none
     |some false=>As n ops k (i+1) ((d,undef)::ρ)
     |none=>none
    |false=>none
   |none=>none
  |none=>none
section
variable {P:Program}{n:Nat}{ops:Array Oper}{ρ':Env}{h:aj}{N:Env->aj->Prop}{X:List PanicEntry->aj->Prop}
theorem bW:∀(k:Nat){i:Nat}{ρ:Env}(_:As n ops k i ρ=some ρ') (_:RW P n ops (i+k) ρ' h N X),RW P n ops i ρ h N X
 | 0,i,ρ,e,next=>by cases e;exact next
 |k+1,i,ρ,e,next=>by
  rw[As] at e;split at e
  · rename_i o ho;split at e
    · rename_i d hd;split at e
      · rename_i hb;split at e
        · rename_i hw;split at e
          · rename_i v hv;exact RW.an ho hw hd hb (A5 hv) (bW k e (by rw[Nat.add_assoc,Nat.add_comm 1 k];exact next))
          · cases e
        · rename_i hw;exact RW.aK ho hw hd hb (bW k e (by rw[Nat.add_assoc,Nat.add_comm 1 k];exact next))
        · cases e
      · cases e
    · cases e
  · cases e
theorem cT (k:Nat){i:Nat}(e1:As n ops k i ρ=some ρ') (e:(nth ops.toList (i+k),aM ops ρ' o,o.dst,Nat.blt d n)=(some o,some true,some d,true)) (q:ai P o ρ' h v)
 (next:RW P n ops (i+k+1) ((d,v)::ρ') h N X):RW P n ops i ρ h N X:=bW k e1 (xp e q next)
end
def AW (ops:Array Oper) (i:Nat) (ns:List Nat):Option Env->Option Env
 |some ρ=>match Nat.ble ops.size i with
  |true=>keep ns ρ
  |false=>none
 |none=>none
section
variable {P:Program}{n:Nat}{ops:Array Oper}{i:Nat}{f:FuncId}{fn:Func}{k:List It}{ρ ρ':Env}{h:aj}{R:Ending->aj->Prop}{X:List PanicEntry->aj->Prop}{p:List Nat}
theorem bq (m:Nat) (ns:List Nat) (e:AW ops (i+m) ns (As n ops m i ρ)=some ρ') (next:G P f fn k ρ' h R):RW P n ops i ρ h (fun ρ' h'=>G P f fn k ρ' h' R) X:=by
 unfold AW at e;split at e
 · rename_i r hr;split at e
   · rename_i hb;exact bW m hr (RW.done hb (G.sub (qt ns e) next))
   · cases e
 · cases e
theorem cm (hfn:P.funcs[f]? =some fn) (m:Nat) (e:(kind (Lw.sub (ay fn) p),kind (Lw.sub (ay fn) (0::p)),As fn.ntmps (opsOf (Lw.sub (ay fn) (0::p))) m 0 ρ)=(1,5,some ρ'))
 (next:RW P fn.ntmps (opsOf (Lw.sub (ay fn) (0::p))) (0+m) ρ' h (fun ρ' h'=>G P f fn (.code (1::p)::k) ρ' h' R) (fun ch h'=>R (.panicked ch) h')):G P f fn (.code p::k) ρ h R:=by
 simp only[Prod.mk.injEq] at e;exact av e.1 (G.cA hfn e.2.1 (bW m e.2.2 next))
theorem bI (hfn:P.funcs[f]? =some fn) (m:Nat) (ns:List Nat) (e:(kind (Lw.sub (ay fn) p),kind (Lw.sub (ay fn) (0::p)),AW (opsOf (Lw.sub (ay fn) (0::p))) (0+m) ns (As fn.ntmps (opsOf (Lw.sub (ay fn) (0::p))) m 0 ρ))=(1,5,some ρ'))
 (next:G P f fn (.code (1::p)::k) ρ' h R):G P f fn (.code p::k) ρ h R:=by
 simp only[Prod.mk.injEq] at e;exact av e.1 (G.cA hfn e.2.1 (bq m ns e.2.2 next))
end
def la (n m:Nat):Array Bool:=((List.range n).map fun i=>m.testBit i).toArray
def On (ops:Array Oper) (keeps:Nat->Bool) (listed:Array Bool) (i:Nat) (l':Array Bool):Bool:=Region.noSelect ops && (sK ops keeps listed i && ((Region.ready .any ops listed).contains i && decide (listed.setIfInBounds i true=l')))
def okO (ops:Array Oper) (listed:Array Bool) (i:Nat) (l':Array Bool):Bool:=decide (Region.ready .any ops listed=[i]) && decide (listed.setIfInBounds i true=l')
section
variable {P:Program}{n:Nat}{ops:Array Oper}{M:Nat->Prop}{keeps:Nat->Bool}{fuel:Nat}{listed:Array Bool}{ρ:Env}{h:aj}{N:Env->aj->Prop}{X:List PanicEntry->aj->Prop}
theorem bG (i m:Nat) (hk:On ops keeps listed i (la ops.size m)=true) (e:(nth ops.toList i,aM ops ρ o,o.dst,Nat.blt d n)=(some o,some true,some d,true)) (k:∀h',Ext M h h'->ai P o ρ h' v)
 (next:RD P n ops M keeps fuel (la ops.size m) ((d,v)::ρ) h N X):RD P n ops M keeps (fuel+1) listed ρ h N X:=by
 simp only[Prod.mk.injEq] at e;simp only[On,Bool.and_eq_true,decide_eq_true_eq] at hk;exact RD.HY i e.1 hk.1 hk.2.1 hk.2.2.1 e.2.1 e.2.2.1 e.2.2.2 k hk.2.2.2 next
theorem aT (i m:Nat) (hk:On ops keeps listed i (la ops.size m)=true) (e:(nth ops.toList i,aM ops ρ o,o.dst,Nat.blt d n,Qs ρ o.op)=(some o,some true,some d,true,some v))
 (next:RD P n ops M keeps fuel (la ops.size m) ((d,v)::ρ) h N X):RD P n ops M keeps (fuel+1) listed ρ h N X:=by
 simp only[Prod.mk.injEq] at e;simp only[On,Bool.and_eq_true,decide_eq_true_eq] at hk;exact RD.HY i e.1 hk.1 hk.2.1 hk.2.2.1 e.2.1 e.2.2.1 e.2.2.2.1 (fun _ _=>A5 e.2.2.2.2) hk.2.2.2 next
theorem ij (i m:Nat) (hk:On ops keeps listed i (la ops.size m)=true) (e:(nth ops.toList i,aM ops ρ o,o.dst,Nat.blt d n)=(some o,some false,some d,true))
 (next:RD P n ops M keeps fuel (la ops.size m) ((d,undef)::ρ) h N X):RD P n ops M keeps (fuel+1) listed ρ h N X:=by
 simp only[Prod.mk.injEq] at e;simp only[On,Bool.and_eq_true,decide_eq_true_eq] at hk;exact RD.aK i e.1 hk.1 hk.2.1 hk.2.2.1 e.2.1 e.2.2.1 e.2.2.2 hk.2.2.2 next
theorem ef (i m:Nat) (hk:okO ops listed i (la ops.size m)=true) (e:(nth ops.toList i,aM ops ρ o,o.dst,Nat.blt d n)=(some o,some true,some d,true)) (k:aB P o ρ h Φ X)
 (next:∀v h',Φ v h'->(keeps i=true->Ext M h h')/\RD P n ops M keeps fuel (la ops.size m) ((d,v)::ρ) h' N X):RD P n ops M keeps (fuel+1) listed ρ h N X:=by
 simp only[Prod.mk.injEq] at e;simp only[okO,Bool.and_eq_true,decide_eq_true_eq] at hk;exact RD.Ph i e.1 hk.1 e.2.1 e.2.2.1 e.2.2.2 k hk.2 next
theorem lS (i m:Nat) (hk:okO ops listed i (la ops.size m)=true) (e:(nth ops.toList i,aM ops ρ o,o.dst)=(some o,some true,none)) (k:aB P o ρ h Φ X)
 (next:∀v h',Φ v h'->(keeps i=true->Ext M h h')/\RD P n ops M keeps fuel (la ops.size m) ρ h' N X):RD P n ops M keeps (fuel+1) listed ρ h N X:=by
 simp only[Prod.mk.injEq] at e;simp only[okO,Bool.and_eq_true,decide_eq_true_eq] at hk;exact RD.Pj i e.1 hk.1 e.2.1 e.2.2 k hk.2 next
end
theorem sb {ρ':Env}(h:ρ'.map (fun p=>ρ.at p.1)=ρ'.map fun p=>some p.2):Sub ρ' ρ:=by
 induction ρ' with
 |nil=>trivial
 |cons p r ih =>
  simp only[List.map_cons,List.cons.injEq] at h;exact⟨h.1,ih h.2⟩
def fB {α:Type}(e:gH α) (O:Nat->Prop) (h:aj) (base:Nat) (t:TypeId) (v:Value) (xs:List α):Prop :=
 ∃css:List (List Value),css.length=xs.length/\az h base t e.sz v xs.length css.flatten/\∀(i:Nat) (cs:List Value) (x:α),css[i]? =some cs->xs[i]? =some x->e.R h (fun b=>cj v.ownBlock b\/O b) cs x
theorem fB.nil {α:Type}(e:gH α) (O:Nat->Prop) (h:aj) (base:Nat) (t:TypeId):fB e O h base t (.slice none 0 0) [] :=
 ⟨[],rfl,az.nil h base t e.sz,fun i cs x h1=>by simp at h1⟩
theorem fB.own {e:gH α}{xs:List α}(k:fB e O h base t v xs):∃cells,az h base t e.sz v xs.length cells:=by
 obtain⟨css,_,h1,_⟩:=k;exact⟨_,h1⟩
theorem fB.mv {α:Type}{e:gH α}{O O':Nat->Prop}{h h':aj}{base:Nat}{t:TypeId}{v:Value}{xs:List α}(k:fB e O h base t v xs) (x:Ext O h h') (hb:∀b,base<=b->¬O b) (hO:∀b,b<h.size->O' b->O b):fB e O' h' base t v xs:=by
 obtain⟨css,h1,h2,h3⟩:=k;have h4:∀b,v.ownBlock=some b->¬O b:=fun b hv=>hb b (h2.lt hv).1
 refine⟨css,h1,h2.ext x h4,fun i cs y hc hy=>e.mv (h3 i cs y hc hy) ⟨x.size,fun b hlt hn=>⟨x.block b hlt (fun k=>hn (.inr k)),fun k=>hn (k.imp id (hO b hlt))⟩⟩⟩
theorem fB.ak {α:Type}{e:gH α}{O:Nat->Prop}{h h':aj}{base:Nat}{t:TypeId}{v:Value}{xs:List α}(k:fB e O h base t v xs) (x:aq h h'):fB e O h' base t v xs:=by
 obtain⟨css,h1,h2,h3⟩:=k;exact⟨css,h1,h2.ext x (fun _ _ k=>k),fun i cs y hc hy=>e.mv (h3 i cs y hc hy) (Mv.ak x)⟩
theorem fB.mN {e:gH α}{h':aj}{v':Value}{xs:List α}{y:α}{css:List (List Value)}(h1:css.length=xs.length)
 (h3:∀(i:Nat) (cs:List Value) (x:α),css[i]? =some cs->xs[i]? =some x->e.R h (fun b=>cj v.ownBlock b\/O b) cs x) (ho:az h' base t e.sz v' (xs.length+1) (css.flatten++cs))
 (hx:Ext (cj v.ownBlock) h h') (hv:∀b,v'.ownBlock=some b->v.ownBlock=some b\/h.size<=b) (hy:e.R h (fun b=>cj v.ownBlock b\/O b) cs y):fB e O h' base t v' (xs++[y]):=by
 have hm:Mv (fun b=>cj v.ownBlock b\/O b) (fun b=>cj v'.ownBlock b\/O b) h h':=⟨hx.size,fun b hlt hnb=>⟨hx.block b hlt (fun k=>hnb (.inl k)),fun k=>by
  rcases k with k|k
  · rcases hv b k.symm with k'|k'
    · exact hnb (.inl k'.symm)
    · omega
  · exact hnb (.inr k)⟩⟩
 refine⟨css++[cs],by simp[h1],by simpa using ho,fun i cs' y' hc' hy'=>?_⟩
 rcases Nat.lt_or_ge i xs.length with hi|hi
 · rw[List.getElem?_append_left (by omega)] at hc' hy';exact e.mv (h3 i cs' y' hc' hy') hm
 · rw[List.getElem?_append_right (by omega)] at hc' hy';rw[h1] at hc';cases hj:i-xs.length with
   |zero=>rw[hj] at hc' hy';simp at hc' hy';subst hc' hy';exact e.mv hy hm
   |succ j=>rw[hj] at hy';simp at hy'
theorem fB.lW {e:gH α}{x:α}(k:e.R h O cs x) (hb:base<=h.size):fB e O (h.push (.cells cs.toArray t)) base t (.slice (some ⟨h.size,0,none⟩) 1 1) [x]:=by
 have hl:=e.len k;refine⟨[cs],rfl,⟨by simp[hl],.inr ⟨h.size,1,cs.toArray,rfl,hb,by simp,Nat.le_refl _,by simp[maxLen],by simp[hl],by simp[<-hl]⟩⟩,fun i cs' y hc hy=>?_⟩;cases i with
 |zero =>
  simp at hc hy;subst hc hy
  exact e.mv k ⟨by simp,fun b hb' ho=>⟨(Ext.push (fun _=>False) h _).block b hb' (fun k=>k),fun k=>by
   rcases k with k|k
   · simp[cj,Value.ownBlock] at k;omega
   · exact ho k⟩⟩
 |succ i=>simp at hy
theorem lG {α:Type}{sz:Nat}:∀(css:List (List α)) (i:Nat) (cs:List α) (j:Nat) (v:α),(∀c∈css,c.length=sz)->css[i]? =some cs->cs[j]? =some v->css.flatten[i*sz+j]? =some v
 | [],i,cs,j,v,_,hx,_=>by simp at hx
 |c::css,0,cs,j,v,_,hx,hv=>by
  simp at hx;subst hx;have:j<c.length:=(List.getElem?_eq_some_iff.1 hv).1;rw[List.flatten_cons,Nat.zero_mul,Nat.zero_add,List.getElem?_append_left this];exact hv
 |c::css,i+1,cs,j,v,hl,hx,hv=>by
  have h0:c.length=sz:=hl c (by simp);rw[List.flatten_cons,List.getElem?_append_right (by rw[h0,Nat.add_mul];omega),h0];have:(i+1)*sz+j-sz=i*sz+j:=by rw[Nat.add_mul];omega
  rw[this];exact lG css i cs j v (fun c hc=>hl c (by simp[hc])) (by simpa using hx) hv
theorem fB.read {e:gH α}{xs:List α}(k:fB e O h base t v xs) (ho:∀b,base<=b->¬O' b) (hO:∀b,b<h.size->O' b->O b):bB e h O' v xs:=by
 obtain⟨css,h1,h2,h3⟩:=k;have hm:Mv (fun b=>cj v.ownBlock b\/O b) O' h h:=⟨Nat.le_refl _,fun b hb hn=>⟨rfl,fun k=>hn (.inr (hO b hb k))⟩⟩
 have hlen:∀c∈css,c.length=e.sz:=fun c hc=>by
  obtain⟨i,hi⟩:=List.getElem?_of_mem hc;have hlt:i<xs.length:=by rw[<-h1];exact(List.getElem?_eq_some_iff.1 hi).1
  exact e.len (h3 i c xs[i] hi (List.getElem?_eq_getElem hlt))
 rcases h2.2 with ⟨rfl,hn0⟩|⟨g,cap,cur,rfl,hb,hg,hnc,hc,hs,ht⟩
 · exact⟨none,0,0,rfl,hn0,Nat.le_refl _,by simp[maxLen],fun i x hx=>by
    have:xs=[]:=List.eq_nil_of_length_eq_zero hn0;subst this;simp at hx⟩
 · refine⟨some ⟨g,0,none⟩,xs.length,cap,rfl,rfl,hnc,hc,fun i x hx=>?_⟩;have hlt:i<css.length:=by rw[h1];exact(List.getElem?_eq_some_iff.1 hx).1
   refine⟨g,0,css[i],rfl,ho g hb,?_,e.mv (h3 i _ x (List.getElem?_eq_getElem hlt) hx) hm⟩;intro j u hj;have h4:=lG css i css[i] j u hlen (List.getElem?_eq_getElem hlt) hj;rw[<-ht,List.getElem?_take] at h4;split at h4
   · have h5:cur[i*e.sz+j]? =some u:=by simpa using h4
     simpa [cellAt,hg,Nat.add_assoc] using h5
   · cases h4
theorem bB.lW {e:gH α}{x:α}(k:e.R h O cs x) (ho:¬O h.size):bB e (h.push (.cells cs.toArray t)) O (.slice (some ⟨h.size,0,none⟩) 1 1) [x] :=
 ⟨_,1,1,rfl,rfl,Nat.le_refl _,by simp[maxLen],fun i y hy=>by
  cases i with
  |zero =>
   simp at hy;subst hy;refine⟨h.size,0,cs,rfl,ho,?_,e.mv k (Mv.ak (Ext.push _ _ _))⟩;simpa using cP h cs t
  |succ i=>simp at hy⟩
theorem fB.Fv {e:gH α}{M:Nat->Prop}{h':aj}{xs:List α}(k:fB e O h base t v xs) (x:Ext M h h') (hown:∀b,v.ownBlock=some b->¬M b) (hM:∀b,b<h.size->M b->O b) (hO:∀b,b<h.size->O' b->O b):fB e O' h' base t v xs:=by
 obtain⟨css,h1,h2,h3⟩:=k;refine⟨css,h1,h2.ext x hown,fun i cs y hc hy=>e.mv (h3 i cs y hc hy) ⟨x.size,fun b hlt hn=>⟨x.block b hlt (fun k=>hn (.inr (hM b hlt k))),fun k=>hn (k.imp id (hO b hlt))⟩⟩⟩
theorem fB.IA {e:gH α}{xs:List α}(k:fB e O h base t v xs) (ho:∀b,v.ownBlock=some b->¬O' b) (hO:∀b,b<h.size->O' b->O b):bB e h O' v xs:=by
 obtain⟨css,h1,h2,h3⟩:=k;have hm:Mv (fun b=>cj v.ownBlock b\/O b) O' h h:=⟨Nat.le_refl _,fun b hb hn=>⟨rfl,fun k=>hn (.inr (hO b hb k))⟩⟩
 have hlen:∀c∈css,c.length=e.sz:=fun c hc=>by
  obtain⟨i,hi⟩:=List.getElem?_of_mem hc;have hlt:i<xs.length:=by rw[<-h1];exact(List.getElem?_eq_some_iff.1 hi).1
  exact e.len (h3 i c xs[i] hi (List.getElem?_eq_getElem hlt))
 rcases h2.2 with ⟨rfl,hn0⟩|⟨g,cap,cur,rfl,hb,hg,hnc,hc,hs,ht⟩
 · exact⟨none,0,0,rfl,hn0,Nat.le_refl _,by simp[maxLen],fun i x hx=>by
    have:xs=[]:=List.eq_nil_of_length_eq_zero hn0;subst this;simp at hx⟩
 · refine⟨some ⟨g,0,none⟩,xs.length,cap,rfl,rfl,hnc,hc,fun i x hx=>?_⟩;have hlt:i<css.length:=by rw[h1];exact(List.getElem?_eq_some_iff.1 hx).1
   refine⟨g,0,css[i],rfl,ho g rfl,?_,e.mv (h3 i _ x (List.getElem?_eq_getElem hlt) hx) hm⟩;intro j u hj;have h4:=lG css i css[i] j u hlen (List.getElem?_eq_getElem hlt) hj;rw[<-ht,List.getElem?_take] at h4;split at h4
   · have h5:cur[i*e.sz+j]? =some u:=by simpa using h4
     simpa [cellAt,hg,Nat.add_assoc] using h5
   · cases h4
end
end Go.Lw
namespace Go.Lw
theorem az.eE {h h':aj}{base:Nat}{t:TypeId}{size:Nat}{v:Value}{n:Nat}{xs:List Value}(k:az h base t size v n xs) (e:aq h h'):az h' base t size v n xs:=az.ext e k (fun _ _ k=>k)
end Go.Lw
namespace Go.Lw
theorem mT {α:Type}{sz:Nat}:∀(css:List (List α)) (i:Nat) (cs:List α) (o:Nat) (u:α),(∀c∈css,c.length=sz)->css[i]? =some cs->o<sz->(css.set i (cs.set o u)).flatten=css.flatten.set (i*sz+o) u
 | [],i,cs,o,u,_,hx,_=>by simp at hx
 |c::css,0,cs,o,u,hl,hx,ho=>by
  simp at hx;subst hx;have h0:c.length=sz:=hl c (by simp);rw[List.set_cons_zero,List.flatten_cons,List.flatten_cons,Nat.zero_mul,Nat.zero_add,List.set_append_left _ _ (by omega)]
 |c::css,i+1,cs,o,u,hl,hx,ho=>by
  have h0:c.length=sz:=hl c (by simp);have hge:c.length<=(i+1)*sz+o:=by rw[h0,Nat.add_mul];omega
  rw[List.set_cons_succ,List.flatten_cons,List.flatten_cons,List.set_append_right _ _ hge,h0];have:(i+1)*sz+o-sz=i*sz+o:=by rw[Nat.add_mul];omega
  rw[this,mT css i cs o u (fun c hc=>hl c (by simp[hc])) (by simpa using hx) ho]
theorem fB.put {α:Type}{e:gH α}{O:Nat->Prop}{h:aj}{base:Nat}{t:TypeId}{v:Value}{xs:List α}(k:fB e O h base t v xs){i:Nat}{x:α}(hx:xs[i]? =some x) :
 ∃g c cs,v= .slice (some ⟨g,0,none⟩) xs.length c/\base<=g/\g<h.size/\Lw.rowAt h g (0+i*e.sz) cs/\(∀o,frozenAt h ⟨g,o,none⟩=false)/\e.R h (fun b=>cj v.ownBlock b\/O b) cs x /\
  ∀(o:Nat) (u:Value) (y:α),o<e.sz->e.R h (fun b=>cj v.ownBlock b\/O b) (cs.set o u) y->fB e O (eo h ⟨g,0+i*e.sz+o,none⟩ u) base t v (xs.set i y):=by
 obtain⟨css,h1,h2,h3⟩:=k;have hi:i<xs.length:=(List.getElem?_eq_some_iff.1 hx).1
 have hlen:∀c∈css,c.length=e.sz:=fun c hc=>by
  obtain⟨j,hj⟩:=List.getElem?_of_mem hc;have hlt:j<xs.length:=by rw[<-h1];exact(List.getElem?_eq_some_iff.1 hj).1
  exact e.len (h3 j c xs[j] hj (List.getElem?_eq_getElem hlt))
 rcases h2.2 with ⟨_,hn0⟩|⟨g,cap,cur,rfl,hb,hg,hnc,hc,hs,ht⟩
 · omega
 have hic:i<css.length:=by omega
 have hcs:css[i]? =some css[i]:=List.getElem?_eq_getElem hic;refine⟨g,cap,css[i],rfl,hb,(Array.getElem?_eq_some_iff.1 hg).1,?_,fun o=>by simp[frozenAt,hg],h3 i _ x hcs hx,fun o u y ho hy=>?_⟩
 · intro j w hj;have h4:=lG css i css[i] j w hlen hcs hj;rw[<-ht,List.getElem?_take] at h4;split at h4
   · have h5:cur[i*e.sz+j]? =some w:=by simpa using h4
     simpa [cellAt,hg] using h5
   · cases h4
 · have hm:Mv (fun b=>cj (Value.slice (some ⟨g,0,none⟩) xs.length cap).ownBlock b\/O b) (fun b=>cj (Value.slice (some ⟨g,0,none⟩) xs.length cap).ownBlock b\/O b) h (eo h ⟨g,0+i*e.sz+o,none⟩ u) :=
    ⟨by rw[iQ];exact Nat.le_refl _,fun b hlt hnb=>⟨(Ext.eo (M:=fun b=>b=g) h _ u rfl).block b hlt (fun k=>hnb (.inl (by subst k;rfl))),hnb⟩⟩
   refine⟨css.set i (css[i].set o u),by simp[h1],⟨?_,.inr ⟨g,cap,cur.setIfInBounds (0+i*e.sz+o) u,by simp,hb,uR hg u,by simpa using hnc,hc,by simpa using hs,?_⟩⟩,fun j cs' y' hc' hy'=>?_⟩
   · rw[mT css i _ o u hlen hcs ho,List.length_set,List.length_set];exact h2.1
   · rw[mT css i _ o u hlen hcs ho,Array.toList_setIfInBounds,List.take_set,List.length_set,ht,Nat.zero_add]
   · rcases Nat.decEq i j with hne|rfl
     · rw[List.getElem?_set_ne hne] at hc' hy';exact e.mv (h3 j cs' y' hc' hy') hm
     · rw[List.getElem?_set_self hic] at hc';rw[List.getElem?_set_self hi] at hy';cases hc';cases hy';exact e.mv hy hm
end Go.Lw
namespace Go.Lw
theorem aB.qk {P:Program}{ρ:Env}{h:aj}{dst:Option Nat}{ty:TypeId}{pos:String}{after:Array Edge}{guard:Option (Nat×Bool)}{X:List PanicEntry->aj->Prop}{t e:TypeId}{bytes n:Nat}{x y:Operand}{kl kc:IntKind}{z:Value}
 (ht:P.underlying t=some (.slice e)) (he:dn P e 1 bytes) (hz:(P.info? e).bind (·.zero)=some z) (hx:aU ρ x=some (.int kl (n:Nat))) (hy:aU ρ y=some (.int kc (n:Nat))) (hzc:z.cells= #[z]) (hn:n<=1000000000) (hb:bytes<=1000) :
 aB P ⟨dst,.makeSlice t x y,ty,pos,after,guard⟩ ρ h (fun u g=>u= .slice (some ⟨h.size,0,none⟩) n n/\az g h.size e 1 u n (List.replicate n z)/\aq h g) X:=by
 obtain⟨⟨i,z',hi,hz',hsz,hby,hzs⟩,_⟩:=he;have hzz:z'=z:=by rw[hi] at hz;simpa [hz'] using hz
 subst hzz;intro nn B a w hf ha next Q hnx _
 have hmul:i.bytes*n<=1000*1000000000:=Nat.mul_le_mul (by omega) hn;obtain⟨w',hr,h2,h3⟩:=run_make_full (P:=P) w h.size t e i z' 1 ht hi hz' hsz kl kc n (by omega) (by simp only[maxLen];omega) (by rw[ha.heap];exact Nat.le_refl _);unfold Oper.wp execOp;simp only[hf.eval hx,hf.eval hy,Sem.run_bind,Sem.run_pure,Result.andThen_ok,hr];refine hnx _ w'.heap w' (ha.grown h3) ⟨by rw[ha.heap],?_,?_⟩
 · have h4:=(At.own (ha.grown h3)).1 h2
   have:(madeCells z'.cells (n*1)).toList=List.replicate n z':=by
    rw[hzc,madeCells,Nat.mul_one]
    apply List.ext_getElem
    · simp
    · intro j h1 h2;simp[Nat.mod_one]
   rw[this] at h4;exact h4
 · have h5:=iL h3;rw[ha.heap] at h5;exact iM h5
section
variable {P:Program}{n:Nat}{ops:Array Oper}{M:Nat->Prop}{keeps:Nat->Bool}{fuel:Nat}{listed:Array Bool}{ρ:Env}{h:aj}{N:Env->aj->Prop}{X:List PanicEntry->aj->Prop}
theorem J4 (i j k:Nat){oi oj ok:Oper}{Φ Φ' Φ'':Value->aj->Prop}{li lj lk:Array Bool}{di dj dk:Option Nat}(hi':nth ops.toList i=some oi) (hj':nth ops.toList j=some oj) (hk':nth ops.toList k=some ok) (hr:Region.ready .any ops listed=[i,j,k])
 (hwi:aM ops ρ oi=some true) (hwj:aM ops ρ oj=some true) (hwk:aM ops ρ ok=some true) (hodi:oi.dst=di) (hodj:oj.dst=dj) (hodk:ok.dst=dk) (hdi:gJ n di=true) (hdj:gJ n dj=true) (hdk:gJ n dk=true)
 (ki:aB P oi ρ h Φ X) (kj:aB P oj ρ h Φ' X) (kk:aB P ok ρ h Φ'' X)
 (hli:listed.setIfInBounds i true=li) (hlj:listed.setIfInBounds j true=lj) (hlk:listed.setIfInBounds k true=lk)
 (nexti:∀v h',Φ v h'->(keeps i=true->Ext M h h')/\RD P n ops M keeps fuel li (ρ.put di v) h' N X)
 (nextj:∀v h',Φ' v h'->(keeps j=true->Ext M h h')/\RD P n ops M keeps fuel lj (ρ.put dj v) h' N X)
 (nextk:∀v h',Φ'' v h'->(keeps k=true->Ext M h h')/\RD P n ops M keeps fuel lk (ρ.put dk v) h' N X):RD P n ops M keeps (fuel+1) listed ρ h N X:=by
 subst hli;subst hlj;subst hlk;subst hodi;subst hodj;subst hodk;have hi:=dU hi';have hj:=dU hj';have hk:=dU hk';intro B a w hf' ha;refine⟨fun h0=>(by rw[hr] at h0;cases h0),fun q hq=>?_⟩;rw[hr] at hq;have:q=i\/q=j\/q=k:=by simpa using hq
 rcases this with rfl|rfl|rfl
 · unfold wpOp;simp only[hi];rw[cH hf' hwi,if_pos rfl];refine .inl (ki n B a w hf' ha _ _ (fun v h' w' ha' hv=>?_) (fun ch h' w' ha' hx=>⟨hf'.nd,h',ha',hx⟩));obtain⟨h1,h2⟩:=nexti v h' hv;exact⟨fun hk=>by rw[ha.heap,ha'.heap];exact h1 hk,h2 B _ w' (hf'.put hdi v) ha'⟩
 · unfold wpOp;simp only[hj];rw[cH hf' hwj,if_pos rfl];refine .inl (kj n B a w hf' ha _ _ (fun v h' w' ha' hv=>?_) (fun ch h' w' ha' hx=>⟨hf'.nd,h',ha',hx⟩));obtain⟨h1,h2⟩:=nextj v h' hv;exact⟨fun hk=>by rw[ha.heap,ha'.heap];exact h1 hk,h2 B _ w' (hf'.put hdj v) ha'⟩
 · unfold wpOp;simp only[hk];rw[cH hf' hwk,if_pos rfl];refine .inl (kk n B a w hf' ha _ _ (fun v h' w' ha' hv=>?_) (fun ch h' w' ha' hx=>⟨hf'.nd,h',ha',hx⟩));obtain⟨h1,h2⟩:=nextk v h' hv;exact⟨fun hk=>by rw[ha.heap,ha'.heap];exact h1 hk,h2 B _ w' (hf'.put hdk v) ha'⟩
theorem RD.Nc (i j k:Nat){oi oj ok:Oper}{Φ Φ' Φ'':Value->aj->Prop}{li lj lk:Array Bool}{di dj dk:Nat}(hi':nth ops.toList i=some oi) (hj':nth ops.toList j=some oj) (hk':nth ops.toList k=some ok) (hr:Region.ready .any ops listed=[i,j,k])
 (hwi:aM ops ρ oi=some true) (hwj:aM ops ρ oj=some true) (hwk:aM ops ρ ok=some true) (hodi:oi.dst=some di) (hodj:oj.dst=some dj) (hodk:ok.dst=some dk) (hdi:Nat.blt di n=true) (hdj:Nat.blt dj n=true) (hdk:Nat.blt dk n=true)
 (ki:aB P oi ρ h Φ X) (kj:aB P oj ρ h Φ' X) (kk:aB P ok ρ h Φ'' X)
 (hli:listed.setIfInBounds i true=li) (hlj:listed.setIfInBounds j true=lj) (hlk:listed.setIfInBounds k true=lk)
 (nexti:∀v h',Φ v h'->(keeps i=true->Ext M h h')/\RD P n ops M keeps fuel li ((di,v)::ρ) h' N X)
 (nextj:∀v h',Φ' v h'->(keeps j=true->Ext M h h')/\RD P n ops M keeps fuel lj ((dj,v)::ρ) h' N X)
 (nextk:∀v h',Φ'' v h'->(keeps k=true->Ext M h h')/\RD P n ops M keeps fuel lk ((dk,v)::ρ) h' N X):RD P n ops M keeps (fuel+1) listed ρ h N X :=
 J4 i j k hi' hj' hk' hr hwi hwj hwk hodi hodj hodk hdi hdj hdk ki kj kk hli hlj hlk nexti nextj nextk
end
end Go.Lw

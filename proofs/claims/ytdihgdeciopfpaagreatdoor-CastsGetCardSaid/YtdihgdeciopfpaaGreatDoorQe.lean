/- What the proof of the statement leans on (part 5). -/
import Derived.Laws.Build
import Derived.Below
import Derived.Test.YtdihgdeciopfpaaGreatDoorQd

namespace Go.Lw
open Go.RowKit
section
variable {t:TypeId}{b:Nat}{cs:List Value}{h:au}
section
variable {P:Program}{f:FuncId}{fn:Func}{k:List It}{ρ:Env}{h:au}{R:Ending->au->Prop}{p:List Nat}
def aY (P:Program) (ρ:Env) (h:au):ResultVar->Value->Prop
 |.tmp t,v=>ρ.at t=some v
 |.cell a t,v=>∃q,ρ.at a=some (.pointer (some q))/\∀B w,At B h w->(loadVar t q).run P w= .ok v w
theorem aY.tmp {t:Tmp}{v:Value}(hv:ρ.at t=some v):aY P ρ h (.tmp t) v:=hv
theorem aY.cell {a:Tmp}{t:TypeId}{q:Addr}{v:Value}(hr:aZ P t=some false) (hx:ρ.at a=some (.pointer (some q))) (hc:cellAt h q=some v):aY P ρ h (.cell a t) v :=
 ⟨q,hx,fun B w ha=>by simp[loadVar,hU hr,ha.cell,hc]⟩
theorem aY.row {a:Tmp}{o:Nat}(hr:aZ P t=some true) (hs:ck P t=some cs.length) (hx:ρ.at a=some (.pointer (some ⟨b,o,none⟩))) (hc:rowAt h b o cs):aY P ρ h (.cell a t) (.agg cs.toArray):=by
 refine⟨_,hx,fun B w ha=>?_⟩;unfold aZ at hr;cases hu:P.underlying t with
 |none=>simp[hu] at hr
 |some d =>
  simp[hu] at hr;have:=run_loadAt_mid (P:=P) w b o t cs d (fun j v hv=>by rw[ha.cell];exact hc j v hv) hu hr (by simpa [ck] using hs);simpa [Instr.loadAt,Instr.sureAddr] using this
inductive iZ (P:Program) (ρ:Env) (h:au):List ResultVar->List Value->Prop
 |nil:iZ P ρ h [] []
 |cons {r:ResultVar}{v:Value}{rs:List ResultVar}{vs:List Value}(hr:aY P ρ h r v) (hs:iZ P ρ h rs vs):iZ P ρ h (r::rs) (v::vs)
theorem dU {n:Nat}{a:Act}(hf:Fits n ρ a){B w:World}(ha:At B h w){vs:List Value}(hr:iZ P ρ h fn.results.toList vs):(results fn a.tmps).run P w= .ok (packed vs) w:=by
 unfold results;rw[Sem.run_bind,Array.mapM_eq_mapM_toList,Sem.run_map]
 have key:∀(g:ResultVar->Sem Value),(∀t v,ρ.at t=some v->(g (.tmp t)).run P w= .ok v w)->(∀a t q v,ρ.at a=some (.pointer (some q))->(loadVar t q).run P w= .ok v w->(g (.cell a t)).run P w= .ok v w) ->
  ∀(l:List ResultVar) (vs:List Value),iZ P ρ h l vs->(l.mapM g).run P w= .ok vs w:=by
  intro g h1 h2 l vs hl
  induction hl with
  |nil=>rfl
  |cons hr _ ih =>
   rename_i r v rs vs _
   have hg:(g r).run P w= .ok v w:=by
    cases r with
    |tmp t=>exact h1 t v hr
    |cell a t=>obtain⟨q,hq,hl⟩:=hr;exact h2 a t q v hq (hl B w ha)
   simp only[List.mapM_cons,Sem.run_bind,Sem.run_pure,Result.andThen_ok,ih,hg]
 rw[key _ (fun t v hv=>by simp[hf.ok t v hv]) (fun a t q v hq hl=>by simp[hf.ok a _ hq,asAddr,hl]) _ vs hr];simp only[Result.andThen_ok,Sem.run_pure]
 congr 1
 match vs with
 | []=>rfl
 | [v]=>rfl
 |_::_::_=>rfl
theorem G.dM (hfn:P.funcs[f]? =some fn) (hk:kind (Lw.sub (aG fn) p)=4){vs:List Value}(hr:iZ P ρ h fn.results.toList vs) (hR:R (.returned (packed vs)) h):G P f fn (.code p::k) ρ h R:=by
 intro B a w hf ha b hb hkk cs
 have hstep:Go.step P (lone (b.at a ((It.code p::k).map (aP (aG fn)))) cs w)= .next (lone { b.at a ((It.code p::k).map (aP (aG fn))) with mode:=.returning } cs w):=by
  simp only[List.map_cons,aP];cases hc:Lw.sub (aG fn) p<;>simp[hc,kind] at hk
  · rename_i d;cases d<;>simp at hk
  · exact step_ret
 exact⟨.returned (packed vs),w,_,h,ha,hR,.one hstep,hb,rfl,hf.nd,hkk,fn,by rw[show (({ b.at a ((It.code p::k).map (aP (aG fn))) with mode:=.returning }:Frame)).fn=f from hb];exact hfn,dU hf ha hr⟩
end
def aL (h:au) (b:Nat) (t:TypeId) (cs:List Value):Prop:=h[b]? =some (.cells cs.toArray t (0,0))
theorem aL.lt (k:aL h b t cs):b<h.size:=(Array.getElem?_eq_some_iff.1 k).1
theorem aL.ext {M:Nat->Prop}{h':au}(k:aL h b t cs) (e:Ext M h h') (hm:¬M b):aL h' b t cs:=(e.block b k.lt hm).trans k
theorem aL.aq {h':au}(k:aL h b t cs) (e:av h h'):aL h' b t cs:=(e.block b k.lt (fun k=>k)).trans k
theorem qA (h:au) (cs:List Value) (t:TypeId):aL (h.push (.cells cs.toArray t)) h.size t cs:=Array.getElem?_push_size
theorem aL.cell (k:aL h b t cs){i:Nat}{v:Value}(hv:cs[i]? =some v):cellAt h ⟨b,i,none⟩=some v:=Aj k (by simpa using hv)
theorem aL.row (k:aL h b t cs):rowAt h b 0 cs:=fun j v hv=>by rw[Nat.zero_add];exact k.cell hv
theorem aL.part (k:aL h b t cs) (o:Nat){ds:List Value}(hd:∀j v,ds[j]? =some v->cs[o+j]? =some v):rowAt h b o ds:=fun j v hv=>k.cell (hd j v hv)
theorem aL.nf {i:Nat}(k:aL h b t cs):frozenAt h ⟨b,i,none⟩=false:=by
 unfold aL at k;simp[frozenAt,k]
theorem aL.set {h:au}{b:Nat}{t:TypeId}{cs:List Value}(k:aL h b t cs) (i:Nat) (v:Value):aL (dP h ⟨b,i,none⟩ v) b t (cs.set i v):=by
 unfold aL at k ⊢;rw[q9 k];simp
theorem aL.whole (k:aL h b t cs) (ds:List Value):aL (setRow h b ds.toArray) b t ds:=Bl k _
def over (cs:List Value) (o:Nat) (ds:List Value):List Value:=cs.take o++ds++cs.drop (o+ds.length)
end
end Go.Lw
namespace Go.Lw
open Go.RowKit
section
variable {h:au}{g o:Nat}{t:TypeId}{x:Operand}
section
variable {P:Program}{ρ:Env}{h:au}{dst:Option Nat}{ty:TypeId}{pos:String}{after:Array Edge}{guard:Option (Nat×Bool)}{X:List PanicEntry->au->Prop}
theorem av.only {h0 h':au}(e:av h0 h) (x:Ext (fun b=>b=g) h h') (hg:h0.size<=g):av h0 h' :=
 ⟨Nat.le_trans e.size x.size,fun b hb _=>by
  rw[x.block b (Nat.lt_of_lt_of_le hb e.size) (by omega)];exact e.block b hb (fun k=>k)⟩
theorem fS {h0 h':au}(e:av h0 h) (x:Ext (fun b=>g<=b) h h') (hg:h0.size<=g):av h0 h' :=
 ⟨Nat.le_trans e.size x.size,fun b hb _=>by
  rw[x.block b (Nat.lt_of_lt_of_le hb e.size) (by omega)];exact e.block b hb (fun k=>k)⟩
theorem ax.aO {z:Value}(hz:(P.info? t).bind (·.zero)=some z) :
 ax P ⟨dst,.alloc t,ty,pos,after,guard⟩ ρ h (fun u g=>u= .pointer (some ⟨h.size,0,none⟩)/\aL g h.size t z.cells.toList/\av h g/\g.size=h.size+1) X :=
 (ax.alloc hz).mono (fun u g ⟨h1,h2⟩=>⟨h1,by subst h2;unfold aL;simp,by subst h2;exact Ext.push _ _ _,by subst h2;simp⟩) (fun _ _ k=>k)
theorem ax.cq {v:Value}(hx:bE ρ x=some v) :
 ax P ⟨dst,.box t x,ty,pos,after,guard⟩ ρ h (fun u g=>u= .pointer (some ⟨h.size,0,none⟩)/\aL g h.size t v.cells.toList/\av h g/\g.size=h.size+1) X :=
 (ax.box hx).mono (fun u g ⟨h1,h2⟩=>⟨h1,by subst h2;unfold aL;simp,by subst h2;exact Ext.push _ _ _,by subst h2;simp⟩) (fun _ _ k=>k)
theorem ax.aB {e:TypeId}{y:Operand}{sz:Nat}{cur:List Value}{cs:Array Value}(hs:ck P t=some sz) (hx:bE ρ x=some (.pointer (some ⟨g,o,none⟩))) (hy:bE ρ y=some (.agg cs))
 (hk:aL h g e cur) (hn:cs.size=sz) (hl:o+sz<=cur.length) (h1:∀v∈cs.toList,v.oneCell'=true) :
 ax P ⟨dst,.store t x y,ty,pos,after,guard⟩ ρ h (fun u h'=>u=undef/\aL h' g e (over cur o cs.toList)/\Ext (fun b=>b=g) h h'/\h'.size=h.size) X:=by
 refine(ax.Fk hs hx hy hn hk (by simpa [hn] using hl) h1).mono (fun u h' ⟨e1,e2⟩=>?_) (fun _ _ k=>k);subst e2;have e3:(cur.toArray.toList.take o++cs.toList++cur.toArray.toList.drop (o+cs.size))=over cur o cs.toList:=by simp[over]
 rw[e3];exact⟨e1,hk.whole _,Ext.setRow _ _ _ rfl,setRow_size _ _ _⟩
theorem ax.aH {e:TypeId}{y:Operand}{v:Value}{cur:List Value}(hs:ck P t=some 1) (hx:bE ρ x=some (.pointer (some ⟨g,o,none⟩))) (hy:bE ρ y=some v) (hk:aL h g e cur) (hl:o<cur.length) (h1:v.oneCell'=true) :
 ax P ⟨dst,.store t x y,ty,pos,after,guard⟩ ρ h (fun u h'=>u=undef/\aL h' g e (cur.set o v)/\Ext (fun b=>b=g) h h'/\h'.size=h.size) X :=
 (cB hs hx hy h1 (hk.cell (List.getElem?_eq_getElem hl)) hk.nf).mono (fun _ h' ⟨e1,e2⟩=>by
  subst e2;exact⟨e1,hk.set o v,Ext.dP _ _ _ rfl,jh _ _ _⟩) (fun _ _ k=>k)
theorem ai.aD {b sz:Nat}{cs:List Value}(hr:aZ P t=some true) (hs:ck P t=some sz) (hx:bE ρ x=some (.pointer (some ⟨b,o,none⟩))) (hc:rowAt h b o cs) (hn:cs.length=sz) :
 ai P ⟨dst,.load t x,ty,pos,after,guard⟩ ρ h (.agg cs.toArray):=ai.HU hr (by rw[hn];exact hs) hx hc
theorem bw {t:TypeId}{x:Operand}{v:Value}(ht:P.concrete t=true) (hx:bE ρ x=some v) :
 ai P ⟨dst,.makeInterface t x,ty,pos,after,guard⟩ ρ h (.iface t v):=by
 intro _ B a w hf _;simp[execOp,hf.eval hx,run_makeInterface w t v ht]
end
def EH (Φ:Value->au->Prop) (X:List PanicEntry->au->Prop) (e:Ending) (h:au):Prop :=
 match e with|.returned v=>Φ v h|.panicked c=>X c h|.outgrown=>False
theorem af.iA {P:Program}{f:FuncId}{args:Array Value}{Φ:Value->au->Prop}{X0 X:List PanicEntry->au->Prop}(k:af P f args h (EH Φ X0)) (hx:∀c h',X0 c h'->X c h') :
 af P f args h (fun e h'=>match e with|.returned v=>Φ v h'|.panicked c=>X c h'|.outgrown=>False) :=
 k.mono fun e h' r=>by
  cases e with
  |returned v=>exact r
  |panicked c=>exact hx c h' r
  |outgrown=>exact r
theorem mT {w w':World}(e:Below w.heap.size w w'):av w.heap w'.heap:=⟨e.size,fun b hb _=>e.block b hb⟩
theorem af.qp {P:Program}{f:FuncId}{args:Array Value}{Φ:Value->au->Prop}
 (k:∀w,w.heap=h->Calls P f args w fun e w'=>∃v,e= .returned v/\Φ v w'.heap/\w'.os=w.os/\w'.tape=w.tape/\w'.output=w.output):af P f args h (bC Φ):=by
 intro B w ha;refine(k w ha.heap).mono ?_;rintro e w' ⟨v,rfl,hp,h1,h2,h3⟩;exact⟨w'.heap,⟨rfl,h1.trans ha.os,h2.trans ha.tape,h3.trans ha.output⟩,v,rfl,hp⟩
end
end Go.Lw

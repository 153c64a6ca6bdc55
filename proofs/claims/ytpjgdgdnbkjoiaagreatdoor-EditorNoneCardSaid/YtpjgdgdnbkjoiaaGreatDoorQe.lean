/- What the proof of the statement leans on (part 5). -/
import Derived.Laws.Build
import Derived.Below
import Derived.Test.YtpjgdgdnbkjoiaaGreatDoorQd

namespace Go.Lw
open Go.RowKit
section
variable {t:TypeId}{b:Nat}{cs:List Value}{h:ai}
section
variable {P:Program}{f:FuncId}{fn:Func}{k:List It}{ρ:Env}{h:ai}{R:Ending->ai->Prop}{p:List Nat}
def cP (P:Program) (ρ:Env) (h:ai):ResultVar->Value->Prop
 |.tmp t,v=>ρ.at t=some v
 |.cell a t,v=>∃q,ρ.at a=some (.pointer (some q))/\∀B w,At B h w->(loadVar t q).run P w= .ok v w
theorem cP.tmp {t:Tmp}{v:Value}(hv:ρ.at t=some v):cP P ρ h (.tmp t) v:=hv
theorem cP.cell {a:Tmp}{t:TypeId}{q:Addr}{v:Value}(hr:aU P t=some false) (hx:ρ.at a=some (.pointer (some q))) (hc:cellAt h q=some v):cP P ρ h (.cell a t) v :=
 ⟨q,hx,fun B w ha=>by simp[loadVar,iy hr,ha.cell,hc]⟩
theorem cP.row {a:Tmp}{o:Nat}(hr:aU P t=some true) (hs:cq P t=some cs.length) (hx:ρ.at a=some (.pointer (some ⟨b,o,none⟩))) (hc:rowAt h b o cs):cP P ρ h (.cell a t) (.agg cs.toArray):=by
 refine⟨_,hx,fun B w ha=>?_⟩;unfold aU at hr;cases hu:P.underlying t with
 |none=>simp[hu] at hr
 |some d =>
  simp[hu] at hr;have:=run_loadAt_mid (P:=P) w b o t cs d (fun j v hv=>by rw[ha.cell];exact hc j v hv) hu hr (by simpa [cq] using hs);simpa [Instr.loadAt,Instr.sureAddr] using this
inductive gZ (P:Program) (ρ:Env) (h:ai):List ResultVar->List Value->Prop
 |nil:gZ P ρ h [] []
 |cons {r:ResultVar}{v:Value}{rs:List ResultVar}{vs:List Value}(hr:cP P ρ h r v) (hs:gZ P ρ h rs vs):gZ P ρ h (r::rs) (v::vs)
theorem iN {n:Nat}{a:Act}(hf:Fits n ρ a){B w:World}(ha:At B h w){vs:List Value}(hr:gZ P ρ h fn.results.toList vs):(results fn a.tmps).run P w= .ok (packed vs) w:=by
 unfold results;rw[Sem.run_bind,Array.mapM_eq_mapM_toList,Sem.run_map]
 have key:∀(g:ResultVar->Sem Value),(∀t v,ρ.at t=some v->(g (.tmp t)).run P w= .ok v w)->(∀a t q v,ρ.at a=some (.pointer (some q))->(loadVar t q).run P w= .ok v w->(g (.cell a t)).run P w= .ok v w) ->
  ∀(l:List ResultVar) (vs:List Value),gZ P ρ h l vs->(l.mapM g).run P w= .ok vs w:=by
  intro g h1 h2 l vs hl
  induction hl with
  |nil=>rfl
  |cons hr _ ih =>
   rename_i r v rs vs _
   have hg:(g r).run P w= .ok v w:=by
    cases r with
    |tmp t=>exact h1 t v hr
    |cell a t=>obtain⟨q,hq,hl⟩:=hr;exact h2 a t q v hq (hl B w ha)
   simp only[List.mapM_cons,Sem.run_bind,Sem.run_pure,Result.andThen_ok,ih,hg]
 rw[key _ (fun t v hv=>by simp[hf.ok t v hv]) (fun a t q v hq hl=>by simp[hf.ok a _ hq,asAddr,hl]) _ vs hr];simp only[Result.andThen_ok,Sem.run_pure]
 congr 1
 match vs with
 | []=>rfl
 | [v]=>rfl
 |_::_::_=>rfl
theorem G.qu (hfn:P.funcs[f]? =some fn) (hk:kind (Lw.sub (av fn) p)=4){vs:List Value}(hr:gZ P ρ h fn.results.toList vs) (hR:R (.returned (packed vs)) h):G P f fn (.code p::k) ρ h R:=by
 intro B a w hf ha b hb hkk cs
 have hstep:Go.step P (lone (b.at a ((It.code p::k).map (aI (av fn)))) cs w)= .next (lone { b.at a ((It.code p::k).map (aI (av fn))) with mode:=.returning } cs w):=by
  simp only[List.map_cons,aI];cases hc:Lw.sub (av fn) p<;>simp[hc,kind] at hk
  · rename_i d;cases d<;>simp at hk
  · exact step_ret
 exact⟨.returned (packed vs),w,_,h,ha,hR,.one hstep,hb,rfl,hf.nd,hkk,fn,by rw[show (({ b.at a ((It.code p::k).map (aI (av fn))) with mode:=.returning }:Frame)).fn=f from hb];exact hfn,iN hf ha hr⟩
end
def aE (h:ai) (b:Nat) (t:TypeId) (cs:List Value):Prop:=h[b]? =some (.cells cs.toArray t (0,0))
theorem aE.lt (k:aE h b t cs):b<h.size:=(Array.getElem?_eq_some_iff.1 k).1
theorem aE.ext {M:Nat->Prop}{h':ai}(k:aE h b t cs) (e:Ext M h h') (hm:¬M b):aE h' b t cs:=(e.block b k.lt hm).trans k
theorem aE.aj {h':ai}(k:aE h b t cs) (e:ak h h'):aE h' b t cs:=(e.block b k.lt (fun k=>k)).trans k
theorem FV (h:ai) (cs:List Value) (t:TypeId):aE (h.push (.cells cs.toArray t)) h.size t cs:=Array.getElem?_push_size
theorem aE.cell (k:aE h b t cs){i:Nat}{v:Value}(hv:cs[i]? =some v):cellAt h ⟨b,i,none⟩=some v:=CX k (by simpa using hv)
theorem aE.row (k:aE h b t cs):rowAt h b 0 cs:=fun j v hv=>by rw[Nat.zero_add];exact k.cell hv
theorem aE.part (k:aE h b t cs) (o:Nat){ds:List Value}(hd:∀j v,ds[j]? =some v->cs[o+j]? =some v):rowAt h b o ds:=fun j v hv=>k.cell (hd j v hv)
theorem aE.nf {i:Nat}(k:aE h b t cs):frozenAt h ⟨b,i,none⟩=false:=by
 unfold aE at k;simp[frozenAt,k]
theorem aE.set {h:ai}{b:Nat}{t:TypeId}{cs:List Value}(k:aE h b t cs) (i:Nat) (v:Value):aE (ey h ⟨b,i,none⟩ v) b t (cs.set i v):=by
 unfold aE at k ⊢;rw[vG k];simp
theorem aE.whole (k:aE h b t cs) (ds:List Value):aE (setRow h b ds.toArray) b t ds:=DK k _
def over (cs:List Value) (o:Nat) (ds:List Value):List Value:=cs.take o++ds++cs.drop (o+ds.length)
end
end Go.Lw
namespace Go.Lw
open Go.RowKit
section
variable {h:ai}{g o:Nat}{t:TypeId}{x:Operand}
section
variable {P:Program}{ρ:Env}{h:ai}{dst:Option Nat}{ty:TypeId}{pos:String}{after:Array Edge}{guard:Option (Nat×Bool)}{X:List PanicEntry->ai->Prop}
theorem ak.only {h0 h':ai}(e:ak h0 h) (x:Ext (fun b=>b=g) h h') (hg:h0.size<=g):ak h0 h' :=
 ⟨Nat.le_trans e.size x.size,fun b hb _=>by
  rw[x.block b (Nat.lt_of_lt_of_le hb e.size) (by omega)];exact e.block b hb (fun k=>k)⟩
theorem iH {h0 h':ai}(e:ak h0 h) (x:Ext (fun b=>g<=b) h h') (hg:h0.size<=g):ak h0 h' :=
 ⟨Nat.le_trans e.size x.size,fun b hb _=>by
  rw[x.block b (Nat.lt_of_lt_of_le hb e.size) (by omega)];exact e.block b hb (fun k=>k)⟩
theorem az.cC {z:Value}(hz:(P.info? t).bind (·.zero)=some z) :
 az P ⟨dst,.alloc t,ty,pos,after,guard⟩ ρ h (fun u g=>u= .pointer (some ⟨h.size,0,none⟩)/\aE g h.size t z.cells.toList/\ak h g/\g.size=h.size+1) X :=
 (az.alloc hz).mono (fun u g ⟨h1,h2⟩=>⟨h1,by subst h2;unfold aE;simp,by subst h2;exact Ext.push _ _ _,by subst h2;simp⟩) (fun _ _ k=>k)
theorem az.iQ {v:Value}(hx:aV ρ x=some v) :
 az P ⟨dst,.box t x,ty,pos,after,guard⟩ ρ h (fun u g=>u= .pointer (some ⟨h.size,0,none⟩)/\aE g h.size t v.cells.toList/\ak h g/\g.size=h.size+1) X :=
 (az.box hx).mono (fun u g ⟨h1,h2⟩=>⟨h1,by subst h2;unfold aE;simp,by subst h2;exact Ext.push _ _ _,by subst h2;simp⟩) (fun _ _ k=>k)
theorem az.aH {e:TypeId}{y:Operand}{sz:Nat}{cur:List Value}{cs:Array Value}(hs:cq P t=some sz) (hx:aV ρ x=some (.pointer (some ⟨g,o,none⟩))) (hy:aV ρ y=some (.agg cs))
 (hk:aE h g e cur) (hn:cs.size=sz) (hl:o+sz<=cur.length) (h1:∀v∈cs.toList,v.oneCell'=true) :
 az P ⟨dst,.store t x y,ty,pos,after,guard⟩ ρ h (fun u h'=>u=undef/\aE h' g e (over cur o cs.toList)/\Ext (fun b=>b=g) h h'/\h'.size=h.size) X:=by
 refine(az.Ie hs hx hy hn hk (by simpa [hn] using hl) h1).mono (fun u h' ⟨e1,e2⟩=>?_) (fun _ _ k=>k);subst e2;have e3:(cur.toArray.toList.take o++cs.toList++cur.toArray.toList.drop (o+cs.size))=over cur o cs.toList:=by simp[over]
 rw[e3];exact⟨e1,hk.whole _,Ext.setRow _ _ _ rfl,setRow_size _ _ _⟩
theorem az.aO {e:TypeId}{y:Operand}{v:Value}{cur:List Value}(hs:cq P t=some 1) (hx:aV ρ x=some (.pointer (some ⟨g,o,none⟩))) (hy:aV ρ y=some v) (hk:aE h g e cur) (hl:o<cur.length) (h1:v.oneCell'=true) :
 az P ⟨dst,.store t x y,ty,pos,after,guard⟩ ρ h (fun u h'=>u=undef/\aE h' g e (cur.set o v)/\Ext (fun b=>b=g) h h'/\h'.size=h.size) X :=
 (bU hs hx hy h1 (hk.cell (List.getElem?_eq_getElem hl)) hk.nf).mono (fun _ h' ⟨e1,e2⟩=>by
  subst e2;exact⟨e1,hk.set o v,Ext.ey _ _ _ rfl,jt _ _ _⟩) (fun _ _ k=>k)
theorem an.aG {b sz:Nat}{cs:List Value}(hr:aU P t=some true) (hs:cq P t=some sz) (hx:aV ρ x=some (.pointer (some ⟨b,o,none⟩))) (hc:rowAt h b o cs) (hn:cs.length=sz) :
 an P ⟨dst,.load t x,ty,pos,after,guard⟩ ρ h (.agg cs.toArray):=an.KB hr (by rw[hn];exact hs) hx hc
theorem kE {t:TypeId}{x:Operand}{v:Value}(ht:P.concrete t=true) (hx:aV ρ x=some v) :
 an P ⟨dst,.makeInterface t x,ty,pos,after,guard⟩ ρ h (.iface t v):=by
 intro _ B a w hf _;simp[execOp,hf.eval hx,run_makeInterface w t v ht]
end
def EP (Φ:Value->ai->Prop) (X:List PanicEntry->ai->Prop) (e:Ending) (h:ai):Prop :=
 match e with|.returned v=>Φ v h|.panicked c=>X c h|.outgrown=>False
theorem af.NA {P:Program}{f:FuncId}{args:Array Value}{Φ:Value->ai->Prop}{X0 X:List PanicEntry->ai->Prop}(k:af P f args h (EP Φ X0)) (hx:∀c h',X0 c h'->X c h') :
 af P f args h (fun e h'=>match e with|.returned v=>Φ v h'|.panicked c=>X c h'|.outgrown=>False) :=
 k.mono fun e h' r=>by
  cases e with
  |returned v=>exact r
  |panicked c=>exact hx c h' r
  |outgrown=>exact r
theorem af.oY {P:Program}{f:FuncId}{args:Array Value}{Φ:Value->ai->Prop}
 (k:∀w,w.heap=h->Calls P f args w fun e w'=>∃v,e= .returned v/\Φ v w'.heap/\w'.os=w.os/\w'.tape=w.tape/\w'.output=w.output):af P f args h (aX Φ):=by
 intro B w ha;refine(k w ha.heap).mono ?_;rintro e w' ⟨v,rfl,hp,h1,h2,h3⟩;exact⟨w'.heap,⟨rfl,h1.trans ha.os,h2.trans ha.tape,h3.trans ha.output⟩,v,rfl,hp⟩
end
end Go.Lw

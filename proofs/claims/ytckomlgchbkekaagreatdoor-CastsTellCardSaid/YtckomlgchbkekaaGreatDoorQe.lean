/- What the proof of the statement leans on (part 5). -/
import Derived.Laws.Build
import Derived.Below
import Derived.Test.YtckomlgchbkekaaGreatDoorQd

namespace Go.Lw
open Go.RowKit
section
variable {t:TypeId}{b:Nat}{cs:List Value}{h:ai}
section
variable {P:Program}{f:FuncId}{fn:Func}{k:List It}{ρ:Env}{h:ai}{R:Ending->ai->Prop}{p:List Nat}
def cX (P:Program) (ρ:Env) (h:ai):ResultVar->Value->Prop
 |.tmp t,v=>ρ.at t=some v
 |.cell a t,v=>∃q,ρ.at a=some (.pointer (some q))/\∀B w,At B h w->(loadVar t q).run P w= .ok v w
theorem cX.tmp {t:Tmp}{v:Value}(hv:ρ.at t=some v):cX P ρ h (.tmp t) v:=hv
theorem cX.cell {a:Tmp}{t:TypeId}{q:Addr}{v:Value}(hr:aJ P t=some false) (hx:ρ.at a=some (.pointer (some q))) (hc:cellAt h q=some v):cX P ρ h (.cell a t) v :=
 ⟨q,hx,fun B w ha=>by simp[loadVar,fY hr,ha.cell,hc]⟩
theorem cX.row {a:Tmp}{o:Nat}(hr:aJ P t=some true) (hs:bE P t=some cs.length) (hx:ρ.at a=some (.pointer (some ⟨b,o,none⟩))) (hc:rowAt h b o cs):cX P ρ h (.cell a t) (.agg cs.toArray):=by
 refine⟨_,hx,fun B w ha=>?_⟩;unfold aJ at hr;cases hu:P.underlying t with
 |none=>simp[hu] at hr
 |some d =>
  simp[hu] at hr;have:=run_loadAt_mid (P:=P) w b o t cs d (fun j v hv=>by rw[ha.cell];exact hc j v hv) hu hr (by simpa [bE] using hs);simpa [Instr.loadAt,Instr.sureAddr] using this
inductive dS (P:Program) (ρ:Env) (h:ai):List ResultVar->List Value->Prop
 |nil:dS P ρ h [] []
 |cons {r:ResultVar}{v:Value}{rs:List ResultVar}{vs:List Value}(hr:cX P ρ h r v) (hs:dS P ρ h rs vs):dS P ρ h (r::rs) (v::vs)
theorem eu {n:Nat}{a:Act}(hf:Fits n ρ a){B w:World}(ha:At B h w){vs:List Value}(hr:dS P ρ h fn.results.toList vs):(results fn a.tmps).run P w= .ok (packed vs) w:=by
 unfold results;rw[Sem.run_bind,Array.mapM_eq_mapM_toList,Sem.run_map]
 have key:∀(g:ResultVar->Sem Value),(∀t v,ρ.at t=some v->(g (.tmp t)).run P w= .ok v w)->(∀a t q v,ρ.at a=some (.pointer (some q))->(loadVar t q).run P w= .ok v w->(g (.cell a t)).run P w= .ok v w) ->
  ∀(l:List ResultVar) (vs:List Value),dS P ρ h l vs->(l.mapM g).run P w= .ok vs w:=by
  intro g h1 h2 l vs hl
  induction hl with
  |nil=>rfl
  |cons hr _ ih =>
   rename_i r v rs vs _
   have hg:(g r).run P w= .ok v w:=by
    cases r with
    |tmp t=>exact h1 t v hr
    |cell a t=>obtain⟨q,hq,hl⟩:=hr;exact h2 a t q v hq (hl B w ha)
   simp only[List.mapM_cons,Sem.run_bind,Sem.run_pure,Result.andThen_ok,ih,hg]
 rw[key _ (fun t v hv=>by simp[hf.ok t v hv]) (fun a t q v hq hl=>by simp[hf.ok a _ hq,asAddr,hl]) _ vs hr];simp only[Result.andThen_ok,Sem.run_pure]
 congr 1
 match vs with
 | []=>rfl
 | [v]=>rfl
 |_::_::_=>rfl
theorem G.OU (hfn:P.funcs[f]? =some fn) (hk:kind (Lw.sub (aq fn) p)=4){vs:List Value}(hr:dS P ρ h fn.results.toList vs) (hR:R (.returned (packed vs)) h):G P f fn (.code p::k) ρ h R:=by
 intro B a w hf ha b hb hkk cs
 have hstep:Go.step P (lone (b.at a ((It.code p::k).map (aF (aq fn)))) cs w)= .next (lone { b.at a ((It.code p::k).map (aF (aq fn))) with mode:=.returning } cs w):=by
  simp only[List.map_cons,aF];cases hc:Lw.sub (aq fn) p<;>simp[hc,kind] at hk
  · rename_i d;cases d<;>simp at hk
  · exact step_ret
 exact⟨.returned (packed vs),w,_,h,ha,hR,.one hstep,hb,rfl,hf.nd,hkk,fn,by rw[show (({ b.at a ((It.code p::k).map (aF (aq fn))) with mode:=.returning }:Frame)).fn=f from hb];exact hfn,eu hf ha hr⟩
end
def az (h:ai) (b:Nat) (t:TypeId) (cs:List Value):Prop:=h[b]? =some (.cells cs.toArray t (0,0))
theorem az.lt (k:az h b t cs):b<h.size:=(Array.getElem?_eq_some_iff.1 k).1
theorem az.ext {M:Nat->Prop}{h':ai}(k:az h b t cs) (e:Ext M h h') (hm:¬M b):az h' b t cs:=(e.block b k.lt hm).trans k
theorem az.af {h':ai}(k:az h b t cs) (e:ah h h'):az h' b t cs:=(e.block b k.lt (fun k=>k)).trans k
theorem cl (h:ai) (cs:List Value) (t:TypeId):az (h.push (.cells cs.toArray t)) h.size t cs:=Array.getElem?_push_size
theorem az.cell (k:az h b t cs){i:Nat}{v:Value}(hv:cs[i]? =some v):cellAt h ⟨b,i,none⟩=some v:=Bp k (by simpa using hv)
theorem az.row (k:az h b t cs):rowAt h b 0 cs:=fun j v hv=>by rw[Nat.zero_add];exact k.cell hv
theorem az.part (k:az h b t cs) (o:Nat){ds:List Value}(hd:∀j v,ds[j]? =some v->cs[o+j]? =some v):rowAt h b o ds:=fun j v hv=>k.cell (hd j v hv)
theorem az.nf {i:Nat}(k:az h b t cs):frozenAt h ⟨b,i,none⟩=false:=by
 unfold az at k;simp[frozenAt,k]
theorem az.set {h:ai}{b:Nat}{t:TypeId}{cs:List Value}(k:az h b t cs) (i:Nat) (v:Value):az (dD h ⟨b,i,none⟩ v) b t (cs.set i v):=by
 unfold az at k ⊢;rw[rK k];simp
theorem az.whole (k:az h b t cs) (ds:List Value):az (setRow h b ds.toArray) b t ds:=Ca k _
def over (cs:List Value) (o:Nat) (ds:List Value):List Value:=cs.take o++ds++cs.drop (o+ds.length)
end
end Go.Lw
namespace Go.Lw
open Go.RowKit
section
variable {h:ai}{g o:Nat}{t:TypeId}{x:Operand}
section
variable {P:Program}{ρ:Env}{h:ai}{dst:Option Nat}{ty:TypeId}{pos:String}{after:Array Edge}{guard:Option (Nat×Bool)}{X:List PanicEntry->ai->Prop}
theorem ah.only {h0 h':ai}(e:ah h0 h) (x:Ext (fun b=>b=g) h h') (hg:h0.size<=g):ah h0 h' :=
 ⟨Nat.le_trans e.size x.size,fun b hb _=>by
  rw[x.block b (Nat.lt_of_lt_of_le hb e.size) (by omega)];exact e.block b hb (fun k=>k)⟩
theorem gC {h0 h':ai}(e:ah h0 h) (x:Ext (fun b=>g<=b) h h') (hg:h0.size<=g):ah h0 h' :=
 ⟨Nat.le_trans e.size x.size,fun b hb _=>by
  rw[x.block b (Nat.lt_of_lt_of_le hb e.size) (by omega)];exact e.block b hb (fun k=>k)⟩
theorem aH.lW {z:Value}(hz:(P.info? t).bind (·.zero)=some z) :
 aH P ⟨dst,.alloc t,ty,pos,after,guard⟩ ρ h (fun u g=>u= .pointer (some ⟨h.size,0,none⟩)/\az g h.size t z.cells.toList/\ah h g/\g.size=h.size+1) X :=
 (aH.alloc hz).mono (fun u g ⟨h1,h2⟩=>⟨h1,by subst h2;unfold az;simp,by subst h2;exact Ext.push _ _ _,by subst h2;simp⟩) (fun _ _ k=>k)
theorem aH.Jc {v:Value}(hx:aT ρ x=some v) :
 aH P ⟨dst,.box t x,ty,pos,after,guard⟩ ρ h (fun u g=>u= .pointer (some ⟨h.size,0,none⟩)/\az g h.size t v.cells.toList/\ah h g/\g.size=h.size+1) X :=
 (aH.box hx).mono (fun u g ⟨h1,h2⟩=>⟨h1,by subst h2;unfold az;simp,by subst h2;exact Ext.push _ _ _,by subst h2;simp⟩) (fun _ _ k=>k)
theorem aH.bZ {e:TypeId}{y:Operand}{sz:Nat}{cur:List Value}{cs:Array Value}(hs:bE P t=some sz) (hx:aT ρ x=some (.pointer (some ⟨g,o,none⟩))) (hy:aT ρ y=some (.agg cs))
 (hk:az h g e cur) (hn:cs.size=sz) (hl:o+sz<=cur.length) (h1:∀v∈cs.toList,v.oneCell'=true) :
 aH P ⟨dst,.store t x y,ty,pos,after,guard⟩ ρ h (fun u h'=>u=undef/\az h' g e (over cur o cs.toList)/\Ext (fun b=>b=g) h h'/\h'.size=h.size) X:=by
 refine(aH.Ga hs hx hy hn hk (by simpa [hn] using hl) h1).mono (fun u h' ⟨e1,e2⟩=>?_) (fun _ _ k=>k);subst e2;have e3:(cur.toArray.toList.take o++cs.toList++cur.toArray.toList.drop (o+cs.size))=over cur o cs.toList:=by simp[over]
 rw[e3];exact⟨e1,hk.whole _,Ext.setRow _ _ _ rfl,setRow_size _ _ _⟩
theorem aH.br {e:TypeId}{y:Operand}{v:Value}{cur:List Value}(hs:bE P t=some 1) (hx:aT ρ x=some (.pointer (some ⟨g,o,none⟩))) (hy:aT ρ y=some v) (hk:az h g e cur) (hl:o<cur.length) (h1:v.oneCell'=true) :
 aH P ⟨dst,.store t x y,ty,pos,after,guard⟩ ρ h (fun u h'=>u=undef/\az h' g e (cur.set o v)/\Ext (fun b=>b=g) h h'/\h'.size=h.size) X :=
 (bW hs hx hy h1 (hk.cell (List.getElem?_eq_getElem hl)) hk.nf).mono (fun _ h' ⟨e1,e2⟩=>by
  subst e2;exact⟨e1,hk.set o v,Ext.dD _ _ _ rfl,iz _ _ _⟩) (fun _ _ k=>k)
theorem an.bB {b sz:Nat}{cs:List Value}(hr:aJ P t=some true) (hs:bE P t=some sz) (hx:aT ρ x=some (.pointer (some ⟨b,o,none⟩))) (hc:rowAt h b o cs) (hn:cs.length=sz) :
 an P ⟨dst,.load t x,ty,pos,after,guard⟩ ρ h (.agg cs.toArray):=an.IQ hr (by rw[hn];exact hs) hx hc
theorem iY {t:TypeId}{x:Operand}{v:Value}(ht:P.concrete t=true) (hx:aT ρ x=some v) :
 an P ⟨dst,.makeInterface t x,ty,pos,after,guard⟩ ρ h (.iface t v):=by
 intro _ B a w hf _;simp[execOp,hf.eval hx,run_makeInterface w t v ht]
end
def Dj (Φ:Value->ai->Prop) (X:List PanicEntry->ai->Prop) (e:Ending) (h:ai):Prop :=
 match e with|.returned v=>Φ v h|.panicked c=>X c h|.outgrown=>False
theorem aj.Mg {P:Program}{f:FuncId}{args:Array Value}{Φ:Value->ai->Prop}{X0 X:List PanicEntry->ai->Prop}(k:aj P f args h (Dj Φ X0)) (hx:∀c h',X0 c h'->X c h') :
 aj P f args h (fun e h'=>match e with|.returned v=>Φ v h'|.panicked c=>X c h'|.outgrown=>False) :=
 k.mono fun e h' r=>by
  cases e with
  |returned v=>exact r
  |panicked c=>exact hx c h' r
  |outgrown=>exact r
theorem nD {w w':World}(e:Below w.heap.size w w'):ah w.heap w'.heap:=⟨e.size,fun b hb _=>e.block b hb⟩
theorem aj.qO {P:Program}{f:FuncId}{args:Array Value}{Φ:Value->ai->Prop}
 (k:∀w,w.heap=h->Calls P f args w fun e w'=>∃v,e= .returned v/\Φ v w'.heap/\w'.os=w.os/\w'.tape=w.tape/\w'.output=w.output):aj P f args h (aN Φ):=by
 intro B w ha;refine(k w ha.heap).mono ?_;rintro e w' ⟨v,rfl,hp,h1,h2,h3⟩;exact⟨w'.heap,⟨rfl,h1.trans ha.os,h2.trans ha.tape,h3.trans ha.output⟩,v,rfl,hp⟩
end
end Go.Lw

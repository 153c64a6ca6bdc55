/- Part 5. -/
import Derived.Laws.Build
import Derived.Below
import Derived.Test.YtnjahnbpnpkmhaaGreatDoorQd

namespace Go.Lw
open Go.RowKit
section
variable {t:TypeId}{b:Nat}{cs:List Value}{h:aq}
section
variable {P:Program}{f:FuncId}{fn:Func}{k:List It}{ρ:Env}{h:aq}{R:Ending->aq->Prop}{p:List Nat}
def jq (P:Program) (ρ:Env) (h:aq):ResultVar->Value->Prop
 |.tmp t,v=>ρ.at t=some v
 |.cell a t,v=>∃q,ρ.at a=some (.pointer (some q))/\∀B w,At B h w->(loadVar t q).run P w= .ok v w
theorem jq.tmp {t:Tmp}{v:Value}(I:ρ.at t=some v):jq P ρ h (.tmp t) v:=I
theorem jq.cell {a:Tmp}{t:TypeId}{q:Addr}{v:Value}(hr:aX P t=some false) (I:ρ.at a=some (.pointer (some q))) (hc:cellAt h q=some v):jq P ρ h (.cell a t) v :=
 ⟨q,I,λB w J=>by simp[loadVar,kf hr,J.cell,hc]⟩
theorem jq.row {a:Tmp}{o:Nat}(hr:aX P t=some true) (hs:cK P t=some cs.length) (I:ρ.at a=some (.pointer (some ⟨b,o,none⟩))) (hc:rowAt h b o cs):jq P ρ h (.cell a t) (.agg cs.toArray):=by
 refine⟨_,I,λB w U=>?_⟩;unfold aX at hr;cases hu:P.underlying t with
 |none=>simp[hu] at hr
 |some d =>
  simp[hu] at hr;have:=run_loadAt_mid (P:=P) w b o t cs d (λj v J=>by rw[U.cell];exact hc j v J) hu hr (by simpa [cK] using hs);simpa [Instr.loadAt,Instr.sureAddr] using this
inductive iz (P:Program) (ρ:Env) (h:aq):List ResultVar->List Value->Prop
 |nil:iz P ρ h [] []
 |cons {r:ResultVar}{v:Value}{rs:List ResultVar}{vs:List Value}(hr:jq P ρ h r v) (hs:iz P ρ h rs vs):iz P ρ h (r::rs) (v::vs)
theorem ji {n:Nat}{a:Act}(J:Fits n ρ a){B w:World}(ha:At B h w){vs:List Value}(hr:iz P ρ h fn.results.toList vs):(results fn a.tmps).run P w= .ok (packed vs) w:=by
 unfold results;rw[Sem.run_bind,Array.mapM_eq_mapM_toList,Sem.run_map]
 have key:∀(g:ResultVar->Sem Value),(∀t v,ρ.at t=some v->(g (.tmp t)).run P w= .ok v w)->(∀a t q v,ρ.at a=some (.pointer (some q))->(loadVar t q).run P w= .ok v w->(g (.cell a t)).run P w= .ok v w) ->
  ∀(l:List ResultVar) (vs:List Value),iz P ρ h l vs->(l.mapM g).run P w= .ok vs w:=by
  intro g h1 h2 l vs hl
  induction hl with
  |nil=>rfl
  |cons hr _ U =>
   rename_i r v rs vs _
   have Z:(g r).run P w= .ok v w:=by
    cases r with
    |tmp t=>exact h1 t v hr
    |cell a t=>obtain⟨q,I,hl⟩:=hr;exact h2 a t q v I (hl B w ha)
   simp only[List.mapM_cons,Sem.run_bind,Sem.run_pure,Result.andThen_ok,U,Z]
 rw[key _ (λt v Y=>by simp[J.ok t v Y]) (λa t q v I hl=>by simp[J.ok a _ I,asAddr,hl]) _ vs hr];simp only[Result.andThen_ok,Sem.run_pure]
 congr 1
 match vs with
 | []=>rfl
 | [v]=>rfl
 |_::_::_=>rfl
theorem G.PV (U:P.funcs[f]? =some fn) (hk:kind (Lw.sub (ax fn) p)=4){vs:List Value}(hr:iz P ρ h fn.results.toList vs) (hR:R (.returned (packed vs)) h):G P f fn (.code p::k) ρ h R:=by
 intro B a w Y ha b Z J cs
 have I:Go.step P (lone (b.at a ((It.code p::k).map (aH (ax fn)))) cs w)= .next (lone { b.at a ((It.code p::k).map (aH (ax fn))) with mode:=.returning } cs w):=by
  simp only[List.map_cons,aH];cases hc:Lw.sub (ax fn) p<;>simp[hc,kind] at hk
  · rename_i d;cases d<;>simp at hk
  · exact step_ret
 exact⟨.returned (packed vs),w,_,h,ha,hR,.one I,Z,rfl,Y.nd,J,fn,by rw[show (({ b.at a ((It.code p::k).map (aH (ax fn))) with mode:=.returning }:Frame)).fn=f from Z];exact U,ji Y ha hr⟩
end
def aC (h:aq) (b:Nat) (t:TypeId) (cs:List Value):Prop:=h[b]? =some (.cells cs.toArray t (0,0))
theorem aC.lt (k:aC h b t cs):b<h.size:=(Array.getElem?_eq_some_iff.1 k).1
theorem aC.ext {M:Nat->Prop}{h':aq}(k:aC h b t cs) (e:Ext M h h') (hm:¬M b):aC h' b t cs:=(e.block b k.lt hm).trans k
theorem aC.ah {h':aq}(k:aC h b t cs) (e:aj h h'):aC h' b t cs:=(e.block b k.lt (λk=>k)).trans k
theorem Gm (h:aq) (cs:List Value) (t:TypeId):aC (h.push (.cells cs.toArray t)) h.size t cs:=Array.getElem?_push_size
theorem aC.cell (k:aC h b t cs){i:Nat}{v:Value}(I:cs[i]? =some v):cellAt h ⟨b,i,none⟩=some v:=DN k (by simpa using I)
theorem aC.row (k:aC h b t cs):rowAt h b 0 cs:=λj v I=>by rw[Nat.zero_add];exact k.cell I
theorem aC.part (k:aC h b t cs) (o:Nat){ds:List Value}(J:∀j v,ds[j]? =some v->cs[o+j]? =some v):rowAt h b o ds:=λj v I=>k.cell (J j v I)
theorem aC.nf {i:Nat}(k:aC h b t cs):frozenAt h ⟨b,i,none⟩=false:=by
 unfold aC at k;simp[frozenAt,k]
theorem aC.set {h:aq}{b:Nat}{t:TypeId}{cs:List Value}(k:aC h b t cs) (i:Nat) (v:Value):aC (dx h ⟨b,i,none⟩ v) b t (cs.set i v):=by
 unfold aC at k ⊢;rw[si k];simp
theorem aC.whole (k:aC h b t cs) (ds:List Value):aC (setRow h b ds.toArray) b t ds:=Es k _
def over (cs:List Value) (o:Nat) (ds:List Value):List Value:=cs.take o++ds++cs.drop (o+ds.length)
end
end Go.Lw
namespace Go.Lw
open Go.RowKit
section
variable {h:aq}{g o:Nat}{t:TypeId}{x:Operand}
section
variable {P:Program}{ρ:Env}{h:aq}{dst:Option Nat}{ty:TypeId}{pos:String}{after:Array Edge}{guard:Option (Nat×Bool)}{X:List PanicEntry->aq->Prop}
theorem aj.only {h0 h':aq}(e:aj h0 h) (x:Ext (λb=>b=g) h h') (hg:h0.size<=g):aj h0 h' :=
 ⟨Nat.le_trans e.size x.size,λb I _=>by
  rw[x.block b (Nat.lt_of_lt_of_le I e.size) (by omega)];exact e.block b I (λk=>k)⟩
theorem fj {h0 h':aq}(e:aj h0 h) (x:Ext (λb=>g<=b) h h') (hg:h0.size<=g):aj h0 h' :=
 ⟨Nat.le_trans e.size x.size,λb I _=>by
  rw[x.block b (Nat.lt_of_lt_of_le I e.size) (by omega)];exact e.block b I (λk=>k)⟩
theorem aV.BV {z:Value}(J:(P.info? t).bind (·.zero)=some z) :
 aV P ⟨dst,.alloc t,ty,pos,after,guard⟩ ρ h (λu g=>u= .pointer (some ⟨h.size,0,none⟩)/\aC g h.size t z.cells.toList/\aj h g/\g.size=h.size+1) X :=
 (aV.alloc J).mono (λu g ⟨h1,I⟩=>⟨h1,by subst I;unfold aC;simp,by subst I;exact Ext.push _ _ _,by subst I;simp⟩) (λ_ _ k=>k)
theorem aV.OF {v:Value}(J:bp ρ x=some v) :
 aV P ⟨dst,.box t x,ty,pos,after,guard⟩ ρ h (λu g=>u= .pointer (some ⟨h.size,0,none⟩)/\aC g h.size t v.cells.toList/\aj h g/\g.size=h.size+1) X :=
 (B2 J).mono (λu g ⟨h1,I⟩=>⟨h1,by subst I;unfold aC;simp,by subst I;exact Ext.push _ _ _,by subst I;simp⟩) (λ_ _ k=>k)
theorem aV.jZ {e:TypeId}{y:Operand}{sz:Nat}{cur:List Value}{cs:Array Value}(hs:cK P t=some sz) (U:bp ρ x=some (.pointer (some ⟨g,o,none⟩))) (J:bp ρ y=some (.agg cs))
 (hk:aC h g e cur) (I:cs.size=sz) (hl:o+sz<=cur.length) (h1:∀v∈cs.toList,v.oneCell'=true) :
 aV P ⟨dst,.store t x y,ty,pos,after,guard⟩ ρ h (λu h'=>u=undef/\aC h' g e (over cur o cs.toList)/\Ext (λb=>b=g) h h'/\h'.size=h.size) X:=by
 refine(aV.Iy hs U J I hk (by simpa [I] using hl) h1).mono (λu h' ⟨e1,Z⟩=>?_) (λ_ _ k=>k);subst Z;have Y:(cur.toArray.toList.take o++cs.toList++cur.toArray.toList.drop (o+cs.size))=over cur o cs.toList:=by simp[over]
 rw[Y];exact⟨e1,hk.whole _,Ext.setRow _ _ _ rfl,setRow_size _ _ _⟩
theorem aV.oI {e:TypeId}{y:Operand}{v:Value}{cur:List Value}(hs:cK P t=some 1) (J:bp ρ x=some (.pointer (some ⟨g,o,none⟩))) (I:bp ρ y=some v) (hk:aC h g e cur) (hl:o<cur.length) (h1:v.oneCell'=true) :
 aV P ⟨dst,.store t x y,ty,pos,after,guard⟩ ρ h (λu h'=>u=undef/\aC h' g e (cur.set o v)/\Ext (λb=>b=g) h h'/\h'.size=h.size) X :=
 (bf hs J I h1 (hk.cell (List.getElem?_eq_getElem hl)) hk.nf).mono (λ_ h' ⟨Y,U⟩=>by
  subst U;exact⟨Y,hk.set o v,Ext.dx _ _ _ rfl,iP _ _ _⟩) (λ_ _ k=>k)
theorem az.kD {b sz:Nat}{cs:List Value}(hr:aX P t=some true) (hs:cK P t=some sz) (I:bp ρ x=some (.pointer (some ⟨b,o,none⟩))) (hc:rowAt h b o cs) (J:cs.length=sz) :
 az P ⟨dst,.load t x,ty,pos,after,guard⟩ ρ h (.agg cs.toArray):=az.KT hr (by rw[J];exact hs) I hc
theorem lM {t:TypeId}{x:Operand}{v:Value}(J:P.concrete t=true) (I:bp ρ x=some v) :
 az P ⟨dst,.makeInterface t x,ty,pos,after,guard⟩ ρ h (.iface t v):=by
 intro _ B a w U _;simp[execOp,U.eval I,run_makeInterface w t v J]
end
def Fh (Φ:Value->aq->Prop) (X:List PanicEntry->aq->Prop) (e:Ending) (h:aq):Prop :=
 match e with|.returned v=>Φ v h|.panicked c=>X c h|.outgrown=>False
theorem au.NB {P:Program}{f:FuncId}{args:Array Value}{Φ:Value->aq->Prop}{I X:List PanicEntry->aq->Prop}(k:au P f args h (Fh Φ I)) (J:∀c h',I c h'->X c h') :
 au P f args h (λe h'=>match e with|.returned v=>Φ v h'|.panicked c=>X c h'|.outgrown=>False) :=
 k.mono λe h' r=>by
  cases e with
  |returned v=>exact r
  |panicked c=>exact J c h' r
  |outgrown=>exact r
theorem au.Bl {P:Program}{f:FuncId}{args:Array Value}{Φ:Value->aq->Prop}
 (k:∀w,w.heap=h->Calls P f args w λe w'=>∃v,e= .returned v/\Φ v w'.heap/\w'.os=w.os/\w'.tape=w.tape/\w'.output=w.output):au P f args h (bK Φ):=by
 intro B w I;refine(k w I.heap).mono ?_;rintro e w' ⟨v,rfl,J,h1,Y,U⟩;exact⟨w'.heap,⟨rfl,h1.trans I.os,Y.trans I.tape,U.trans I.output⟩,v,rfl,J⟩
end
end Go.Lw

/- What the proof of the statement leans on (part 15). -/
import Derived.Deep.Fields
import Derived.OpenShut
import Derived.Test.YtmehdcdbeafljaaGreatDoorQn

namespace Go.Lw
open Go.ChangeShapes Go.WideShapes Go.ChangeAt Go.RowKit
section
variable {W:World}{fuel:Nat}{sp:Nat->Bool}{held:Bool}{t:TypeId}{cs:List Value}{pl:List MemPlace}
variable {H:Type}{enc:TypeId×Value->H}{P:Program}
theorem oS {base:Nat}{l:List UInt8}(ht:P.underlying t=some .string)
 (h:DataW.trod enc P W base sp held fuel t cs=some (.lit (.string l),pl)):cs=[.string ⟨l.toArray⟩]:=by
 cases fuel with
 |zero=>simp[DataW.trod] at h
 |succ n =>
  rw[DataW.trod_step] at h;unfold DataW.trodStep at h;rw[ht] at h;split at h<;>try (first|cases h|(simp at *;done))
  rename_i s _ _;split at h
  · simp only[Option.some.injEq,Prod.mk.injEq,DataW.lit.injEq,Lit.string.injEq] at h;rw[<-h.1]
  · cases h
theorem iM {base:Nat}{k k':IntKind}{i:Int}(ht:P.underlying t=some (.int k))
 (h:DataW.trod enc P W base sp held fuel t cs=some (.lit (.int k' i),pl)):cs=[.int k i]:=by
 cases fuel with
 |zero=>simp[DataW.trod] at h
 |succ n =>
  rw[DataW.trod_step] at h;unfold DataW.trodStep at h;rw[ht] at h;split at h<;>simp_all
def fh (r:List UInt8×Int×Int):List Value:=[.string ⟨r.1.toArray⟩,.int .i64 r.2.1,.int .i64 r.2.2]
def Jw:gQ (List UInt8×Int×Int):=.record 3 (by decide) fh (fun _=>rfl) (fun x v hv=>by simp[fh] at hv;rcases hv with rfl|rfl|rfl<;>rfl)
def ij (r:List UInt8×Int×Int):DataW H:=.agg [.lit (.string r.1),.lit (.int .i64 r.2.1),.lit (.int .i64 r.2.2)]
theorem Ec {e:TypeId}{f0 f1 f2:Field}{L:List (List UInt8×Int×Int)}{rest:List (DataW H)}
 (ht:P.underlying t=some (.slice e)) (he:P.underlying e=some (.struct #[f0,f1,f2])) (hC:P.cellsOf e=3)
 (o0:f0.offset=0) (o1:f1.offset=1) (o2:f2.offset=2) (t0:P.underlying f0.type=some .string) (t1:P.underlying f1.type=some (.int .i64)) (t2:P.underlying f2.type=some (.int .i64)) (c0:P.cellsOf f0.type=1) (c1:P.cellsOf f1.type=1) (c2:P.cellsOf f2.type=1)
 (h:DataW.trod enc P W 0 sp held fuel t cs=some (.slice (L.map ij) rest,pl)):∃v,cs=[v]/\bS Jw W.heap (fun _=>False) v L:=by
 rcases Deep.open_slice ht h with ⟨_,hx⟩|⟨a,len,cap,m,n,D,Pl,rfl,_,hle,hm,hmm,hx,hel⟩
 · simp at hx
 · simp only[Prod.mk.injEq,DataW.slice.injEq] at hx;have hlen:L.length=len:=by have:=congrArg List.length hx.1.1;simpa using this
   have hlm:len<=m:=by rw[hmm];split<;>omega
   have hD:∀(i:Nat) (r:List UInt8×Int×Int),L[i]? =some r->D i=ij r:=fun i r hr=>by
    have hil:i<len:=by rw[<-hlen];exact(List.getElem?_eq_some_iff.1 hr).1
    have:=congrArg (fun z=>z[i]?) hx.1.1;simp only[List.getElem?_map,hr,Option.map_some,List.getElem?_range hil,Option.some.injEq] at this;exact this.symm
   refine⟨_,rfl,some a,len,cap,rfl,hlen,hle,hm,fun i r hr=>?_⟩;have hil:i<len:=by rw[<-hlen];exact(List.getElem?_eq_some_iff.1 hr).1
   obtain⟨cs',hc1,hc2⟩:=hel i (by omega);rw[hC] at hc1;rw[hD i r hr] at hc2;obtain⟨_,hcl,hcell⟩:=World.cells?_some hc1;obtain⟨xs,k,_,hxe,_,hxl,hfl⟩:=DataW.trod_struct he hc2;simp only[Prod.mk.injEq,ij,DataW.agg.injEq] at hxe;have hx3:xs.length=3:=hxl
   match cs',hcl,xs,hx3 with
   | [u0,u1,u2],_,[x0,x1,x2],_ =>
    have g0:=hfl 0 f0 rfl;have g1:=hfl 1 f1 rfl;have g2:=hfl 2 f2 rfl;rw[o0,c0] at g0;rw[o1,c1] at g1;rw[o2,c2] at g2;simp only[List.map_cons,List.map_nil,List.cons.injEq,and_true] at hxe;obtain⟨⟨e0,e1,e2⟩,_⟩:=hxe;have q0:[u0]=[.string ⟨r.1.toArray⟩]:=oS t0 (pl:=x0.2) (by rw[e0];exact g0);have q1:[u1]=[.int .i64 r.2.1]:=iM t1 (pl:=x1.2) (k':=.i64) (by rw[e1];exact g1);have q2:[u2]=[.int .i64 r.2.2]:=iM t2 (pl:=x2.2) (k':=.i64) (by rw[e2];exact g2);simp only[List.cons.injEq,and_true] at q0 q1 q2;subst q0;subst q1;subst q2;obtain⟨cs0,hc0,_⟩:=hel 0 (by omega);rw[hC] at hc0;obtain⟨_,hcl0,hcell0⟩:=World.cells?_some hc0;have hs0:=hcell0 0 (by omega);rw[List.getElem?_eq_getElem (by omega)] at hs0;have hspot:a.spot=none:=by simpa [Addr.add] using World.cell?_spot hs0
    obtain⟨b,o,spot⟩:=a;have hspot:spot=none:=hspot;subst hspot;refine⟨b,o,fh r,rfl,fun k=>k,fun j u hj=>?_,rfl⟩
    have hjl:j<3:=by
     rcases Nat.lt_or_ge j 3 with h2|h2
     · exact h2
     · rw[List.getElem?_eq_none (by simpa [fh] using h2)] at hj;cases hj
    have:=hcell j hjl;rw[Deep.add_add,Addr.add_mid,dM] at this
    show cellAt W.heap ⟨b,o+i*3+j,none⟩=some u
    rw[Nat.add_assoc,this];exact hj
end
end Go.Lw
namespace Go.Lw
open Go.RowKit
section
variable {P:Program}{ρ:Env}{h:az}{dst:Option Nat}{ty:TypeId}{pos:String}{after:Array Edge}{guard:Option (Nat×Bool)}
end
theorem Ext.fo {M N:Nat->Prop}{a b c:az}(e:Ext M a b) (x:Ext N b c) (hn:∀i,i<a.size->N i->M i):Ext M a c :=
 ⟨Nat.le_trans e.size x.size,fun i hi hm=>(x.block i (Nat.lt_of_lt_of_le hi e.size) (fun q=>hm (hn i hi q))).trans (e.block i hi hm)⟩
section
variable {P:Program}{ρ:Env}{h:az}{dst:Option Nat}{ty:TypeId}{pos:String}{after:Array Edge}{guard:Option (Nat×Bool)}
theorem aj.Eh {t e:TypeId}{n sz:Nat}{x y:Operand}{cs:Array Value}{k:IntKind}{j:Int}{ds:Array Value}(hu:P.underlying t=some (.array n e)) (hs:dI P e=some sz) (hr:bP P e=some true) (hx:bO ρ x=some (.agg cs)) (hy:bO ρ y=some (.int k j)) (i:Nat) (hj:j=i) (hi:i<n) (hv:cs.extract (i*sz) (i*sz+sz)=ds) :
 aj P ⟨dst,.index t x y,ty,pos,after,guard⟩ ρ h (.agg ds):=by
 intro _ B a w hf _;subst hj;simp[execOp,Instr.index,run_underlying hu,asIntOf,hf.eval hx,hf.eval hy,run_sizeOf hs,hi,part,kQ hr,hv]
end
end Go.Lw
namespace Go.Lw
section
variable {P:Program}{ρ:Env}{h:az}{dst:Option Nat}{ty:TypeId}{pos:String}{after:Array Edge}{guard:Option (Nat×Bool)}{X:List PanicEntry->az->Prop}
end
end Go.Lw
namespace Go.Lw
theorem AW {off:Nat}:∀(cs:List Value) (k:Nat) (pre tl:List Value) (rest:List Value),pre.length=off+k->tl.length=cs.length ->
 (cs.zipIdx k).foldl (fun(a:Array Value) (p:Value×Nat)=>a.setIfInBounds (off+p.2) p.1) (pre++(tl++rest)).toArray=(pre++(cs++rest)).toArray
 | [],k,pre,tl,rest,_,hl=>by
  have:tl=[]:=List.eq_nil_of_length_eq_zero (by simpa using hl);subst this;rfl
 |c::cs,k,pre,[],rest,hp,hl=>by simp at hl
 |c::cs,k,pre,t::tl,rest,hp,hl=>by
  rw[List.zipIdx_cons,List.foldl_cons]
  have hset:(pre++(t::tl++rest)).toArray.setIfInBounds (off+k) c=((pre++[c])++(tl++rest)).toArray:=by
   rw[<-hp];simp[List.set_append_right]
  simp only[hset];rw[AW cs (k+1) (pre++[c]) tl rest (by simp[hp];omega) (by simpa using hl)];simp
theorem xm {sz:Nat}:∀(css:List (List Value)),(∀c∈css,c.length=sz)->∀(k:Nat) (pre tl:List Value),pre.length=k*sz->tl.length=css.length*sz ->
 Instr.fill (fun i=>some (i*sz,sz)) (pre++tl).toArray (css.zipIdx k |>.map fun p=>(p.2,Value.agg p.1.toArray))=some (pre++css.flatten).toArray
 | [],_,k,pre,tl,_,hl=>by
  have:tl=[]:=List.eq_nil_of_length_eq_zero (by simpa using hl);subst this;simp[Instr.fill]
 |c::css,h1,k,pre,tl,hp,hl=>by
  have hc:c.length=sz:=h1 c (by simp);have hl':tl.length=sz+css.length*sz:=by rw[hl,List.length_cons,Nat.add_mul];omega
  have ih:=xm css (fun v hv=>h1 v (by simp[hv])) (k+1) (pre++c) (tl.drop sz) (by rw[List.length_append,hp,hc,Nat.add_mul];omega) (by rw[List.length_drop];omega);simp only[List.zipIdx_cons,List.map_cons,Instr.fill,Value.cells];have htl:tl=tl.take sz++tl.drop sz:=(List.take_append_drop sz tl).symm;have hf:=AW (off:=k*sz) c 0 pre (tl.take sz) (tl.drop sz) (by rw[hp];omega) (by rw[List.length_take];omega);rw[<-htl] at hf;have h2:¬(c.toArray.size≠sz\/k*sz+c.toArray.size>(pre++tl).toArray.size):=by simp;omega
  have hz:c.toArray.zipIdx.foldl (fun(cs:Array Value) (p:Value×Nat)=>cs.setIfInBounds (k*sz+p.2) p.1) (pre++tl).toArray=(pre++(c++tl.drop sz)).toArray:=by
   rw[<-hf];simp
  simp only[Bool.or_eq_true,decide_eq_true_eq,if_neg h2];rw[if_neg (by simpa using h2)];rw[hz,<-List.append_assoc,ih];simp
section
variable {P:Program}{ρ:Env}{h:az}{dst:Option Nat}{ty:TypeId}{pos:String}{after:Array Edge}{guard:Option (Nat×Bool)}{X:List PanicEntry->az->Prop}
theorem aA.qP {t e:TypeId}{size bytes len:Nat}{ps:Array (Nat×Operand)}(ht:P.underlying t=some (.slice e)) (he:fQ P e size bytes) (css:List (List Value))
 (hps:ps.toList.map (fun p=>(p.1,bO ρ p.2))=(css.zipIdx.map fun p=>(p.2,Value.agg p.1.toArray)).map (fun p=>(p.1,some p.2))) (hl:css.length=len) (hlen:len*size<=16777216) (h1:∀c∈css,c.length=size) :
 aA P ⟨dst,.buildSlice t len ps,ty,pos,after,guard⟩ ρ h (fun u g=>u= .slice (some ⟨h.size,0,none⟩) len len/\g=h.push (.cells css.flatten.toArray e)) X:=by
 refine aA.buildSlice ht he hps hlen fun z hz=>?_
 have:=xm css h1 0 [] ((List.range (len*size)).map (fun j=>z[j%z.size]!)) (by simp) (by simp[hl]);rw[List.nil_append,List.nil_append] at this;rw[<-this]
 congr 1
 apply Array.ext';simp
end
end Go.Lw
namespace Go.Lw
structure Ik (P:Program) (g:FuncId):Prop where
 ok:∃fn,P.funcs[g]? =some fn/\fn.body.isSome=true/\(fn.name == "runtime.NumGoroutine")=false
section
variable {P:Program}{ρ:Env}{h:az}{dst:Option Nat}{ty:TypeId}{pos:String}{after:Array Edge}{guard:Option (Nat×Bool)}
theorem aA.Gy {x:Operand}{g:FuncId}{caps:List Value}{xs:Array Operand}{ts:Array TypeId}{vs:List Value}{Φ:Value->az->Prop}{X:List PanicEntry->az->Prop}(hx:bO ρ x=some (.func (.func g) #[] caps.toArray))
 (hf0:Ik P g) (hvs:xs.toList.map (bO ρ)=vs.map some) (k:ah P g (vs++caps).toArray h (fun e h'=>match e with|.returned v=>Φ v h'|.panicked c=>X c h'|.outgrown=>False)) :
 aA P ⟨dst,.call ⟨.value x,xs,ts⟩,ty,pos,after,guard⟩ ρ h Φ X:=by
 obtain⟨fn,hfn,hb,hnm⟩:=hf0.ok;intro n B a w hf ha next Q hn hq
 have hargs:xs.map a.eval=vs.toArray:=by
  apply Array.ext'
  simp only[Array.toList_map]
  have:∀(l:List Operand) (us:List Value),l.map (bO ρ)=us.map some->l.map a.eval=us:=by
   intro l
   induction l with
   |nil=>intro us hu;cases us<;>simp_all
   |cons x r ih =>
    intro us hu;cases us with
    |nil=>simp at hu
    |cons u us =>
     simp only[List.map_cons,List.cons.injEq] at hu ⊢;exact⟨hf.eval hu.1,ih us hu.2⟩
  exact this _ _ hvs
 have hrun:(execOp a.eval ⟨dst,.call ⟨.value x,xs,ts⟩,ty,pos,after,guard⟩).run P w= .ok (.enter g (vs++caps).toArray) w:=by
  have hb':fn.body≠none:=by intro hbb;simp[hbb] at hb
  have hnm':¬fn.name= "runtime.NumGoroutine" :=by simpa using hnm
  simp[execOp,resolve,hf.eval hx,Deferred.ofValue,invoke,callFunc,hfn,hnm',hb',hargs]
 unfold Oper.wp;rw[hrun];refine(k B w ha).mono fun e w' ⟨h',ha',hr⟩=>?_
 cases e with
 |returned v=>exact hn v h' w' ha' hr
 |panicked c=>exact hq c h' w' ha' hr
 |outgrown=>exact hr.elim
end
theorem kK.put {α:Type}{sz:Nat}{enc:α->List Value}(hl:∀x,(enc x).length=sz){h:az}{base:Nat}{t:TypeId}{v:Value}{xs:List α}(k:kK sz enc h base t v xs){i:Nat}{x:α}(hx:xs[i]? =some x) :
 ∃g c,v= .slice (some ⟨g,0,none⟩) xs.length c/\base<=g/\g<h.size/\rowAt h g (0+i*sz) (enc x)/\(∀o,frozenAt h ⟨g,o,none⟩=false) /\
  ∀(o:Nat) (u:Value) (y:α),o<sz->(enc x).set o u=enc y->kK sz enc (eB h ⟨g,0+i*sz+o,none⟩ u) base t v (xs.set i y):=by
 have hi:i<xs.length:=(List.getElem?_eq_some_iff.1 hx).1;have k:aR h base t sz v xs.length (xs.flatMap enc):=k
 rcases k.2 with ⟨_,hn0⟩|⟨g,cap,cur,rfl,hb,hg,hnc,hc,hs,ht⟩
 · omega
 have hlen:∀c∈xs.map enc,c.length=sz:=fun c hc=>by
  obtain⟨a,_,rfl⟩:=List.mem_map.1 hc;exact hl a
 refine⟨g,cap,rfl,hb,(Array.getElem?_eq_some_iff.1 hg).1,?_,fun o=>by simp[frozenAt,hg],fun o u y ho hy=>?_⟩
 · intro j w hj;have h4:=gX hl xs i x j w hx hj;rw[<-ht,List.getElem?_take] at h4;split at h4
   · have h5:cur[i*sz+j]? =some w:=by simpa using h4
     simpa [cellAt,hg] using h5
   · cases h4
 · have hmx:(xs.map enc)[i]? =some (enc x):=by rw[List.getElem?_map,hx];rfl
   have hf:=jD (xs.map enc) i (enc x) o u hlen hmx ho
   have hset:(xs.set i y).flatMap enc=(xs.flatMap enc).set (i*sz+o) u:=by
    rw[List.flatMap_def,List.flatMap_def,<-hf,hy,List.map_set]
   refine⟨?_,.inr ⟨g,cap,cur.setIfInBounds (0+i*sz+o) u,by simp,hb,oZ hg u,by simpa using hnc,hc,by simpa using hs,?_⟩⟩
   · rw[mH hl]
   · rw[hset,Array.toList_setIfInBounds,List.take_set,List.length_set,ht,Nat.zero_add]
end Go.Lw

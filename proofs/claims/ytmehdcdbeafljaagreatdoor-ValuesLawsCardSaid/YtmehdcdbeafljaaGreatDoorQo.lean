/- What the proof of the statement leans on (part 15). -/
import Derived.Deep.Fields
import Derived.OpenShut
import Derived.Test.YtmehdcdbeafljaaGreatDoorQn

namespace Go.Lw
open Go.ChangeShapes Go.WideShapes Go.ChangeAt Go.RowKit
section
variable {W:World}{fuel:Nat}{sp:Nat->Bool}{held:Bool}{t:TypeId}{cs:List Value}{pl:List MemPlace}
variable {H:Type}{enc:TypeId×Value->H}{P:Program}
theorem oP {base:Nat}{l:List UInt8}(ht:P.underlying t=some .string)
 (h:DataW.trod enc P W base sp held fuel t cs=some (.lit (.string l),pl)):cs=[.string ⟨l.toArray⟩]:=by
 cases fuel with
 |zero=>simp[DataW.trod] at h
 |succ n =>
  rw[DataW.trod_step] at h;unfold DataW.trodStep at h;rw[ht] at h;split at h<;>try (first|cases h|(simp at *;done))
  rename_i s _ _;split at h
  · simp only[Option.some.injEq,Prod.mk.injEq,DataW.lit.injEq,Lit.string.injEq] at h;rw[<-h.1]
  · cases h
theorem iI {base:Nat}{k k':IntKind}{i:Int}(ht:P.underlying t=some (.int k))
 (h:DataW.trod enc P W base sp held fuel t cs=some (.lit (.int k' i),pl)):cs=[.int k i]:=by
 cases fuel with
 |zero=>simp[DataW.trod] at h
 |succ n =>
  rw[DataW.trod_step] at h;unfold DataW.trodStep at h;rw[ht] at h;split at h<;>simp_all
def fe (r:List UInt8×Int×Int):List Value:=[.string ⟨r.1.toArray⟩,.int .i64 r.2.1,.int .i64 r.2.2]
def Jw:gM (List UInt8×Int×Int):=.record 3 (by decide) fe (fun _=>rfl) (fun x v hv=>by simp[fe] at hv;rcases hv with rfl|rfl|rfl<;>rfl)
def gZ (r:List UInt8×Int×Int):DataW H:=.agg [.lit (.string r.1),.lit (.int .i64 r.2.1),.lit (.int .i64 r.2.2)]
theorem DA {e:TypeId}{f0 f1 f2:Field}{L:List (List UInt8×Int×Int)}{rest:List (DataW H)}
 (ht:P.underlying t=some (.slice e)) (he:P.underlying e=some (.struct #[f0,f1,f2])) (hC:P.cellsOf e=3)
 (o0:f0.offset=0) (o1:f1.offset=1) (o2:f2.offset=2) (t0:P.underlying f0.type=some .string) (t1:P.underlying f1.type=some (.int .i64)) (t2:P.underlying f2.type=some (.int .i64)) (c0:P.cellsOf f0.type=1) (c1:P.cellsOf f1.type=1) (c2:P.cellsOf f2.type=1)
 (h:DataW.trod enc P W 0 sp held fuel t cs=some (.slice (L.map gZ) rest,pl)):∃v,cs=[v]/\bX Jw W.heap (fun _=>False) v L:=by
 rcases Deep.open_slice ht h with ⟨_,hx⟩|⟨a,len,cap,m,n,D,Pl,rfl,_,hle,hm,hmm,hx,hel⟩
 · simp at hx
 · simp only[Prod.mk.injEq,DataW.slice.injEq] at hx;have hlen:L.length=len:=by have:=congrArg List.length hx.1.1;simpa using this
   have hlm:len<=m:=by rw[hmm];split<;>omega
   have hD:∀(i:Nat) (r:List UInt8×Int×Int),L[i]? =some r->D i=gZ r:=fun i r hr=>by
    have hil:i<len:=by rw[<-hlen];exact(List.getElem?_eq_some_iff.1 hr).1
    have:=congrArg (fun z=>z[i]?) hx.1.1;simp only[List.getElem?_map,hr,Option.map_some,List.getElem?_range hil,Option.some.injEq] at this;exact this.symm
   refine⟨_,rfl,some a,len,cap,rfl,hlen,hle,hm,fun i r hr=>?_⟩;have hil:i<len:=by rw[<-hlen];exact(List.getElem?_eq_some_iff.1 hr).1
   obtain⟨cs',hc1,hc2⟩:=hel i (by omega);rw[hC] at hc1;rw[hD i r hr] at hc2;obtain⟨_,hcl,hcell⟩:=World.cells?_some hc1;obtain⟨xs,k,_,hxe,_,hxl,hfl⟩:=DataW.trod_struct he hc2;simp only[Prod.mk.injEq,gZ,DataW.agg.injEq] at hxe;have hx3:xs.length=3:=hxl
   match cs',hcl,xs,hx3 with
   | [u0,u1,u2],_,[x0,x1,x2],_ =>
    have g0:=hfl 0 f0 rfl;have g1:=hfl 1 f1 rfl;have g2:=hfl 2 f2 rfl;rw[o0,c0] at g0;rw[o1,c1] at g1;rw[o2,c2] at g2;simp only[List.map_cons,List.map_nil,List.cons.injEq,and_true] at hxe;obtain⟨⟨e0,e1,e2⟩,_⟩:=hxe;have q0:[u0]=[.string ⟨r.1.toArray⟩]:=oP t0 (pl:=x0.2) (by rw[e0];exact g0);have q1:[u1]=[.int .i64 r.2.1]:=iI t1 (pl:=x1.2) (k':=.i64) (by rw[e1];exact g1);have q2:[u2]=[.int .i64 r.2.2]:=iI t2 (pl:=x2.2) (k':=.i64) (by rw[e2];exact g2);simp only[List.cons.injEq,and_true] at q0 q1 q2;subst q0;subst q1;subst q2;obtain⟨cs0,hc0,_⟩:=hel 0 (by omega);rw[hC] at hc0;obtain⟨_,hcl0,hcell0⟩:=World.cells?_some hc0;have hs0:=hcell0 0 (by omega);rw[List.getElem?_eq_getElem (by omega)] at hs0;have hspot:a.spot=none:=by simpa [Addr.add] using World.cell?_spot hs0
    obtain⟨b,o,spot⟩:=a;have hspot:spot=none:=hspot;subst hspot;refine⟨b,o,fe r,rfl,fun k=>k,fun j u hj=>?_,rfl⟩
    have hjl:j<3:=by
     rcases Nat.lt_or_ge j 3 with h2|h2
     · exact h2
     · rw[List.getElem?_eq_none (by simpa [fe] using h2)] at hj;cases hj
    have:=hcell j hjl;rw[Deep.add_add,Addr.add_mid,dR] at this
    show cellAt W.heap ⟨b,o+i*3+j,none⟩=some u
    rw[Nat.add_assoc,this];exact hj
end
end Go.Lw
namespace Go.Lw
open Go.RowKit
section
variable {P:Program}{ρ:Env}{h:aA}{dst:Option Nat}{ty:TypeId}{pos:String}{after:Array Edge}{guard:Option (Nat×Bool)}
end
theorem Ext.ct {M N:Nat->Prop}{a b c:aA}(e:Ext M a b) (x:Ext N b c) (hn:∀i,i<a.size->N i->M i):Ext M a c :=
 ⟨Nat.le_trans e.size x.size,fun i hi hm=>(x.block i (Nat.lt_of_lt_of_le hi e.size) (fun q=>hm (hn i hi q))).trans (e.block i hi hm)⟩
section
variable {P:Program}{ρ:Env}{h:aA}{dst:Option Nat}{ty:TypeId}{pos:String}{after:Array Edge}{guard:Option (Nat×Bool)}
theorem aj.DF {t e:TypeId}{n sz:Nat}{x y:Operand}{cs:Array Value}{k:IntKind}{j:Int}{ds:Array Value}(hu:P.underlying t=some (.array n e)) (hs:dc P e=some sz) (hr:bM P e=some true) (hx:bW ρ x=some (.agg cs)) (hy:bW ρ y=some (.int k j)) (i:Nat) (hj:j=i) (hi:i<n) (hv:cs.extract (i*sz) (i*sz+sz)=ds) :
 aj P ⟨dst,.index t x y,ty,pos,after,guard⟩ ρ h (.agg ds):=by
 intro _ B a w hf _;subst hj;simp[execOp,Instr.index,run_underlying hu,asIntOf,hf.eval hx,hf.eval hy,run_sizeOf hs,hi,part,kP hr,hv]
end
end Go.Lw
namespace Go.Lw
section
variable {P:Program}{ρ:Env}{h:aA}{dst:Option Nat}{ty:TypeId}{pos:String}{after:Array Edge}{guard:Option (Nat×Bool)}{X:List PanicEntry->aA->Prop}
theorem az.BS {t e:TypeId}{size bytes:Nat}(ht:P.underlying t=some (.slice e)) (he:fG P e size bytes) :
 az P ⟨dst,.buildSlice t 0 #[],ty,pos,after,guard⟩ ρ h (fun u g=>u= .slice (some ⟨h.size,0,none⟩) 0 0/\g=h.push (.cells #[] e)) X :=
 az.buildSlice (vs:=[]) (cells:= #[]) ht he rfl (by omega) (fun z _=>by simp[Instr.fill])
end
theorem B1 (h:aA) (t:TypeId) (size base:Nat) (hb:base<=h.size):aT (h.push (.cells #[] t)) base t size (.slice (some ⟨h.size,0,none⟩) 0 0) 0 [] :=
 ⟨by simp,.inr ⟨h.size,0,#[],rfl,hb,by simp,Nat.le_refl _,by simp[maxLen],by simp,by simp⟩⟩
end Go.Lw
namespace Go.Lw
theorem Au {off:Nat}:∀(cs:List Value) (k:Nat) (pre tl:List Value) (rest:List Value),pre.length=off+k->tl.length=cs.length ->
 (cs.zipIdx k).foldl (fun(a:Array Value) (p:Value×Nat)=>a.setIfInBounds (off+p.2) p.1) (pre++(tl++rest)).toArray=(pre++(cs++rest)).toArray
 | [],k,pre,tl,rest,_,hl=>by
  have:tl=[]:=List.eq_nil_of_length_eq_zero (by simpa using hl);subst this;rfl
 |c::cs,k,pre,[],rest,hp,hl=>by simp at hl
 |c::cs,k,pre,t::tl,rest,hp,hl=>by
  rw[List.zipIdx_cons,List.foldl_cons]
  have hset:(pre++(t::tl++rest)).toArray.setIfInBounds (off+k) c=((pre++[c])++(tl++rest)).toArray:=by
   rw[<-hp];simp[List.set_append_right]
  simp only[hset];rw[Au cs (k+1) (pre++[c]) tl rest (by simp[hp];omega) (by simpa using hl)];simp
theorem wv {sz:Nat}:∀(css:List (List Value)),(∀c∈css,c.length=sz)->∀(k:Nat) (pre tl:List Value),pre.length=k*sz->tl.length=css.length*sz ->
 Instr.fill (fun i=>some (i*sz,sz)) (pre++tl).toArray (css.zipIdx k |>.map fun p=>(p.2,Value.agg p.1.toArray))=some (pre++css.flatten).toArray
 | [],_,k,pre,tl,_,hl=>by
  have:tl=[]:=List.eq_nil_of_length_eq_zero (by simpa using hl);subst this;simp[Instr.fill]
 |c::css,h1,k,pre,tl,hp,hl=>by
  have hc:c.length=sz:=h1 c (by simp);have hl':tl.length=sz+css.length*sz:=by rw[hl,List.length_cons,Nat.add_mul];omega
  have ih:=wv css (fun v hv=>h1 v (by simp[hv])) (k+1) (pre++c) (tl.drop sz) (by rw[List.length_append,hp,hc,Nat.add_mul];omega) (by rw[List.length_drop];omega);simp only[List.zipIdx_cons,List.map_cons,Instr.fill,Value.cells];have htl:tl=tl.take sz++tl.drop sz:=(List.take_append_drop sz tl).symm;have hf:=Au (off:=k*sz) c 0 pre (tl.take sz) (tl.drop sz) (by rw[hp];omega) (by rw[List.length_take];omega);rw[<-htl] at hf;have h2:¬(c.toArray.size≠sz\/k*sz+c.toArray.size>(pre++tl).toArray.size):=by simp;omega
  have hz:c.toArray.zipIdx.foldl (fun(cs:Array Value) (p:Value×Nat)=>cs.setIfInBounds (k*sz+p.2) p.1) (pre++tl).toArray=(pre++(c++tl.drop sz)).toArray:=by
   rw[<-hf];simp
  simp only[Bool.or_eq_true,decide_eq_true_eq,if_neg h2];rw[if_neg (by simpa using h2)];rw[hz,<-List.append_assoc,ih];simp
section
variable {P:Program}{ρ:Env}{h:aA}{dst:Option Nat}{ty:TypeId}{pos:String}{after:Array Edge}{guard:Option (Nat×Bool)}{X:List PanicEntry->aA->Prop}
theorem az.ng {t e:TypeId}{size bytes len:Nat}{ps:Array (Nat×Operand)}(ht:P.underlying t=some (.slice e)) (he:fG P e size bytes) (css:List (List Value))
 (hps:ps.toList.map (fun p=>(p.1,bW ρ p.2))=(css.zipIdx.map fun p=>(p.2,Value.agg p.1.toArray)).map (fun p=>(p.1,some p.2))) (hl:css.length=len) (hlen:len*size<=16777216) (h1:∀c∈css,c.length=size) :
 az P ⟨dst,.buildSlice t len ps,ty,pos,after,guard⟩ ρ h (fun u g=>u= .slice (some ⟨h.size,0,none⟩) len len/\g=h.push (.cells css.flatten.toArray e)) X:=by
 refine az.buildSlice ht he hps hlen fun z hz=>?_
 have:=wv css h1 0 [] ((List.range (len*size)).map (fun j=>z[j%z.size]!)) (by simp) (by simp[hl]);rw[List.nil_append,List.nil_append] at this;rw[<-this]
 congr 1
 apply Array.ext';simp
end
end Go.Lw
namespace Go.Lw
section
variable {α:Type}{h:aA}
theorem kK.put {sz:Nat}{enc:α->List Value}(hl:∀x,(enc x).length=sz){base:Nat}{t:TypeId}{v:Value}{xs:List α}(k:kK sz enc h base t v xs){i:Nat}{x:α}(hx:xs[i]? =some x) :
 ∃g c,v= .slice (some ⟨g,0,none⟩) xs.length c/\base<=g/\g<h.size/\rowAt h g (0+i*sz) (enc x)/\(∀o,frozenAt h ⟨g,o,none⟩=false) /\
  ∀(o:Nat) (u:Value) (y:α),o<sz->(enc x).set o u=enc y->kK sz enc (ew h ⟨g,0+i*sz+o,none⟩ u) base t v (xs.set i y):=by
 have hi:i<xs.length:=(List.getElem?_eq_some_iff.1 hx).1;have k:aT h base t sz v xs.length (xs.flatMap enc):=k
 rcases k.2 with ⟨_,hn0⟩|⟨g,cap,cur,rfl,hb,hg,hnc,hc,hs,ht⟩
 · omega
 have hlen:∀c∈xs.map enc,c.length=sz:=fun c hc=>by
  obtain⟨a,_,rfl⟩:=List.mem_map.1 hc;exact hl a
 refine⟨g,cap,rfl,hb,(Array.getElem?_eq_some_iff.1 hg).1,?_,fun o=>by simp[frozenAt,hg],fun o u y ho hy=>?_⟩
 · intro j w hj;have h4:=kW hl xs i x j w hx hj;rw[<-ht,List.getElem?_take] at h4;split at h4
   · have h5:cur[i*sz+j]? =some w:=by simpa using h4
     simpa [cellAt,hg] using h5
   · cases h4
 · have hmx:(xs.map enc)[i]? =some (enc x):=by rw[List.getElem?_map,hx];rfl
   have hf:=jC (xs.map enc) i (enc x) o u hlen hmx ho
   have hset:(xs.set i y).flatMap enc=(xs.flatMap enc).set (i*sz+o) u:=by
    rw[List.flatMap_def,List.flatMap_def,<-hf,hy,List.map_set]
   refine⟨?_,.inr ⟨g,cap,cur.setIfInBounds (0+i*sz+o) u,by simp,hb,oV hg u,by simpa using hnc,hc,by simpa using hs,?_⟩⟩
   · rw[mC hl]
   · rw[hset,Array.toList_setIfInBounds,List.take_set,List.length_set,ht,Nat.zero_add]
theorem Sl.Mo {e:gM α}{O:Nat->Prop}{oa:Option Addr}{n c:Nat}{xs:List α}(k:Sl e h O oa n c xs) :
 ∃css:List (List Value),css.length=xs.length/\(∀(i:Nat) (cs:List Value) (x:α),css[i]? =some cs->xs[i]? =some x->e.R h O cs x)/\css.flatten.length=n*e.sz/\(∀u∈css.flatten,u.oneCell'=true)/\(n=0\/∃b o,oa=some ⟨b,o,none⟩/\rowAt h b o css.flatten):=by
 have key:∀m,m<=xs.length->∃css:List (List Value),css.length=m/\∀(i:Nat) (cs:List Value),css[i]? =some cs->∃x b o,xs[i]? =some x/\oa=some ⟨b,o,none⟩/\rowAt h b (o+i*e.sz) cs/\e.R h O cs x:=by
  intro m
  induction m with
  |zero=>exact fun _=>⟨[],rfl,fun i cs q=>by simp at q⟩
  |succ m ih =>
   intro hm;obtain⟨css,h1,h2⟩:=ih (by omega);obtain⟨b,o,cs,ha,_,hr,hR⟩:=k.get m xs[m] (List.getElem?_eq_getElem (by omega));refine⟨css++[cs],by simp[h1],fun i cs' q=>?_⟩
   rcases Nat.lt_trichotomy i m with hi|hi|hi
   · rw[List.getElem?_append_left (by omega)] at q;exact h2 i cs' q
   · subst hi;rw[List.getElem?_append_right (by omega),h1,Nat.sub_self] at q;simp at q;subst q;exact⟨_,b,o,List.getElem?_eq_getElem (by omega),ha,hr,hR⟩
   · rw[List.getElem?_eq_none (by rw[List.length_append,List.length_singleton];omega)] at q;cases q
 obtain⟨css,h1,h2⟩:=key xs.length (Nat.le_refl _)
 have hlen:∀cs∈css,cs.length=e.sz:=fun cs hc=>by
  obtain⟨i,hi⟩:=List.getElem?_of_mem hc;obtain⟨x,b,o,_,_,_,hR⟩:=h2 i cs hi;exact e.len hR
 have hfl:css.flatten.length=n*e.sz:=by
  rw[<-k.len,<-h1];clear h1 h2
  induction css with
  |nil=>simp
  |cons a l ih=>rw[List.flatten_cons,List.length_append,hlen a (by simp),ih (fun c hc=>hlen c (by simp[hc])),List.length_cons,Nat.succ_mul];omega
 refine⟨css,h1,fun i cs x q1 q2=>?_,hfl,fun u hu=>?_,?_⟩
 · obtain⟨x',_,_,hx,_,_,hR⟩:=h2 i cs q1;rw[q2] at hx;cases hx;exact hR
 · obtain⟨cs,hc,hu⟩:=List.mem_flatten.1 hu;obtain⟨i,hi⟩:=List.getElem?_of_mem hc;obtain⟨_,_,_,_,_,_,hR⟩:=h2 i cs hi;exact e.one hR u hu
 · rcases Nat.eq_zero_or_pos n with h0|h0
   · exact .inl h0
   · have hxl:xs.length=n:=k.len;have hx0:0<xs.length:=by omega
     obtain⟨b,o,cs,ha,_,_,_⟩:=k.get 0 xs[0] (List.getElem?_eq_getElem hx0);refine .inr ⟨b,o,ha,fun j v hv=>?_⟩;have hj:j<n*e.sz:=by rw[<-hfl];exact(List.getElem?_eq_some_iff.1 hv).1
     have hjn:j / e.sz<n:=Nat.div_lt_of_lt_mul (by rw[Nat.mul_comm];exact hj);have hjl:j / e.sz<css.length:=by rw[h1,hxl];exact hjn
     have hjc:css[j / e.sz]? =some css[j / e.sz]:=List.getElem?_eq_getElem hjl;obtain⟨x,b',o',_,ha',hr,hR⟩:=h2 _ _ hjc;rw[ha] at ha';cases ha';have hm:j%e.sz<(css[j / e.sz]).length:=by rw[e.len hR];exact Nat.mod_lt _ e.pos
     have h3:=jg css (j / e.sz) _ (j%e.sz) _ hlen hjc (List.getElem?_eq_getElem hm);rw[Nat.div_add_mod' j e.sz,hv] at h3;obtain rfl:=Option.some.inj h3;have h4:=hr (j%e.sz) _ (List.getElem?_eq_getElem hm);rw[Nat.add_assoc,Nat.div_add_mod' j e.sz] at h4;exact h4
theorem B2 {e:gM α}{O:Nat->Prop}{h':aA}{base:Nat}{t:TypeId}{v:Value}{xs:List α}{css:List (List Value)}(h1:css.length=xs.length) (h2:∀(i:Nat) (cs:List Value) (x:α),css[i]? =some cs->xs[i]? =some x->e.R h O cs x)
 {n:Nat}(hn:xs.length=n) (ho:aT h' base t e.sz v n css.flatten) (hx:aC h h') (hv:∀b,v.ownBlock=some b->h.size<=b):dx e O h' base t v xs:=by
 subst hn
 exact⟨css,h1,ho,fun i cs x q1 q2=>e.mv (h2 i cs x q1 q2) ⟨hx.size,fun b hb hn=>⟨hx.block b hb (fun k=>k),fun k=>by
  rcases k with k|k
  · have:=hv b k.symm;omega
  · exact hn k⟩⟩⟩
structure LJ (P:Program) (g:FuncId):Prop where
 ok:∃fn,P.funcs[g]? =some fn/\fn.body.isSome=true/\(fn.name == "runtime.NumGoroutine")=false
section
variable {P:Program}{ρ:Env}{h:aA}{dst:Option Nat}{ty:TypeId}{pos:String}{after:Array Edge}{guard:Option (Nat×Bool)}
theorem az.Ls {x:Operand}{g:FuncId}{caps:List Value}{xs:Array Operand}{ts:Array TypeId}{vs:List Value}{Φ:Value->aA->Prop}{X:List PanicEntry->aA->Prop}(hx:bW ρ x=some (.func (.func g) #[] caps.toArray))
 (hf0:LJ P g) (hvs:xs.toList.map (bW ρ)=vs.map some) (k:ah P g (vs++caps).toArray h (fun e h'=>match e with|.returned v=>Φ v h'|.panicked c=>X c h'|.outgrown=>False)) :
 az P ⟨dst,.call ⟨.value x,xs,ts⟩,ty,pos,after,guard⟩ ρ h Φ X:=by
 obtain⟨fn,hfn,hb,hnm⟩:=hf0.ok;intro n B a w hf ha next Q hn hq
 have hargs:xs.map a.eval=vs.toArray:=by
  apply Array.ext'
  simp only[Array.toList_map]
  have:∀(l:List Operand) (us:List Value),l.map (bW ρ)=us.map some->l.map a.eval=us:=by
   intro l
   induction l with
   |nil=>intro us hu;cases us<;>simp_all
   |cons x r ih =>
    intro us hu;cases us with
    |nil=>simp at hu
    |cons u us =>
     simp only[List.map_cons,List.cons.injEq] at hu ⊢;exact⟨hf.eval hu.1,ih us hu.2⟩
  exact this _ _ hvs
 have hrun:(execOp a.eval ⟨dst,.call ⟨.value x,xs,ts⟩,ty,pos,after,guard⟩).run P w= .ok (.enter g (vs++caps).toArray) w:=by
  have hb':fn.body≠none:=by intro hbb;simp[hbb] at hb
  have hnm':¬fn.name= "runtime.NumGoroutine" :=by simpa using hnm
  simp[execOp,resolve,hf.eval hx,Deferred.ofValue,invoke,callFunc,hfn,hnm',hb',hargs]
 unfold Oper.wp;rw[hrun];refine(k B w ha).mono fun e w' ⟨h',ha',hr⟩=>?_
 cases e with
 |returned v=>exact hn v h' w' ha' hr
 |panicked c=>exact hq c h' w' ha' hr
 |outgrown=>exact hr.elim
end
end
end Go.Lw
namespace Go.Lw
open Go.RowKit
theorem gG.Kn {P:Program}{l n:Nat}{r:Loop}{args:Array Value}{h:aA}{ρ:Env}{id1 id2 id3 idb:Nat}{ops1 ops2 ops3:Array Oper}{c:Operand}{Φ:Value->aA->Prop}(hl:cO h l r) (hst:r.state= .ready) (hsz:args.size=r.params.size)
 (ht:Fits n ρ { tmps:=(r.params.zip args).foldl (fun tmps (t,a)=>tmps.setIfInBounds t a) r.tmps,defers:=[] }) (ha1:r.assign= .region id1 ops1 false)
 (hb1:r.body= .block idb (.seq (.region id2 ops2 false) (.cond c (.seq (.region id3 ops3 false) .ret) .skip)))
 (walk:eF P (some l) n ops1 0 ρ h (fun ρ1 h1=>cO h1 l r/\eF P (some l) n ops2 0 ρ1 (cA h1 l (.loop { r with state:=.busy })) (fun ρ2 h2=>∃t,bW ρ2 c=some (.bool t) /\
  (t=true->eF P (some l) n ops3 0 ρ2 h2 (fun _ h3=>∃r2,cO h3 l r2/\Φ (.bool false) (cA h3 l (.loop { r2 with state:=.done,pending:=some .ret }))) (fun _ _=>False)) /\
  (t=false->∃r2,cO h2 l r2/\Φ (.bool true) (cA h2 l (.loop { r2 with state:=.ready,pending:=none })))) (fun _ _=>False)) (fun _ _=>False)) :
 gG P l args h (cM Φ):=by
 intro m B w ha;have hlw:w.heap[l]? =some (.loop r):=by rw[ha.heap];exact hl
 refine⟨_,_,_,_,run_yield hlw hsz,roundIn_of_wpIn trivial ?_⟩;rw[ha1,hb1];refine wpIn_region ?_;refine walk m B _ w ht ha _ ?_ (fun _ _ _ _ _ _ k=>k.elim);rintro ρ1 h1 a1 w1 hf1 hw1 ⟨hl1,walk2⟩;have hlw1:w1.heap[l]? =some (.loop r):=by rw[hw1.heap];exact hl1
 refine⟨_,run_beginRound hlw1 hst,?_⟩;refine wpIn_block (wpIn_seq (wpIn_region ?_));refine walk2 m B a1 _ hf1 (hw1.cA l _) _ ?_ (fun _ _ _ _ _ _ k=>k.elim);rintro ρ2 h2 a2 w2 hf2 hw2 ⟨t,ht,k1,k2⟩;refine wpIn_cond_split (hf2.eval ht) (fun q=>?_) (fun q=>?_)
 · refine wpIn_seq (wpIn_region ?_);refine k1 q m B a2 w2 hf2 hw2 _ ?_ (fun _ _ _ _ _ _ k=>k.elim);rintro ρ3 h3 a3 w3 hf3 hw3 ⟨r2,hl2,hΦ⟩;have hlw2:w3.heap[l]? =some (.loop r2):=by rw[hw3.heap];exact hl2
   refine wpIn_ret ?_;exact⟨_,_,run_endRound (some .ret) hlw2,_,hw3.cA l _,_,rfl,hΦ⟩
 · obtain⟨r2,hl2,hΦ⟩:=k2 q;have hlw2:w2.heap[l]? =some (.loop r2):=by rw[hw2.heap];exact hl2
   refine wpIn_skip ?_;exact⟨_,_,run_endRound none hlw2,_,hw2.cA l _,_,rfl,hΦ⟩
section
variable {P:Program}{f:FuncId}{fn:Func}{k:List It}{ρ:Env}{h:aA}{R:Ending->aA->Prop}{p:List Nat}
theorem G.Dg {g:Operand}{ps:Array Tmp}{assign body:Code}{f':FuncId}{fn':Func}{caps:Array Value}(hfn:P.funcs[f]? =some fn) (hk:Lw.sub (aK fn) p= .rangeFunc g ps assign body) (hg:bW ρ g=some (.func (.func f') #[] caps))
 (hfn':P.funcs[f']? =some fn') (hb':fn'.body.isSome=true) (hnm':(fn'.name == "runtime.NumGoroutine")=false)
 (hcall:∀fid tmps,Fits fn.ntmps ρ { tmps:=tmps,defers:=[] }->ah P f' (#[.func (.yield (h.size+1)) #[] #[]]++caps) ((h.push (.deferred (some []))).push (.loop (fH fid tmps ps assign body h.size)))
  (cM fun _ h'=>∃r,cO h' (h.size+1) r/\r.state≠ .busy/\(r.pending=none/\GD P (fC h.size) f fn k ρ (cA h' (h.size+1) (.loop { r with state:=.exhausted })) R \/
   r.pending=some .ret/\h'[h.size]? =some (.deferred (some []))/\∃vs,lB P ρ (cA (cA h' (h.size+1) (.loop { r with state:=.exhausted })) h.size (.deferred none)) fn.results.toList vs /\
    R (.returned (packed vs)) (cA (cA h' (h.size+1) (.loop { r with state:=.exhausted })) h.size (.deferred none))))):G P f fn (.code p::k) ρ h R:=by
 intro B a w hf ha b hb hkk cs
 let Q:Exit->Act->World->Prop:=fun e a' w'=>match e with
  |.normal=>∃h',jy (fC h.size) fn.ntmps ρ a'/\At B h' w'/\GD P (fC h.size) f fn k ρ h' R
  |.ret=>∃h',jy (fC h.size) fn.ntmps ρ a'/\At B h' w'/\h'[h.size]? =some (.deferred (some []))/\∃vs,lB P ρ (cA h' h.size (.deferred none)) fn.results.toList vs/\R (.returned (packed vs)) (cA h' h.size (.deferred none))
  |_=>False
 have hw:(Code.rangeFunc g ps assign body).wp P Q a w:=by
  refine(wpIn_wide (n:=0)).1 (wpIn_rangeFunc fun fid _=>?_);have hb2:fn'.body≠none:=by intro hbb;simp[hbb] at hb'
  have hnm2:¬fn'.name= "runtime.NumGoroutine" :=by simpa using hnm'
  have hf0:Fits fn.ntmps ρ { tmps:=a.tmps,defers:=[] }:=⟨hf.size,hf.ok,rfl⟩
  have ha2:At B ((h.push (.deferred (some []))).push (.loop (fH fid a.tmps ps assign body h.size))) ((w.alloc (.deferred (some []))).alloc (.loop (fH fid a.tmps ps assign body w.heap.size))):=by
   refine⟨?_,ha.os,ha.tape,ha.output⟩
   show ((w.heap.push _).push _)=_
   rw[ha.heap]
  let W1:World:=(w.alloc (.deferred (some []))).alloc (.loop (fH fid a.tmps ps assign body w.heap.size))
  refine⟨w.heap.size+1,fC w.heap.size,W1,{ target:=.fn (.func f') caps,args:= #[.func (.yield (w.heap.size+1)) #[] #[]] },W1,f',#[.func (.yield (w.heap.size+1)) #[] #[]]++caps,W1,run_enterLoop_outer fid a.tmps ps assign body,?_,fun _ _=>trivial,?_,fun h=>by simp[Fence.wide] at h,?_⟩
  · have hge:a.eval g= .func (.func f') #[] caps:=hf.eval hg;have hec:∀v,a.eval (.const v)=v:=fun _=>rfl
    simp[resolve,hge,Deferred.ofValue,hec]
  · simp[invoke,callFunc,hfn',hnm2,hb2]
  · refine tQ (ro:=none) ((?_:Calls P f' (#[.func (.yield (w.heap.size+1)) #[] #[]]++caps) ((w.alloc (.deferred (some []))).alloc (.loop (fH fid a.tmps ps assign body w.heap.size))) _));have hc:=hcall fid a.tmps hf0 B _ ha2;rw[<-ha.heap] at hc;refine hc.mono fun e w3 he=>?_
    obtain⟨h3,ha3,v,rfl,r,hl,hnb,hcs⟩:=he;have hl3:w3.heap[w.heap.size+1]? =some (.loop r):=by rw[ha3.heap];exact hl
    have hfd:jy (fC h.size) fn.ntmps ρ { a with defers:=fC w.heap.size++a.defers }:=⟨hf.size,hf.ok,by
     show fC w.heap.size++a.defers=fC h.size
     rw[hf.nd,ha.heap];rfl⟩
    refine⟨r.pending,_,run_endLoop hl3 hnb,?_⟩;split
    · rename_i hc
      rcases hcs with ⟨hpd,hgd⟩|⟨hpd,_⟩
      · exact⟨_,hfd,ha3.cA _ _,by rw[<-ha.heap];exact hgd⟩
      · rw[hpd] at hc;cases hc
    · rename_i c hc
      rcases hcs with ⟨hpd,_⟩|⟨hpd,hmk,vs,hra,hR⟩
      · rw[hpd] at hc;cases hc
      · obtain rfl:Code.ret=c:=Option.some.inj (hpd.symm.trans hc);refine wpIn_ret ?_;refine⟨_,hfd,ha3.cA _ _,?_,vs,by rw[<-ha.heap];exact hra,by rw[<-ha.heap];exact hR⟩;have hne:¬(w.heap.size+1=h.size):=by rw[ha.heap];omega
        rw[cA,Array.getElem?_setIfInBounds_ne hne,<-ha.heap];exact hmk
 obtain⟨e,a',w',hq,harr⟩:=hw b (k.map (aZ (aK fn))) cs;have hit:(It.code p::k).map (aZ (aK fn))=Item.code (Code.rangeFunc g ps assign body)::k.map (aZ (aK fn)):=by simp[aZ,hk]
 rw[hit];cases e with
 |normal =>
  obtain⟨h',f'',a'',hgd⟩:=hq;obtain⟨e,w'',fr,h'',h1,h2,h3,h4,h5⟩:=hgd B a' w' f'' a'' b hb hkk cs;exact⟨e,w'',fr,h'',h1,h2,.of_steps harr h3,h4,h5⟩
 |ret =>
  obtain⟨h',f'',a'',hm,vs,hr,hR⟩:=hq;obtain⟨todo,hs⟩:=harr;have htake:(Instr.takeDeferred h.size).run P w'= .ok [] (w'.putObj h.size (.deferred none)):=run_takeDeferred (by rw[a''.heap];exact hm);have h2:=step_collected (P:=P) (fr:= { b.at a' todo with mode:=.returning }) (cs:=cs) (by simp) (f''.nd:_=_) rfl htake;have hz:=f''.zero;exact⟨.returned (packed vs),_,_,_,a''.cA h.size _,hR,hs.trans (.one h2),hb,rfl,rfl,hkk,fn,(show P.funcs[b.fn]? =some fn by rw[hb];exact hfn),fB hz (a''.cA h.size _) hr⟩
 |panic ch=>exact hq.elim
 |exit id=>exact hq.elim
 |goto l=>exact hq.elim
 |outgrown=>exact hq.elim
theorem GD.EO {b0:Nat}{vs:List Value}(hfn:P.funcs[f]? =some fn) (hk:kind (Lw.sub (aK fn) p)=4) (hm:h[b0]? =some (.deferred (some []))) (hr:lB P ρ (cA h b0 (.deferred none)) fn.results.toList vs) (hR:R (.returned (packed vs)) (cA h b0 (.deferred none))):GD P (fC b0) f fn (.code p::k) ρ h R:=by
 intro B a w hf ha b hb hkk cs
 have hstep:Go.step P (lone (b.at a ((It.code p::k).map (aZ (aK fn)))) cs w)= .next (lone { b.at a ((It.code p::k).map (aZ (aK fn))) with mode:=.returning } cs w):=by
  simp only[List.map_cons,aZ];cases hc:Lw.sub (aK fn) p<;>simp[hc,kind] at hk
  · rename_i d;cases d<;>simp at hk
  · exact step_ret
 have htake:(Instr.takeDeferred b0).run P w= .ok [] (w.putObj b0 (.deferred none)):=run_takeDeferred (by rw[ha.heap];exact hm);have h2:=step_collected (P:=P) (fr:= { b.at a ((It.code p::k).map (aZ (aK fn))) with mode:=.returning }) (cs:=cs) (by simp) (hf.nd:_=_) rfl htake;have hz:=hf.zero;exact⟨.returned (packed vs),_,_,_,ha.cA b0 _,hR,.head hstep (.one h2),hb,rfl,rfl,hkk,fn,(show P.funcs[b.fn]? =some fn by rw[hb];exact hfn),fB hz (ha.cA b0 _) hr⟩
end
end Go.Lw
namespace Go.Lw
open Go.ChangeShapes Go.WideShapes Go.ChangeAt Go.RowKit
section
variable {P:Program}{H:Type}{enc:TypeId×Value->H}
theorem Dz {W:World}{fuel:Nat}{sp:Nat->Bool}{held:Bool}{t e:TypeId}{cs:List Value}{L:List (List UInt8)}{rest:List (DataW H)}{pl:List MemPlace}
 (ht:P.underlying t=some (.slice e)) (he:P.underlying e=some .string) (hC:P.cellsOf e=1)
 (h:DataW.trod enc P W 0 sp held fuel t cs=some (.slice (L.map fun s=>.lit (.string s)) rest,pl)):∃v,cs=[v]/\bX (.flat (fun s=>Value.string ⟨s.toArray⟩) fun _=>rfl) W.heap (fun _=>False) v L:=by
 rcases Deep.open_slice ht h with ⟨_,hx⟩|⟨a,len,cap,m,n,D,Pl,rfl,_,hle,hm,hmm,hx,hel⟩
 · simp at hx
 · simp only[Prod.mk.injEq,DataW.slice.injEq] at hx;have hlen:L.length=len:=by have:=congrArg List.length hx.1.1;simpa using this
   have hlm:len<=m:=by rw[hmm];split<;>omega
   have hD:∀(i:Nat) (r:List UInt8),L[i]? =some r->D i= .lit (.string r):=fun i r hr=>by
    have hil:i<len:=by rw[<-hlen];exact(List.getElem?_eq_some_iff.1 hr).1
    have:=congrArg (fun z=>z[i]?) hx.1.1;simp only[List.getElem?_map,hr,Option.map_some,List.getElem?_range hil,Option.some.injEq] at this;exact this.symm
   refine⟨_,rfl,some a,len,cap,rfl,hlen,hle,hm,fun i r hr=>?_⟩;have hil:i<len:=by rw[<-hlen];exact(List.getElem?_eq_some_iff.1 hr).1
   obtain⟨cs',hc1,hc2⟩:=hel i (by omega);rw[hC] at hc1;rw[hD i r hr] at hc2;obtain⟨_,hcl,hcell⟩:=World.cells?_some hc1;obtain rfl:=oP he hc2;obtain⟨cs0,hc0,_⟩:=hel 0 (by omega);rw[hC] at hc0;obtain⟨_,hcl0,hcell0⟩:=World.cells?_some hc0;have hs0:=hcell0 0 (by omega);rw[List.getElem?_eq_getElem (by omega)] at hs0;have hspot:a.spot=none:=by simpa [Addr.add] using World.cell?_spot hs0
   obtain⟨b,o,spot⟩:=a;have hspot:spot=none:=hspot;subst hspot;refine⟨b,o,[.string ⟨r.toArray⟩],rfl,fun k=>k,fun j u hj=>?_,rfl⟩;have hj0:j=0:=by cases j with|zero=>rfl|succ j=>simp at hj
   subst hj0;have:=hcell 0 (by omega);rw[Deep.add_add,Addr.add_mid,dR] at this
   show cellAt W.heap ⟨b,o+i*1+0,none⟩=some u
   rw[Nat.add_assoc,this];exact hj
end
end Go.Lw
namespace Go.Proofs.YtmehdcdbeafljaaGreatDoor
abbrev By:=List UInt8
inductive Nd where
 |mk (kind:Nat) (set:Nat) (kids:List Nd)
def Nd.kind:Nd->Nat|.mk k _ _=>k
def Nd.set:Nd->Nat|.mk _ s _=>s
def Nd.kids:Nd->List Nd|.mk _ _ l=>l
def Gi:Nat:=2 ^ 256-1
def vN (s a:Nat):Nat->Nat
 | 0=>s
 |n+1=>vN (s |||(1 <<< a)) (a+1) n
def nD (s:Nat) (a b:UInt8):Nat:=vN s a.toNat (b.toNat+1-a.toNat)
def l9 (s:Nat):Nat:=Gi ^^^ s
def yo (b:UInt8):Nd:=.mk 1 (nD 0 b b) []
def IF:Nd:=.mk 1 (nD (nD 0 0 9) 11 255) []
def mY:Nd:=.mk 0 0 []
def fO:By:=[40,41,91,93,124,42,43,63,46,92,45,94]
def kV (b:UInt8):Option Nat :=
 if 48<=b.toNat/\b.toNat<=57 then some (b.toNat-48) else if 97<=b.toNat/\b.toNat<=102 then some (b.toNat-87) else if 65<=b.toNat/\b.toNat<=70 then some (b.toNat-55) else none
def pN:By->Option (UInt8×By)
 | []=>none
 |b::r =>
  if b=110 then some (10,r) else if b=116 then some (9,r) else if b=114 then some (13,r)
  else if b=120 then
   match r with
   |x::y::r=>match kV x,kV y with
    |some m,some n=>some (UInt8.ofNat (m*16+n),r)
    |_,_=>none
   |_=>none
  else if b∈fO then some (b,r) else none
def oq:By->Option (UInt8×By)
 | []=>none
 |b::r=>if b=92 then pN r else if b∈fO then none else some (b,r)
def fk (s:By):Option ((UInt8×UInt8)×By) :=
 match oq s with
 |none=>none
 |some (a,r)=>match r with
  | 45::r'=>match oq r' with
   |none=>none
   |some (b,r'')=>if b.toNat<a.toNat then none else some ((a,b),r'')
  |_=>some ((a,a),r)
def lH:Nat->Nat->By->Option (Nat×By)
 | 0,_,_=>none
 |n+1,acc,s=>match fk s with
  |none=>none
  |some ((a,b),r)=>match r with
   | 93::r'=>some (nD acc a b,r')
   |_=>lH n (nD acc a b) r
def ig (s:By):Option (Nd×By) :=
 match s with
 | 94::r=>(lH (r.length+1) 0 r).map fun p=>(.mk 1 (l9 p.1) [],p.2)
 |_=>(lH (s.length+1) 0 s).map fun p=>(.mk 1 p.1 [],p.2)
def fF (rows:By->Option (Nd×By)):By->Option (Nd×By)
 | []=>none
 |c::r =>
  if c=40 then
   match rows r with
   |none=>none
   |some (n,r')=>match r' with
    | 41::r''=>some (n,r'')
    |_=>none
  else if c=91 then ig r
  else if c=46 then some (IF,r)
  else if c=92 then (pN r).map fun p=>(yo p.1,p.2)
  else if c∈[(41:UInt8),93,124,42,43,63] then none
  else some (yo c,r)
def dJ (c:UInt8):Nat:=if c=42 then 4 else if c=43 then 5 else if c=63 then 6 else 0
def eY (n:Nd):By->Nd×By
 | []=>(n,[])
 |c::r=>if dJ c=0 then (n,c::r) else eY (.mk (dJ c) 0 [n]) r
def fX (rows:By->Option (Nd×By)) (s:By):Option (Nd×By) :=
 (fF rows s).map fun p=>eY p.1 p.2
def cG (kind:Nat):List Nd->Nd
 | []=>mY
 | [n]=>n
 |l=>.mk kind 0 l
def jK:By->Bool
 | []=>true
 |c::_=>c ==124 ||c ==41
def lV (rows:By->Option (Nd×By)):Nat->By->Option (List Nd×By)
 | 0,_=>none
 |n+1,s=>if jK s then some ([],s) else
  match fX rows s with
  |none=>none
  |some (x,r)=>(lV rows n r).map fun p=>(x::p.1,p.2)
def iB (rows:By->Option (Nd×By)):Nat->List Nd->List Nd->By->Option (Nd×By)
 | 0,_,_,_=>none
 |n+1,all,row,s=>if jK s then
  if s.head? =some 124 then iB rows n (all++[cG 2 row]) [] s.tail
  else some (cG 3 (all++[cG 2 row]),s)
  else match fX rows s with
   |none=>none
   |some (x,r)=>iB rows n all (row++[x]) r
def ei:Nat->By->Option (Nd×By)
 | 0,_=>none
 |d+1,s=>iB (ei d) (s.length+1) [] [] s
def jM (s:By):Option Nd :=
 match ei (s.length+1) s with
 |some (n,[])=>some n
 |_=>none
theorem uh {s:By}{b:UInt8}{r:By}(h:pN s=some (b,r)):r.length<s.length:=by
 unfold pN at h;split at h
 · cases h
 · rename_i c t;split at h
   · cases h;simp
   · split at h
     · cases h;simp
     · split at h
       · cases h;simp
       · split at h
         · split at h
           · split at h
             · cases h;simp only[List.length_cons];omega
             · cases h
           · cases h
         · split at h
           · cases h;simp
           · cases h
theorem pq {s:By}{b:UInt8}{r:By}(h:oq s=some (b,r)):r.length<s.length:=by
 unfold oq at h;split at h
 · cases h
 · split at h
   · have:=uh h;simp only[List.length_cons];omega
   · split at h
     · cases h
     · cases h;simp
theorem mz {s:By}{p:UInt8×UInt8}{r:By}(h:fk s=some (p,r)):r.length<s.length:=by
 unfold fk at h;split at h
 · cases h
 · rename_i a t ha;have h1:=pq ha;split at h
   · rename_i t';split at h
     · cases h
     · rename_i b t'' hb;have h2:=pq hb;split at h
       · cases h
       · cases h;simp only[List.length_cons] at h1;omega
   · cases h;exact h1
theorem qh:∀(n acc:Nat){s:By}{m:Nat}{r:By},lH n acc s=some (m,r)->r.length<s.length
 | 0,_,s,m,r,h=>by cases h
 |n+1,acc,s,m,r,h=>by
  rw[lH] at h;split at h
  · cases h
  · rename_i a b t ht;have h1:=mz ht;split at h
    · cases h;simp only[List.length_cons] at h1;omega
    · have:=qh n _ h;omega
theorem pV {s:By}{x:Nd}{r:By}(h:ig s=some (x,r)):r.length<s.length:=by
 unfold ig at h;split at h
 · rename_i t;simp only[Option.map_eq_some_iff] at h;obtain⟨⟨m,r'⟩,h1,h2⟩:=h;cases h2;have:=qh _ _ h1;simp only[List.length_cons];omega
 · simp only[Option.map_eq_some_iff] at h;obtain⟨⟨m,r'⟩,h1,h2⟩:=h;cases h2;exact qh _ _ h1
theorem wD {rows:By->Option (Nd×By)}(hr:∀{s x r},rows s=some (x,r)->r.length<=s.length){s:By}{x:Nd}{r:By}(h:fF rows s=some (x,r)):r.length<s.length:=by
 unfold fF at h;split at h
 · cases h
 · rename_i c t;simp only[List.length_cons];split at h
   · split at h
     · cases h
     · rename_i n t' ht;have:=hr ht;split at h
       · rename_i t'' _;cases h;simp only[List.length_cons] at this;omega
       · cases h
   · split at h
     · have:=pV h;omega
     · split at h
       · cases h;omega
       · split at h
         · simp only[Option.map_eq_some_iff] at h;obtain⟨⟨b,r'⟩,h1,h2⟩:=h;cases h2;have:=uh h1;dsimp only;omega
         · split at h
           · cases h
           · cases h;omega
theorem sE:∀(s:By) (n:Nd),(eY n s).2.length<=s.length
 | [],n=>by simp[eY]
 |c::r,n=>by
  rw[eY];split
  · simp
  · have:=sE r (.mk (dJ c) 0 [n]);simp only[List.length_cons];omega
theorem fW {rows:By->Option (Nd×By)}(hr:∀{s x r},rows s=some (x,r)->r.length<=s.length){s:By}{x:Nd}{r:By}(h:fX rows s=some (x,r)):r.length<s.length:=by
 unfold fX at h;simp only[Option.map_eq_some_iff] at h;obtain⟨⟨n,t⟩,h1,h2⟩:=h;have h3:=wD hr h1;have h4:=sE t n;rw[h2] at h4;simp only at h4;omega
theorem ql {rows:By->Option (Nd×By)}(hr:∀{s x r},rows s=some (x,r)->r.length<=s.length):∀(n:Nat) (all row:List Nd){s:By}{x:Nd}{r:By},iB rows n all row s=some (x,r)->r.length<=s.length/\(r=[]\/r.head? =some 41)
 | 0,_,_,s,x,r,h=>by cases h
 |n+1,all,row,s,x,r,h=>by
  rw[iB] at h;split at h
  · rename_i he;split at h
    · have:=ql hr n _ _ h;exact⟨by have h2:=this.1;simp only[List.length_tail] at h2;omega,this.2⟩
    · rename_i hn;cases h;refine⟨Nat.le_refl _,?_⟩;cases s with
      |nil=>exact .inl rfl
      |cons c t =>
       right
       unfold jK at he;have h1:c≠124:=fun e=>hn (by rw[e];rfl)
       simp[h1] at he;simp[he]
  · split at h
    · cases h
    · rename_i y t ht;have h1:=fW hr ht;have h2:=ql hr n _ _ h;exact⟨by omega,h2.2⟩
theorem ko:∀(d:Nat){s:By}{x:Nd}{r:By},ei d s=some (x,r)->r.length<=s.length
 | 0,s,x,r,h=>by cases h
 |d+1,s,x,r,h=>(ql (fun h=>ko d h) _ _ _ h).1
theorem zJ {rows:By->Option (Nd×By)}(hr:∀{s x r},rows s=some (x,r)->r.length<=s.length):∀(n:Nat){s:By}{l:List Nd}{r:By},lV rows n s=some (l,r)->r.length<=s.length/\jK r=true/\l.length<=s.length
 | 0,s,l,r,h=>by cases h
 |n+1,s,l,r,h=>by
  rw[lV] at h;split at h
  · rename_i he;cases h;exact⟨Nat.le_refl _,he,Nat.zero_le _⟩
  · split at h
    · cases h
    · rename_i y t ht;have h1:=fW hr ht;simp only[Option.map_eq_some_iff] at h;obtain⟨⟨m,r'⟩,h2,h3⟩:=h;cases h3;have h4:=zJ hr n h2;have h5:=h4.1;have h6:=h4.2.2;exact⟨by first|omega|(dsimp only;omega),h4.2.1,by simp only[List.length_cons];first|omega|(dsimp only at h6;omega)⟩
theorem sM {rows:By->Option (Nd×By)}(hr:∀{s x r},rows s=some (x,r)->r.length<=s.length):∀(k:Nat) (n m:Nat) (all row:List Nd) (s:By),s.length<=k->s.length<n->s.length<m->iB rows n all row s=iB rows m all row s:=by
 intro k
 induction k with
 |zero =>
  intro n m all row s hk hn hm;cases n with
  |zero=>omega
  |succ n =>
   cases m with
   |zero=>omega
   |succ m =>
    have:s=[]:=List.eq_nil_of_length_eq_zero (by omega);subst this;rfl
 |succ k ih =>
  intro n m all row s hk hn hm;cases n with
  |zero=>omega
  |succ n =>
   cases m with
   |zero=>omega
   |succ m =>
    rw[iB,iB];split
    · split
      · rename_i h1;have h2:s.tail.length+1=s.length:=by cases s with|nil=>cases h1|cons a b=>simp
        exact ih _ _ _ _ _ (by omega) (by omega) (by omega)
      · rfl
    · cases hp:fX rows s with
      |none=>rfl
      |some p =>
       obtain⟨y,t⟩:=p;have:=fW hr hp;exact ih _ _ _ _ _ (by omega) (by omega) (by omega)
theorem vQ {rows:By->Option (Nd×By)}(hr:∀{s x r},rows s=some (x,r)->r.length<=s.length):∀(n m:Nat) (s:By),s.length<n->s.length<m->lV rows n s=lV rows m s
 | 0,_,_,h,_=>by omega
 |_,0,_,_,h=>by omega
 |n+1,m+1,s,hn,hm=>by
  rw[lV,lV];split
  · rfl
  · cases hp:fX rows s with
    |none=>rfl
    |some p =>
     obtain⟨y,t⟩:=p;have:=fW hr hp;simp only;rw[vQ hr n m t (by omega) (by omega)]
def xj (rows:By->Option (Nd×By)) (s:By):Option (Nd×By):=(lV rows (s.length+1) s).map fun p=>(cG 2 p.1,p.2)
def rF (rows:By->Option (Nd×By)) (all:List Nd) (m:By):Option (Nd×By) :=
 if m.head? =some 124 then iB rows (m.tail.length+1) all [] m.tail else some (cG 3 all,m)
theorem Dd {rows:By->Option (Nd×By)}(hr:∀{s x r},rows s=some (x,r)->r.length<=s.length):∀(n m:Nat) (all row:List Nd) (s:By),s.length<n->s.length<m ->
 iB rows n all row s=match lV rows m s with
  |none=>none
  |some (l,r)=>if r.head? =some 124 then iB rows (r.length+1) (all++[cG 2 (row++l)]) [] r.tail else some (cG 3 (all++[cG 2 (row++l)]),r):=by
 have fuel:=fun k=>@sM rows hr k
 intro n
 induction n with
 |zero=>intro m all row s h;omega
 |succ n ih =>
  intro m all row s hn hm;cases m with
  |zero=>omega
  |succ m =>
   rw[iB,lV]
   by_cases he:jK s=true
   · rw[if_pos he,if_pos he];simp only[List.append_nil];split
     · rename_i h1;have h2:s.tail.length+1=s.length:=by cases s with|nil=>cases h1|cons a b=>simp
       exact fuel _ _ _ _ _ _ (Nat.le_refl _) (by omega) (by omega)
     · rfl
   · rw[if_neg he,if_neg he];cases hp:fX rows s with
     |none=>rfl
     |some p =>
      obtain⟨y,t⟩:=p;have hlt:=fW hr hp;simp only;rw[ih m all (row++[y]) t (by omega) (by omega)];cases hl:lV rows m t with
      |none=>rfl
      |some q =>
       obtain⟨l,r⟩:=q;simp only[Option.map_some,List.append_assoc,List.singleton_append]
theorem sO {rows:By->Option (Nd×By)}(hr:∀{s x r},rows s=some (x,r)->r.length<=s.length) (all:List Nd) (s:By) :
 iB rows (s.length+1) all [] s=match xj rows s with|none=>none|some (x,r)=>rF rows (all++[x]) r:=by
 rw[Dd hr _ (s.length+1) _ _ _ (Nat.lt_succ_self _) (Nat.lt_succ_self _)];unfold xj;cases hl:lV rows (s.length+1) s with
 |none=>rfl
 |some q =>
  obtain⟨l,r⟩:=q;simp only[Option.map_some,List.nil_append,rF];split
  · exact sM hr r.length _ _ _ _ _ (by simp) (by simp;omega) (by omega)
  · rfl
theorem zH {rows:By->Option (Nd×By)}(hr:∀{s x r},rows s=some (x,r)->r.length<=s.length){s:By}{x:Nd}{r:By}(h:xj rows s=some (x,r)):r.length<=s.length:=by
 unfold xj at h;simp only[Option.map_eq_some_iff] at h;obtain⟨⟨l,r'⟩,h1,h2⟩:=h;cases h2;exact(zJ hr _ h1).1
def cj (s:By):Nd×Int:=if 200<s.length then (mY,3) else match jM s with|some x=>(x,0)|none=>(mY,10)
end Go.Proofs.YtmehdcdbeafljaaGreatDoor
namespace Go.Proofs.YtmehdcdbeafljaaGreatDoor
open Go
section
variable {k:Int}
inductive Tr where
 |mk (k:Int) (t:By) (l:List Tr)
def Tr.kind:Tr->Int|.mk k _ _=>k
def Tr.text:Tr->By|.mk _ t _=>t
def Tr.kids:Tr->List Tr|.mk _ _ l=>l
abbrev Un:=Int×By×Int
inductive PS where
 |ok (r:List Un)
 |bad (m:Int)
def PS.dm:PS->Bool|.ok _=>false|.bad _=>true
def PS.len:PS->Nat|.ok r=>r.length|.bad _=>0
def K6 (e:Int):List Un->Int| []=>e|u::_=>u.2.2
def dM (e:Int):PS->PS|.ok r=>.bad (K6 e r)|.bad m=>.bad m
def dL (k:Int) (ts:List By):PS->Option By×PS
 |.ok (u::r)=>if u.1=k/\u.2.1∈ts then (some u.2.1,.ok r) else (none,.ok (u::r))
 |.ok []=>(none,.ok [])
 |.bad m=>(none,.bad m)
def eI (e k:Int) (t:By) (s:PS):PS:=match (dL k [t] s).1 with|some _=>(dL k [t] s).2|none=>dM e (dL k [t] s).2
def dV (e:Int):PS->By×PS
 |.ok (u::r)=>if u.1=3 then (u.2.1,.ok r) else ([],dM e (.ok (u::r)))
 |.ok []=>([],dM e (.ok []))
 |.bad m=>([],.bad m)
abbrev vh:By:=[108,101,116]
abbrev J5:By:=[105,110]
abbrev Gx:By:=[105,102]
abbrev zh:By:=[101,108,115,101]
abbrev Ew:By:=[102,117,110]
abbrev oJ:By:=[111,114]
abbrev jI:By:=[97,110,100]
abbrev lQ:By:=[110,111,116]
abbrev jW:By:=[116,114,117,101]
abbrev nW:By:=[102,97,108,115,101]
abbrev sy:By:=[124,124]
abbrev sA:By:=[38,38]
abbrev zi:By:=[33]
abbrev nV:By:=[45]
abbrev Ex:List By:=[[61,61],[33,61],[60],[60,61],[62],[62,61]]
abbrev Eu:List By:=[[43],[45]]
abbrev zg:List By:=[[42],[47],[37]]
def Dj (k:Nat) (s:PS):Option By×PS :=
 if k=0 then (match dL 4 [oJ] s with|(some _,s)=>(some oJ,s)|(none,s)=>match dL 6 [sy] s with|(some _,s)=>(some oJ,s)|(none,s)=>(none,s))
 else if k=1 then (match dL 4 [jI] s with|(some _,s)=>(some jI,s)|(none,s)=>match dL 6 [sA] s with|(some _,s)=>(some jI,s)|(none,s)=>(none,s))
 else if k=3 then dL 6 Ex s
 else if k=4 then dL 6 Eu s
 else dL 6 zg s
inductive JQ where
 |stmt|expr|lt (alone:Bool)|choice|fn|block
 |blockL (l:List Tr)|part (k:Nat)|opL (k:Nat) (t:Tr)|callL (t:Tr)|argL (t:Tr)|atom
def mK (u:Un):Option Tr :=
 if u.1=5 then some (.mk 0 u.2.1 []) else if u.1=9 then some (.mk 1 u.2.1 []) else if u.1=3 then some (.mk 3 u.2.1 [])
 else if u.1=4/\(u.2.1=jW\/u.2.1=nW) then some (.mk 2 u.2.1 []) else none
def GJ:Tr:=.mk 0 [] []
abbrev D6:=Option (Tr×PS)
def gJ (a:D6) (f:Tr->PS->D6):D6:=a.bind fun p=>f p.1 p.2
def pM (e:Int):Nat->JQ->PS->D6
 | 0,_,_=>none
 |n+1,.stmt,s=>match dL 4 [vh] s with
  |(some _,s)=>pM e n (.lt true) s
  |(none,s)=>pM e n .expr s
 |n+1,.expr,s=>match dL 4 [vh] s with
  |(some _,s)=>pM e n (.lt false) s
  |(none,s)=>match dL 4 [Gx] s with
   |(some _,s)=>pM e n .choice s
   |(none,s)=>match dL 4 [Ew] s with
    |(some _,s)=>pM e n .fn s
    |(none,s)=>pM e n (.part 0) s
 |n+1,.lt alone,s=>gJ (pM e n .expr (eI e 6 [61] (dV e s).2)) fun v s1=>match dL 4 [J5] s1 with
  |(some _,s2)=>gJ (pM e n .expr s2) fun w s3=>some (.mk 7 (dV e s).1 [v,w],s3)
  |(none,s2)=>some (.mk 7 (dV e s).1 [v],if alone then s2 else dM e s2)
 |n+1,.choice,s=>gJ (pM e n .expr s) fun a s=>gJ (pM e n .block s) fun b s=>match dL 4 [Gx] (eI e 4 zh s) with
  |(some _,s)=>gJ (pM e n .choice s) fun c s=>some (.mk 6 [] [a,b,c],s)
  |(none,s)=>gJ (pM e n .block s) fun c s=>some (.mk 6 [] [a,b,c],s)
 |n+1,.fn,s=>match dL 6 [[44]] (dV e s).2 with
  |(some _,s1)=>gJ (pM e n .fn s1) fun a s2=>some (.mk 8 (dV e s).1 [a],s2)
  |(none,s1)=>gJ (pM e n .expr (eI e 6 [45,62] s1)) fun a s2=>some (.mk 8 (dV e s).1 [a],s2)
 |n+1,.block,s=>pM e n (.blockL []) (eI e 7 [123] s)
 |n+1,.blockL l,s=>gJ (pM e n .stmt s) fun t s=>match dL 6 [[59]] s with
  |(more,s)=>match dL 8 [[125]] s with
   |(some _,s)=>some (.mk 10 [] (l++[t]),s)
   |(none,s)=>if more.isSome && !s.dm then pM e n (.blockL (l++[t])) s else some (.mk 10 [] (l++[t]),dM e s)
 |n+1,.part k,s =>
  if k=7 then gJ (pM e n .atom s) fun t s=>pM e n (.callL t) s
  else if k=2 then match dL 4 [lQ] s with
   |(some _,s)=>gJ (pM e n (.part 2) s) fun t s=>some (.mk 4 lQ [t],s)
   |(none,s)=>match dL 6 [zi] s with
    |(some _,s)=>gJ (pM e n (.part 2) s) fun t s=>some (.mk 4 lQ [t],s)
    |(none,s)=>pM e n (.part 3) s
  else if k=6 then match dL 6 [nV] s with
   |(some _,s)=>gJ (pM e n (.part 6) s) fun t s=>some (.mk 4 nV [t],s)
   |(none,s)=>pM e n (.part 7) s
  else gJ (pM e n (.part (k+1)) s) fun t s=>pM e n (.opL k t) s
 |n+1,.opL k t,s=>match Dj k s with
  |(some op,s)=>gJ (pM e n (.part (k+1)) s) fun u s=>if k=3 then some (.mk 5 op [t,u],s) else pM e n (.opL k (.mk 5 op [t,u])) s
  |(none,s)=>some (t,s)
 |n+1,.callL t,s=>match dL 7 [[40]] s with
  |(some _,s)=>pM e n (.argL t) s
  |(none,s)=>some (t,s)
 |n+1,.argL t,s=>gJ (pM e n .expr s) fun a s=>match dL 6 [[44]] s with
  |(some _,s)=>pM e n (.argL (.mk 9 [] [t,a])) s
  |(none,s)=>pM e n (.callL (.mk 9 [] [t,a])) (eI e 8 [41] s)
 |n+1,.atom,s=>match s with
  |.bad m=>some (GJ,.bad m)
  |.ok []=>some (GJ,dM e (.ok []))
  |.ok (u::r)=>match mK u with
   |some t=>some (t,.ok r)
   |none=>if u.1=7/\u.2.1=[123] then pM e n .block (.ok (u::r))
    else if u.1=7/\u.2.1=[40] then gJ (pM e n .expr (.ok r)) fun t s=>some (t,eI e 8 [41] s)
    else some (GJ,dM e (.ok (u::r)))
theorem mq (k:Int) (ts:List By) (u:Un) (r:List Un):dL k ts (.ok (u::r))=if u.1=k/\u.2.1∈ts then (some u.2.1,.ok r) else (none,.ok (u::r)):=rfl
theorem og (e:Int) (u:Un) (r:List Un):dV e (.ok (u::r))=if u.1=3 then (u.2.1,.ok r) else ([],dM e (.ok (u::r))):=rfl
theorem He (k:Int) (ts:List By) (m:Int):dL k ts (.bad m)=(none,.bad m):=rfl
theorem eD {ts:List By}{s s':PS}(h:dL k ts s=(none,s')):s'=s:=by
 cases s with
 |bad m=>cases h;rfl
 |ok r=>cases r with
  |nil=>cases h;rfl
  |cons u r=>rw[mq] at h;split at h<;>cases h;rfl
theorem tL {ts:List By}{s s':PS}{t:By}(h:dL k ts s=(some t,s')):∃u r,s= .ok (u::r)/\s'= .ok r/\u.1=k/\u.2.1=t/\t∈ts:=by
 cases s with
 |bad m=>cases h
 |ok r=>cases r with
  |nil=>cases h
  |cons u r=>rw[mq] at h;split at h<;>cases h;rename_i q;exact⟨u,r,rfl,rfl,q.1,rfl,q.2⟩
theorem pI {ts:List By}{s s':PS}{t:By}(h:dL k ts s=(some t,s')):s.len=s'.len+1:=by
 obtain⟨u,r,rfl,rfl,_⟩:=tL h;simp[PS.len]
theorem wA (e:Int) (s:PS):∃m,dM e s= .bad m:=by cases s<;>exact⟨_,rfl⟩
theorem Ds (e k:Int) (t:By) (s:PS):(eI e k t s).len<=s.len:=by
 unfold eI
 rcases hq:dL k [t] s with ⟨q,s'⟩
 cases q with
 |none=>have:=eD hq;subst this;obtain⟨m,hm⟩:=wA e s';simp[hm,PS.len]
 |some x=>have:=pI hq;simp;omega
theorem Dr (e:Int) (s:PS):(dV e s).2.len<=s.len/\((dV e s).2.len<s.len\/(dV e s).2.dm=true):=by
 cases s with
 |bad m=>simp[dV,PS.dm]
 |ok r=>cases r with
  |nil=>simp[dV,dM,PS.dm,PS.len]
  |cons u r =>
   rw[og];split
   · simp[PS.len]
   · simp[dM,PS.len,PS.dm]
theorem DL (e:Int) (s:PS):(dM e s).len=0:=by cases s<;>rfl
theorem EY {k:Nat}{s s':PS}(h:Dj k s=(none,s')):s'=s:=by
 unfold Dj at h;split at h
 · rcases hq:dL 4 [oJ] s with ⟨q,s1⟩
   rw[hq] at h;cases q with
   |some x=>simp at h
   |none =>
    have e1:=eD hq;subst e1
    rcases hq2:dL 6 [sy] s1 with ⟨q,s2⟩
    simp only[hq2] at h;cases q with
    |some x=>simp at h
    |none=>have:=eD hq2;subst this;simp at h;exact h.symm
 · split at h
   · rcases hq:dL 4 [jI] s with ⟨q,s1⟩
     rw[hq] at h;cases q with
     |some x=>simp at h
     |none =>
      have e1:=eD hq;subst e1
      rcases hq2:dL 6 [sA] s1 with ⟨q,s2⟩
      simp only[hq2] at h;cases q with
      |some x=>simp at h
      |none=>have:=eD hq2;subst this;simp at h;exact h.symm
   · split at h
     · exact eD h
     · split at h<;>exact eD h
theorem zP {k:Nat}{s s':PS}{t:By}(h:Dj k s=(some t,s')):∃u r,s= .ok (u::r)/\s'= .ok r:=by
 have key:∀{k ts}{s s':PS}{t:By},dL k ts s=(some t,s')->∃u r,s= .ok (u::r)/\s'= .ok r:=fun h=>by
  obtain⟨u,r,h1,h2,_⟩:=tL h;exact⟨u,r,h1,h2⟩
 unfold Dj at h;split at h
 · rcases hq:dL 4 [oJ] s with ⟨q,s1⟩
   rw[hq] at h;cases q with
   |some x=>simp at h;rw[<-h.2];exact key hq
   |none =>
    have e1:=eD hq;subst e1
    rcases hq2:dL 6 [sy] s1 with ⟨q,s2⟩
    simp only[hq2] at h;cases q with
    |some x=>simp at h;rw[<-h.2];exact key hq2
    |none=>simp at h
 · split at h
   · rcases hq:dL 4 [jI] s with ⟨q,s1⟩
     rw[hq] at h;cases q with
     |some x=>simp at h;rw[<-h.2];exact key hq
     |none =>
      have e1:=eD hq;subst e1
      rcases hq2:dL 6 [sA] s1 with ⟨q,s2⟩
      simp only[hq2] at h;cases q with
      |some x=>simp at h;rw[<-h.2];exact key hq2
      |none=>simp at h
   · split at h
     · exact key h
     · split at h<;>exact key h
theorem GO {k:Nat}{s s':PS}{t:By}(h:Dj k s=(some t,s')):s.len=s'.len+1:=by
 obtain⟨u,r,rfl,rfl⟩:=zP h;simp[PS.len]
theorem aX {a:D6}{f:Tr->PS->D6}{y:Tr×PS}(h:gJ a f=some y):∃t s,a=some (t,s)/\f t s=some y:=by
 cases a with
 |none=>cases h
 |some p=>exact⟨p.1,p.2,rfl,h⟩
theorem xy (e:Int):∀(n:Nat) (j:JQ) (s:PS) (t:Tr) (s':PS),pM e n j s=some (t,s')->s'.len<=s.len/\(∀m,s= .bad m->s'= .bad m)
 | 0,_,_,_,_,h=>by cases h
 |n+1,j,s,t,s',h=>by
  have ih:=xy e n;have hm:∀{k t}{s:PS},(eI e k t s).len<=s.len/\(∀m,s= .bad m->eI e k t s= .bad m):=fun {k t s}=>⟨Ds e k t s,fun m q=>by subst q;rfl⟩
  have hi:∀{k ts}{s s':PS} {o},dL k ts s=(o,s')->s'.len<=s.len/\(∀m,s= .bad m->s'= .bad m):=fun {k ts s s' o} q=>by
   cases o with
   |none=>have:=eD q;subst this;exact⟨Nat.le_refl _,fun m q=>q⟩
   |some x=>exact⟨by have:=pI q;omega,fun m q2=>by subst q2;cases q⟩
  have ho:∀{k}{s s':PS} {o},Dj k s=(o,s')->s'.len<=s.len/\(∀m,s= .bad m->s'= .bad m):=fun {k s s' o} q=>by
   cases o with
   |none=>have:=EY q;subst this;exact⟨Nat.le_refl _,fun m q=>q⟩
   |some x=>exact⟨by have:=GO q;omega,fun m q2=>by subst q2;obtain⟨_,_,q3,_⟩:=zP q;cases q3⟩
  have hn:∀{s:PS},(dV e s).2.len<=s.len/\(∀m,s= .bad m->(dV e s).2= .bad m):=fun {s}=>⟨(Dr e s).1,fun m q=>by subst q;rfl⟩
  have hf:∀{s:PS},(dM e s).len<=s.len/\(∀m,s= .bad m->dM e s= .bad m):=fun {s}=>⟨by rw[DL];omega,fun m q=>by subst q;rfl⟩
  have tr:∀{a b c:PS},(b.len<=a.len/\(∀m,a= .bad m->b= .bad m))->(c.len<=b.len/\(∀m,b= .bad m->c= .bad m))->(c.len<=a.len/\(∀m,a= .bad m->c= .bad m)) :=
   fun p q=>⟨Nat.le_trans q.1 p.1,fun m r=>q.2 m (p.2 m r)⟩
  cases j with
  |stmt =>
   simp only[pM] at h
   rcases h1:dL 4 [vh] s with ⟨o,s1⟩
   rw[h1] at h;cases o<;>exact tr (hi h1) (ih _ _ _ _ h)
  |expr =>
   simp only[pM] at h
   rcases h1:dL 4 [vh] s with ⟨o,s1⟩
   rw[h1] at h;cases o with
   |some x=>exact tr (hi h1) (ih _ _ _ _ h)
   |none =>
    simp only at h
    rcases h2:dL 4 [Gx] s1 with ⟨o,s2⟩
    rw[h2] at h;cases o with
    |some x=>exact tr (hi h1) (tr (hi h2) (ih _ _ _ _ h))
    |none =>
     simp only at h
     rcases h3:dL 4 [Ew] s2 with ⟨o,s3⟩
     rw[h3] at h;cases o<;>exact tr (hi h1) (tr (hi h2) (tr (hi h3) (ih _ _ _ _ h)))
  |lt alone =>
   simp only[pM] at h;obtain⟨v,s1,h1,h⟩:=aX h;have k1:=tr hn (tr hm (ih _ _ _ _ h1))
   rcases h2:dL 4 [J5] s1 with ⟨o,s2⟩
   rw[h2] at h;cases o with
   |some x =>
    simp only at h;obtain⟨w,s3,h3,h⟩:=aX h;cases h;exact tr k1 (tr (hi h2) (ih _ _ _ _ h3))
   |none =>
    simp only at h;cases h;cases alone
    · exact tr k1 (tr (hi h2) hf)
    · exact tr k1 (hi h2)
  |choice =>
   simp only[pM] at h;obtain⟨a,s1,h1,h⟩:=aX h;obtain⟨b,s2,h2,h⟩:=aX h;have k:=tr (ih _ _ _ _ h1) (tr (ih _ _ _ _ h2) (hm (k:=4) (t:=zh)))
   rcases h3:dL 4 [Gx] (eI e 4 zh s2) with ⟨o,s3⟩
   rw[h3] at h;cases o with
   |some x=>simp only at h;obtain⟨c,s4,h4,h⟩:=aX h;cases h;exact tr k (tr (hi h3) (ih _ _ _ _ h4))
   |none=>simp only at h;obtain⟨c,s4,h4,h⟩:=aX h;cases h;exact tr k (tr (hi h3) (ih _ _ _ _ h4))
  |fn =>
   simp only[pM] at h
   rcases h3:dL 6 [[44]] (dV e s).2 with ⟨o,s3⟩
   rw[h3] at h;cases o with
   |some x=>simp only at h;obtain⟨c,s4,h4,h⟩:=aX h;cases h;exact tr hn (tr (hi h3) (ih _ _ _ _ h4))
   |none=>simp only at h;obtain⟨c,s4,h4,h⟩:=aX h;cases h;exact tr hn (tr (hi h3) (tr hm (ih _ _ _ _ h4)))
  |block=>simp only[pM] at h;exact tr hm (ih _ _ _ _ h)
  |blockL l =>
   simp only[pM] at h;obtain⟨t1,s1,h1,h⟩:=aX h
   rcases h2:dL 6 [[59]] s1 with ⟨o,s2⟩
   rw[h2] at h;simp only at h
   rcases h3:dL 8 [[125]] s2 with ⟨q,s3⟩
   rw[h3] at h;have k:=tr (ih _ _ _ _ h1) (tr (hi h2) (hi h3));cases q with
   |some x=>simp only at h;cases h;exact k
   |none =>
    simp only at h;split at h
    · exact tr k (ih _ _ _ _ h)
    · cases h;exact tr k hf
  |part k =>
   simp only[pM] at h;split at h
   · obtain⟨t1,s1,h1,h⟩:=aX h;exact tr (ih _ _ _ _ h1) (ih _ _ _ _ h)
   · split at h
     · rcases h1:dL 4 [lQ] s with ⟨o,s1⟩
       rw[h1] at h;cases o with
       |some x=>simp only at h;obtain⟨c,s4,h4,h⟩:=aX h;cases h;exact tr (hi h1) (ih _ _ _ _ h4)
       |none =>
        simp only at h
        rcases h2:dL 6 [zi] s1 with ⟨o,s2⟩
        rw[h2] at h;cases o with
        |some x=>simp only at h;obtain⟨c,s4,h4,h⟩:=aX h;cases h;exact tr (hi h1) (tr (hi h2) (ih _ _ _ _ h4))
        |none=>exact tr (hi h1) (tr (hi h2) (ih _ _ _ _ h))
     · split at h
       · rcases h1:dL 6 [nV] s with ⟨o,s1⟩
         rw[h1] at h;cases o with
         |some x=>simp only at h;obtain⟨c,s4,h4,h⟩:=aX h;cases h;exact tr (hi h1) (ih _ _ _ _ h4)
         |none=>exact tr (hi h1) (ih _ _ _ _ h)
       · obtain⟨t1,s1,h1,h⟩:=aX h;exact tr (ih _ _ _ _ h1) (ih _ _ _ _ h)
  |opL k t0 =>
   simp only[pM] at h
   rcases h1:Dj k s with ⟨o,s1⟩
   rw[h1] at h;cases o with
   |some x =>
    simp only at h;obtain⟨c,s4,h4,h⟩:=aX h;split at h
    · cases h;exact tr (ho h1) (ih _ _ _ _ h4)
    · exact tr (ho h1) (tr (ih _ _ _ _ h4) (ih _ _ _ _ h))
   |none=>simp only at h;cases h;exact ho h1
  |callL t0 =>
   simp only[pM] at h
   rcases h1:dL 7 [[40]] s with ⟨o,s1⟩
   rw[h1] at h;cases o with
   |some x=>exact tr (hi h1) (ih _ _ _ _ h)
   |none=>simp only at h;cases h;exact hi h1
  |argL t0 =>
   simp only[pM] at h;obtain⟨t1,s1,h1,h⟩:=aX h
   rcases h2:dL 6 [[44]] s1 with ⟨o,s2⟩
   rw[h2] at h;cases o with
   |some x=>exact tr (ih _ _ _ _ h1) (tr (hi h2) (ih _ _ _ _ h))
   |none=>exact tr (ih _ _ _ _ h1) (tr (hi h2) (tr hm (ih _ _ _ _ h)))
  |atom =>
   cases s with
   |bad m=>simp only[pM] at h;cases h;exact⟨Nat.le_refl _,fun _ q=>q⟩
   |ok r=>cases r with
    |nil=>simp only[pM] at h;cases h;exact hf
    |cons u r =>
     simp only[pM] at h;have kk:(PS.ok r).len<=(PS.ok (u::r)).len/\(∀m,PS.ok (u::r)= .bad m->PS.ok r= .bad m):=⟨by simp[PS.len],fun m q=>by cases q⟩
     split at h
     · cases h;exact kk
     · split at h
       · exact ih _ _ _ _ h
       · split at h
         · obtain⟨t1,s1,h1,h⟩:=aX h;cases h;exact tr kk (tr (ih _ _ _ _ h1) hm)
         · cases h;exact hf
theorem EU {e:Int}{n:Nat}{j:JQ}{s:PS}{t:Tr}{s':PS}(h:pM e n j s=some (t,s')):s'.len<=s.len:=(xy e n j s t s' h).1
theorem EV {e:Int}{n:Nat}{j:JQ}{m:Int}{t:Tr}{s':PS}(h:pM e n j (.bad m)=some (t,s')):s'= .bad m:=(xy e n j _ t s' h).2 m rfl
abbrev Tok:=Int×Int×Int
def dH (s:By) (t:Tok):By:=(s.drop t.2.1.toNat).take (t.2.2.toNat-t.2.1.toNat)
def Cw (s:By) (t:Tok):Bool:=decide (0<=t.2.1) && decide (t.2.2<=s.length) && decide (t.2.1<=t.2.2)
def jO:List (UInt8×UInt8):=[(110,10),(114,13),(116,9),(34,34),(92,92),(48,0)]
def Ho (c:UInt8):UInt8:=match jO.find? (fun p=>p.1 ==c) with|some p=>p.2|none=>c
def qv (t:By):UInt8:=match t[1]? with|some c=>Ho c|none=>32
def kG (x:By):List Un->List Un
 | []=>[]
 | [u]=>[(u.1,u.2.1++x,u.2.2)]
 |u::v::l=>u::kG x (v::l)
theorem wF (x:By):∀(l:List Un) (u:Un),kG x (l++[u])=l++[(u.1,u.2.1++x,u.2.2)]
 | [],_=>rfl
 | [a],u=>rfl
 |a::b::l,u=>by
  show a::kG x ((b::l)++[u])=_
  rw[wF x (b::l) u];rfl
theorem uN (x:By):∀l:List Un,(kG x l).length=l.length
 | []=>rfl
 | [_]=>rfl
 |_::b::l=>by show (kG x (b::l)).length+1=_;rw[uN x (b::l)];rfl
inductive UR where
 |er (at_ e:Int)
 |go (out:List Un) (op:Bool)
def lE (s:By) (out:List Un) (op:Bool) (t:Tok):UR :=
 if t.1=0 then .er t.2.1 10
 else if op then
  if t.1=9/\dH s t=[34] then .go out false
  else if t.1=10 then .go (kG [qv (dH s t)] out) true
  else .go (kG (dH s t) out) true
 else if t.1=1\/t.1=2\/t.1=11 then .go out false
 else if out.length=500 then .er t.2.1 3
 else .go (out++[(t.1,if t.1=9 then [] else dH s t,t.2.1)]) (decide (t.1=9))
def oO (s:By):List Tok->List Un->Bool->UR
 | [],out,op=>.go out op
 |t::l,out,op=>match lE s out op t with
  |.er a e=>.er a e
  |.go out op=>oO s l out op
def jH (s:By) (l:List Tok) (m:Int):(Int×Int) ⊕ List Un :=
 if l.all (Cw s) then match oO s l [] false with
  |.er a e=>.inl (a,e)
  |.go out op=>if op\/m≠0 then .inl (s.length,10) else .inr out
 else .inl (0,2)
def jN (e:Int):Nat->List Tr->PS->Option (List Tr×PS)
 | 0,_,_=>none
 |n+1,l,s=>if s.len=0 then some (l,s) else (pM e n .stmt s).bind fun p=>match dL 6 [[59]] p.2 with
  |(some _,s2)=>jN e n (l++[p.1]) s2
  |(none,s2)=>jN e n (l++[p.1]) (if s2.len=0 then s2 else dM e s2)
inductive dO (s:By) (l:List Tok) (m:Int):List Tr->Int->Int->Prop where
 |units {a e:Int}:jH s l m= .inl (a,e)->dO s l m [] a e
 |bad {u:List Un}{n:Nat}{k:List Tr}{a:Int}:jH s l m= .inr u->jN s.length n [] (.ok u)=some (k,.bad a)->dO s l m [] a 10
 |ok {u:List Un}{n:Nat}{k:List Tr}{r:List Un}:jH s l m= .inr u->jN s.length n [] (.ok u)=some (k,.ok r)->dO s l m k 0 0
def Tr.dep:Tr->Nat
 |.mk _ _ l=>depL l+1
where depL:List Tr->Nat
 | []=>0
 |t::l=>max t.dep (depL l)
theorem Ht {t:By}{l:List Tr}{x:Tr}(h:x∈l):x.dep<(Tr.mk k t l).dep:=by
 show x.dep<Tr.dep.depL l+1
 have:x.dep<=Tr.dep.depL l:=by
  induction l with
  |nil=>simp at h
  |cons a l ih =>
   show x.dep<=max a.dep (Tr.dep.depL l)
   rcases List.mem_cons.1 h with rfl|h
   · omega
   · have:=ih h;omega
 omega
end
mutual
def Kc:Tr->Tr->Bool
 |.mk k t l,.mk k' t' l'=>decide (k=k') && (decide (t=t') && H7 l l')
def H7:List Tr->List Tr->Bool
 | [],[]=>true
 |a::l,b::l'=>Kc a b && H7 l l'
 | [],_::_=>false
 |_::_,[]=>false
end
section
variable {k:Int}
def Jf (c:UInt8):By:=match jO.find? (fun p=>p.2 ==c) with|some p=>[92,p.1] |none=>[c]
def Je (s:By):By:=34::(s.flatMap Jf++[34])
def IB:List By->By
 | []=>[]
 | [x]=>x
 |x::y::l=>x++([59,32]++IB (y::l))
def IL (k:List By):By:=[105,102,32]++k.getD 0 []++[32]++k.getD 1 []++[32,101,108,115,101,32]++k.getD 2 []
def Ka (k:Int) (t:By) (l:List By):By :=
 if k=1 then Je t
 else if k=4 then [40]++t++[32]++l.getD 0 []++[41]
 else if k=5 then [40]++l.getD 0 []++[32]++t++[32]++l.getD 1 []++[41]
 else if k=6 then [40]++IL l++[41]
 else if k=7 then (if l.length=1 then [108,101,116,32]++t++[32,61,32]++l.getD 0 [] else [40,108,101,116,32]++t++[32,61,32]++l.getD 0 []++[32,105,110,32]++l.getD 1 []++[41])
 else if k=8 then [40,102,117,110,32]++t++[32,45,62,32]++l.getD 0 []++[41]
 else if k=9 then l.getD 0 []++[40]++l.getD 1 []++[41]
 else if k=10 then [123,32]++IB l++[32,125]
 else t
end
mutual
def J9:Bool->Tr->By
 |bare,.mk k t l=>if k=6/\bare=true then IL (EF (decide (k=6)) 0 l) else Ka k t (EF (decide (k=6)) 0 l)
def EF:Bool->Nat->List Tr->List By
 |_,_,[]=>[]
 |six,i,x::l=>J9 (six && decide (i=2)) x::EF six (i+1) l
end
section
variable {k:Int}
def mu (c:UInt8):Bool:=decide (48<=c) && decide (c<=57)
def isLet (c:UInt8):Bool:=(decide (97<=c) && decide (c<=122)) ||((decide (65<=c) && decide (c<=90)) ||decide (c=95))
def dn (s:By):By:=s.dropWhile mu
def fK (s:By):Bool:=decide ((dn s).length<s.length)
def qt (s:By) (ok:Bool):Bool:=match s with
 |c::r=>if ok=true/\(c=101\/c=69) then
  (match r with
   |d::r'=>if d=43\/d=45 then fK r' && decide (dn r'=[]) else fK r && decide (dn r=[])
   | []=>false)
  else false
 | []=>ok
def GR (s:By):Bool:=match dn s with
 |c::r=>if fK s=true/\c=46 then qt (dn r) (fK r) else qt (c::r) (fK s)
 | []=>fK s
def oe (word:By->Bool) (s:By):Bool :=
 (match s with| []=>false|c::r=>isLet c && r.all fun c=>isLet c ||mu c) && !word s
def El:List By:=[[45],lQ]
def F8:List By:=[oJ,jI,[61,61],[33,61],[60],[60,61],[62],[62,61],[43],[45],[42],[47],[37]]
def iS (word:By->Bool) (k:Int) (t:By):Bool :=
 if k=0 then GR t
 else if k=1 then decide (t.length<=16384)
 else if k=2 then decide (t=jW) ||decide (t=nW)
 else if k=3\/k=7\/k=8 then oe word t
 else if k=4 then decide (t∈El)
 else if k=5 then decide (t∈F8)
 else decide (t=[])
def eZ (k:Int):Nat×Nat :=
 if k=4\/k=8 then (1,1) else if k=5\/k=9 then (2,2) else if k=6 then (3,3) else if k=7 then (1,2) else if k=10 then (1,500) else (0,0)
def iV (word:By->Bool) (k:Int) (t:By) (n:Nat):Bool :=
 decide ((eZ k).1<=n) && (decide (n<=(eZ k).2) && (decide (0<=k) && (decide (k<=10) && iS word k t)))
def Cv (k:Int) (i:Nat):Tr->Bool
 |.mk k' _ l=>(decide (k=10) ||(decide (k'≠7) ||decide (l.length=2))) && (decide (k≠6) ||(decide (i=0) ||(decide (k'=10) ||(decide (i≠1) && decide (k'=6)))))
end
mutual
def cU (word:By->Bool):Tr->Bool
 |.mk k t l=>iV word k t l.length && ir word k 0 l
def ir (word:By->Bool) (k:Int):Nat->List Tr->Bool
 |_,[]=>true
 |i,x::l=>(cU word x && Cv k i x) && ir word k (i+1) l
end
mutual
def Tr.wt:Tr->Nat
 |.mk _ t l=>2*t.length+20+LL l
def LL:List Tr->Nat
 | []=>0
 |x::l=>x.wt+LL l
end
section
variable {k:Int}
theorem wM {l:List Tr}{x:Tr}(h:x∈l):x.wt<=LL l:=by
 induction l with
 |nil=>cases h
 |cons a l ih =>
  rw[LL]
  rcases List.mem_cons.1 h with rfl|h
  · omega
  · have:=ih h;omega
theorem IV {t:By}{l:List Tr}{x:Tr}(h:x∈l):x.wt+20<=(Tr.mk k t l).wt:=by
 rw[Tr.wt];have:=wM h;omega
theorem GB (k:Int) (t:By) (l:List Tr):2*t.length+20<=(Tr.mk k t l).wt:=by rw[Tr.wt];omega
def Co (j:Nat) (c:UInt8):Bool:=isLet c ||(decide (j≠0) && mu c)
def zU (s:By):Bool:=match s with| []=>false|c::r=>isLet c && r.all fun c=>isLet c ||mu c
theorem vY (word:By->Bool) (s:By):oe word s=(zU s && !word s):=by cases s<;>rfl
theorem vX (s:By):zU s=true↔s≠[]/\∀j c,s[j]? =some c->Co j c=true:=by
 cases s with
 |nil=>simp[zU]
 |cons c r =>
  simp only[zU,Bool.and_eq_true,List.all_eq_true];constructor
  · intro ⟨h1,h2⟩;refine⟨by simp,fun j d hd=>?_⟩;cases j with
    |zero=>simp at hd;subst hd;unfold Co;rw[h1];rfl
    |succ j =>
     have:=h2 d (List.mem_of_getElem? (by simpa using hd));unfold Co;simpa using this
  · intro ⟨_,h⟩;refine⟨by simpa [Co] using h 0 c rfl,fun d hd=>?_⟩;obtain⟨j,hj⟩:=List.getElem?_of_mem hd;simpa [Co] using h (j+1) d (by simpa using hj)
theorem Fk (word:By->Bool){s:By}{j:Nat}{c:UInt8}(h:s[j]? =some c) (hc:Co j c=false):oe word s=false:=by
 rw[vY]
 have:¬zU s=true:=fun q=>by
  have:=((vX s).1 q).2 j c h;rw[hc] at this;cases this
 rw[Bool.eq_false_iff.2 this];rfl
theorem Dq (word:By->Bool){s:By}(h0:s≠[]) (h:∀j c,s[j]? =some c->Co j c=true):oe word s= !word s:=by
 rw[vY,(vX s).2 ⟨h0,h⟩,Bool.true_and]
theorem Dp (word:By->Bool):oe word []=false:=rfl
theorem DD (c:UInt8):isLet c=decide ((97<=c.toNat/\c.toNat<=122)\/(65<=c.toNat/\c.toNat<=90)\/c.toNat=95):=by
 have k:∀n:Fin 256,isLet (UInt8.ofFin n)=decide ((97<=(UInt8.ofFin n).toNat/\(UInt8.ofFin n).toNat<=122)\/(65<=(UInt8.ofFin n).toNat/\(UInt8.ofFin n).toNat<=90)\/(UInt8.ofFin n).toNat=95):=by unfold isLet;decide +kernel
 exact k c.toFin
theorem DE (c:UInt8):mu c=decide (48<=c.toNat/\c.toNat<=57):=by
 have k:∀n:Fin 256,mu (UInt8.ofFin n)=decide (48<=(UInt8.ofFin n).toNat/\(UInt8.ofFin n).toNat<=57):=by unfold mu;decide +kernel
 exact k c.toFin
end
end Go.Proofs.YtmehdcdbeafljaaGreatDoor
namespace Go.Proofs.YtmehdcdbeafljaaGreatDoor
open Go Go.Lw
section
variable {h:aA}{O:Nat->Prop}{cs:List Value}
def A3 (s q:Nat):Nat:=(s >>> (64*q))%2 ^ 64
def eP (s q:Nat):Value:=.int .u64 (A3 s q:Nat)
def uj (s:Nat):List Value:=[eP s 0,eP s 1,eP s 2,eP s 3]
theorem A2 (s q:Nat):A3 s q<18446744073709551616:=Nat.mod_lt _ (by decide)
theorem kL (s q i:Nat):(A3 s q).testBit i=(decide (i<64) && s.testBit (64*q+i)):=by
 unfold A3;rw[Nat.testBit_mod_two_pow,Nat.testBit_shiftRight]
theorem Ee (s b:Nat) (q:Nat) (h:q≠b / 64):A3 (s |||(1 <<< b)) q=A3 s q:=by
 apply Nat.eq_of_testBit_eq
 intro i;rw[kL,kL,Nat.testBit_or,Nat.one_shiftLeft,Nat.testBit_two_pow]
 by_cases hi:i<64
 · have:b≠64*q+i:=by omega
   simp[this]
 · simp[hi]
theorem Ed (s b:Nat):A3 (s |||(1 <<< b)) (b / 64)=A3 s (b / 64) ||| 2 ^ (b%64):=by
 apply Nat.eq_of_testBit_eq
 intro i;rw[kL,Nat.testBit_or,Nat.testBit_or,kL,Nat.one_shiftLeft,Nat.testBit_two_pow,Nat.testBit_two_pow]
 by_cases hi:i<64
 · have:(b=64*(b / 64)+i)↔(b%64=i):=by omega
   simp[hi,this]
 · have:¬b%64=i:=by omega
   simp[hi,this]
theorem mU {i:Int}(h:0<=i/\i<=18446744073709551615):IntKind.u64.wrap i=i:=by
 have h64:(2:Int) ^ 64=18446744073709551616:=rfl;simp only[IntKind.wrap,IntKind.bits,IntKind.signed,h64,Bool.false_and,Bool.false_eq_true,if_false];omega
theorem Mr {x y:Nat}(hx:x<18446744073709551616) (hy:y<18446744073709551616):IntKind.u64.wrap ((BitVec.ofInt IntKind.u64.bits (x:Int) |||BitVec.ofInt IntKind.u64.bits (y:Int)).toNat:Int)=((x |||y:Nat):Int):=by
 have e:(BitVec.ofInt IntKind.u64.bits (x:Int) |||BitVec.ofInt IntKind.u64.bits (y:Int)).toNat=x |||y:=by
  rw[BitVec.toNat_or]
  have h1:(BitVec.ofInt IntKind.u64.bits (x:Int)).toNat=x:=by
   show (BitVec.ofInt 64 (x:Int)).toNat=x
   simp only[BitVec.toNat_ofInt];omega
  have h2:(BitVec.ofInt IntKind.u64.bits (y:Int)).toNat=y:=by
   show (BitVec.ofInt 64 (y:Int)).toNat=y
   simp only[BitVec.toNat_ofInt];omega
  rw[h1,h2]
 rw[e];have:x |||y<2 ^ 64:=Nat.or_lt_two_pow hx hy;exact mU ⟨by omega,by omega⟩
theorem Kb (b:Nat):IntKind.u64.wrap (1*2 ^ min ((b%64:Nat):Int).toNat IntKind.u64.bits)=((2 ^ (b%64):Nat):Int):=by
 have hb:b%64<64:=Nat.mod_lt _ (by decide);have h1:min ((b%64:Nat):Int).toNat IntKind.u64.bits=b%64:=by show min _ 64=_;simp;omega
 rw[h1,Int.one_mul];have h2:2 ^ (b%64)<2 ^ 64:=Nat.pow_lt_pow_right (by decide) hb;have h3:((2:Int) ^ (b%64))=((2 ^ (b%64):Nat):Int):=by push_cast;rfl
 rw[h3];generalize 2 ^ (b%64)=p at *;exact mU ⟨by omega,by omega⟩
theorem M7 {x:Nat}(hx:x<18446744073709551616):IntKind.u64.wrap ((BitVec.ofInt IntKind.u64.bits (x:Int) &&& BitVec.ofInt IntKind.u64.bits 1).toNat:Int)=((x%2:Nat):Int):=by
 have e:(BitVec.ofInt IntKind.u64.bits (x:Int) &&& BitVec.ofInt IntKind.u64.bits 1).toNat=x%2:=by
  rw[BitVec.toNat_and]
  have h1:(BitVec.ofInt IntKind.u64.bits (x:Int)).toNat=x:=by
   show (BitVec.ofInt 64 (x:Int)).toNat=x
   simp only[BitVec.toNat_ofInt];omega
  rw[h1]
  show x &&& 1=_
  exact Nat.and_one_is_mod x
 rw[e];exact mU ⟨by omega,by omega⟩
theorem J8 (x:Nat) (b:Nat) (hb:b<64):((x:Int)).fdiv (2 ^ min ((b:Nat):Int).toNat IntKind.u64.bits)=((x >>> b:Nat):Int):=by
 have h1:min ((b:Nat):Int).toNat IntKind.u64.bits=b:=by show min _ 64=_;simp;omega
 rw[h1,Nat.shiftRight_eq_div_pow];have h3:((2:Int) ^ b)=((2 ^ b:Nat):Int):=by push_cast;rfl
 rw[h3,Int.fdiv_eq_ediv_of_nonneg _ (Int.natCast_nonneg _)]
 push_cast;rfl
theorem GF (s b:Nat):(A3 s (b / 64) >>> (b%64))%2=(s.testBit b).toNat:=by
 have h:=kL s (b / 64) (b%64);rw[show 64*(b / 64)+b%64=b from Nat.div_add_mod b 64] at h;have hb:b%64<64:=Nat.mod_lt _ (by decide);simp only[hb,decide_true,Bool.true_and] at h;rw[Nat.shiftRight_eq_div_pow,<-Nat.toNat_testBit,h]
def dU (k s:Nat) (v:Value):List Value:=[.int .i64 k,eP s 0,eP s 1,eP s 2,eP s 3,v]
inductive cm (h:aA) (O:Nat->Prop):List Value->Nd->Prop
 |mk (k s:Nat) (kids:List Nd) (oa:Option Addr) (n c:Nat) (css:Nat->List Value) (hl:kids.length=n) (hc:n<=c) (hm:c<=maxLen)
  (hr:∀i x,kids[i]? =some x->∃b o,oa=some ⟨b,o,none⟩/\¬O b/\Lw.rowAt h b (o+i*6) (css i)) (hk:∀i x,kids[i]? =some x->cm h O (css i) x):cm h O (dU k s (.slice oa n c)) (.mk k s kids)
theorem cm.len {x:Nd}(k:cm h O cs x):cs.length=6:=by cases k;rfl
theorem cm.one {x:Nd}(k:cm h O cs x):∀v∈cs,v.oneCell'=true:=by
 cases k;intro v hv;simp[dU,eP] at hv
 rcases hv with rfl|rfl|rfl|rfl|rfl|rfl<;>rfl
theorem cm.mv {h':aA}{O':Nat->Prop}{x:Nd}(k:cm h O cs x) (m:Mv O O' h h'):cm h' O' cs x:=by
 induction k with
 |mk k s kids oa n c css hl hc hm hr hk ih =>
  refine .mk k s kids oa n c css hl hc hm (fun i x hx=>?_) ih;obtain⟨b,o,ha,ho,hrow⟩:=hr i x hx;have hne:css i≠[]:=by intro e;have:=(hk i x hx).len;rw[e] at this;cases this
  exact⟨b,o,ha,(m.block b (dW hrow hne) ho).2,m.rowAt ho hrow⟩
def ry:gM Nd:=⟨6,by decide,cm,cm.len,cm.one,cm.mv⟩
theorem cm.ax {h h':aA}{O:Nat->Prop}{cs:List Value}{x:Nd}(k:cm h O cs x) (e:aC h h'):cm h' O cs x:=k.mv (Mv.ax e)
theorem cm.of {v:Value}{kids:List Nd}(k s:Nat) (hv:bX ry h O v kids):cm h O (dU k s v) (.mk k s kids):=by
 obtain⟨oa,n,c,rfl,hl,hc,hm,hg⟩:=hv
 have hx:∀i,i<n->∃cs:List Value,∃x,kids[i]? =some x/\(∃b o,oa=some ⟨b,o,none⟩/\¬O b/\Lw.rowAt h b (o+i*6) cs)/\cm h O cs x:=by
  intro i hi;obtain⟨b,o,cs,h1,h2,h3,h4⟩:=hg i kids[i] (List.getElem?_eq_getElem (by omega));exact⟨cs,kids[i],List.getElem?_eq_getElem (by omega),⟨b,o,h1,h2,h3⟩,h4⟩
 refine .mk k s kids oa n c (fun i=>if hi:i<n then Classical.choose (hx i hi) else []) hl hc hm (fun i x hxi=>?_) (fun i x hxi=>?_)
 · have hi:i<n:=by rw[<-hl];exact(List.getElem?_eq_some_iff.1 hxi).1
   simp only[dif_pos hi];obtain⟨y,_,h2,_⟩:=Classical.choose_spec (hx i hi);exact h2
 · have hi:i<n:=by rw[<-hl];exact(List.getElem?_eq_some_iff.1 hxi).1
   simp only[dif_pos hi];obtain⟨y,h1,_,h3⟩:=Classical.choose_spec (hx i hi);rw[h1] at hxi;cases hxi;exact h3
theorem cm.open {x:Nd}(k:cm h O cs x):∃v,cs=dU x.kind x.set v/\bX ry h O v x.kids:=by
 cases k with
 |mk k s kids oa n c css hl hc hm hr hk =>
  exact⟨_,rfl,oa,n,c,rfl,hl,hc,hm,fun i x hx=>by
   obtain⟨b,o,h1,h2,h3⟩:=hr i x hx;exact⟨b,o,css i,h1,h2,h3,hk i x hx⟩⟩
def bs (l:List UInt8):ByteArray:=⟨l.toArray⟩
theorem jF (l:List UInt8):(bs l).data.toList=l:=by simp[bs]
theorem bY (l:List UInt8):(bs l).size=l.length:=by simp[bs,ByteArray.size]
theorem kD (l m:List UInt8):bs l++bs m=bs (l++m):=by
 apply ByteArray.ext
 simp[bs]
theorem bZ {l m:List UInt8}(h:bs l=bs m):l=m:=by have:=congrArg (fun x=>x.data.toList) h;simpa [bs] using this
theorem II (l m:List UInt8):decide (bs l=bs m)=decide (l=m):=by
 rw[decide_eq_decide];exact⟨bZ,fun h=>by rw[h]⟩
theorem yp (l:List UInt8):decide (bs l=(⟨#[]⟩:ByteArray))=decide (l=[]):=II l []
theorem iD {l:List UInt8}{i:Nat}{c:UInt8}(h:l[i]? =some c):(bs l).data[i]? =some c:=by simpa [bs] using h
theorem nh (l:List UInt8) (i:Nat):(bs l).extract i (bs l).size=bs (l.drop i):=by
 apply ByteArray.ext
 apply Array.ext'
 rw[ByteArray.data_extract,Array.toList_extract,List.extract_eq_take_drop];rw[bY];simp only[bs];exact List.take_of_length_le (by simp)
theorem CH (l:List UInt8) (i j:Nat) (_h:i<=j):(bs l).extract i j=bs ((l.take j).drop i):=by
 apply ByteArray.ext
 apply Array.ext'
 rw[ByteArray.data_extract,Array.toList_extract,List.extract_eq_take_drop];simp only[bs];rw[List.drop_take]
theorem J2 (c d:UInt8):decide (((c.toNat:Nat):Int)≠((d.toNat:Nat):Int))=decide (c≠d):=by
 rw[decide_eq_decide];exact⟨fun h e=>h (by rw[e]),fun h e=>h (UInt8.toNat_inj.1 (by omega))⟩
theorem J3 (c d:UInt8):decide (((c.toNat:Nat):Int)=((d.toNat:Nat):Int))=decide (c=d):=by
 rw[decide_eq_decide];exact⟨fun e=>UInt8.toNat_inj.1 (by omega),fun e=>by rw[e]⟩
theorem dh {c:UInt8}{k:Nat}{d:UInt8}(hd:d.toNat=k):(((c.toNat:Nat):Int)=(k:Int))↔c=d:=by
 subst hd;exact⟨fun e=>UInt8.toNat_inj.1 (by omega),fun e=>by rw[e]⟩
end
end Go.Proofs.YtmehdcdbeafljaaGreatDoor

/- What the proof of the statement leans on (part 8). -/
import Derived.Lib.ConvBytes
import Derived.Lib.AtoiErrMem
import Derived.Laws.Runes
import Derived.Test.YtpjgdgdnbkjoiaaGreatDoorQg

namespace Go.Lw
open Go.RowKit
section
variable {P:Program}{ρ:Env}{h:ai}{dst:Option Nat}{ty:TypeId}{pos:String}{after:Array Edge}{guard:Option (Nat×Bool)}{X:List PanicEntry->ai->Prop}
theorem an.ME {s d:TypeId}{x:Operand}{k:IntKind}{n:Int}{u:TypeDesc}(hs:P.underlying s=some u) (hd:P.underlying d=some .string) (hx:aV ρ x=some (.int k n)) :
 an P ⟨dst,.convert s d x,ty,pos,after,guard⟩ ρ h (.string (Utf8.encode n)):=by
 intro _ B a w hf ha;simp only[execOp,hf.eval hx,Sem.run_bind,run_convert_int_string w s d k n (by rw[hs];rfl) hd,Result.andThen_ok,Sem.run_pure]
end
end Go.Lw
namespace Go.Lw
section
variable {P:Program}{ρ:Env}{h:ai}{dst:Option Nat}{ty:TypeId}{pos:String}{after:Array Edge}{guard:Option (Nat×Bool)}{X:List PanicEntry->ai->Prop}
theorem az.ED {t e:TypeId}{size bytes:Nat}(ht:P.underlying t=some (.slice e)) (he:dW P e size bytes) :
 az P ⟨dst,.buildSlice t 0 #[],ty,pos,after,guard⟩ ρ h (fun u g=>u= .slice (some ⟨h.size,0,none⟩) 0 0/\g=h.push (.cells #[] e)) X :=
 az.buildSlice (vs:=[]) (cells:= #[]) ht he rfl (by omega) (fun z _=>by simp[Instr.fill])
end
theorem yf (h:ai) (t:TypeId) (size base:Nat) (hb:base<=h.size):ax (h.push (.cells #[] t)) base t size (.slice (some ⟨h.size,0,none⟩) 0 0) 0 [] :=
 ⟨by simp,.inr ⟨h.size,0,#[],rfl,hb,by simp,Nat.le_refl _,by simp[maxLen],by simp,by simp⟩⟩
theorem Sl.NU {α:Type}{sz:Nat}{pos:0<sz}{enc:α->List Value} {hl:∀x,(enc x).length=sz} {h1:∀x,∀v∈enc x,v.oneCell'=true}{h:ai}{O:Nat->Prop}{oa:Option Addr}{n c:Nat}{xs:List α}(k:Sl (.record sz pos enc hl h1) h O oa n c xs) :
 n=0\/∃b o,oa=some ⟨b,o,none⟩/\rowAt h b o (xs.flatMap enc):=by
 rcases Nat.eq_zero_or_pos n with h0|h0
 · exact .inl h0
 · obtain⟨b,o,x,ha,_,_,_⟩:=k.s7 h0;refine .inr ⟨b,o,ha,fun j v hv=>?_⟩;have hj:j<(xs.flatMap enc).length:=(List.getElem?_eq_some_iff.1 hv).1;rw[iO hl,k.len] at hj;have hjn:j / sz<n:=Nat.div_lt_of_lt_mul (by rw[Nat.mul_comm];exact hj);obtain⟨b',o',x',ha',_,hx',hr'⟩:=k.s7 hjn;rw[ha] at ha';cases ha';have hm:j%sz<(enc x').length:=by rw[hl];exact Nat.mod_lt _ pos
   have h2:=qF hl xs (j / sz) x' (j%sz) _ hx' (List.getElem?_eq_getElem hm);rw[Nat.div_add_mod' j sz,hv] at h2;obtain rfl:=Option.some.inj h2;have h3:=hr' (j%sz) _ (List.getElem?_eq_getElem hm);rw[Nat.add_assoc,Nat.div_add_mod' j sz] at h3;exact h3
end Go.Lw
namespace Go.Lw
section
variable {α:Type}{h:ai}{O:Nat->Prop}
theorem bC.open_slice {e:iS α}{oa:Option Addr}{n c:Nat}{xs:List α}(k:bC e h O (.slice oa n c) xs):Sl e h O oa n c xs:=by
 obtain⟨oa',n',c',hv,k'⟩:=k.open;cases hv;exact k'
theorem ax.Mh {sz:Nat}{pos:0<sz}{enc:α->List Value} {hl:∀x,(enc x).length=sz} {h1:∀x,∀v∈enc x,v.oneCell'=true}{base:Nat}{t:TypeId}{v:Value}{n:Nat}{xs:List α}(k:ax h base t sz v n (xs.flatMap enc)) (ho:∀b,v.ownBlock=some b->¬O b):bC (.record sz pos enc hl h1) h O v xs:=by
 have k0:bC (.record sz pos enc hl h1) h (fun _=>False) v xs:=ax.Lv k (fun _ _ k=>k);obtain⟨oa,n',c',hv,hl',hnc',hc',hget⟩:=k0;refine⟨oa,n',c',hv,hl',hnc',hc',fun i x hx=>?_⟩;obtain⟨b,o,cs,h2,_,h3,h4⟩:=hget i x hx;refine⟨b,o,cs,h2,?_,h3,h4⟩
 rcases k.2 with ⟨rfl,_⟩|⟨g,cap,cur,rfl,_⟩
 · cases hv;cases h2
 · cases hv;cases h2;exact ho _ rfl
theorem CJ {off:Nat}:∀(cs:List Value) (k:Nat) (pre tl:List Value) (rest:List Value),pre.length=off+k->tl.length=cs.length ->
 (cs.zipIdx k).foldl (fun(a:Array Value) (p:Value×Nat)=>a.setIfInBounds (off+p.2) p.1) (pre++(tl++rest)).toArray=(pre++(cs++rest)).toArray
 | [],k,pre,tl,rest,_,hl=>by
  have:tl=[]:=List.eq_nil_of_length_eq_zero (by simpa using hl);subst this;rfl
 |c::cs,k,pre,[],rest,hp,hl=>by simp at hl
 |c::cs,k,pre,t::tl,rest,hp,hl=>by
  rw[List.zipIdx_cons,List.foldl_cons]
  have hset:(pre++(t::tl++rest)).toArray.setIfInBounds (off+k) c=((pre++[c])++(tl++rest)).toArray:=by
   rw[<-hp];simp[List.set_append_right]
  simp only[hset];rw[CJ cs (k+1) (pre++[c]) tl rest (by simp[hp];omega) (by simpa using hl)];simp
theorem zK {sz:Nat}:∀(css:List (List Value)),(∀c∈css,c.length=sz)->∀(k:Nat) (pre tl:List Value),pre.length=k*sz->tl.length=css.length*sz ->
 Instr.fill (fun i=>some (i*sz,sz)) (pre++tl).toArray (css.zipIdx k |>.map fun p=>(p.2,Value.agg p.1.toArray))=some (pre++css.flatten).toArray
 | [],_,k,pre,tl,_,hl=>by
  have:tl=[]:=List.eq_nil_of_length_eq_zero (by simpa using hl);subst this;simp[Instr.fill]
 |c::css,h1,k,pre,tl,hp,hl=>by
  have hc:c.length=sz:=h1 c (by simp);have hl':tl.length=sz+css.length*sz:=by rw[hl,List.length_cons,Nat.add_mul];omega
  have ih:=zK css (fun v hv=>h1 v (by simp[hv])) (k+1) (pre++c) (tl.drop sz) (by rw[List.length_append,hp,hc,Nat.add_mul];omega) (by rw[List.length_drop];omega);simp only[List.zipIdx_cons,List.map_cons,Instr.fill,Value.cells];have htl:tl=tl.take sz++tl.drop sz:=(List.take_append_drop sz tl).symm;have hf:=CJ (off:=k*sz) c 0 pre (tl.take sz) (tl.drop sz) (by rw[hp];omega) (by rw[List.length_take];omega);rw[<-htl] at hf;have h2:¬(c.toArray.size≠sz\/k*sz+c.toArray.size>(pre++tl).toArray.size):=by simp;omega
  have hz:c.toArray.zipIdx.foldl (fun(cs:Array Value) (p:Value×Nat)=>cs.setIfInBounds (k*sz+p.2) p.1) (pre++tl).toArray=(pre++(c++tl.drop sz)).toArray:=by
   rw[<-hf];simp
  simp only[Bool.or_eq_true,decide_eq_true_eq,if_neg h2];rw[if_neg (by simpa using h2)];rw[hz,<-List.append_assoc,ih];simp
section
variable {P:Program}{ρ:Env}{h:ai}{dst:Option Nat}{ty:TypeId}{pos:String}{after:Array Edge}{guard:Option (Nat×Bool)}{X:List PanicEntry->ai->Prop}
theorem az.Hh {t e:TypeId}{size bytes len:Nat}{ps:Array (Nat×Operand)}(ht:P.underlying t=some (.slice e)) (he:dW P e size bytes) (css:List (List Value))
 (hps:ps.toList.map (fun p=>(p.1,aV ρ p.2))=(css.zipIdx.map fun p=>(p.2,Value.agg p.1.toArray)).map (fun p=>(p.1,some p.2))) (hl:css.length=len) (hlen:len*size<=16777216) (h1:∀c∈css,c.length=size) :
 az P ⟨dst,.buildSlice t len ps,ty,pos,after,guard⟩ ρ h (fun u g=>u= .slice (some ⟨h.size,0,none⟩) len len/\g=h.push (.cells css.flatten.toArray e)) X:=by
 refine az.buildSlice ht he hps hlen fun z hz=>?_
 have:=zK css h1 0 [] ((List.range (len*size)).map (fun j=>z[j%z.size]!)) (by simp) (by simp[hl]);rw[List.nil_append,List.nil_append] at this;rw[<-this]
 congr 1
 apply Array.ext';simp
end
theorem bC.pK {e:iS α}{h':ai}{b:Nat}{v:Value}{xs:List α}(k:bC e h (fun x=>x=b\/O x) v xs) (x:Ext (fun x=>x=b) h h'):bC e h' (fun x=>x=b\/O x) v xs:=k.mv (Mv.cL x fun _ _ ho=>⟨fun q=>ho (.inl q),ho⟩)
end
end Go.Lw
namespace Go.Lw
open Go.RowKit
section
variable {P:Program}{ρ:Env}{h:ai}{dst:Option Nat}{ty:TypeId}{pos:String}{after:Array Edge}{guard:Option (Nat×Bool)}
end
theorem Ext.P5 {M N:Nat->Prop}{a b c:ai}(e:Ext M a b) (x:Ext N b c) (hn:∀i,i<a.size->N i->M i):Ext M a c :=
 ⟨Nat.le_trans e.size x.size,fun i hi hm=>(x.block i (Nat.lt_of_lt_of_le hi e.size) (fun q=>hm (hn i hi q))).trans (e.block i hi hm)⟩
section
variable {P:Program}{ρ:Env}{h:ai}{dst:Option Nat}{ty:TypeId}{pos:String}{after:Array Edge}{guard:Option (Nat×Bool)}
end
end Go.Lw
namespace Go.Lw
structure Nb (P:Program) (g:FuncId):Prop where
 ok:∃fn,P.funcs[g]? =some fn/\fn.body.isSome=true/\(fn.name == "runtime.NumGoroutine")=false
section
variable {P:Program}{ρ:Env}{h:ai}{dst:Option Nat}{ty:TypeId}{pos:String}{after:Array Edge}{guard:Option (Nat×Bool)}
theorem az.JB {x:Operand}{g:FuncId}{caps:List Value}{xs:Array Operand}{ts:Array TypeId}{vs:List Value}{Φ:Value->ai->Prop}{X:List PanicEntry->ai->Prop}(hx:aV ρ x=some (.func (.func g) #[] caps.toArray))
 (hf0:Nb P g) (hvs:xs.toList.map (aV ρ)=vs.map some) (k:af P g (vs++caps).toArray h (fun e h'=>match e with|.returned v=>Φ v h'|.panicked c=>X c h'|.outgrown=>False)) :
 az P ⟨dst,.call ⟨.value x,xs,ts⟩,ty,pos,after,guard⟩ ρ h Φ X:=by
 obtain⟨fn,hfn,hb,hnm⟩:=hf0.ok;intro n B a w hf ha next Q hn hq
 have hargs:xs.map a.eval=vs.toArray:=by
  apply Array.ext'
  simp only[Array.toList_map]
  have:∀(l:List Operand) (us:List Value),l.map (aV ρ)=us.map some->l.map a.eval=us:=by
   intro l
   induction l with
   |nil=>intro us hu;cases us<;>simp_all
   |cons x r ih =>
    intro us hu;cases us with
    |nil=>simp at hu
    |cons u us =>
     simp only[List.map_cons,List.cons.injEq] at hu ⊢;exact⟨hf.eval hu.1,ih us hu.2⟩
  exact this _ _ hvs
 have hrun:(execOp a.eval ⟨dst,.call ⟨.value x,xs,ts⟩,ty,pos,after,guard⟩).run P w= .ok (.enter g (vs++caps).toArray) w:=by
  have hb':fn.body≠none:=by intro hbb;simp[hbb] at hb
  have hnm':¬fn.name= "runtime.NumGoroutine" :=by simpa using hnm
  simp[execOp,resolve,hf.eval hx,Deferred.ofValue,invoke,callFunc,hfn,hnm',hb',hargs]
 unfold Oper.wp;rw[hrun];refine(k B w ha).mono fun e w' ⟨h',ha',hr⟩=>?_
 cases e with
 |returned v=>exact hn v h' w' ha' hr
 |panicked c=>exact hq c h' w' ha' hr
 |outgrown=>exact hr.elim
end
end Go.Lw

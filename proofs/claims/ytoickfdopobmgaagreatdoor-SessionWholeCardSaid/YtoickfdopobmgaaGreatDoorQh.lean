/- What the proof of the statement leans on (part 8). -/
import Derived.Lib.ConvBytes
import Derived.Lib.AtoiErrMem
import Derived.Laws.Runes
import Derived.Test.YtoickfdopobmgaaGreatDoorQg

namespace Go.Lw
open Go.RowKit
section
variable {P:Program}{ρ:Env}{h:ai}{dst:Option Nat}{ty:TypeId}{pos:String}{after:Array Edge}{guard:Option (Nat×Bool)}{X:List PanicEntry->ai->Prop}
theorem ay.B1 {t e:TypeId}{x:Operand}{b o m sz:Nat}(hu:P.underlying t=some (.array m e)) (hs:cE P e=some sz) (hx:aP ρ x=some (.pointer (some ⟨b,o,none⟩))) :
 ay P ⟨dst,.slice t x none none none,ty,pos,after,guard⟩ ρ h (.slice (cw (some ⟨b,o,none⟩) 0 sz m) (m-0) (m-0)):=by
 intro _ B a w hf _;simp[execOp,Instr.sliceAt,Instr.sliceBounds,Instr.sliceBound,run_underlying hu,hf.eval hx,run_sizeOf hs,cw,Instr.sureAddr];split<;>simp
end
end Go.Lw
namespace Go.Lw
section
variable {P:Program}{ρ:Env}{h:ai}{dst:Option Nat}{ty:TypeId}{pos:String}{after:Array Edge}{guard:Option (Nat×Bool)}{X:List PanicEntry->ai->Prop}
theorem aQ.EK {t e:TypeId}{size bytes:Nat}(ht:P.underlying t=some (.slice e)) (he:eZ P e size bytes) :
 aQ P ⟨dst,.buildSlice t 0 #[],ty,pos,after,guard⟩ ρ h (fun u g=>u= .slice (some ⟨h.size,0,none⟩) 0 0/\g=h.push (.cells #[] e)) X :=
 aQ.buildSlice (vs:=[]) (cells:= #[]) ht he rfl (by omega) (fun z _=>by simp[Instr.fill])
end
theorem aB.empty (h:ai) (t:TypeId) (size base:Nat) (hb:base<=h.size):aB (h.push (.cells #[] t)) base t size (.slice (some ⟨h.size,0,none⟩) 0 0) 0 [] :=
 ⟨by simp,.inr ⟨h.size,0,#[],rfl,hb,by simp,Nat.le_refl _,by simp[maxLen],by simp,by simp⟩⟩
end Go.Lw
namespace Go.Lw
theorem aT.open_slice {α:Type}{e:fQ α}{h:ai}{O:Nat->Prop}{oa:Option Addr}{n c:Nat}{xs:List α}(k:aT e h O (.slice oa n c) xs):Sl e h O oa n c xs:=by
 obtain⟨oa',n',c',hv,k'⟩:=k.open;cases hv;exact k'
theorem CV {off:Nat}:∀(cs:List Value) (k:Nat) (pre tl:List Value) (rest:List Value),pre.length=off+k->tl.length=cs.length ->
 (cs.zipIdx k).foldl (fun(a:Array Value) (p:Value×Nat)=>a.setIfInBounds (off+p.2) p.1) (pre++(tl++rest)).toArray=(pre++(cs++rest)).toArray
 | [],k,pre,tl,rest,_,hl=>by
  have:tl=[]:=List.eq_nil_of_length_eq_zero (by simpa using hl);subst this;rfl
 |c::cs,k,pre,[],rest,hp,hl=>by simp at hl
 |c::cs,k,pre,t::tl,rest,hp,hl=>by
  rw[List.zipIdx_cons,List.foldl_cons]
  have hset:(pre++(t::tl++rest)).toArray.setIfInBounds (off+k) c=((pre++[c])++(tl++rest)).toArray:=by
   rw[<-hp];simp[List.set_append_right]
  simp only[hset];rw[CV cs (k+1) (pre++[c]) tl rest (by simp[hp];omega) (by simpa using hl)];simp
theorem zE {sz:Nat}:∀(css:List (List Value)),(∀c∈css,c.length=sz)->∀(k:Nat) (pre tl:List Value),pre.length=k*sz->tl.length=css.length*sz ->
 Instr.fill (fun i=>some (i*sz,sz)) (pre++tl).toArray (css.zipIdx k |>.map fun p=>(p.2,Value.agg p.1.toArray))=some (pre++css.flatten).toArray
 | [],_,k,pre,tl,_,hl=>by
  have:tl=[]:=List.eq_nil_of_length_eq_zero (by simpa using hl);subst this;simp[Instr.fill]
 |c::css,h1,k,pre,tl,hp,hl=>by
  have hc:c.length=sz:=h1 c (by simp);have hl':tl.length=sz+css.length*sz:=by rw[hl,List.length_cons,Nat.add_mul];omega
  have ih:=zE css (fun v hv=>h1 v (by simp[hv])) (k+1) (pre++c) (tl.drop sz) (by rw[List.length_append,hp,hc,Nat.add_mul];omega) (by rw[List.length_drop];omega);simp only[List.zipIdx_cons,List.map_cons,Instr.fill,Value.cells];have htl:tl=tl.take sz++tl.drop sz:=(List.take_append_drop sz tl).symm;have hf:=CV (off:=k*sz) c 0 pre (tl.take sz) (tl.drop sz) (by rw[hp];omega) (by rw[List.length_take];omega);rw[<-htl] at hf;have h2:¬(c.toArray.size≠sz\/k*sz+c.toArray.size>(pre++tl).toArray.size):=by simp;omega
  have hz:c.toArray.zipIdx.foldl (fun(cs:Array Value) (p:Value×Nat)=>cs.setIfInBounds (k*sz+p.2) p.1) (pre++tl).toArray=(pre++(c++tl.drop sz)).toArray:=by
   rw[<-hf];simp
  simp only[Bool.or_eq_true,decide_eq_true_eq,if_neg h2];rw[if_neg (by simpa using h2)];rw[hz,<-List.append_assoc,ih];simp
section
variable {P:Program}{ρ:Env}{h:ai}{dst:Option Nat}{ty:TypeId}{pos:String}{after:Array Edge}{guard:Option (Nat×Bool)}{X:List PanicEntry->ai->Prop}
theorem aQ.sC {t e:TypeId}{size bytes len:Nat}{ps:Array (Nat×Operand)}(ht:P.underlying t=some (.slice e)) (he:eZ P e size bytes) (css:List (List Value))
 (hps:ps.toList.map (fun p=>(p.1,aP ρ p.2))=(css.zipIdx.map fun p=>(p.2,Value.agg p.1.toArray)).map (fun p=>(p.1,some p.2))) (hl:css.length=len) (hlen:len*size<=16777216) (h1:∀c∈css,c.length=size) :
 aQ P ⟨dst,.buildSlice t len ps,ty,pos,after,guard⟩ ρ h (fun u g=>u= .slice (some ⟨h.size,0,none⟩) len len/\g=h.push (.cells css.flatten.toArray e)) X:=by
 refine aQ.buildSlice ht he hps hlen fun z hz=>?_
 have:=zE css h1 0 [] ((List.range (len*size)).map (fun j=>z[j%z.size]!)) (by simp) (by simp[hl]);rw[List.nil_append,List.nil_append] at this;rw[<-this]
 congr 1
 apply Array.ext';simp
end
end Go.Lw
namespace Go.Lw
open Go.RowKit
section
variable {P:Program}{ρ:Env}{h:ai}{dst:Option Nat}{ty:TypeId}{pos:String}{after:Array Edge}{guard:Option (Nat×Bool)}
end
theorem Ext.bH {M N:Nat->Prop}{a b c:ai}(e:Ext M a b) (x:Ext N b c) (hn:∀i,i<a.size->N i->M i):Ext M a c :=
 ⟨Nat.le_trans e.size x.size,fun i hi hm=>(x.block i (Nat.lt_of_lt_of_le hi e.size) (fun q=>hm (hn i hi q))).trans (e.block i hi hm)⟩
section
variable {P:Program}{ρ:Env}{h:ai}{dst:Option Nat}{ty:TypeId}{pos:String}{after:Array Edge}{guard:Option (Nat×Bool)}
theorem ay.G3 {t e:TypeId}{n sz:Nat}{x y:Operand}{cs:Array Value}{k:IntKind}{j:Int}{ds:Array Value}(hu:P.underlying t=some (.array n e)) (hs:cE P e=some sz) (hr:aS P e=some true) (hx:aP ρ x=some (.agg cs)) (hy:aP ρ y=some (.int k j)) (i:Nat) (hj:j=i) (hi:i<n) (hv:cs.extract (i*sz) (i*sz+sz)=ds) :
 ay P ⟨dst,.index t x y,ty,pos,after,guard⟩ ρ h (.agg ds):=by
 intro _ B a w hf _;subst hj;simp[execOp,Instr.index,run_underlying hu,asIntOf,hf.eval hx,hf.eval hy,run_sizeOf hs,hi,part,jM hr,hv]
end
end Go.Lw
namespace Go.Lw
structure LN (P:Program) (g:FuncId):Prop where
 ok:∃fn,P.funcs[g]? =some fn/\fn.body.isSome=true/\(fn.name == "runtime.NumGoroutine")=false
section
variable {P:Program}{ρ:Env}{h:ai}{dst:Option Nat}{ty:TypeId}{pos:String}{after:Array Edge}{guard:Option (Nat×Bool)}
theorem aQ.FR {x:Operand}{g:FuncId}{caps:List Value}{xs:Array Operand}{ts:Array TypeId}{vs:List Value}{Φ:Value->ai->Prop}{X:List PanicEntry->ai->Prop}(hx:aP ρ x=some (.func (.func g) #[] caps.toArray))
 (hf0:LN P g) (hvs:xs.toList.map (aP ρ)=vs.map some) (k:aq P g (vs++caps).toArray h (fun e h'=>match e with|.returned v=>Φ v h'|.panicked c=>X c h'|.outgrown=>False)) :
 aQ P ⟨dst,.call ⟨.value x,xs,ts⟩,ty,pos,after,guard⟩ ρ h Φ X:=by
 obtain⟨fn,hfn,hb,hnm⟩:=hf0.ok;intro n B a w hf ha next Q hn hq
 have hargs:xs.map a.eval=vs.toArray:=by
  apply Array.ext'
  simp only[Array.toList_map]
  have:∀(l:List Operand) (us:List Value),l.map (aP ρ)=us.map some->l.map a.eval=us:=by
   intro l
   induction l with
   |nil=>intro us hu;cases us<;>simp_all
   |cons x r ih =>
    intro us hu;cases us with
    |nil=>simp at hu
    |cons u us =>
     simp only[List.map_cons,List.cons.injEq] at hu ⊢;exact⟨hf.eval hu.1,ih us hu.2⟩
  exact this _ _ hvs
 have hrun:(execOp a.eval ⟨dst,.call ⟨.value x,xs,ts⟩,ty,pos,after,guard⟩).run P w= .ok (.enter g (vs++caps).toArray) w:=by
  have hb':fn.body≠none:=by intro hbb;simp[hbb] at hb
  have hnm':¬fn.name= "runtime.NumGoroutine" :=by simpa using hnm
  simp[execOp,resolve,hf.eval hx,Deferred.ofValue,invoke,callFunc,hfn,hnm',hb',hargs]
 unfold Oper.wp;rw[hrun];refine(k B w ha).mono fun e w' ⟨h',ha',hr⟩=>?_
 cases e with
 |returned v=>exact hn v h' w' ha' hr
 |panicked c=>exact hq c h' w' ha' hr
 |outgrown=>exact hr.elim
end
end Go.Lw

/- Part 9. -/
import Derived.Lib.ConvBytes
import Derived.Lib.AtoiErrMem
import Derived.Laws.Runes
import Derived.Test.YtnjahnbpnpkmhaaGreatDoorQh

namespace Go.Lw
open Go.RowKit
section
variable {P:Program}{ρ:Env}{h:aq}{dst:Option Nat}{ty:TypeId}{pos:String}{after:Array Edge}{guard:Option (Nat×Bool)}{X:List PanicEntry->aq->Prop}
theorem az.CF {t e:TypeId}{x:Operand}{b o m sz:Nat}(hu:P.underlying t=some (.array m e)) (hs:cK P e=some sz) (I:bp ρ x=some (.pointer (some ⟨b,o,none⟩))) :
 az P ⟨dst,.slice t x none none none,ty,pos,after,guard⟩ ρ h (.slice (dm (some ⟨b,o,none⟩) 0 sz m) (m-0) (m-0)):=by
 intro _ B a w J _;simp[execOp,Instr.sliceAt,Instr.sliceBounds,Instr.sliceBound,run_underlying hu,J.eval I,run_sizeOf hs,dm,Instr.sureAddr];split<;>simp
end
end Go.Lw
namespace Go.Lw
section
variable {P:Program}{ρ:Env}{h:aq}{dst:Option Nat}{ty:TypeId}{pos:String}{after:Array Edge}{guard:Option (Nat×Bool)}{X:List PanicEntry->aq->Prop}
end
end Go.Lw
namespace Go.Lw
theorem DA {off:Nat}:∀(cs:List Value) (k:Nat) (pre I:List Value) (rest:List Value),pre.length=off+k->I.length=cs.length ->
 (cs.zipIdx k).foldl (fun(a:Array Value) (p:Value×Nat)=>a.setIfInBounds (off+p.2) p.1) (pre++(I++rest)).toArray=(pre++(cs++rest)).toArray
 | [],k,pre,I,rest,_,hl=>by
  have:I=[]:=List.eq_nil_of_length_eq_zero (by simpa using hl);subst this;rfl
 |c::cs,k,pre,[],rest,U,hl=>by simp at hl
 |c::cs,k,pre,t::I,rest,U,hl=>by
  rw[List.zipIdx_cons,List.foldl_cons]
  have J:(pre++(t::I++rest)).toArray.setIfInBounds (off+k) c=((pre++[c])++(I++rest)).toArray:=by
   rw[<-U];simp[List.set_append_right]
  simp only[J];rw[DA cs (k+1) (pre++[c]) I rest (by simp[U];omega) (by simpa using hl)];simp
theorem Al {sz:Nat}:∀(css:List (List Value)),(∀c∈css,c.length=sz)->∀(k:Nat) (pre I:List Value),pre.length=k*sz->I.length=css.length*sz ->
 Instr.fill (λi=>some (i*sz,sz)) (pre++I).toArray (css.zipIdx k |>.map λp=>(p.2,Value.agg p.1.toArray))=some (pre++css.flatten).toArray
 | [],_,k,pre,I,_,hl=>by
  have:I=[]:=List.eq_nil_of_length_eq_zero (by simpa using hl);subst this;simp[Instr.fill]
 |c::css,h1,k,pre,I,U,hl=>by
  have hc:c.length=sz:=h1 c (by simp);have hl':I.length=sz+css.length*sz:=by rw[hl,List.length_cons,Nat.add_mul];omega
  have ih:=Al css (λv hv=>h1 v (by simp[hv])) (k+1) (pre++c) (I.drop sz) (by rw[List.length_append,U,hc,Nat.add_mul];omega) (by rw[List.length_drop];omega);simp only[List.zipIdx_cons,List.map_cons,Instr.fill,Value.cells];have J:I=I.take sz++I.drop sz:=(List.take_append_drop sz I).symm;have Y:=DA (off:=k*sz) c 0 pre (I.take sz) (I.drop sz) (by rw[U];omega) (by rw[List.length_take];omega);rw[<-J] at Y;have Z:¬(c.toArray.size≠sz\/k*sz+c.toArray.size>(pre++I).toArray.size):=by simp;omega
  have hz:c.toArray.zipIdx.foldl (fun(cs:Array Value) (p:Value×Nat)=>cs.setIfInBounds (k*sz+p.2) p.1) (pre++I).toArray=(pre++(c++I.drop sz)).toArray:=by
   rw[<-Y];simp
  simp only[Bool.or_eq_true,decide_eq_true_eq,if_neg Z];rw[if_neg (by simpa using Z)];rw[hz,<-List.append_assoc,ih];simp
section
variable {P:Program}{ρ:Env}{h:aq}{dst:Option Nat}{ty:TypeId}{pos:String}{after:Array Edge}{guard:Option (Nat×Bool)}{X:List PanicEntry->aq->Prop}
theorem aV.gS {t e:TypeId}{size bytes len:Nat}{ps:Array (Nat×Operand)}(J:P.underlying t=some (.slice e)) (he:dS P e size bytes) (css:List (List Value))
 (I:ps.toList.map (λp=>(p.1,bp ρ p.2))=(css.zipIdx.map λp=>(p.2,Value.agg p.1.toArray)).map (λp=>(p.1,some p.2))) (hl:css.length=len) (hlen:len*size<=16777216) (h1:∀c∈css,c.length=size) :
 aV P ⟨dst,.buildSlice t len ps,ty,pos,after,guard⟩ ρ h (λu g=>u= .slice (some ⟨h.size,0,none⟩) len len/\g=h.push (.cells css.flatten.toArray e)) X:=by
 refine kP J he I hlen λz hz=>?_
 have:=Al css h1 0 [] ((List.range (len*size)).map (λj=>z[j%z.size]!)) (by simp) (by simp[hl]);rw[List.nil_append,List.nil_append] at this;rw[<-this]
 congr 1
 apply Array.ext';simp
end
end Go.Lw
namespace Go.Lw
open Go.RowKit
section
variable {P:Program}{ρ:Env}{h:aq}{dst:Option Nat}{ty:TypeId}{pos:String}{after:Array Edge}{guard:Option (Nat×Bool)}
end
theorem Ext.cZ {M N:Nat->Prop}{a b c:aq}(e:Ext M a b) (x:Ext N b c) (I:∀i,i<a.size->N i->M i):Ext M a c :=
 ⟨Nat.le_trans e.size x.size,λi hi hm=>(x.block i (Nat.lt_of_lt_of_le hi e.size) (λq=>hm (I i hi q))).trans (e.block i hi hm)⟩
section
variable {P:Program}{ρ:Env}{h:aq}{dst:Option Nat}{ty:TypeId}{pos:String}{after:Array Edge}{guard:Option (Nat×Bool)}
theorem az.Hq {t e:TypeId}{n sz:Nat}{x y:Operand}{cs:Array Value}{k:IntKind}{j:Int}{ds:Array Value}(hu:P.underlying t=some (.array n e)) (hs:cK P e=some sz) (hr:aX P e=some true) (U:bp ρ x=some (.agg cs)) (J:bp ρ y=some (.int k j)) (i:Nat) (Z:j=i) (hi:i<n) (Y:cs.extract (i*sz) (i*sz+sz)=ds) :
 az P ⟨dst,.index t x y,ty,pos,after,guard⟩ ρ h (.agg ds):=by
 intro _ B a w I _;subst Z;simp[execOp,Instr.index,run_underlying hu,asIntOf,I.eval U,I.eval J,run_sizeOf hs,hi,part,kf hr,Y]
end
end Go.Lw
namespace Go.Lw
structure Nf (P:Program) (g:FuncId):Prop where
 ok:∃fn,P.funcs[g]? =some fn/\fn.body.isSome=true/\(fn.name == "runtime.NumGoroutine")=false
section
variable {P:Program}{ρ:Env}{h:aq}{dst:Option Nat}{ty:TypeId}{pos:String}{after:Array Edge}{guard:Option (Nat×Bool)}
theorem aV.Mc {x:Operand}{g:FuncId}{caps:List Value}{xs:Array Operand}{ts:Array TypeId}{vs:List Value}{Φ:Value->aq->Prop}{X:List PanicEntry->aq->Prop}(hx:bp ρ x=some (.func (.func g) #[] caps.toArray))
 (ac:Nf P g) (Z:xs.toList.map (bp ρ)=vs.map some) (k:au P g (vs++caps).toArray h (λe h'=>match e with|.returned v=>Φ v h'|.panicked c=>X c h'|.outgrown=>False)) :
 aV P ⟨dst,.call ⟨.value x,xs,ts⟩,ty,pos,after,guard⟩ ρ h Φ X:=by
 obtain⟨fn,ab,hb,aa⟩:=ac.ok;intro n B a w hf ha next Q hn hq
 have I:xs.map a.eval=vs.toArray:=by
  apply Array.ext'
  simp only[Array.toList_map]
  have:∀(l:List Operand) (us:List Value),l.map (bp ρ)=us.map some->l.map a.eval=us:=by
   intro l
   induction l with
   |nil=>intro us hu;cases us<;>simp_all
   |cons x r ih =>
    intro us hu;cases us with
    |nil=>simp at hu
    |cons u us =>
     simp only[List.map_cons,List.cons.injEq] at hu ⊢;exact⟨hf.eval hu.1,ih us hu.2⟩
  exact this _ _ Z
 have J:(execOp a.eval ⟨dst,.call ⟨.value x,xs,ts⟩,ty,pos,after,guard⟩).run P w= .ok (.enter g (vs++caps).toArray) w:=by
  have ae:fn.body≠none:=by intro ad;simp[ad] at hb
  have U:¬fn.name= "runtime.NumGoroutine" :=by simpa using aa
  simp[execOp,resolve,hf.eval hx,Deferred.ofValue,invoke,callFunc,ab,U,ae,I]
 unfold Oper.wp;rw[J];refine(k B w ha).mono λe w' ⟨h',Y,hr⟩=>?_
 cases e with
 |returned v=>exact hn v h' w' Y hr
 |panicked c=>exact hq c h' w' Y hr
 |outgrown=>exact hr.elim
end
end Go.Lw

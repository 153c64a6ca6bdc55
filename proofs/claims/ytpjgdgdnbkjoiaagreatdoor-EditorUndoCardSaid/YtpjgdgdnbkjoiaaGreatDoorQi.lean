/- What the proof of the statement leans on (part 9). -/
import Derived.ProofKit
import Derived.OpenShut
import Derived.SliceStrings
import Derived.Test.YtpjgdgdnbkjoiaaGreatDoorQh

namespace Go.Lw
open Go.ChangeShapes Go.WideShapes Go.ChangeAt Go.RowKit
section
variable {W:World}
variable {H:Type}{enc:TypeId×Value->H}{P:Program}
theorem cA (W:World) (a:Addr):W.cell? a=cellAt W.heap a:=rfl
theorem JM {w w':World}{h':ai}(k:At w h' w') (e:an w.heap h'):Below w.heap.size w w' :=
 ⟨k.os,k.tape,k.output,by rw[k.heap];exact e.size,fun b hb=>by rw[k.heap];exact e.block b hb (fun k=>k)⟩
theorem qd (hl:laidOutB P=true){W W':World}(hb:Below W.heap.size W W'):∀{ts:List TypeId}{vs:List Value}{ds:List (DataW H)}{p:List MemPlace},(∀t∈ts,P.readableRec t=true/\t<P.types.size) ->
 DataW.TrodAll enc P W 0 (fun _=>true) true ts vs ds p->(∀x∈p,x.block<W.heap.size)->DataW.TrodAll enc P W' 0 (fun b=>decide (b<W.heap.size)) true ts vs ds p
 | [],vs,ds,p,_,h,_=>by
  cases vs<;>cases ds<;>simp_all [DataW.TrodAll]
 |t::ts,vs,ds,p,hr,h,hlt=>by
  cases vs with
  |nil=>simp[DataW.TrodAll] at h
  |cons v vs =>
   cases ds with
   |nil=>simp[DataW.TrodAll] at h
   |cons d ds =>
    obtain⟨p1,p2,h1,h2,rfl⟩:=h
    exact⟨p1,p2,Below.trod hl (hr t (by simp)).1 (hr t (by simp)).2 h1 hb (fun x hx=>hlt x (by simp[hx])),
     qd hl hb (fun t ht=>hr t (by simp[ht])) h2 (fun x hx=>hlt x (by simp[hx])),rfl⟩
theorem Jb {fn:Func}{spec:ChangeSpec}{bt:TypeId}(hl:laidOutB P=true) (hr0:fn.params.toList.all (fun t=>P.readableRec t && decide (t<P.types.size))=true) (hrt:fn.resultTypes= #[bt]) (hub:P.underlying bt=some .bool)
 (hvars:spec.vars=[]){W':World}{args:Array Value}{ds gs:List (DataW H)}{before:List MemPlace}
 (hfn:(spec.fn H (ds++[])).results=[.lit (.bool true)]/\(spec.fn H (ds++[])).args=ds/\(spec.fn H (ds++[])).vars=[])
 (hW:DataW.Whole enc P fn.params.toList spec.vars false W args.toList ds gs before) (hb:Below W.heap.size W W') :
 spec.post enc P fn false true false false W args (.bool true) W':=by
 have hr:∀t∈fn.params.toList,P.readableRec t=true/\t<P.types.size:=fun t ht=>by
  have:=List.all_eq_true.1 hr0 t ht;simpa using this
 have hlt:∀x∈before,x.block<W.heap.size:=fun x hx=>by simpa using hW.lt x hx
 obtain⟨p,q,hA,hV,rfl,hfz,hnd⟩:=id hW;have hV':=hV;rw[hvars] at hV';obtain⟨rfl,rfl⟩:=trodVars_none hV';refine⟨ds,[],p++[],[],p,[],hW,?_,?_,?_,hb.frame _,fun h=>by cases h⟩
 · rw[hfn.1,hrt];exact trodAll_mk1 (shut_bool hub true)
 · rw[hfn.2.1];exact qd hl hb hr hA (fun x hx=>hlt x (by simp[hx]))
 · rw[hfn.2.2,hvars];rfl
theorem GS {f:FuncId}{fn:Func}{spec:ChangeSpec}{bt:TypeId}(hl:laidOutB P=true) (hr0:fn.params.toList.all (fun t=>P.readableRec t && decide (t<P.types.size))=true) (hrt:fn.resultTypes= #[bt]) (hub:P.underlying bt=some .bool)
 (hvars:spec.vars=[]){args:Array Value}{ds gs:List (DataW H)}{before:List MemPlace}
 (hfn:(spec.fn H (ds++[])).results=[.lit (.bool true)]/\(spec.fn H (ds++[])).args=ds/\(spec.fn H (ds++[])).vars=[])
 (hW:DataW.Whole enc P fn.params.toList spec.vars false W args.toList ds gs before)
 (k:af P f args W.heap (bg fun r h'=>r= .bool true/\an W.heap h')) :
 Calls P f args W fun e W'=>∃v,e= .returned v/\spec.post enc P fn false true false false W args v W':=by
 refine(k W W (At.refl W)).mono ?_;rintro e W' ⟨h',ha,v,rfl,rfl,he⟩;exact⟨_,rfl,Jb hl hr0 hrt hub hvars hfn hW (JM ha he)⟩
theorem AO {base:Nat}{t e:TypeId}{v:Value}{d:DataW H}{p:List MemPlace}(ht:P.underlying t=some (.slice e)) (he:P.underlying e=some .string) (hc:P.cellsOf e=1)
 (hv:Value.okWide P W .any base t v) (h:DataW.Trod enc P W 0 (fun _=>true) true t v d p):∃l:List ByteArray,bz .str W.heap (fun _=>False) v l/\∀s∈l,s.size<=maxLen:=by
 obtain⟨a0,len,cap,rfl⟩:=okWide_slice ht hv;obtain⟨fuel,hf⟩:=h
 rcases open_strings ht he hc hf with ⟨hcs,hx⟩|⟨a,len',cap',ss,hcs,_,hl,hm,hz,hx,hcell,hws⟩
 · simp[Value.cells] at hcs;obtain⟨rfl,rfl,rfl⟩:=hcs;exact⟨[],bz.nil _ _ _,by simp⟩
 · simp[Value.cells] at hcs;obtain⟨rfl,rfl,rfl⟩:=hcs;simp only[if_true] at hz;refine⟨ss.take len,⟨some a,len,cap,rfl,by simp;omega,hl,hm,fun i x hxi=>?_⟩,fun s hs=>hws s (List.mem_of_mem_take hs)⟩;rw[List.getElem?_take] at hxi;split at hxi
   · rename_i hi;have hsp:=hcell 0 (by omega);obtain⟨b,off,spot⟩:=a;have hspot:spot=none:=by simpa [Addr.add] using World.cell?_spot hsp
     subst hspot;refine⟨b,off,[.string x],rfl,fun k=>k,fun j u hj=>?_,rfl⟩;have hj0:j=0:=by cases j with|zero=>rfl|succ j=>simp at hj
     subst hj0;simp at hj;subst hj;have:=hcell i (by omega);rw[Addr.add_mid] at this;have hg:ss.getD i ByteArray.empty=x:=by simp[List.getD,hxi]
     rw[hg] at this;rw[cA] at this;simpa [iV.str,iV.flat] using this
   · cases hxi
end
end Go.Lw

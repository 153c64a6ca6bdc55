/- What the proof of the statement leans on (part 9). -/
import Derived.ProofKit
import Derived.OpenShut
import Derived.SliceStrings
import Derived.Test.YtckomlgchbkekaaGreatDoorQh

namespace Go.Lw
open Go.ChangeShapes Go.WideShapes Go.ChangeAt Go.RowKit
variable {H:Type}{enc:TypeId×Value->H}{P:Program}
theorem dm (W:World) (a:Addr):W.cell? a=cellAt W.heap a:=rfl
theorem HF {w w':World}{h':ai}(k:At w h' w') (e:ah w.heap h'):Below w.heap.size w w' :=
 ⟨k.os,k.tape,k.output,by rw[k.heap];exact e.size,fun b hb=>by rw[k.heap];exact e.block b hb (fun k=>k)⟩
theorem mC (hl:laidOutB P=true){W W':World}(hb:Below W.heap.size W W'):∀{ts:List TypeId}{vs:List Value}{ds:List (DataW H)}{p:List MemPlace},(∀t∈ts,P.readableRec t=true/\t<P.types.size) ->
 DataW.TrodAll enc P W 0 (fun _=>true) true ts vs ds p->(∀x∈p,x.block<W.heap.size)->DataW.TrodAll enc P W' 0 (fun b=>decide (b<W.heap.size)) true ts vs ds p
 | [],vs,ds,p,_,h,_=>by
  cases vs<;>cases ds<;>simp_all [DataW.TrodAll]
 |t::ts,vs,ds,p,hr,h,hlt=>by
  cases vs with
  |nil=>simp[DataW.TrodAll] at h
  |cons v vs =>
   cases ds with
   |nil=>simp[DataW.TrodAll] at h
   |cons d ds =>
    obtain⟨p1,p2,h1,h2,rfl⟩:=h
    exact⟨p1,p2,Below.trod hl (hr t (by simp)).1 (hr t (by simp)).2 h1 hb (fun x hx=>hlt x (by simp[hx])),
     mC hl hb (fun t ht=>hr t (by simp[ht])) h2 (fun x hx=>hlt x (by simp[hx])),rfl⟩
theorem GX {fn:Func}{spec:ChangeSpec}{bt:TypeId}(hl:laidOutB P=true) (hr0:fn.params.toList.all (fun t=>P.readableRec t && decide (t<P.types.size))=true) (hrt:fn.resultTypes= #[bt]) (hub:P.underlying bt=some .bool)
 (hvars:spec.vars=[]){W W':World}{args:Array Value}{ds gs:List (DataW H)}{before:List MemPlace}
 (hfn:(spec.fn H (ds++[])).results=[.lit (.bool true)]/\(spec.fn H (ds++[])).args=ds/\(spec.fn H (ds++[])).vars=[])
 (hW:DataW.Whole enc P fn.params.toList spec.vars false W args.toList ds gs before) (hb:Below W.heap.size W W') :
 spec.post enc P fn false true false false W args (.bool true) W':=by
 have hr:∀t∈fn.params.toList,P.readableRec t=true/\t<P.types.size:=fun t ht=>by
  have:=List.all_eq_true.1 hr0 t ht;simpa using this
 have hlt:∀x∈before,x.block<W.heap.size:=fun x hx=>by simpa using hW.lt x hx
 obtain⟨p,q,hA,hV,rfl,hfz,hnd⟩:=id hW;have hV':=hV;rw[hvars] at hV';obtain⟨rfl,rfl⟩:=trodVars_none hV';refine⟨ds,[],p++[],[],p,[],hW,?_,?_,?_,hb.frame _,fun h=>by cases h⟩
 · rw[hfn.1,hrt];exact trodAll_mk1 (shut_bool hub true)
 · rw[hfn.2.1];exact mC hl hb hr hA (fun x hx=>hlt x (by simp[hx]))
 · rw[hfn.2.2,hvars];rfl
theorem EV {f:FuncId}{fn:Func}{spec:ChangeSpec}{bt:TypeId}(hl:laidOutB P=true) (hr0:fn.params.toList.all (fun t=>P.readableRec t && decide (t<P.types.size))=true) (hrt:fn.resultTypes= #[bt]) (hub:P.underlying bt=some .bool)
 (hvars:spec.vars=[]){W:World}{args:Array Value}{ds gs:List (DataW H)}{before:List MemPlace}
 (hfn:(spec.fn H (ds++[])).results=[.lit (.bool true)]/\(spec.fn H (ds++[])).args=ds/\(spec.fn H (ds++[])).vars=[])
 (hW:DataW.Whole enc P fn.params.toList spec.vars false W args.toList ds gs before)
 (k:aj P f args W.heap (aN fun r h'=>r= .bool true/\ah W.heap h')) :
 Calls P f args W fun e W'=>∃v,e= .returned v/\spec.post enc P fn false true false false W args v W':=by
 refine(k W W (rq W)).mono ?_;rintro e W' ⟨h',ha,v,rfl,rfl,he⟩;exact⟨_,rfl,GX hl hr0 hrt hub hvars hfn hW (HF ha he)⟩
end Go.Lw

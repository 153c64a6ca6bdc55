/- Part 10. -/
import Derived.ProofKit
import Derived.OpenShut
import Derived.SliceStrings
import Derived.Test.YtnjahnbpnpkmhaaGreatDoorQi

namespace Go.Lw
open Go.ChangeShapes Go.WideShapes Go.ChangeAt Go.RowKit
variable {H:Type}{enc:TypeId×Value->H}{P:Program}
theorem dX (W:World) (a:Addr):W.cell? a=cellAt W.heap a:=rfl
theorem J0 {w w':World}{h':aq}(k:At w h' w') (e:aj w.heap h'):Below w.heap.size w w' :=
 ⟨k.os,k.tape,k.output,by rw[k.heap];exact e.size,λb I=>by rw[k.heap];exact e.block b I (λk=>k)⟩
theorem qx (hl:laidOutB P=true){W Y:World}(U:Below W.heap.size W Y):∀{ts:List TypeId}{vs:List Value}{ds:List (DataW H)}{p:List MemPlace},(∀t∈ts,P.readableRec t=true/\t<P.types.size) ->
 DataW.TrodAll enc P W 0 (λ_=>true) true ts vs ds p->(∀x∈p,x.block<W.heap.size)->DataW.TrodAll enc P Y 0 (λb=>decide (b<W.heap.size)) true ts vs ds p
 | [],vs,ds,p,_,h,_=>by
  cases vs<;>cases ds<;>simp_all [DataW.TrodAll]
 |t::ts,vs,ds,p,hr,h,I=>by
  cases vs with
  |nil=>simp[DataW.TrodAll] at h
  |cons v vs =>
   cases ds with
   |nil=>simp[DataW.TrodAll] at h
   |cons d ds =>
    obtain⟨p1,p2,h1,h2,rfl⟩:=h
    exact⟨p1,p2,Below.trod hl (hr t (by simp)).1 (hr t (by simp)).2 h1 U (λx J=>I x (by simp[J])),
     qx hl U (λt Z=>hr t (by simp[Z])) h2 (λx J=>I x (by simp[J])),rfl⟩
theorem Js {fn:Func}{spec:ChangeSpec}{bt:TypeId}(hl:laidOutB P=true) (ab:fn.params.toList.all (λt=>P.readableRec t && decide (t<P.types.size))=true) (aa:fn.resultTypes= #[bt]) (Z:P.underlying bt=some .bool)
 (I:spec.vars=[]){W W':World}{args:Array Value}{ds gs:List (DataW H)}{before:List MemPlace}
 (J:(spec.fn H (ds++[])).results=[.lit (.bool true)]/\(spec.fn H (ds++[])).args=ds/\(spec.fn H (ds++[])).vars=[])
 (hW:DataW.Whole enc P fn.params.toList spec.vars false W args.toList ds gs before) (hb:Below W.heap.size W W') :
 spec.post enc P fn false true false false W args (.bool true) W':=by
 have hr:∀t∈fn.params.toList,P.readableRec t=true/\t<P.types.size:=λt ht=>by
  have:=List.all_eq_true.1 ab t ht;simpa using this
 have ac:∀x∈before,x.block<W.heap.size:=λx Y=>by simpa using hW.lt x Y
 obtain⟨p,q,hA,hV,rfl,hfz,hnd⟩:=id hW;have U:=hV;rw[I] at U;obtain⟨rfl,rfl⟩:=trodVars_none U;refine⟨ds,[],p++[],[],p,[],hW,?_,?_,?_,hb.frame _,λh=>by cases h⟩
 · rw[J.1,aa];exact trodAll_mk1 (shut_bool Z true)
 · rw[J.2.1];exact qx hl hb hr hA (λx Y=>ac x (by simp[Y]))
 · rw[J.2.2,I];rfl
theorem Hf {f:FuncId}{fn:Func}{spec:ChangeSpec}{bt:TypeId}(hl:laidOutB P=true) (Y:fn.params.toList.all (λt=>P.readableRec t && decide (t<P.types.size))=true) (U:fn.resultTypes= #[bt]) (J:P.underlying bt=some .bool)
 (I:spec.vars=[]){W:World}{args:Array Value}{ds gs:List (DataW H)}{before:List MemPlace}
 (Z:(spec.fn H (ds++[])).results=[.lit (.bool true)]/\(spec.fn H (ds++[])).args=ds/\(spec.fn H (ds++[])).vars=[])
 (hW:DataW.Whole enc P fn.params.toList spec.vars false W args.toList ds gs before)
 (k:au P f args W.heap (bK λr h'=>r= .bool true/\aj W.heap h')) :
 Calls P f args W λe W'=>∃v,e= .returned v/\spec.post enc P fn false true false false W args v W':=by
 refine(k W W (At.refl W)).mono ?_;rintro e W' ⟨h',ha,v,rfl,rfl,he⟩;exact⟨_,rfl,Js hl Y U J I Z hW (J0 ha he)⟩
end Go.Lw

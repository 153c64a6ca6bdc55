/- What the proof of the statement leans on (part 31). -/
import Derived.Lib.ValidLaws
import Derived.Shelf.Unicode.ValidAny
import Derived.Test.YtiigijehmmcfgaaGreatDoorProg
import Derived.Test.YtiigijehmmcfgaaGreatDoorQzd

namespace Go.Proofs.YtiigijehmmcfgaaGreatDoor
open Go.Proofs.Tryz
open Go Go.Lw Go.ChangeShapes Go.WideShapes Go.ChangeAt Go.RowKit
set_option maxRecDepth 100000
theorem Ft:Tryz.prog.underlying 31=some (.struct (Tryz.prog.fieldsOf 31)):=by kernel_rfl
theorem Db {H:Type}{enc:TypeId×Value->H}{W:World}{base:Nat}{v:Value}{d:DataW H}{p:List MemPlace}(hv:Value.okWide Tryz.prog W .any base 22 v) (h:DataW.Trod enc Tryz.prog W 0 (fun _=>true) true 22 v d p) :
 ∃l:List Cm,ck GI W.heap (fun _=>False) v l:=by
 obtain⟨l,hl,_⟩:=Da (Q:=fun _=>True) (pos:=(by decide:0<5)) (hl:=fun a=>(rfl:(BE a).length=5)) (h1:=FB) (fs:=Tryz.prog.fieldsOf 31) underlying22 Ft (Deep.hone_of (by kernel_rfl)) (by kernel_rfl) rfl (fun cs n hl hf=>by
  match cs,hl with
  | [c0,c1,c2,c3,c4],_ =>
   obtain⟨y0,h0⟩:=hf 0 _ c0 rfl rfl;obtain⟨y1,h1⟩:=hf 1 _ c1 rfl rfl;obtain⟨y2,h2⟩:=hf 2 _ c2 rfl rfl;obtain⟨y3,h3⟩:=hf 3 _ c3 rfl rfl;obtain⟨y4,h4⟩:=hf 4 _ c4 rfl rfl;obtain⟨n0,e0,_,_⟩:=DataW.trod_int underlying3 h0;obtain⟨n1,e1,_,_⟩:=DataW.trod_int underlying3 h1;obtain⟨n2,e2,_,_⟩:=DataW.trod_int underlying3 h2;obtain⟨n3,e3,_,_⟩:=DataW.trod_string underlying9 h3;obtain⟨n4,e4,_⟩:=DataW.trod_bool underlying4 h4;simp at e0 e1 e2 e3 e4;subst e0 e1 e2 e3 e4;exact⟨⟨n0,n1,n2,n3.data.toList,n4⟩,by simp[BE,J9],trivial⟩) hv h
 exact⟨l,hl⟩
end Go.Proofs.YtiigijehmmcfgaaGreatDoor

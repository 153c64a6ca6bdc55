/- Part 20. -/
import Derived.LaidLaws
import Derived.LaidMore
import Derived.OpenShut
import Derived.Stop.Joined
import Derived.ChangeMaps5
import Derived.Lay
import Derived.Test.YtnjahnbpnpkmhaaGreatDoorQs

namespace Go.Proofs.YtnjahnbpnpkmhaaGreatDoor
open Go.Proofs.Tryz
open Go Go.Lw Go.ChangeShapes Go.WideShapes Go.ChangeAt Go.RowKit
set_option maxRecDepth 20000
theorem own:ownKnob prog.godebug=none:=by kernel_rfl
theorem laidOut:laidOutB prog=true:=by kernel_rfl
theorem HK (c:UInt8):((mY (c.toNat:Int) [((42:Int),(4:Int)),(43,5),(63,6)]).map (Value.int .i64)).getD (Value.int .i64 0)=Value.int .i64 (ck c:Nat):=by
  have hc:∀n:Nat,n<256->(c.toNat=n↔c=UInt8.ofNat n):=λn U=>by
    rw[<-UInt8.toNat_inj];simp;rw[Nat.mod_eq_of_lt U]
  simp only[mY,ck]
  by_cases h1:c=42
  · subst h1;rfl
  by_cases J:c=43
  · subst J;rfl
  by_cases I:c=63
  · subst I;rfl
  have n1:¬(c.toNat:Int)=42:=λe=>h1 ((hc 42 (by decide)).1 (by omega))
  have n2:¬(c.toNat:Int)=43:=λe=>J ((hc 43 (by decide)).1 (by omega))
  have n3:¬(c.toNat:Int)=63:=λe=>I ((hc 63 (by decide)).1 (by omega))
  simp[h1,J,I,n1,n2,n3]
theorem Iz {W:World}{g t:Nat}{cs:Array Value}{fuel:Nat}{pl:List MemPlace}{sp:Nat->Bool}{held:Bool}{enc:TypeId×Value->Unit}(hg:prog.globalNamed "limner/regs.signs" =some g) (ht:(prog.globals[g]?).map (·.type)=some t) (hv:W.var? prog "limner/regs.signs" =some cs)
    (hd:DataW.trod enc prog W 0 sp held fuel t cs.toList=some (Rows.laid_limner_regs_signs,pl)):Sg W.heap W.heap.size:=by
  have gT:prog.globalNamed "limner/regs.signs" =some 4:=by kernel_rfl
  have tT:(prog.globals[4]?).map (·.type)=some 228:=by kernel_rfl
  obtain rfl:=Option.some.inj (gT.symm.trans hg);obtain rfl:=Option.some.inj (tT.symm.trans ht);obtain⟨b,Y,l,hm,hp⟩:=Jt (kk:=.u8) (kd:=.i64) underlying228 underlying5 underlying3 hd
  have U:W.cell? ⟨4,0,none⟩=some (.map (some b)):=by
    have:=World.var?_cell hg hv 0;obtain⟨l1⟩:=cs;simp only at Y;subst Y;simpa using this
  have Z:cellAt W.heap ⟨4,0,none⟩=some (.map (some b)):=(At.refl W).cell _▸U
  have J:l.Perm [((42:Int),(4:Int)),(43,5),(63,6)]:=by
    have hinj:∀p q:Int×Int,((.int .u8 p.1,.lit (.int .i64 p.2)):Lit×DataW Unit)=(.int .u8 q.1,.lit (.int .i64 q.2))->p=q:=by
      intro p q h;simp only[Prod.mk.injEq,Lit.int.injEq,DataW.lit.injEq,true_and] at h;exact Prod.ext h.1 h.2
    have aa:(l.map λp=>((.int .u8 p.1,.lit (.int .i64 p.2)):Lit×DataW Unit)).Perm ([((42:Int),(4:Int)),(43,5),(63,6)].map λp=>((.int .u8 p.1,.lit (.int .i64 p.2)):Lit×DataW Unit)):=hp
    have I:∀m:List (Int×Int),(m.map λp=>((.int .u8 p.1,.lit (.int .i64 p.2)):Lit×DataW Unit)).map (λy=>match y with|(.int _ a,.lit (.int _ b))=>(a,b)|_=>((0:Int),(0:Int)))=m:=by
      intro m;rw[List.map_map];have:((λy=>match y with|(.int _ a,.lit (.int _ b))=>(a,b)|_=>((0:Int),(0:Int)))∘λp=>((.int .u8 p.1,.lit (.int .i64 p.2)):Lit×DataW Unit))=id:=by funext p;rfl
      rw[this,List.map_id]
    have:=aa.map (λy=>match y with|(.int _ a,.lit (.int _ b))=>(a,b)|_=>((0:Int),(0:Int)))
    rwa [I,I] at this
  refine⟨b,eu Z,hm.lt,Z,l,hm,λc=>?_⟩;rw[Ka J (by decide)];exact HK c
theorem Lf (s:ByteArray):bs s.data.toList=s:=by cases s;simp[bs]
end Go.Proofs.YtnjahnbpnpkmhaaGreatDoor

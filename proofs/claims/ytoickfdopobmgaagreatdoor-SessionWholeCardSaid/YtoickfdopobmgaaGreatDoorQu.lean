/- What the proof of the statement leans on (part 21). -/
import Derived.LaidLaws
import Derived.LaidMore
import Derived.OpenShut
import Derived.Stop.Joined
import Derived.ChangeMaps5
import Derived.Lay
import Derived.Test.YtoickfdopobmgaaGreatDoorQt

namespace Go.Proofs.YtoickfdopobmgaaGreatDoor
open Go.Proofs.Tryz
open Go Go.Lw Go.ChangeShapes Go.WideShapes Go.ChangeAt Go.RowKit
set_option maxRecDepth 20000
theorem own:ownKnob Tryz.prog.godebug=none:=by kernel_rfl
theorem laidOut:laidOutB Tryz.prog=true:=by kernel_rfl
theorem Hq (c:UInt8):((mg (c.toNat:Int) [((42:Int),(4:Int)),(43,5),(63,6)]).map (Value.int .i64)).getD (Value.int .i64 0)=Value.int .i64 (dn c:Nat):=by
  have hc:∀n:Nat,n<256->(c.toNat=n↔c=UInt8.ofNat n):=fun n hn=>by
    rw[<-UInt8.toNat_inj];simp;rw[Nat.mod_eq_of_lt hn]
  simp only[mg,dn]
  by_cases h1:c=42
  · subst h1;rfl
  by_cases h2:c=43
  · subst h2;rfl
  by_cases h3:c=63
  · subst h3;rfl
  have n1:¬(c.toNat:Int)=42:=fun e=>h1 ((hc 42 (by decide)).1 (by omega))
  have n2:¬(c.toNat:Int)=43:=fun e=>h2 ((hc 43 (by decide)).1 (by omega))
  have n3:¬(c.toNat:Int)=63:=fun e=>h3 ((hc 63 (by decide)).1 (by omega))
  simp[h1,h2,h3,n1,n2,n3]
theorem Im {W:World}{g t:Nat}{cs:Array Value}{fuel:Nat}{pl:List MemPlace}{sp:Nat->Bool}{held:Bool}{enc:TypeId×Value->Unit}(hg:Tryz.prog.globalNamed "limner/regs.signs" =some g) (ht:(Tryz.prog.globals[g]?).map (·.type)=some t) (hv:W.var? Tryz.prog "limner/regs.signs" =some cs)
    (hd:DataW.trod enc Tryz.prog W 0 sp held fuel t cs.toList=some (Rows.laid_limner_regs_signs,pl)):Sg W.heap W.heap.size:=by
  have gT:Tryz.prog.globalNamed "limner/regs.signs" =some 10:=by kernel_rfl
  have tT:(Tryz.prog.globals[10]?).map (·.type)=some 267:=by kernel_rfl
  obtain rfl:=Option.some.inj (gT.symm.trans hg);obtain rfl:=Option.some.inj (tT.symm.trans ht);obtain⟨b,hcs,l,hm,hp⟩:=Jk (kk:=.u8) (kd:=.i64) underlying267 underlying5 underlying3 hd
  have hcell:W.cell? ⟨10,0,none⟩=some (.map (some b)):=by
    have:=World.var?_cell hg hv 0;obtain⟨l1⟩:=cs;simp only at hcs;subst hcs;simpa using this
  have hc2:cellAt W.heap ⟨10,0,none⟩=some (.map (some b)):=(At.refl W).cell _▸hcell
  have hperm:l.Perm [((42:Int),(4:Int)),(43,5),(63,6)]:=by
    have hinj:∀p q:Int×Int,((.int .u8 p.1,.lit (.int .i64 p.2)):Lit×DataW Unit)=(.int .u8 q.1,.lit (.int .i64 q.2))->p=q:=by
      intro p q h;simp only[Prod.mk.injEq,Lit.int.injEq,DataW.lit.injEq,true_and] at h;exact Prod.ext h.1 h.2
    have hp':(l.map fun p=>((.int .u8 p.1,.lit (.int .i64 p.2)):Lit×DataW Unit)).Perm ([((42:Int),(4:Int)),(43,5),(63,6)].map fun p=>((.int .u8 p.1,.lit (.int .i64 p.2)):Lit×DataW Unit)):=hp
    have hback:∀m:List (Int×Int),(m.map fun p=>((.int .u8 p.1,.lit (.int .i64 p.2)):Lit×DataW Unit)).map (fun y=>match y with|(.int _ a,.lit (.int _ b))=>(a,b)|_=>((0:Int),(0:Int)))=m:=by
      intro m;rw[List.map_map];have:((fun y=>match y with|(.int _ a,.lit (.int _ b))=>(a,b)|_=>((0:Int),(0:Int)))∘fun p=>((.int .u8 p.1,.lit (.int .i64 p.2)):Lit×DataW Unit))=id:=by funext p;rfl
      rw[this,List.map_id]
    have:=hp'.map (fun y=>match y with|(.int _ a,.lit (.int _ b))=>(a,b)|_=>((0:Int),(0:Int)))
    rwa [hback,hback] at this
  refine⟨b,dM hc2,hm.lt,hc2,l,hm,fun c=>?_⟩;rw[Kb hperm (by decide)];exact Hq c
theorem Lj (s:ByteArray):bs s.data.toList=s:=by cases s;simp[bs]
theorem Na {h:ai}{O:Nat->Prop}{v:Value}{l:List ByteArray}(k:aT .str h O v l):aT oe h O v (l.map fun s=>s.data.toList):=by
  obtain⟨oa,n,c,rfl,hl,hnc,hc,hg⟩:=k;refine⟨oa,n,c,rfl,by simpa using hl,hnc,hc,fun i x hx=>?_⟩;rw[List.getElem?_map] at hx;cases hs:l[i]? with
  |none=>rw[hs] at hx;cases hx
  |some s =>
    rw[hs] at hx;simp only[Option.map_some,Option.some.injEq] at hx;subst hx;obtain⟨b,o,cs,h1,h2,h3,h4⟩:=hg i s hs;refine⟨b,o,cs,h1,h2,h3,?_⟩;have h4:cs=[.string s]:=h4
    show cs=[.string (bs s.data.toList)]
    rw[Lj];exact h4
end Go.Proofs.YtoickfdopobmgaaGreatDoor

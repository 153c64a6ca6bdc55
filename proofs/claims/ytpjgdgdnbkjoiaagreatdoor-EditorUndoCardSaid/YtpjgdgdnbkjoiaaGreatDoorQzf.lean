/- What the proof of the statement leans on (part 32). -/
import Derived.Lib.LaidU8
import Derived.Deep.Fields
import Derived.Test.YtpjgdgdnbkjoiaaGreatDoorQze

namespace Go.Proofs.YtpjgdgdnbkjoiaaGreatDoor
open Go.Proofs.Tryz
open Go Go.Lw Go.ChangeShapes Go.WideShapes Go.ChangeAt Go.RowKit
set_option maxRecDepth 100000
section
variable {W:World}
theorem Jr:Go.Pinned.utf8First=Lib.firstData:=by kernel_rfl
theorem DR:(Rows.laid_limner_rules_table:DataW Unit)= .agg [.slice ((qz 0).map iU) [],.slice ((qz 1).map iU) [],.slice ((qz 2).map iU) []]:=by kernel_rfl
theorem Dm:(Rows.laid_unicode_utf8_acceptRanges:DataW Unit)=Lib.acceptData:=by kernel_rfl
theorem HS (h3:Lib.VarReads Tryz.prog W "unicode/utf8.first" Lib.firstData) (h4:Lib.VarReads Tryz.prog W "unicode/utf8.acceptRanges" Lib.acceptData):Mi W.heap:=by
  refine⟨fun c hc=>?_,fun i hi=>?_⟩
  · obtain⟨g,t,cs,fuel,p,hg,hty,hvar,hd⟩:=h3;obtain rfl:=Option.some.inj ((show Tryz.prog.globalNamed "unicode/utf8.first" =some 2 by kernel_rfl).symm.trans hg);obtain rfl:=Option.some.inj ((show (Tryz.prog.globals[2]?).map (·.type)=some 268 by kernel_rfl).symm.trans hty);have hcs:=Lib.cells_of_tab underlying268 underlying5 (by kernel_rfl) (by kernel_rfl) hd;have:=World.var?_cell hg hvar c;rw[<-cA,this,<-Array.getElem?_toList,hcs];simp[Lib.firstTab,hc]
  · obtain⟨g,t,cs,fuel,p,hg,hty,hvar,hd⟩:=h4;obtain rfl:=Option.some.inj ((show Tryz.prog.globalNamed "unicode/utf8.acceptRanges" =some 3 by kernel_rfl).symm.trans hg);obtain rfl:=Option.some.inj ((show (Tryz.prog.globals[3]?).map (·.type)=some 271 by kernel_rfl).symm.trans hty);obtain⟨fuel',d,q,hdi,he⟩:=Lib.array_elem underlying271 hd i hi;simp only[List.getElem?_map,List.getElem?_range hi,Option.map_some,Option.some.injEq] at hdi;subst hdi;have c2:Tryz.prog.cellsOf 270=2:=by kernel_rfl
    have c1:Tryz.prog.cellsOf 5=1:=by kernel_rfl
    rw[c2] at he
    have hcs:=Lib.ints_of_struct underlying270 (fun j f hj=>by
      match j,hj with
      | 0,hj=>simp at hj;subst hj;exact⟨underlying5,rfl,c1⟩
      | 1,hj=>simp at hj;subst hj;exact⟨underlying5,rfl,c1⟩
      |j+2,hj=>simp at hj) (by rw[c2];rfl) he
    have e0:=congrArg (·[0]?) hcs;have e1:=congrArg (·[1]?) hcs;simp only[List.getElem?_take,List.getElem?_drop] at e0 e1;constructor
    · rw[<-cA,World.var?_cell hg hvar (2*i),<-Array.getElem?_toList];simpa [Nat.mul_comm] using e0
    · rw[<-cA,World.var?_cell hg hvar (2*i+1),<-Array.getElem?_toList];simpa [Nat.mul_comm] using e1
theorem Iq (h:Lib.VarReads Tryz.prog W "limner/rules.table" (.agg [.slice ((qz 0).map iU) [],.slice ((qz 1).map iU) [],.slice ((qz 2).map iU) []])):kY W.heap:=by
  intro m hm;obtain⟨g,t,cs,fuel,p,hg,hty,hvar,hd⟩:=h;obtain rfl:=Option.some.inj ((show Tryz.prog.globalNamed "limner/rules.table" =some 0 by kernel_rfl).symm.trans hg);obtain rfl:=Option.some.inj ((show (Tryz.prog.globals[0]?).map (·.type)=some 163 by kernel_rfl).symm.trans hty);obtain⟨fuel',d,q,hdi,he⟩:=Lib.array_elem underlying163 hd m hm
  have hdm:d= .slice ((qz m).map iU) []:=by
    match m,hm with
    | 0,_=>exact(Option.some.inj hdi).symm
    | 1,_=>exact(Option.some.inj hdi).symm
    | 2,_=>exact(Option.some.inj hdi).symm
  subst hdm;have c1:Tryz.prog.cellsOf 160=1:=by kernel_rfl
  rw[c1] at he;obtain⟨v,hv,hs⟩:=GU underlying160 underlying162 (by kernel_rfl) rfl rfl rfl underlying9 underlying3 underlying3 (by kernel_rfl) (by kernel_rfl) (by kernel_rfl) he;refine⟨v,?_,hs⟩;have e0:=congrArg (·[0]?) hv;simp only[List.getElem?_take,List.getElem?_drop] at e0;rw[<-cA,World.var?_cell hg hvar m,<-Array.getElem?_toList];simpa using e0
theorem IZ (hL:laidMetH Tryz.prog Rows.editorNoneRow.laid W) (hS:W.ShapedOpen Tryz.prog):lf W.heap:=by
  rw[MakeChecks.laidMetH_plain _ _ _ (by kernel_rfl)] at hL;obtain⟨g2,t2,cs2,f2,p2,hg2,KV,hv2,hd2⟩:=Lib.laidMet.reads hL (n:= "internal/strconv.uint64pow10") (.tail _ (.tail _ (.head _)));have h3:=Lib.laidMet.reads hL (n:= "unicode/utf8.acceptRanges") (.tail _ (.tail _ (.tail _ (.head _))));obtain⟨g4,t4,cs4,f4,p4,hg4,ht4,hv4,hd4⟩:=Lib.laidMet.reads hL (n:= "limner/regs.signs") (.tail _ (.tail _ (.tail _ (.tail _ (.head _)))));have h5:=Lib.laidMet.reads hL (n:= "limner/rules.table") (.tail _ (.tail _ (.tail _ (.tail _ (.tail _ (.head _))))));have h6:=Lib.laidMet.reads hL (n:= "unicode/utf8.first") (.tail _ (.tail _ (.tail _ (.tail _ (.tail _ (.tail _ (.head _)))))));have h6':Lib.VarReads Tryz.prog W "unicode/utf8.first" Lib.firstData:=by rw[<-Jr];exact h6
  rw[Dm] at h3;rw[DR] at h5
  exact⟨⟨_,Nat.le_refl _,Il hg4 ht4 hv4 hd4⟩,Kv hg2 KV hv2 hd2,Iq h5,HS h6' h3,
    Bf (t:=3) (k:=.i64) (zero:= #[.int .i64 0]) hS (by decide +kernel) (by kernel_rfl) rfl (by kernel_rfl) (by kernel_rfl) underlying3⟩
noncomputable def I0 (os:Os):World:=(World.doorLaid Tryz.prog 4000 os).layVars Tryz.prog (Rows.editorNoneRow.laid.filter fun x=>["unicode/utf8.first"].contains x.1)
theorem KM (os:Os):(I0 os).os=os:=by unfold I0;rw[World.layVars_os];rfl
noncomputable def lexB (os:Os):List Nat:=(List.range (World.doorLaid Tryz.prog 4000 os).heap.size).filter fun x=>x !=2
theorem KL (os:Os) (args:Array Value):laidMetH Tryz.prog Rows.editorNoneRow.laid ((I0 os).forCall (fun _ _=>0) ⟨#[],args,[]⟩).memory:=by
  rw[MakeChecks.laidMetH_plain _ _ _ (by kernel_rfl)]
  have h:laidMet Tryz.prog Rows.editorNoneRow.laid (I0 os) :=
    laidMet_layVars (w0:=World.doorLaid Tryz.prog 4000 os) ["unicode/utf8.first"] (lexB os) rfl (by kernel_rfl) (by kernel_rfl)
      (LaidIn.of_run (lexB os) 8 (by kernel_rfl) (by kernel_rfl) (by kernel_rfl) (by kernel_rfl))
  exact h.of_heap (by simp[World.memory,World.forCall,Input.heap])
end
end Go.Proofs.YtpjgdgdnbkjoiaaGreatDoor

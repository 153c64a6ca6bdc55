/- What the proof of the statement leans on (part 30). -/
import Derived.Lib.LaidU8
import Derived.Deep.Fields
import Derived.Test.YtiigijehmmcfgaaGreatDoorQzc

namespace Go.Proofs.YtiigijehmmcfgaaGreatDoor
open Go.Proofs.Tryz
open Go Go.Lw Go.ChangeShapes Go.WideShapes Go.ChangeAt Go.RowKit
set_option maxRecDepth 100000
section
variable {W:World}
theorem Fl:Go.Pinned.utf8First=Lib.firstData:=by kernel_rfl
theorem AK:(Rows.laid_limner_rules_table:DataW Unit)= .agg [.slice ((n7 0).map ij) [],.slice ((n7 1).map ij) [],.slice ((n7 2).map ij) []]:=by kernel_rfl
theorem As:(Rows.laid_unicode_utf8_acceptRanges:DataW Unit)=Lib.acceptData:=by kernel_rfl
theorem Ef (h3:Lib.VarReads Tryz.prog W "unicode/utf8.first" Lib.firstData) (h4:Lib.VarReads Tryz.prog W "unicode/utf8.acceptRanges" Lib.acceptData):HM W.heap:=by
 refine⟨fun c hc=>?_,fun i hi=>?_⟩
 · obtain⟨g,t,cs,fuel,p,hg,hty,hvar,hd⟩:=h3;obtain rfl:=Option.some.inj ((show Tryz.prog.globalNamed "unicode/utf8.first" =some 0 by kernel_rfl).symm.trans hg);obtain rfl:=Option.some.inj ((show (Tryz.prog.globals[0]?).map (·.type)=some 57 by kernel_rfl).symm.trans hty);have hcs:=Lib.cells_of_tab underlying57 underlying5 (by kernel_rfl) (by kernel_rfl) hd;have:=World.var?_cell hg hvar c;rw[<-cU,this,<-Array.getElem?_toList,hcs];simp[Lib.firstTab,hc]
 · obtain⟨g,t,cs,fuel,p,hg,hty,hvar,hd⟩:=h4;obtain rfl:=Option.some.inj ((show Tryz.prog.globalNamed "unicode/utf8.acceptRanges" =some 1 by kernel_rfl).symm.trans hg);obtain rfl:=Option.some.inj ((show (Tryz.prog.globals[1]?).map (·.type)=some 60 by kernel_rfl).symm.trans hty);obtain⟨fuel',d,q,hdi,he⟩:=Lib.array_elem underlying60 hd i hi;simp only[List.getElem?_map,List.getElem?_range hi,Option.map_some,Option.some.injEq] at hdi;subst hdi;have c2:Tryz.prog.cellsOf 59=2:=by kernel_rfl
   have c1:Tryz.prog.cellsOf 5=1:=by kernel_rfl
   rw[c2] at he
   have hcs:=Lib.ints_of_struct underlying59 (fun j f hj=>by
    match j,hj with
    | 0,hj=>simp at hj;subst hj;exact⟨underlying5,rfl,c1⟩
    | 1,hj=>simp at hj;subst hj;exact⟨underlying5,rfl,c1⟩
    |j+2,hj=>simp at hj) (by rw[c2];rfl) he
   have e0:=congrArg (·[0]?) hcs;have e1:=congrArg (·[1]?) hcs;simp only[List.getElem?_take,List.getElem?_drop] at e0 e1;constructor
   · rw[<-cU,World.var?_cell hg hvar (2*i),<-Array.getElem?_toList];simpa [Nat.mul_comm] using e0
   · rw[<-cU,World.var?_cell hg hvar (2*i+1),<-Array.getElem?_toList];simpa [Nat.mul_comm] using e1
theorem Ey (h:Lib.VarReads Tryz.prog W "limner/rules.table" (.agg [.slice ((n7 0).map ij) [],.slice ((n7 1).map ij) [],.slice ((n7 2).map ij) []])):lD W.heap:=by
 intro m hm;obtain⟨g,t,cs,fuel,p,hg,hty,hvar,hd⟩:=h;obtain rfl:=Option.some.inj ((show Tryz.prog.globalNamed "limner/rules.table" =some 3 by kernel_rfl).symm.trans hg);obtain rfl:=Option.some.inj ((show (Tryz.prog.globals[3]?).map (·.type)=some 156 by kernel_rfl).symm.trans hty);obtain⟨fuel',d,q,hdi,he⟩:=Lib.array_elem underlying156 hd m hm
 have hdm:d= .slice ((n7 m).map ij) []:=by
  match m,hm with
  | 0,_=>exact(Option.some.inj hdi).symm
  | 1,_=>exact(Option.some.inj hdi).symm
  | 2,_=>exact(Option.some.inj hdi).symm
 subst hdm;have c1:Tryz.prog.cellsOf 153=1:=by kernel_rfl
 rw[c1] at he;obtain⟨v,hv,hs⟩:=Ds underlying153 underlying155 (by kernel_rfl) rfl rfl rfl underlying9 underlying3 underlying3 (by kernel_rfl) (by kernel_rfl) (by kernel_rfl) he;refine⟨v,?_,hs⟩;have e0:=congrArg (·[0]?) hv;simp only[List.getElem?_take,List.getElem?_drop] at e0;rw[<-cU,World.var?_cell hg hvar m,<-Array.getElem?_toList];simpa using e0
theorem EY (hL:laidMetH Tryz.prog Rows.modelBoundsRow.laid W) (hS:W.ShapedOpen Tryz.prog):jb W.heap:=by
 rw[MakeChecks.laidMetH_plain _ _ _ (by kernel_rfl)] at hL;obtain⟨g2,t2,cs2,f2,p2,hg2,Gw,hv2,hd2⟩:=Lib.laidMet.reads hL (n:= "internal/strconv.uint64pow10") (.tail _ (.tail _ (.head _)));have h3:=Lib.laidMet.reads hL (n:= "unicode/utf8.acceptRanges") (.tail _ (.tail _ (.tail _ (.head _))));obtain⟨g4,t4,cs4,f4,p4,hg4,ht4,hv4,hd4⟩:=Lib.laidMet.reads hL (n:= "limner/regs.signs") (.tail _ (.tail _ (.tail _ (.tail _ (.head _)))));have h5:=Lib.laidMet.reads hL (n:= "limner/rules.table") (.tail _ (.tail _ (.tail _ (.tail _ (.tail _ (.head _))))));have h6:=Lib.laidMet.reads hL (n:= "unicode/utf8.first") (.tail _ (.tail _ (.tail _ (.tail _ (.tail _ (.tail _ (.head _)))))));have h6':Lib.VarReads Tryz.prog W "unicode/utf8.first" Lib.firstData:=by rw[<-Fl];exact h6
 rw[As] at h3;rw[AK] at h5
 exact⟨⟨_,Nat.le_refl _,Ev hg4 ht4 hv4 hd4⟩,F9 hg2 Gw hv2 hd2,Ey h5,Ef h6' h3,
  xN (t:=3) (k:=.i64) (zero:= #[.int .i64 0]) hS (by decide +kernel) (by kernel_rfl) rfl (by kernel_rfl) (by kernel_rfl) underlying3⟩
noncomputable def EZ (os:Os):World:=(World.doorLaid Tryz.prog 4000 os).layVars Tryz.prog (Rows.modelBoundsRow.laid.filter fun x=>["unicode/utf8.first"].contains x.1)
theorem Gn (os:Os):(EZ os).os=os:=by unfold EZ;rw[World.layVars_os];rfl
noncomputable def lexB (os:Os):List Nat:=(List.range (World.doorLaid Tryz.prog 4000 os).heap.size).filter fun x=>x !=0
theorem Gm (os:Os) (args:Array Value):laidMetH Tryz.prog Rows.modelBoundsRow.laid ((EZ os).forCall (fun _ _=>0) ⟨#[],args,[]⟩).memory:=by
 rw[MakeChecks.laidMetH_plain _ _ _ (by kernel_rfl)]
 have h:laidMet Tryz.prog Rows.modelBoundsRow.laid (EZ os) :=
  laidMet_layVars (w0:=World.doorLaid Tryz.prog 4000 os) ["unicode/utf8.first"] (lexB os) rfl (by kernel_rfl) (by kernel_rfl)
   (LaidIn.of_run (lexB os) 8 (by kernel_rfl) (by kernel_rfl) (by kernel_rfl) (by kernel_rfl))
 exact h.of_heap (by simp[World.memory,World.forCall,Input.heap])
end
end Go.Proofs.YtiigijehmmcfgaaGreatDoor

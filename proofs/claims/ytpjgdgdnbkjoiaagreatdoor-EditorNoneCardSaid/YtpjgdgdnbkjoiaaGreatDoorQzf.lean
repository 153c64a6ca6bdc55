/- What the proof of the statement leans on (part 32). -/
import Derived.Lib.LaidU8
import Derived.Deep.Fields
import Derived.Test.YtpjgdgdnbkjoiaaGreatDoorQze

namespace Go.Proofs.YtpjgdgdnbkjoiaaGreatDoor
open Go.Proofs.Tryz
open Go Go.Lw Go.ChangeShapes Go.WideShapes Go.ChangeAt Go.RowKit
set_option maxRecDepth 100000
section
variable {W:World}
theorem Ji:Go.Pinned.utf8First=Lib.firstData:=by kernel_rfl
theorem DE:(Rows.laid_limner_rules_table:DataW Unit)= .agg [.slice ((qp 0).map iK) [],.slice ((qp 1).map iK) [],.slice ((qp 2).map iK) []]:=by kernel_rfl
theorem Db:(Rows.laid_unicode_utf8_acceptRanges:DataW Unit)=Lib.acceptData:=by kernel_rfl
theorem HN (h3:Lib.VarReads Tryz.prog W "unicode/utf8.first" Lib.firstData) (h4:Lib.VarReads Tryz.prog W "unicode/utf8.acceptRanges" Lib.acceptData):L4 W.heap:=by
  refine⟨fun c hc=>?_,fun i hi=>?_⟩
  · obtain⟨g,t,cs,fuel,p,hg,hty,hvar,hd⟩:=h3;obtain rfl:=Option.some.inj ((show Tryz.prog.globalNamed "unicode/utf8.first" =some 2 by kernel_rfl).symm.trans hg);obtain rfl:=Option.some.inj ((show (Tryz.prog.globals[2]?).map (·.type)=some 268 by kernel_rfl).symm.trans hty);have hcs:=Lib.cells_of_tab underlying268 underlying5 (by kernel_rfl) (by kernel_rfl) hd;have:=World.var?_cell hg hvar c;rw[<-cE,this,<-Array.getElem?_toList,hcs];simp[Lib.firstTab,hc]
  · obtain⟨g,t,cs,fuel,p,hg,hty,hvar,hd⟩:=h4;obtain rfl:=Option.some.inj ((show Tryz.prog.globalNamed "unicode/utf8.acceptRanges" =some 3 by kernel_rfl).symm.trans hg);obtain rfl:=Option.some.inj ((show (Tryz.prog.globals[3]?).map (·.type)=some 271 by kernel_rfl).symm.trans hty);obtain⟨fuel',d,q,hdi,he⟩:=Lib.array_elem underlying271 hd i hi;simp only[List.getElem?_map,List.getElem?_range hi,Option.map_some,Option.some.injEq] at hdi;subst hdi;have c2:Tryz.prog.cellsOf 270=2:=by kernel_rfl
    have c1:Tryz.prog.cellsOf 5=1:=by kernel_rfl
    rw[c2] at he
    have hcs:=Lib.ints_of_struct underlying270 (fun j f hj=>by
      match j,hj with
      | 0,hj=>simp at hj;subst hj;exact⟨underlying5,rfl,c1⟩
      | 1,hj=>simp at hj;subst hj;exact⟨underlying5,rfl,c1⟩
      |j+2,hj=>simp at hj) (by rw[c2];rfl) he
    have e0:=congrArg (·[0]?) hcs;have e1:=congrArg (·[1]?) hcs;simp only[List.getElem?_take,List.getElem?_drop] at e0 e1;constructor
    · rw[<-cE,World.var?_cell hg hvar (2*i),<-Array.getElem?_toList];simpa [Nat.mul_comm] using e0
    · rw[<-cE,World.var?_cell hg hvar (2*i+1),<-Array.getElem?_toList];simpa [Nat.mul_comm] using e1
theorem Im (h:Lib.VarReads Tryz.prog W "limner/rules.table" (.agg [.slice ((qp 0).map iK) [],.slice ((qp 1).map iK) [],.slice ((qp 2).map iK) []])):ko W.heap:=by
  intro m hm;obtain⟨g,t,cs,fuel,p,hg,hty,hvar,hd⟩:=h;obtain rfl:=Option.some.inj ((show Tryz.prog.globalNamed "limner/rules.table" =some 0 by kernel_rfl).symm.trans hg);obtain rfl:=Option.some.inj ((show (Tryz.prog.globals[0]?).map (·.type)=some 163 by kernel_rfl).symm.trans hty);obtain⟨fuel',d,q,hdi,he⟩:=Lib.array_elem underlying163 hd m hm
  have hdm:d= .slice ((qp m).map iK) []:=by
    match m,hm with
    | 0,_=>exact(Option.some.inj hdi).symm
    | 1,_=>exact(Option.some.inj hdi).symm
    | 2,_=>exact(Option.some.inj hdi).symm
  subst hdm;have c1:Tryz.prog.cellsOf 160=1:=by kernel_rfl
  rw[c1] at he;obtain⟨v,hv,hs⟩:=GL underlying160 underlying162 (by kernel_rfl) rfl rfl rfl underlying9 underlying3 underlying3 (by kernel_rfl) (by kernel_rfl) (by kernel_rfl) he;refine⟨v,?_,hs⟩;have e0:=congrArg (·[0]?) hv;simp only[List.getElem?_take,List.getElem?_drop] at e0;rw[<-cE,World.var?_cell hg hvar m,<-Array.getElem?_toList];simpa using e0
theorem IU (hL:laidMetH Tryz.prog Rows.editorNoneRow.laid W) (hS:W.ShapedOpen Tryz.prog):kF W.heap:=by
  rw[MakeChecks.laidMetH_plain _ _ _ (by kernel_rfl)] at hL;obtain⟨g2,t2,cs2,f2,p2,hg2,KM,hv2,hd2⟩:=Lib.laidMet.reads hL (n:= "internal/strconv.uint64pow10") (.tail _ (.tail _ (.head _)));have h3:=Lib.laidMet.reads hL (n:= "unicode/utf8.acceptRanges") (.tail _ (.tail _ (.tail _ (.head _))));obtain⟨g4,t4,cs4,f4,p4,hg4,ht4,hv4,hd4⟩:=Lib.laidMet.reads hL (n:= "limner/regs.signs") (.tail _ (.tail _ (.tail _ (.tail _ (.head _)))));have h5:=Lib.laidMet.reads hL (n:= "limner/rules.table") (.tail _ (.tail _ (.tail _ (.tail _ (.tail _ (.head _))))));have h6:=Lib.laidMet.reads hL (n:= "unicode/utf8.first") (.tail _ (.tail _ (.tail _ (.tail _ (.tail _ (.tail _ (.head _)))))));have h6':Lib.VarReads Tryz.prog W "unicode/utf8.first" Lib.firstData:=by rw[<-Ji];exact h6
  rw[Db] at h3;rw[DE] at h5
  exact⟨⟨_,Nat.le_refl _,Ii hg4 ht4 hv4 hd4⟩,Km hg2 KM hv2 hd2,Im h5,HN h6' h3,
    AX (t:=3) (k:=.i64) (zero:= #[.int .i64 0]) hS (by decide +kernel) (by kernel_rfl) rfl (by kernel_rfl) (by kernel_rfl) underlying3⟩
noncomputable def IV (os:Os):World:=(World.doorLaid Tryz.prog 4000 os).layVars Tryz.prog (Rows.editorNoneRow.laid.filter fun x=>["unicode/utf8.first"].contains x.1)
theorem KD (os:Os):(IV os).os=os:=by unfold IV;rw[World.layVars_os];rfl
noncomputable def lexB (os:Os):List Nat:=(List.range (World.doorLaid Tryz.prog 4000 os).heap.size).filter fun x=>x !=2
theorem KC (os:Os) (args:Array Value):laidMetH Tryz.prog Rows.editorNoneRow.laid ((IV os).forCall (fun _ _=>0) ⟨#[],args,[]⟩).memory:=by
  rw[MakeChecks.laidMetH_plain _ _ _ (by kernel_rfl)]
  have h:laidMet Tryz.prog Rows.editorNoneRow.laid (IV os) :=
    laidMet_layVars (w0:=World.doorLaid Tryz.prog 4000 os) ["unicode/utf8.first"] (lexB os) rfl (by kernel_rfl) (by kernel_rfl)
      (LaidIn.of_run (lexB os) 8 (by kernel_rfl) (by kernel_rfl) (by kernel_rfl) (by kernel_rfl))
  exact h.of_heap (by simp[World.memory,World.forCall,Input.heap])
abbrev Nc:=Bool×Cm×Int×Int×By
def Jp (a:Nc):List Value:=[.bool a.1,.int .i64 a.2.1.kind,.int .i64 a.2.1.way,.int .i64 a.2.1.n,.string (bs a.2.1.text),.bool a.2.1.incl,.int .i64 a.2.2.1,.int .i32 a.2.2.2.1,.string (bs a.2.2.2.2)]
theorem GZ:Tryz.prog.underlying 28=some (.struct (Tryz.prog.fieldsOf 28)):=by kernel_rfl
theorem GY:Tryz.prog.underlying 35=some (.struct (Tryz.prog.fieldsOf 35)):=by kernel_rfl
theorem Jm:Tryz.prog.underlying 37=some (.struct (Tryz.prog.fieldsOf 37)):=by kernel_rfl
theorem MO {H:Type}{enc:TypeId×Value->H}{sp:Nat->Bool}{held:Bool}{cs:List Value}{n:Nat}(hl:cs.length=9)
 (hf:∀(i:Nat) (f:Field),(Tryz.prog.fieldsOf 37)[i]? =some f->∃z,DataW.trod enc Tryz.prog W 0 sp held n f.type ((cs.drop f.offset).take (Tryz.prog.cellsOf f.type))=some z):∃a:Nc,cs=Jp a:=by
 match cs,hl with
 | [c0,c1,c2,c3,c4,c5,c6,c7,c8],_ =>
  have qb:Tryz.prog.cellsOf 4=1:=by kernel_rfl
  have q32:Tryz.prog.cellsOf 21=1:=by kernel_rfl
  have q64:Tryz.prog.cellsOf 3=1:=by kernel_rfl
  have qs:Tryz.prog.cellsOf 9=1:=by kernel_rfl
  have qk:Tryz.prog.cellsOf 35=3:=by kernel_rfl
  have qc:Tryz.prog.cellsOf 28=5:=by kernel_rfl
  obtain⟨y0,h0⟩:=hf 0 _ rfl;obtain⟨y1,h1⟩:=hf 1 _ rfl;obtain⟨y2,h2⟩:=hf 2 _ rfl;have h0:DataW.trod enc Tryz.prog W 0 sp held n 4 [c0]=some y0:=h0;have h1:DataW.trod enc Tryz.prog W 0 sp held n 28 [c1,c2,c3,c4,c5]=some y1:=h1;have h2:DataW.trod enc Tryz.prog W 0 sp held n 35 [c6,c7,c8]=some y2:=h2;obtain⟨k,hk⟩:=nA GZ h1;obtain⟨z1,g1⟩:=hk 0 _ rfl;obtain⟨z2,g2⟩:=hk 1 _ rfl;obtain⟨z3,g3⟩:=hk 2 _ rfl;obtain⟨z4,g4⟩:=hk 3 _ rfl;obtain⟨z5,g5⟩:=hk 4 _ rfl;obtain⟨m,hm⟩:=nA GY h2;obtain⟨z6,g6⟩:=hm 0 _ rfl;obtain⟨z7,g7⟩:=hm 1 _ rfl;obtain⟨z8,g8⟩:=hm 2 _ rfl;obtain⟨n0,e0,_⟩:=DataW.trod_bool underlying4 h0;obtain⟨n1,e1,_,_⟩:=DataW.trod_int underlying3 (show DataW.trod enc Tryz.prog W 0 sp held k 3 [c1]=some z1 from g1);obtain⟨n2,e2,_,_⟩:=DataW.trod_int underlying3 (show DataW.trod enc Tryz.prog W 0 sp held k 3 [c2]=some z2 from g2);obtain⟨n3,e3,_,_⟩:=DataW.trod_int underlying3 (show DataW.trod enc Tryz.prog W 0 sp held k 3 [c3]=some z3 from g3);obtain⟨n4,e4,_,_⟩:=DataW.trod_string underlying9 (show DataW.trod enc Tryz.prog W 0 sp held k 9 [c4]=some z4 from g4);obtain⟨n5,e5,_⟩:=DataW.trod_bool underlying4 (show DataW.trod enc Tryz.prog W 0 sp held k 4 [c5]=some z5 from g5);obtain⟨n6,e6,_,_⟩:=DataW.trod_int underlying3 (show DataW.trod enc Tryz.prog W 0 sp held m 3 [c6]=some z6 from g6);obtain⟨n7,e7,_,_⟩:=DataW.trod_int underlying21 (show DataW.trod enc Tryz.prog W 0 sp held m 21 [c7]=some z7 from g7);obtain⟨n8,e8,_,_⟩:=DataW.trod_string underlying9 (show DataW.trod enc Tryz.prog W 0 sp held m 9 [c8]=some z8 from g8);simp at e0 e1 e2 e3 e4 e5 e6 e7 e8;subst e0 e1 e2 e3 e4 e5 e6 e7 e8;exact⟨(n0,⟨n1,n2,n3,n4.data.toList,n5⟩,n6,n7,n8.data.toList),by simp[Jp,Oy]⟩
theorem Gq {H:Type}{enc:TypeId×Value->H}{base:Nat}{v:Value}{d:DataW H}{p:List MemPlace}{sp:Nat->Bool}{held:Bool}(hv:Value.okWide Tryz.prog W .any base 37 v) (h:DataW.Trod enc Tryz.prog W 0 sp held 37 v d p):∃a:Nc,v= .agg (Jp a).toArray:=by
 obtain⟨cs,n,rfl,hs,hf⟩:=Gr Jm hv h;have hs:cs.size=9:=hs;obtain⟨a,ha⟩:=MO (cs:=cs.toList) (by simpa using hs) hf;exact⟨a,by rw[<-ha]⟩
end
end Go.Proofs.YtpjgdgdnbkjoiaaGreatDoor

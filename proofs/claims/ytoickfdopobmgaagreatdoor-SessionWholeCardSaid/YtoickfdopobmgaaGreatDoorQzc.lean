/- What the proof of the statement leans on (part 29). -/
import Derived.Lib.LaidU8
import Derived.Test.YtoickfdopobmgaaGreatDoorQzb

namespace Go.Proofs.YtoickfdopobmgaaGreatDoor
open Go.Proofs.Tryz
open Go Go.Lw Go.ChangeShapes Go.WideShapes Go.ChangeAt Go.RowKit
set_option maxRecDepth 100000
section
variable {W:World}
theorem JD:Go.Pinned.utf8First=Lib.firstData:=by kernel_rfl
theorem DM:(Rows.laid_limner_rules_table:DataW Unit)= .agg [.slice ((pT 0).map iJ) [],.slice ((pT 1).map iJ) [],.slice ((pT 2).map iJ) []]:=by kernel_rfl
theorem Dh:(Rows.laid_unicode_utf8_acceptRanges:DataW Unit)=Lib.acceptData:=by kernel_rfl
theorem HK (h3:Lib.VarReads Tryz.prog W "unicode/utf8.first" Lib.firstData) (h4:Lib.VarReads Tryz.prog W "unicode/utf8.acceptRanges" Lib.acceptData):Mh W.heap:=by
  refine⟨fun c hc=>?_,fun i hi=>?_⟩
  · obtain⟨g,t,cs,fuel,p,hg,hty,hvar,hd⟩:=h3;obtain rfl:=Option.some.inj ((show Tryz.prog.globalNamed "unicode/utf8.first" =some 6 by kernel_rfl).symm.trans hg);obtain rfl:=Option.some.inj ((show (Tryz.prog.globals[6]?).map (·.type)=some 256 by kernel_rfl).symm.trans hty);have hcs:=Lib.cells_of_tab underlying256 underlying5 (by kernel_rfl) (by kernel_rfl) hd;have:=World.var?_cell hg hvar c;rw[<-cU,this,<-Array.getElem?_toList,hcs];simp[Lib.firstTab,hc]
  · obtain⟨g,t,cs,fuel,p,hg,hty,hvar,hd⟩:=h4;obtain rfl:=Option.some.inj ((show Tryz.prog.globalNamed "unicode/utf8.acceptRanges" =some 7 by kernel_rfl).symm.trans hg);obtain rfl:=Option.some.inj ((show (Tryz.prog.globals[7]?).map (·.type)=some 259 by kernel_rfl).symm.trans hty);obtain⟨fuel',d,q,hdi,he⟩:=Lib.array_elem underlying259 hd i hi;simp only[List.getElem?_map,List.getElem?_range hi,Option.map_some,Option.some.injEq] at hdi;subst hdi;have c2:Tryz.prog.cellsOf 258=2:=by kernel_rfl
    have c1:Tryz.prog.cellsOf 5=1:=by kernel_rfl
    rw[c2] at he
    have hcs:=Lib.ints_of_struct underlying258 (fun j f hj=>by
      match j,hj with
      | 0,hj=>simp at hj;subst hj;exact⟨underlying5,rfl,c1⟩
      | 1,hj=>simp at hj;subst hj;exact⟨underlying5,rfl,c1⟩
      |j+2,hj=>simp at hj) (by rw[c2];rfl) he
    have e0:=congrArg (·[0]?) hcs;have e1:=congrArg (·[1]?) hcs;simp only[List.getElem?_take,List.getElem?_drop] at e0 e1;constructor
    · rw[<-cU,World.var?_cell hg hvar (2*i),<-Array.getElem?_toList];simpa [Nat.mul_comm] using e0
    · rw[<-cU,World.var?_cell hg hvar (2*i+1),<-Array.getElem?_toList];simpa [Nat.mul_comm] using e1
theorem Iv (h:Lib.VarReads Tryz.prog W "limner/rules.table" (.agg [.slice ((pT 0).map iJ) [],.slice ((pT 1).map iJ) [],.slice ((pT 2).map iJ) []])):mZ W.heap:=by
  intro m hm;obtain⟨g,t,cs,fuel,p,hg,hty,hvar,hd⟩:=h;obtain rfl:=Option.some.inj ((show Tryz.prog.globalNamed "limner/rules.table" =some 0 by kernel_rfl).symm.trans hg);obtain rfl:=Option.some.inj ((show (Tryz.prog.globals[0]?).map (·.type)=some 139 by kernel_rfl).symm.trans hty);obtain⟨fuel',d,q,hdi,he⟩:=Lib.array_elem underlying139 hd m hm
  have hdm:d= .slice ((pT m).map iJ) []:=by
    match m,hm with
    | 0,_=>exact(Option.some.inj hdi).symm
    | 1,_=>exact(Option.some.inj hdi).symm
    | 2,_=>exact(Option.some.inj hdi).symm
  subst hdm;have c1:Tryz.prog.cellsOf 136=1:=by kernel_rfl
  rw[c1] at he;obtain⟨v,hv,hs⟩:=GX underlying136 underlying138 (by kernel_rfl) rfl rfl rfl underlying9 underlying3 underlying3 (by kernel_rfl) (by kernel_rfl) (by kernel_rfl) he;refine⟨v,?_,hs⟩;have e0:=congrArg (·[0]?) hv;simp only[List.getElem?_take,List.getElem?_drop] at e0;rw[<-cU,World.var?_cell hg hvar m,<-Array.getElem?_toList];simpa using e0
theorem CD (hL:laidMetH Tryz.prog Rows.sessionWholeRow.laid W) (hS:W.ShapedOpen Tryz.prog):Dx W.heap:=by
  rw[MakeChecks.laidMetH_plain _ _ _ (by kernel_rfl)] at hL;obtain⟨g2,t2,cs2,f2,p2,hg2,ht2,hv2,hd2⟩:=Lib.laidMet.reads hL (n:= "internal/strconv.uint64pow10") (.tail _ (.tail _ (.head _)));have h3:=Lib.laidMet.reads hL (n:= "unicode/utf8.acceptRanges") (.tail _ (.tail _ (.tail _ (.head _))));obtain⟨g4,t4,cs4,f4,p4,hg4,ht4,hv4,hd4⟩:=Lib.laidMet.reads hL (n:= "limner/regs.signs") (.tail _ (.tail _ (.tail _ (.tail _ (.tail _ (.tail _ (.head _)))))));have h5:=Lib.laidMet.reads hL (n:= "limner/rules.table") (.tail _ (.tail _ (.tail _ (.tail _ (.tail _ (.tail _ (.tail _ (.head _))))))));have h6:=Lib.laidMet.reads hL (n:= "unicode/utf8.first") (.tail _ (.tail _ (.tail _ (.tail _ (.tail _ (.tail _ (.tail _ (.tail _ (.tail _ (.tail _ (.tail _ (.head _))))))))))));have h6':Lib.VarReads Tryz.prog W "unicode/utf8.first" Lib.firstData:=by rw[<-JD];exact h6
  rw[Dh] at h3;rw[DM] at h5
  exact⟨⟨_,Nat.le_refl _,Im hg4 ht4 hv4 hd4⟩,KC hg2 ht2 hv2 hd2,Iv h5,HK h6' h3,
    AX (t:=3) (k:=.i64) (zero:= #[.int .i64 0]) hS (by decide +kernel) (by kernel_rfl) rfl (by kernel_rfl) (by kernel_rfl) underlying3⟩
noncomputable def Ja (os:Os):World:=(World.doorLaid Tryz.prog 4000 os).layVars Tryz.prog (Rows.sessionWholeRow.laid.filter fun x=>["unicode/utf8.first"].contains x.1)
theorem KT (os:Os):(Ja os).os=os:=by unfold Ja;rw[World.layVars_os];rfl
noncomputable def lexB (os:Os):List Nat:=(List.range (World.doorLaid Tryz.prog 4000 os).heap.size).filter fun x=>x !=6
theorem KS (os:Os) (args:Array Value):laidMetH Tryz.prog Rows.sessionWholeRow.laid ((Ja os).forCall (fun _ _=>0) ⟨#[],args,[]⟩).memory:=by
  rw[MakeChecks.laidMetH_plain _ _ _ (by kernel_rfl)]
  have h:laidMet Tryz.prog Rows.sessionWholeRow.laid (Ja os) :=
    laidMet_layVars (w0:=World.doorLaid Tryz.prog 4000 os) ["unicode/utf8.first"] (lexB os) rfl (by kernel_rfl) (by kernel_rfl)
      (LaidIn.of_run (lexB os) 8 (by kernel_rfl) (by kernel_rfl) (by kernel_rfl) (by kernel_rfl))
  exact h.of_heap (by simp[World.memory,World.forCall,Input.heap])
theorem JM:(Rows.laid_limner_exprs_escapes:DataW Unit)= .agg (iX.map fun p=>.agg [.lit (.int .u8 p.1.toNat),.lit (.int .u8 p.2.toNat)]):=by kernel_rfl
theorem HN:(Rows.laid_limner_exprs_unaries:DataW Unit)= .slice (HM.map fun s=>.lit (.string s)) []:=by kernel_rfl
theorem J1:(Rows.laid_limner_exprs_binaries:DataW Unit)= .slice (JZ.map fun s=>.lit (.string s)) []:=by kernel_rfl
theorem M1 (h:Lib.VarReads Tryz.prog W "limner/exprs.escapes" (.agg (iX.map fun p=>.agg [.lit (.int .u8 p.1.toNat),.lit (.int .u8 p.2.toNat)]))):oF W.heap:=by
  obtain⟨g,t,cs,fuel,p,hg,hty,hvar,hd⟩:=h;obtain rfl:=Option.some.inj ((show Tryz.prog.globalNamed "limner/exprs.escapes" =some 1 by kernel_rfl).symm.trans hg);obtain rfl:=Option.some.inj ((show (Tryz.prog.globals[1]?).map (·.type)=some 210 by kernel_rfl).symm.trans hty);have c2:Tryz.prog.cellsOf 209=2:=by kernel_rfl
  have c1:Tryz.prog.cellsOf 5=1:=by kernel_rfl
  have key:∀i j,i<6->j<2->cs.toList[i*2+j]? =M4[i*2+j]? :=by
    intro i j hi hj;obtain⟨f1,d,q,hdi,he⟩:=Lib.array_elem underlying210 hd i hi;rw[List.getElem?_map,List.getElem?_eq_getElem (show i<iX.length from hi)] at hdi;have hdi:d= .agg [.lit (.int .u8 iX[i].1.toNat),.lit (.int .u8 iX[i].2.toNat)]:=(Option.some.inj hdi).symm;subst hdi;rw[c2] at he;obtain⟨f2,d2,q2,hdj,he2⟩:=Lib.array_elem underlying209 he j hj;rw[c1,Nat.mul_one] at he2
    have hv:((((cs.toList.drop (i*2)).take 2).drop j).take 1)=[if j=0 then .int .u8 iX[i].1.toNat else .int .u8 iX[i].2.toNat]:=by
      match j,hj with
      | 0,_=>have hdj:=Option.some.inj hdj;subst hdj;exact jo underlying5 (k':=.u8) he2
      | 1,_=>have hdj:=Option.some.inj hdj;subst hdj;exact jo underlying5 (k':=.u8) he2
    have e0:=congrArg (·[0]?) hv;simp only[List.getElem?_take,List.getElem?_drop] at e0
    have e1:cs.toList[i*2+j]? =some (if j=0 then .int .u8 iX[i].1.toNat else .int .u8 iX[i].2.toNat):=by
      match j,hj with
      | 0,_=>simpa using e0
      | 1,_=>simpa using e0
    rw[e1];have:=iy (sz:=2) (enc:=lX) (fun _=>rfl) iX i iX[i] j (if j=0 then .int .u8 iX[i].1.toNat else .int .u8 iX[i].2.toNat) (List.getElem?_eq_getElem hi) (by match j,hj with| 0,_=>rfl| 1,_=>rfl);exact this.symm
  intro n v hv;have hn:n<12:=(List.getElem?_eq_some_iff.1 hv).1;have hk:=key (n / 2) (n%2) (by omega) (by omega);rw[show n / 2*2+n%2=n by omega,hv] at hk;rw[Nat.zero_add,<-cU,World.var?_cell hg hvar n,<-Array.getElem?_toList,hk]
theorem Fc {n:String}{g:Nat}{L:List By}(hn:Tryz.prog.globalNamed n=some g) (ht:(Tryz.prog.globals[g]?).map (·.type)=some 22) (h:Lib.VarReads Tryz.prog W n (.slice (L.map fun s=>.lit (.string s)) [])):∃v,cellAt W.heap ⟨g,0,none⟩=some v/\aT oe W.heap (fun _=>False) v L:=by
  obtain⟨g',t,cs,fuel,p,hg,hty,hvar,hd⟩:=h;obtain rfl:=Option.some.inj (hn.symm.trans hg);obtain rfl:=Option.some.inj (ht.symm.trans hty);have c1:Tryz.prog.cellsOf 9=1:=by kernel_rfl
  obtain⟨v,hv,hs⟩:=GW underlying22 underlying9 c1 hd;refine⟨v,?_,hs⟩;rw[<-cU,World.var?_cell hg hvar 0,<-Array.getElem?_toList,hv];rfl
theorem K5 (hL:laidMetH Tryz.prog Rows.sessionWholeRow.laid W) (hS:W.ShapedOpen Tryz.prog):Hy W.heap:=by
  have hG:=CD hL hS;rw[MakeChecks.laidMetH_plain _ _ _ (by kernel_rfl)] at hL;have h6:=Lib.laidMet.reads hL (n:= "limner/exprs.escapes") (.tail _ (.tail _ (.tail _ (.tail _ (.tail _ (.tail _ (.tail _ (.tail _ (.head _)))))))));have h7:=Lib.laidMet.reads hL (n:= "limner/exprs.unaries") (.tail _ (.tail _ (.tail _ (.tail _ (.tail _ (.tail _ (.tail _ (.tail _ (.tail _ (.head _))))))))));have h8:=Lib.laidMet.reads hL (n:= "limner/exprs.binaries") (.tail _ (.tail _ (.tail _ (.tail _ (.tail _ (.tail _ (.tail _ (.tail _ (.tail _ (.tail _ (.head _)))))))))));rw[JM] at h6;rw[HN] at h7;rw[J1] at h8;exact⟨hG,M1 h6,Fc (by kernel_rfl) (by kernel_rfl) h7,Fc (by kernel_rfl) (by kernel_rfl) h8⟩
theorem FF {n:String}{g:Nat}{nm:String}{d:DataW Unit}(hn:Tryz.prog.globalNamed n=some g) (ht:(Tryz.prog.globals[g]?).map (·.type)=some 112) (h:Lib.VarReads Tryz.prog W n (.iface nm d)):Dq W.heap g:=by
  obtain⟨g',t,cs,fuel,p,hg,hty,hvar,hd⟩:=h;obtain rfl:=Option.some.inj (hn.symm.trans hg);obtain rfl:=Option.some.inj (ht.symm.trans hty);obtain⟨f1,u,v,e1,_,_⟩:=iface_of_trod underlying112 hd;obtain⟨l5⟩:=cs;simp only at e1;subst e1;simp only[World.var?,hg,Option.bind_some] at hvar;split at hvar
  · rename_i cs t' f' hc;cases hvar;exact⟨t',f',u,v,hc⟩
  · cases hvar
theorem HH (hL:laidMetH Tryz.prog Rows.sessionWholeRow.laid W) (hS:W.ShapedOpen Tryz.prog):E2 W.heap:=by
  have hG:=K5 hL hS;rw[MakeChecks.laidMetH_plain _ _ _ (by kernel_rfl)] at hL;have h4:=Lib.laidMet.reads hL (n:= "strconv.ErrRange") (.tail _ (.tail _ (.tail _ (.tail _ (.head _)))));have h5:=Lib.laidMet.reads hL (n:= "strconv.ErrSyntax") (.tail _ (.tail _ (.tail _ (.tail _ (.tail _ (.head _))))));exact⟨hG,FF (by kernel_rfl) (by kernel_rfl) h5,FF (by kernel_rfl) (by kernel_rfl) h4⟩
end
end Go.Proofs.YtoickfdopobmgaaGreatDoor

/- What the proof of the statement leans on (part 34). -/
import Derived.Lib.LaidU8
import Derived.Test.YtckomlgchbkekaaGreatDoorQzg

namespace Go.Proofs.YtckomlgchbkekaaGreatDoor
open Go.Proofs.Tryz
open Go Go.Lw Go.ChangeShapes Go.WideShapes Go.ChangeAt Go.RowKit
set_option maxRecDepth 100000
section
variable {W:World}{cs:List Value}{n:String}{g:Nat}
theorem He:Go.Pinned.utf8First=Lib.firstData:=by kernel_rfl
theorem B4:(Rows.laid_limner_rules_table:DataW Unit)= .agg [.slice ((rF 0).map gJ) [],.slice ((rF 1).map gJ) [],.slice ((rF 2).map gJ) []]:=by kernel_rfl
theorem BD:(Rows.laid_unicode_utf8_acceptRanges:DataW Unit)=Lib.acceptData:=by kernel_rfl
theorem FR (h3:Lib.VarReads Tryz.prog W "unicode/utf8.first" Lib.firstData) (h4:Lib.VarReads Tryz.prog W "unicode/utf8.acceptRanges" Lib.acceptData):Kx W.heap:=by
 refine⟨fun c hc=>?_,fun i hi=>?_⟩
 · obtain⟨g,t,cs,fuel,p,hg,hty,hvar,hd⟩:=h3;obtain rfl:=Option.some.inj ((show Tryz.prog.globalNamed "unicode/utf8.first" =some 9 by kernel_rfl).symm.trans hg);obtain rfl:=Option.some.inj ((show (Tryz.prog.globals[9]?).map (·.type)=some 377 by kernel_rfl).symm.trans hty);have hcs:=Lib.cells_of_tab underlying377 underlying5 (by kernel_rfl) (by kernel_rfl) hd;have:=World.var?_cell hg hvar c;rw[<-dm,this,<-Array.getElem?_toList,hcs];simp[Lib.firstTab,hc]
 · obtain⟨g,t,cs,fuel,p,hg,hty,hvar,hd⟩:=h4;obtain rfl:=Option.some.inj ((show Tryz.prog.globalNamed "unicode/utf8.acceptRanges" =some 10 by kernel_rfl).symm.trans hg);obtain rfl:=Option.some.inj ((show (Tryz.prog.globals[10]?).map (·.type)=some 380 by kernel_rfl).symm.trans hty);obtain⟨fuel',d,q,hdi,he⟩:=Lib.array_elem underlying380 hd i hi;simp only[List.getElem?_map,List.getElem?_range hi,Option.map_some,Option.some.injEq] at hdi;subst hdi;have c2:Tryz.prog.cellsOf 379=2:=by kernel_rfl
   have c1:Tryz.prog.cellsOf 5=1:=by kernel_rfl
   rw[c2] at he
   have hcs:=Lib.ints_of_struct underlying379 (fun j f hj=>by
    match j,hj with
    | 0,hj=>simp at hj;subst hj;exact⟨underlying5,rfl,c1⟩
    | 1,hj=>simp at hj;subst hj;exact⟨underlying5,rfl,c1⟩
    |j+2,hj=>simp at hj) (by rw[c2];rfl) he
   have e0:=congrArg (·[0]?) hcs;have e1:=congrArg (·[1]?) hcs;simp only[List.getElem?_take,List.getElem?_drop] at e0 e1;constructor
   · rw[<-dm,World.var?_cell hg hvar (2*i),<-Array.getElem?_toList];simpa [Nat.mul_comm] using e0
   · rw[<-dm,World.var?_cell hg hvar (2*i+1),<-Array.getElem?_toList];simpa [Nat.mul_comm] using e1
theorem Gf (h:Lib.VarReads Tryz.prog W "limner/rules.table" (.agg [.slice ((rF 0).map gJ) [],.slice ((rF 1).map gJ) [],.slice ((rF 2).map gJ) []])):kH W.heap:=by
 intro m hm;obtain⟨g,t,cs,fuel,p,hg,hty,hvar,hd⟩:=h;obtain rfl:=Option.some.inj ((show Tryz.prog.globalNamed "limner/rules.table" =some 6 by kernel_rfl).symm.trans hg);obtain rfl:=Option.some.inj ((show (Tryz.prog.globals[6]?).map (·.type)=some 331 by kernel_rfl).symm.trans hty);obtain⟨fuel',d,q,hdi,he⟩:=Lib.array_elem underlying331 hd m hm
 have hdm:d= .slice ((rF m).map gJ) []:=by
  match m,hm with
  | 0,_=>exact(Option.some.inj hdi).symm
  | 1,_=>exact(Option.some.inj hdi).symm
  | 2,_=>exact(Option.some.inj hdi).symm
 subst hdm;have c1:Tryz.prog.cellsOf 328=1:=by kernel_rfl
 rw[c1] at he;obtain⟨v,hv,hs⟩:=EW underlying328 underlying330 (by kernel_rfl) rfl rfl rfl underlying9 underlying3 underlying3 (by kernel_rfl) (by kernel_rfl) (by kernel_rfl) he;refine⟨v,?_,hs⟩;have e0:=congrArg (·[0]?) hv;simp only[List.getElem?_take,List.getElem?_drop] at e0;rw[<-dm,World.var?_cell hg hvar m,<-Array.getElem?_toList];simpa using e0
theorem oF {k:Nat}{v:Value}(h:(cs.drop k).take 1=[v]):cs[k]? =some v:=by
 have:=congrArg (·[0]?) h;simpa [List.getElem?_take,List.getElem?_drop] using this
section
variable {H:Type}{enc:TypeId×Value->H}{w:World}{base:Nat}{sp:Nat->Bool}{held:Bool}
theorem Es {fuel:Nat}{p:List MemPlace}
 (h:DataW.trod enc Tryz.prog w base sp held fuel 56 cs=some (.agg [.lit (.int .i64 0),.lit (.bool false),.lit (.bool false),.lit (.bool false)],p)) :
 cs=[.int .i64 0,.bool false,.bool false,.bool false]:=by
 obtain⟨xs,n,rfl,hx,hl,hxl,hall⟩:=DataW.trod_struct underlying56 h;rw[show Tryz.prog.cellsOf 56=4 by kernel_rfl] at hl
 have hx3:xs.map (·.1)=[.lit (.int .i64 0),.lit (.bool false),.lit (.bool false),.lit (.bool false)]:=by
  have:=congrArg Prod.fst hx;simpa using this.symm
 obtain⟨x0,x1,x2,x3,rfl⟩:∃x0 x1 x2 x3,xs=[x0,x1,x2,x3]:=by
  match xs,hx3 with
  | [x0,x1,x2,x3],_=>exact⟨x0,x1,x2,x3,rfl⟩
 simp only[List.map_cons,List.map_nil,List.cons.injEq,and_true] at hx3;obtain⟨e0,e1,e2,e3⟩:=hx3;have f0:=hall 0 _ rfl;have f1:=hall 1 _ rfl;have f2:=hall 2 _ rfl;have f3:=hall 3 _ rfl
 change DataW.trod _ _ _ _ _ _ _ 3 ((cs.drop 0).take (Tryz.prog.cellsOf 3))=some x0 at f0
 change DataW.trod _ _ _ _ _ _ _ 4 ((cs.drop 1).take (Tryz.prog.cellsOf 4))=some x1 at f1
 change DataW.trod _ _ _ _ _ _ _ 4 ((cs.drop 2).take (Tryz.prog.cellsOf 4))=some x2 at f2
 change DataW.trod _ _ _ _ _ _ _ 4 ((cs.drop 3).take (Tryz.prog.cellsOf 4))=some x3 at f3
 rw[show Tryz.prog.cellsOf 3=1 by kernel_rfl] at f0;rw[show Tryz.prog.cellsOf 4=1 by kernel_rfl] at f1 f2 f3
 have g0:cs[0]? =some (.int .i64 0):=by
  obtain⟨z,hz,hx',_⟩:=DataW.trod_int underlying3 f0;rw[hx'] at e0;cases e0;exact oF hz
 have gb:∀{k:Nat}{x:DataW H×List MemPlace},DataW.trod enc Tryz.prog w base sp held n 4 ((cs.drop k).take 1)=some x->x.1= .lit (.bool false)->cs[k]? =some (.bool false):=fun {k x} hf he=>by
  obtain⟨z,hz,hx'⟩:=DataW.trod_bool underlying4 hf;rw[hx'] at he;cases he;exact oF hz
 have g1:=gb f1 e1;have g2:=gb f2 e2;have g3:=gb f3 e3
 match cs,hl,g0,g1,g2,g3 with
 | [c0,c1,c2,c3],_,g0,g1,g2,g3 =>
  simp at g0 g1 g2 g3;subst g0 g1 g2 g3;rfl
theorem C4 {fuel:Nat}{p:List MemPlace}
 (h:DataW.trod enc Tryz.prog w base sp held fuel 58 cs=some (.agg [.lit (.int .i32 32),.lit (.int .i64 1),.agg [.lit (.int .i64 0),.lit (.bool false),.lit (.bool false),.lit (.bool false)]],p)):cs=kC 32:=by
 obtain⟨xs,n,rfl,hx,hl,hxl,hall⟩:=DataW.trod_struct underlying58 h;rw[show Tryz.prog.cellsOf 58=6 by kernel_rfl] at hl
 have hx3:xs.map (·.1)=[.lit (.int .i32 32),.lit (.int .i64 1),.agg [.lit (.int .i64 0),.lit (.bool false),.lit (.bool false),.lit (.bool false)]]:=by
  have:=congrArg Prod.fst hx;simpa using this.symm
 obtain⟨x0,x1,x2,rfl⟩:∃x0 x1 x2,xs=[x0,x1,x2]:=by
  match xs,hx3 with
  | [x0,x1,x2],_=>exact⟨x0,x1,x2,rfl⟩
 simp only[List.map_cons,List.map_nil,List.cons.injEq,and_true] at hx3;obtain⟨e0,e1,e2⟩:=hx3;have f0:=hall 0 _ rfl;have f1:=hall 1 _ rfl;have f2:=hall 2 _ rfl
 change DataW.trod _ _ _ _ _ _ _ 21 ((cs.drop 0).take (Tryz.prog.cellsOf 21))=some x0 at f0
 change DataW.trod _ _ _ _ _ _ _ 3 ((cs.drop 1).take (Tryz.prog.cellsOf 3))=some x1 at f1
 change DataW.trod _ _ _ _ _ _ _ 56 ((cs.drop 2).take (Tryz.prog.cellsOf 56))=some x2 at f2
 rw[show Tryz.prog.cellsOf 21=1 by kernel_rfl] at f0;rw[show Tryz.prog.cellsOf 3=1 by kernel_rfl] at f1;rw[show Tryz.prog.cellsOf 56=4 by kernel_rfl] at f2
 have g0:cs[0]? =some (.int .i32 32):=by
  obtain⟨z,hz,hx',_⟩:=DataW.trod_int underlying21 f0;rw[hx'] at e0;cases e0;exact oF hz
 have g1:cs[1]? =some (.int .i64 1):=by
  obtain⟨z,hz,hx',_⟩:=DataW.trod_int underlying3 f1;rw[hx'] at e1;cases e1;exact oF hz
 obtain⟨y2,q2⟩:=x2;simp only at e2;subst e2;have g2:=Es f2
 match cs,hl,g0,g1,g2 with
 | [c0,c1,c2,c3,c4,c5],_,g0,g1,g2 =>
  simp at g0 g1 g2;obtain⟨rfl,rfl,rfl,rfl⟩:=g2;subst g0 g1;rfl
end
theorem Iw {cs:Array Value}(hg:Tryz.prog.globalNamed n=some g) (hv:W.var? Tryz.prog n=some cs){L:List Value}(e:cs.toList=L):Lw.rowAt W.heap g 0 L:=by
 subst e;intro j v hj;rw[Nat.zero_add,<-dm,World.var?_cell hg hv j,<-Array.getElem?_toList];exact hj
theorem Bs (hn:Tryz.prog.globalNamed n=some g) (hy:(Tryz.prog.globals[g]?).map (·.type)=some 58) (h:Lib.VarReads Tryz.prog W n (.agg [.lit (.int .i32 32),.lit (.int .i64 1),.agg [.lit (.int .i64 0),.lit (.bool false),.lit (.bool false),.lit (.bool false)]])):Lw.rowAt W.heap g 0 (kC 32):=by
 obtain⟨g',t,cs,fuel,p,hg,hty,hvar,hd⟩:=h;obtain rfl:=Option.some.inj (hn.symm.trans hg);obtain rfl:=Option.some.inj (hy.symm.trans hty);exact Iw hg hvar (C4 hd)
def ID (L:List (Int×Int)):DataW Unit:=.agg (L.map fun x=>.agg [.lit (.int .i32 x.1),.lit (.int .i32 x.2)])
theorem DD {m:Nat}{t:TypeId}{L:List (Int×Int)}(hn:Tryz.prog.globalNamed n=some g) (hy:(Tryz.prog.globals[g]?).map (·.type)=some t) (hu:Tryz.prog.underlying t=some (.array m 299)) (hm:L.length=m) (h:Lib.VarReads Tryz.prog W n (ID L)):Lw.rowAt W.heap g 0 (L.flatMap lS):=by
 obtain⟨g',t',cs,fuel,p,hg,hty,hvar,hd⟩:=h;obtain rfl:=Option.some.inj (hn.symm.trans hg);obtain rfl:=Option.some.inj (hy.symm.trans hty);have c2:Tryz.prog.cellsOf 299=2:=by kernel_rfl
 have c1:Tryz.prog.cellsOf 21=1:=by kernel_rfl
 have hrow:∀(i:Nat) (x:Int×Int),L[i]? =some x->(cs.toList.drop (i*2)).take 2=lS x:=fun i x hx=>by
  obtain⟨fuel',d,q,hdi,he⟩:=Lib.array_elem hu hd i (by have:=(List.getElem?_eq_some_iff.1 hx).1;omega);rw[List.getElem?_map,hx,Option.map_some,Option.some.injEq] at hdi;subst hdi;rw[c2] at he
  exact Lib.ints_of_struct (zs:=[x.1,x.2]) underlying299 (fun j f hj=>by
   match j,hj with
   | 0,hj=>simp at hj;subst hj;exact⟨underlying21,rfl,c1⟩
   | 1,hj=>simp at hj;subst hj;exact⟨underlying21,rfl,c1⟩
   |j+2,hj=>simp at hj) (by rw[c2];rfl) he
 have key:∀(j:Nat) v,(L.flatMap lS)[j]? =some v->cs.toList[j]? =some v:=fun j v hj=>by
  have hl:(L.flatMap lS).length=L.length*2:=dz (enc:=lS) (sz:=2) (fun _=>rfl) L;have hjl:=(List.getElem?_eq_some_iff.1 hj).1;obtain⟨x,hx⟩:∃x,L[j / 2]? =some x:=⟨_,List.getElem?_eq_getElem (by omega)⟩
  obtain⟨u,hu'⟩:∃u,(lS x)[j%2]? =some u:=⟨_,List.getElem?_eq_getElem (by show j%2<2;omega)⟩
  have h1:=dG (enc:=lS) (sz:=2) (fun _=>rfl) L (j / 2) x (j%2) u hx hu';rw[show j / 2*2+j%2=j by omega,hj] at h1;obtain rfl:=Option.some.inj h1;have h2:=congrArg (·[j%2]?) (hrow (j / 2) x hx);simp only[List.getElem?_take,List.getElem?_drop] at h2;rw[if_pos (by omega),show j / 2*2+j%2=j by omega,hu'] at h2;exact h2
 intro j v hj;rw[Nat.zero_add,<-dm,World.var?_cell hg hvar j,<-Array.getElem?_toList];exact key j v hj
theorem Ho {nm:String}{d:DataW Unit}(hn:Tryz.prog.globalNamed n=some g) (ht:(Tryz.prog.globals[g]?).map (·.type)=some 65) (h:Lib.VarReads Tryz.prog W n (.iface nm d)):∃ev,cellAt W.heap ⟨g,0,none⟩=some ev/\(ev= .nilIface\/∃te pe,ev= .iface te pe):=by
 obtain⟨g',t,cs,fuel,p,hg,hty,hvar,hd⟩:=h;obtain rfl:=Option.some.inj (hn.symm.trans hg);obtain rfl:=Option.some.inj (ht.symm.trans hty);obtain⟨f1,u,v,e1,_,_⟩:=iface_of_trod underlying65 hd;have hc:=World.var?_cell hg hvar 0;obtain⟨l5⟩:=cs;simp only at e1;subst e1;exact⟨_,hc,.inr ⟨u,v,rfl⟩⟩
theorem GP (hL:laidMetH Tryz.prog Rows.castsTellRow.laid W) (hS:W.ShapedOpen Tryz.prog):Io W.heap:=by
 rw[MakeChecks.laidMetH_plain _ _ _ (by kernel_rfl)] at hL;obtain⟨g2,t2,cs2,f2,p2,hg2,M6,hv2,hd2⟩:=Lib.laidMet.reads hL (n:= "internal/strconv.uint64pow10") (.tail _ (.tail _ (.head _)));have h3:=Lib.laidMet.reads hL (n:= "unicode/utf8.acceptRanges") (.tail _ (.tail _ (.tail _ (.head _))));have hr:=Lib.laidMet.reads hL (n:= "strconv.ErrRange") (.tail _ (.tail _ (.tail _ (.tail _ (.head _)))));have hy:=Lib.laidMet.reads hL (n:= "strconv.ErrSyntax") (.tail _ (.tail _ (.tail _ (.tail _ (.tail _ (.head _))))));have hh:=Lib.laidMet.reads hL (n:= "limner/widths.hidden") (.tail _ (.tail _ (.tail _ (.tail _ (.tail _ (.tail _ (.head _)))))));have hw:=Lib.laidMet.reads hL (n:= "limner/widths.wide") (.tail _ (.tail _ (.tail _ (.tail _ (.tail _ (.tail _ (.tail _ (.head _))))))));have hb:=Lib.laidMet.reads hL (n:= "limner/grids.blank") (.tail _ (.tail _ (.tail _ (.tail _ (.tail _ (.tail _ (.tail _ (.tail _ (.head _)))))))));obtain⟨g4,t4,cs4,f4,p4,hg4,ht4,hv4,hd4⟩:=Lib.laidMet.reads hL (n:= "limner/regs.signs") (.tail _ (.tail _ (.tail _ (.tail _ (.tail _ (.tail _ (.tail _ (.tail _ (.tail _ (.tail _ (.head _)))))))))));have h5:=Lib.laidMet.reads hL (n:= "limner/rules.table") (.tail _ (.tail _ (.tail _ (.tail _ (.tail _ (.tail _ (.tail _ (.tail _ (.tail _ (.tail _ (.tail _ (.head _))))))))))));have ht:=Lib.laidMet.reads hL (n:= "limner/term.blank") (.tail _ (.tail _ (.tail _ (.tail _ (.tail _ (.tail _ (.tail _ (.tail _ (.tail _ (.tail _ (.tail _ (.tail _ (.head _)))))))))))));have h6:=Lib.laidMet.reads hL (n:= "unicode/utf8.first") (.tail _ (.tail _ (.tail _ (.tail _ (.tail _ (.tail _ (.tail _ (.tail _ (.tail _ (.tail _ (.tail _ (.tail _ (.tail _ (.head _))))))))))))));have h6':Lib.VarReads Tryz.prog W "unicode/utf8.first" Lib.firstData:=by rw[<-He];exact h6
 rw[BD] at h3;rw[B4] at h5
 exact⟨⟨⟨⟨_,Nat.le_refl _,Gb hg4 ht4 hv4 hd4⟩,Ix hg2 M6 hv2 hd2,Gf h5,FR h6' h3,
  ye (t:=3) (k:=.i64) (zero:= #[.int .i64 0]) hS (by decide +kernel) (by kernel_rfl) rfl (by kernel_rfl) (by kernel_rfl) underlying3⟩,
  DD (by kernel_rfl) (t:=300) (by kernel_rfl) underlying300 rfl hh,DD (by kernel_rfl) (t:=301) (by kernel_rfl) underlying301 rfl hw,Bs (by kernel_rfl) (by kernel_rfl) hb,Bs (by kernel_rfl) (by kernel_rfl) ht⟩,Ho (by kernel_rfl) (by kernel_rfl) hy,Ho (by kernel_rfl) (by kernel_rfl) hr⟩
noncomputable def GQ (os:Os):World:=(World.doorLaid Tryz.prog 4000 os).layVars Tryz.prog (Rows.castsTellRow.laid.filter fun x=>["unicode/utf8.first"].contains x.1)
theorem IT (os:Os):(GQ os).os=os:=by unfold GQ;rw[World.layVars_os];rfl
noncomputable def lexB (os:Os):List Nat:=(List.range (World.doorLaid Tryz.prog 4000 os).heap.size).filter fun x=>x !=9
theorem IS (os:Os) (args:Array Value):laidMetH Tryz.prog Rows.castsTellRow.laid ((GQ os).forCall (fun _ _=>0) ⟨#[],args,[]⟩).memory:=by
 rw[MakeChecks.laidMetH_plain _ _ _ (by kernel_rfl)]
 have h:laidMet Tryz.prog Rows.castsTellRow.laid (GQ os) :=
  laidMet_layVars (w0:=World.doorLaid Tryz.prog 4000 os) ["unicode/utf8.first"] (lexB os) rfl (by kernel_rfl) (by kernel_rfl)
   (LaidIn.of_run (lexB os) 8 (by kernel_rfl) (by kernel_rfl) (by kernel_rfl) (by kernel_rfl))
 exact h.of_heap (by simp[World.memory,World.forCall,Input.heap])
end
end Go.Proofs.YtckomlgchbkekaaGreatDoor

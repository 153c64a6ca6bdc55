/- What the proof of the statement leans on (part 27). -/
import Derived.Lib.LaidU8
import Derived.Deep.Fields
import Derived.Test.YtmehdcdbeafljaaGreatDoorQz

namespace Go.Proofs.YtmehdcdbeafljaaGreatDoor
open Go.Proofs.Tryz
open Go Go.Lw Go.ChangeShapes Go.WideShapes Go.ChangeAt Go.RowKit
set_option maxRecDepth 100000
section
variable {W:World}
theorem Gj:Go.Pinned.utf8First=Lib.firstData:=by kernel_rfl
theorem BC:(Rows.laid_limner_rules_table:DataW Unit)= .agg [.slice ((n5 0).map ij) [],.slice ((n5 1).map ij) [],.slice ((n5 2).map ij) []]:=by kernel_rfl
theorem Bd:(Rows.laid_unicode_utf8_acceptRanges:DataW Unit)=Lib.acceptData:=by kernel_rfl
theorem EP (h3:Lib.VarReads Tryz.prog W "unicode/utf8.first" Lib.firstData) (h4:Lib.VarReads Tryz.prog W "unicode/utf8.acceptRanges" Lib.acceptData):I0 W.heap:=by
 refine⟨fun c hc=>?_,fun i hi=>?_⟩
 · obtain⟨g,t,cs,fuel,p,hg,hty,hvar,hd⟩:=h3;obtain rfl:=Option.some.inj ((show Tryz.prog.globalNamed "unicode/utf8.first" =some 5 by kernel_rfl).symm.trans hg);obtain rfl:=Option.some.inj ((show (Tryz.prog.globals[5]?).map (·.type)=some 273 by kernel_rfl).symm.trans hty);have hcs:=Lib.cells_of_tab underlying273 underlying5 (by kernel_rfl) (by kernel_rfl) hd;have:=World.var?_cell hg hvar c;rw[<-dM,this,<-Array.getElem?_toList,hcs];simp[Lib.firstTab,hc]
 · obtain⟨g,t,cs,fuel,p,hg,hty,hvar,hd⟩:=h4;obtain rfl:=Option.some.inj ((show Tryz.prog.globalNamed "unicode/utf8.acceptRanges" =some 6 by kernel_rfl).symm.trans hg);obtain rfl:=Option.some.inj ((show (Tryz.prog.globals[6]?).map (·.type)=some 276 by kernel_rfl).symm.trans hty);obtain⟨fuel',d,q,hdi,he⟩:=Lib.array_elem underlying276 hd i hi;simp only[List.getElem?_map,List.getElem?_range hi,Option.map_some,Option.some.injEq] at hdi;subst hdi;have c2:Tryz.prog.cellsOf 275=2:=by kernel_rfl
   have c1:Tryz.prog.cellsOf 5=1:=by kernel_rfl
   rw[c2] at he
   have hcs:=Lib.ints_of_struct underlying275 (fun j f hj=>by
    match j,hj with
    | 0,hj=>simp at hj;subst hj;exact⟨underlying5,rfl,c1⟩
    | 1,hj=>simp at hj;subst hj;exact⟨underlying5,rfl,c1⟩
    |j+2,hj=>simp at hj) (by rw[c2];rfl) he
   have e0:=congrArg (·[0]?) hcs;have e1:=congrArg (·[1]?) hcs;simp only[List.getElem?_take,List.getElem?_drop] at e0 e1;constructor
   · rw[<-dM,World.var?_cell hg hvar (2*i),<-Array.getElem?_toList];simpa [Nat.mul_comm] using e0
   · rw[<-dM,World.var?_cell hg hvar (2*i+1),<-Array.getElem?_toList];simpa [Nat.mul_comm] using e1
theorem Fk (h:Lib.VarReads Tryz.prog W "limner/rules.table" (.agg [.slice ((n5 0).map ij) [],.slice ((n5 1).map ij) [],.slice ((n5 2).map ij) []])):lF W.heap:=by
 intro m hm;obtain⟨g,t,cs,fuel,p,hg,hty,hvar,hd⟩:=h;obtain rfl:=Option.some.inj ((show Tryz.prog.globalNamed "limner/rules.table" =some 0 by kernel_rfl).symm.trans hg);obtain rfl:=Option.some.inj ((show (Tryz.prog.globals[0]?).map (·.type)=some 145 by kernel_rfl).symm.trans hty);obtain⟨fuel',d,q,hdi,he⟩:=Lib.array_elem underlying145 hd m hm
 have hdm:d= .slice ((n5 m).map ij) []:=by
  match m,hm with
  | 0,_=>exact(Option.some.inj hdi).symm
  | 1,_=>exact(Option.some.inj hdi).symm
  | 2,_=>exact(Option.some.inj hdi).symm
 subst hdm;have c1:Tryz.prog.cellsOf 142=1:=by kernel_rfl
 rw[c1] at he;obtain⟨v,hv,hs⟩:=Ec underlying142 underlying144 (by kernel_rfl) rfl rfl rfl underlying9 underlying3 underlying3 (by kernel_rfl) (by kernel_rfl) (by kernel_rfl) he;refine⟨v,?_,hs⟩;have e0:=congrArg (·[0]?) hv;simp only[List.getElem?_take,List.getElem?_drop] at e0;rw[<-dM,World.var?_cell hg hvar m,<-Array.getElem?_toList];simpa using e0
theorem AJ (hL:laidMetH Tryz.prog Rows.exprsBackRow.laid W) (hS:W.ShapedOpen Tryz.prog):Bm W.heap:=by
 rw[MakeChecks.laidMetH_plain _ _ _ (by kernel_rfl)] at hL;obtain⟨g2,t2,cs2,f2,p2,hg2,pP,hv2,hd2⟩:=Lib.laidMet.reads hL (n:= "internal/strconv.uint64pow10") (.tail _ (.tail _ (.head _)));have h3:=Lib.laidMet.reads hL (n:= "unicode/utf8.acceptRanges") (.tail _ (.tail _ (.tail _ (.head _))));obtain⟨g4,t4,cs4,f4,p4,hg4,ht4,hv4,hd4⟩:=Lib.laidMet.reads hL (n:= "limner/regs.signs") (.tail _ (.tail _ (.tail _ (.tail _ (.head _)))));have h5:=Lib.laidMet.reads hL (n:= "limner/rules.table") (.tail _ (.tail _ (.tail _ (.tail _ (.tail _ (.head _))))));have h6:=Lib.laidMet.reads hL (n:= "unicode/utf8.first") (.tail _ (.tail _ (.tail _ (.tail _ (.tail _ (.tail _ (.tail _ (.tail _ (.tail _ (.head _))))))))));have h6':Lib.VarReads Tryz.prog W "unicode/utf8.first" Lib.firstData:=by rw[<-Gj];exact h6
 rw[Bd] at h3;rw[BC] at h5
 exact⟨⟨_,Nat.le_refl _,E6 hg4 ht4 hv4 hd4⟩,Hh hg2 pP hv2 hd2,Fk h5,EP h6' h3,
  yE (t:=3) (k:=.i64) (zero:= #[.int .i64 0]) hS (by decide +kernel) (by kernel_rfl) rfl (by kernel_rfl) (by kernel_rfl) underlying3⟩
noncomputable def FV (os:Os):World:=(World.doorLaid Tryz.prog 4000 os).layVars Tryz.prog (Rows.exprsBackRow.laid.filter fun x=>["unicode/utf8.first"].contains x.1)
theorem HB (os:Os):(FV os).os=os:=by unfold FV;rw[World.layVars_os];rfl
noncomputable def lexB (os:Os):List Nat:=(List.range (World.doorLaid Tryz.prog 4000 os).heap.size).filter fun x=>x !=5
theorem HA (os:Os) (args:Array Value):laidMetH Tryz.prog Rows.exprsBackRow.laid ((FV os).forCall (fun _ _=>0) ⟨#[],args,[]⟩).memory:=by
 rw[MakeChecks.laidMetH_plain _ _ _ (by kernel_rfl)]
 have h:laidMet Tryz.prog Rows.exprsBackRow.laid (FV os) :=
  laidMet_layVars (w0:=World.doorLaid Tryz.prog 4000 os) ["unicode/utf8.first"] (lexB os) rfl (by kernel_rfl) (by kernel_rfl)
   (LaidIn.of_run (lexB os) 8 (by kernel_rfl) (by kernel_rfl) (by kernel_rfl) (by kernel_rfl))
 exact h.of_heap (by simp[World.memory,World.forCall,Input.heap])
theorem Gr:(Rows.laid_limner_exprs_escapes:DataW Unit)= .agg (iB.map fun p=>.agg [.lit (.int .u8 p.1.toNat),.lit (.int .u8 p.2.toNat)]):=by kernel_rfl
theorem ET:(Rows.laid_limner_exprs_unaries:DataW Unit)= .slice (ES.map fun s=>.lit (.string s)) []:=by kernel_rfl
theorem GC:(Rows.laid_limner_exprs_binaries:DataW Unit)= .slice (GB.map fun s=>.lit (.string s)) []:=by kernel_rfl
theorem Ju (h:Lib.VarReads Tryz.prog W "limner/exprs.escapes" (.agg (iB.map fun p=>.agg [.lit (.int .u8 p.1.toNat),.lit (.int .u8 p.2.toNat)]))):nY W.heap:=by
 obtain⟨g,t,cs,fuel,p,hg,hty,hvar,hd⟩:=h;obtain rfl:=Option.some.inj ((show Tryz.prog.globalNamed "limner/exprs.escapes" =some 1 by kernel_rfl).symm.trans hg);obtain rfl:=Option.some.inj ((show (Tryz.prog.globals[1]?).map (·.type)=some 215 by kernel_rfl).symm.trans hty);have c2:Tryz.prog.cellsOf 214=2:=by kernel_rfl
 have c1:Tryz.prog.cellsOf 5=1:=by kernel_rfl
 have key:∀i j,i<6->j<2->cs.toList[i*2+j]? =HM[i*2+j]? :=by
  intro i j hi hj;obtain⟨f1,d,q,hdi,he⟩:=Lib.array_elem underlying215 hd i hi;rw[List.getElem?_map,List.getElem?_eq_getElem (show i<iB.length from hi)] at hdi;have hdi:d= .agg [.lit (.int .u8 iB[i].1.toNat),.lit (.int .u8 iB[i].2.toNat)]:=(Option.some.inj hdi).symm;subst hdi;rw[c2] at he;obtain⟨f2,d2,q2,hdj,he2⟩:=Lib.array_elem underlying214 he j hj;rw[c1,Nat.mul_one] at he2
  have hv:((((cs.toList.drop (i*2)).take 2).drop j).take 1)=[if j=0 then .int .u8 iB[i].1.toNat else .int .u8 iB[i].2.toNat]:=by
   match j,hj with
   | 0,_=>have hdj:=Option.some.inj hdj;subst hdj;exact iM underlying5 (k':=.u8) he2
   | 1,_=>have hdj:=Option.some.inj hdj;subst hdj;exact iM underlying5 (k':=.u8) he2
  have e0:=congrArg (·[0]?) hv;simp only[List.getElem?_take,List.getElem?_drop] at e0
  have e1:cs.toList[i*2+j]? =some (if j=0 then .int .u8 iB[i].1.toNat else .int .u8 iB[i].2.toNat):=by
   match j,hj with
   | 0,_=>simpa using e0
   | 1,_=>simpa using e0
  rw[e1];have:=gX (sz:=2) (enc:=kC) (fun _=>rfl) iB i iB[i] j (if j=0 then .int .u8 iB[i].1.toNat else .int .u8 iB[i].2.toNat) (List.getElem?_eq_getElem hi) (by match j,hj with| 0,_=>rfl| 1,_=>rfl);exact this.symm
 intro n v hv;have hn:n<12:=(List.getElem?_eq_some_iff.1 hv).1;have hk:=key (n / 2) (n%2) (by omega) (by omega);rw[show n / 2*2+n%2=n by omega,hv] at hk;rw[Nat.zero_add,<-dM,World.var?_cell hg hvar n,<-Array.getElem?_toList,hk]
theorem CP {n:String}{g:Nat}{L:List By}(hn:Tryz.prog.globalNamed n=some g) (ht:(Tryz.prog.globals[g]?).map (·.type)=some 87) (h:Lib.VarReads Tryz.prog W n (.slice (L.map fun s=>.lit (.string s)) [])):∃v,cellAt W.heap ⟨g,0,none⟩=some v/\bS mK W.heap (fun _=>False) v L:=by
 obtain⟨g',t,cs,fuel,p,hg,hty,hvar,hd⟩:=h;obtain rfl:=Option.some.inj (hn.symm.trans hg);obtain rfl:=Option.some.inj (ht.symm.trans hty);have c1:Tryz.prog.cellsOf 9=1:=by kernel_rfl
 obtain⟨v,hv,hs⟩:=Eb underlying87 underlying9 c1 hd;refine⟨v,?_,hs⟩;rw[<-dM,World.var?_cell hg hvar 0,<-Array.getElem?_toList,hv];rfl
theorem HL (hL:laidMetH Tryz.prog Rows.exprsBackRow.laid W) (hS:W.ShapedOpen Tryz.prog):CI W.heap:=by
 have hG:=AJ hL hS;rw[MakeChecks.laidMetH_plain _ _ _ (by kernel_rfl)] at hL;have h6:=Lib.laidMet.reads hL (n:= "limner/exprs.escapes") (.tail _ (.tail _ (.tail _ (.tail _ (.tail _ (.tail _ (.head _)))))));have h7:=Lib.laidMet.reads hL (n:= "limner/exprs.unaries") (.tail _ (.tail _ (.tail _ (.tail _ (.tail _ (.tail _ (.tail _ (.head _))))))));have h8:=Lib.laidMet.reads hL (n:= "limner/exprs.binaries") (.tail _ (.tail _ (.tail _ (.tail _ (.tail _ (.tail _ (.tail _ (.tail _ (.head _)))))))));rw[Gr] at h6;rw[ET] at h7;rw[GC] at h8;exact⟨hG,Ju h6,CP (by kernel_rfl) (by kernel_rfl) h7,CP (by kernel_rfl) (by kernel_rfl) h8⟩
end
end Go.Proofs.YtmehdcdbeafljaaGreatDoor
namespace Go.Proofs.YtmehdcdbeafljaaGreatDoor
open Go.Proofs.Tryz
open Go Go.Lw
set_option maxRecDepth 20000
theorem AR {h:az}{p:Value}(O:Nat->Prop) (hO:∀y,O y->y<h.size) (hg:Bm h) (k:mY h p) (s:By) (hs:s.length<=1000000) :
 ah Tryz.prog 15 #[p,.string (bs s)] h (cT fun r h'=>(∃v,r= .tuple #[v,.agg (cz (cE s).2).toArray]/\bS IM h' O v (cE s).1)/\aD h h'):=by
 have hbs:=bu s;generalize hres:cE s=res;refine ah.of func15 rfl rfl ?_;refine bp func15 1 rfl ?_;refine xo rfl (aA.aX H.xJ) ?_;rintro _ h1 ⟨rfl,k5,e1,z1⟩;have k5:bh h1 h.size 41 (cz (0,0)):=k5;have y1:=e1.size;refine xd [0,1,4,5] rfl ?_;refine Ih rfl ?_;refine aY func15 1 [0,1,4,5,6] rfl ?_;refine av rfl ?_;refine Ii rfl ?_;refine av rfl ?_;refine G.block rfl rfl ?_;refine bD (σ:=Nat×gC×Value×List Tk) (fun q=>[(0,p),(1,.string (bs s)),(4,q.2.2.1),(5,.pointer (some ⟨h.size,0,none⟩)),(6,.int .i64 (q.1:Nat))]) (fun q h'=>(q.1<=s.length/\q.2.2.2.length<=q.1/\G7 q.2.1.2)/\aD h h'/\h1.size<=h'.size/\bh h' h.size 41 (cz q.2.1)/\kK 3 fC h' h1.size 46 q.2.2.1 q.2.2.2/\(q.2.2.2++(fL s.length (s.drop q.1) q.1 q.2.1).1,(fL s.length (s.drop q.1) q.1 q.2.1).2)=res) (fun q=>s.length+1-q.1) ((0,(0,0),.slice none 0 0,[])) rfl ⟨rfl,rfl,rfl,rfl,rfl,trivial⟩ ⟨⟨Nat.zero_le _,by simp,by show G7 0;unfold G7;omega⟩,e1,Nat.le_refl _,k5,kK.nil _ _ _ _ _,hres⟩ ?_;rintro⟨i,st,vt,toks⟩ g ⟨⟨hi,htl,hst⟩,eg,hz,kS,ho,hcon⟩ ih
 try dsimp only
 dsimp only at hi htl hst kS ho hcon;have hho:aR g h1.size 46 3 vt toks.length (toks.flatMap fC):=ho;obtain⟨ta,tc,rfl,_⟩:=hho.open;have tge:∀b,(Value.slice ta toks.length tc).ownBlock=some b->h1.size<=b/\b<g.size:=fun b hb=>hho.lt hb
 rcases Nat.lt_or_ge i s.length with hlt|hge
 · have hne:s.drop i≠[]:=fun e=>by have:=congrArg List.length e;rw[List.length_drop] at this;simp at this;omega
   have hkl:=eT hne st.1;rw[List.length_drop] at hkl;rw[nB hne (by rw[List.length_drop];omega)] at hcon;have hone:=DW (hg.ay eg) (k.ay eg) s i hlt hs st hst;unfold Ji at hone;have hnI:=Hr hst (s.drop i);rw[List.drop_drop] at hcon;generalize bT (s.drop i) st.1=L at *;generalize dB (s.drop i) st.1=kd at *;generalize cR (s.drop i) st=nx at *;generalize B5 st.1 (s.drop i)=sp at *;refine G.block rfl rfl ?_;refine bp func15 3 rfl ?_;refine xp rfl (aj.aH H.iE H.ey rfl kS.row (by first|rfl|(simp;done)|(simp;omega))) ?_;refine xo rfl (aq (vs:=[_,_,_,_]) func34 rfl H.Kf rfl (ah.br (hone))) ?_;rintro _ g1 ⟨rfl,f1⟩;refine bf 4 rfl ?_;refine xo rfl (aA.aX H.EK) ?_;rintro _ g2 ⟨rfl,c7,f2,y2⟩;refine xo rfl (aA.aX H.xJ) ?_;rintro _ g3 ⟨rfl,c8,f3,y3⟩;refine RW.b9 rfl rfl rfl (aA.aC H.ir rfl rfl (c7.ay f3) (by first|rfl|(simp;done)|(simp;omega)) (by first|decide|exact of_decide_eq_true rfl|(simp;done)|(simp;omega)) (nZ _)) ?_;rintro _ g4 ⟨rfl,d7,x4,y4⟩;have d7:bh g4 g1.size 46 (fC (kd,(i:Int),((i+L:Nat):Int))):=d7;have yz1:=f1.size;have yz2:=f2.size;have yz4:=x4.size;refine RW.b9 rfl rfl rfl (aA.aC H.ey rfl rfl ((c8.ext x4 (show ¬g2.size=g1.size by omega))) (by first|rfl|(simp;done)|(simp;omega)) (by first|decide|exact of_decide_eq_true rfl|(simp;done)|(simp;omega)) (fS nx)) ?_;rintro _ g5 ⟨rfl,d8,x5,y5⟩;have d8:bh g5 g2.size 41 (cz nx):=d8;have d7:=d7.ext x5 (show ¬g1.size=g2.size by omega);have yz5:=x5.size;have eg5:aD g g5:=aD.only (aD.only ((f1.trans f2).trans f3) x4 (by omega)) x5 (by omega);have hho5:=hho.AX eg5;refine aS 1 [0,1,4,5,6,7,8] rfl ?_;refine av rfl ?_;refine G.block rfl rfl ?_;refine xr func15 rfl ?_;refine xp rfl (af (off:=2) underlying46 rfl rfl H.bW rfl) ?_;refine xp rfl (ai H.cM rfl (d7.cell (i:=2) rfl)) ?_;refine aS 3 [0,1,4,5,6,7,8,19] rfl ?_;refine aG rfl rfl (fun hc=>absurd hc (by simp;omega)) (fun _=>?_);refine aB rfl ?_;refine G.aQ ?_;refine bp func15 1 rfl ?_;refine xp rfl (aj.aH H.zf H.ir rfl d7.row (by first|rfl|(simp;done)|(simp;omega))) ?_;refine xo rfl (aA.cL (cs:=[_,_,_]) underlying39 H.KT rfl rfl (by decide)) ?_;rintro _ _ ⟨rfl,rfl⟩;refine xo rfl (aA.bN underlying39 H.KT rfl rfl (hho5) rfl rfl (nZ _) (by omega) (by decide) (by omega)) ?_;rintro vt2 g6 ⟨ho6,hx6,hx6',hv6⟩;have yz6:=hx6.size;have d7:=d7.ext hx6 (fun k=>by have:=tge _ k.symm;omega);have d8:=d8.ext hx6 (fun k=>by have:=tge _ k.symm;omega);have kS6:=(kS.ay eg5).ext hx6 (fun k=>by have:=tge _ k.symm;omega);have e06:aD h g6:=Ext.own (eg.trans eg5) hho5 (by omega) hx6;have ho6:kK 3 fC g6 h1.size 46 vt2 (toks++[(kd,(i:Int),((i+L:Nat):Int))]):=kK.of ho6 rfl rfl;have hMa:¬(g1.size=h.size\/Array.size g6<=g1.size):=by omega
   have hMb:¬(g2.size=h.size\/Array.size g6<=g2.size):=by omega
   refine aS 1 [0,1,4,5,6,7,8,19] rfl ?_;refine bU (fun b=>b=Array.size h\/Array.size g6<=b) (fun i=>Nat.blt i 6) (sz:=5) (listed:= #[false,false,false,false,false]) func15 H.mixed rfl rfl rfl ?_;refine bM 0 1 (by kernel_rfl) rfl (fun h' e=>af (off:=2) underlying46 rfl rfl H.bW rfl) ?_;refine bM 1 3 (by kernel_rfl) rfl (fun h' e=>ai H.cM rfl (e.cell hMa (d7.cell (i:=2) rfl))) ?_;refine bM 2 7 (by kernel_rfl) rfl (fun h' e=>aj.aH H.iE H.ey rfl (e.rowAt hMb d8.row) (by first|rfl|(simp;done)|(simp;omega))) ?_;refine cJ 3 15 (by kernel_rfl) rfl ?_;refine lW 4 31 (by kernel_rfl) rfl (aA.aC H.ey rfl rfl kS6 (by first|rfl|(simp;done)|(simp;omega)) (by first|decide|exact of_decide_eq_true rfl|(simp;done)|(simp;omega)) (fS nx)) ?_;rintro _ g7 ⟨rfl,kS7,x7,y7⟩;refine⟨fun _=>x7.mono (fun _ _ k=>.inl k),?_⟩;have kS7:bh g7 h.size 41 (cz nx):=kS7;have ho7:kK 3 fC g7 h1.size 46 vt2 (toks++[(kd,(i:Int),((i+L:Nat):Int))]):=aR.ext x7 ho6 (fun b hb (k:b=h.size)=>by have:=(aR.lt ho6 hb).1;omega);refine bB (by kernel_rfl) ?_;refine xu [0,1,4,5,6,7,8,19] rfl ?_;refine G.aQ ?_;exact ih (i+L,nx,vt2,toks++[(kd,(i:Int),((i+L:Nat):Int))]) _ _ ⟨rfl,rfl,rfl,rfl,rfl,trivial⟩ ⟨⟨by show i+L<=s.length;omega,by simp;omega,hnI⟩,aD.only e06 x7 (by omega),by have:=x7.size;show h1.size<=g7.size;omega,kS7,ho7,by simpa using hcon⟩ (by show s.length+1-(i+L)<s.length+1-i;omega)
 · obtain rfl:i=s.length:=by omega
   have hone:=Hp (h:=g) (p:=p) (b:=false) (fun g' eg'=>AI (k.ay (eg.trans eg'))) s (s.length:Nat) hs st (.inr (.inr (by omega)));rw[List.drop_length,qd] at hcon;refine G.block rfl rfl ?_;refine bp func15 3 rfl ?_;refine xp rfl (aj.aH H.iE H.ey rfl kS.row (by first|rfl|(simp;done)|(simp;omega))) ?_;refine xo rfl (aq (vs:=[_,_,_,_]) func34 rfl H.Kf rfl (ah.br (hone))) ?_;rintro _ g1 ⟨rfl,f1⟩;refine bf 4 rfl ?_;refine xo rfl (aA.aX H.EK) ?_;rintro _ g2 ⟨rfl,c7,f2,y2⟩;refine xo rfl (aA.aX H.xJ) ?_;rintro _ g3 ⟨rfl,c8,f3,y3⟩;refine RW.b9 rfl rfl rfl (aA.aC H.ir rfl rfl (c7.ay f3) (by first|rfl|(simp;done)|(simp;omega)) (by first|decide|exact of_decide_eq_true rfl|(simp;done)|(simp;omega)) (nZ _)) ?_;rintro _ g4 ⟨rfl,d7,x4,y4⟩;have d7:bh g4 g1.size 46 (fC (0,0,0)):=d7;have yz1:=f1.size;have yz2:=f2.size;have yz4:=x4.size;refine RW.b9 rfl rfl rfl (aA.aC H.ey rfl rfl ((c8.ext x4 (show ¬g2.size=g1.size by omega))) (by first|rfl|(simp;done)|(simp;omega)) (by first|decide|exact of_decide_eq_true rfl|(simp;done)|(simp;omega)) (fS st)) ?_;rintro _ g5 ⟨rfl,d8,x5,y5⟩;have d7:=d7.ext x5 (show ¬g1.size=g2.size by omega);have yz5:=x5.size;have eg5:aD g g5:=aD.only (aD.only ((f1.trans f2).trans f3) x4 (by omega)) x5 (by omega);have hho5:=ho.ay eg5;have kS5:=kS.ay eg5;refine aS 1 [0,1,4,5,6,7,8] rfl ?_;refine av rfl ?_;refine G.block rfl rfl ?_;refine xr func15 rfl ?_;refine xp rfl (af (off:=2) underlying46 rfl rfl H.bW rfl) ?_;refine xp rfl (ai H.cM rfl (d7.cell (i:=2) rfl)) ?_;refine aS 3 [0,1,4,5,6,7,8,19] rfl ?_;refine aG rfl rfl (fun _=>?_) (fun hc=>absurd hc (by simp));have hMa:¬(h.size=h.size/\Array.size g5<=h.size):=by omega
   refine bw rfl rfl ?_;refine av rfl ?_;refine bU (fun b=>Array.size g5<=b) (fun i=>Nat.blt i 5) (sz:=4) (listed:= #[false,false,false,false]) func15 H.mixed rfl rfl rfl ?_;refine cJ 0 1 (by kernel_rfl) rfl ?_;refine bM 1 3 (by kernel_rfl) rfl (fun h' e=>aj.aH H.iE H.ey rfl (e.rowAt (by omega) kS5.row) (by first|rfl|(simp;done)|(simp;omega))) ?_;refine cJ 2 7 (by kernel_rfl) rfl ?_;refine lW 3 15 (by kernel_rfl) rfl (aA.aC H.ey rfl rfl kS5 (by first|rfl|(simp;done)|(simp;omega)) (by first|decide|exact of_decide_eq_true rfl|(simp;done)|(simp;omega)) (fS st)) ?_;rintro _ g7 ⟨rfl,kS7,x7,y7⟩;refine⟨fun _=>(j9 kS5 kS7 x7).mono (fun _ _ k=>k.elim),?_⟩;have kS7:bh g7 h.size 41 (cz st):=kS7;have e7:=j9 kS5 kS7 x7;refine bB (by kernel_rfl) ?_;refine xu [0,1,4,5,6,7,8,19] rfl ?_;refine G.cQ func15 rfl (.cons (bl.tmp rfl) (.cons (bl.cI H.iE H.ey rfl (kS7.row) (by first|rfl|(simp;done)|(simp;omega))) (.nil))) ?_;rw[<-hcon];exact⟨_,rfl,⟨_,rfl,by show bS IM g7 _ _ (toks++[]);rw[List.append_nil];exact kK.read (hho5.ay e7) (fun b hb k=>by have:=hO b k;omega)⟩,(eg.trans eg5).trans e7⟩
theorem oy {h:az}{p:Value}(hg:Bm h) (k:mY h p) (s:By) (hs:s.length<=1000000) :
 ah Tryz.prog 15 #[p,.string (bs s)] h (cT fun r h'=>(∃v,r= .tuple #[v,.agg (cz (cE s).2).toArray]/\bS IM h' (fun _=>False) v (cE s).1)/\aD h h'):=AR _ (fun _ k=>k.elim) hg k s hs
end Go.Proofs.YtmehdcdbeafljaaGreatDoor
namespace Go.Proofs.YtmehdcdbeafljaaGreatDoor
open Go.Proofs.Tryz
open Go Go.Lw
set_option maxRecDepth 100000
section
variable {h:az}
theorem Fo {p:Value}(hg:CI h) (kx:mY h p) (s:By) (hs:s.length<=500000){k:List Tr}{a e:Int}(hP:cj s (cE s).1 (cE s).2.1 k a e) :
 ah Tryz.prog 11 #[p,.string (bs s)] h (cT fun r h'=>aD h h'/\∃lv,r=packed [lv,.int .i64 a,.int .i64 e]/\dU eN (fun b=>b<h.size) h' h.size 25 lv k):=by
 have hlen:(cE s).1.length<=s.length:=vj _ _ _ _;have hb:(cE s).1.length*(s.length+2)<=1000000000000:=Nat.le_trans (Nat.mul_le_mul hlen (Nat.le_refl _)) (Nat.le_trans (Nat.mul_le_mul hs (show s.length+2<=500002 by omega)) (by decide));refine ah.of func11 rfl rfl ?_;refine aY func11 3 [0,1,4,5,6] rfl ?_;refine bp func11 2 rfl ?_;refine xo rfl (aq (vs:=[_,_]) func15 rfl H.Jn rfl (ah.br (oy hg.lx kx s (by omega)))) ?_;rintro _ h1 ⟨⟨v,rfl,hv⟩,e1⟩;refine bf 3 rfl ?_;refine xo rfl (aA.aX H.xJ) ?_;rintro _ h2 ⟨rfl,k2,e2,z2⟩;refine bf 1 rfl ?_;refine RW.b9 rfl rfl rfl (aA.aC H.ey rfl rfl k2 (by first|rfl|(simp;done)|(simp;omega)) (by first|decide|exact of_decide_eq_true rfl|(simp;done)|(simp;omega)) (fS _)) ?_;rintro _ h3 ⟨rfl,k3,x3,z3⟩;have k3:bh h3 h1.size 41 (cz (cE s).2):=k3;have e13:aD h1 h3:=aD.only e2 x3 (Nat.le_refl _);have e03:=e1.trans e13;have hcall:=Bp ((hg.ay e03).esc) (hv.ay e13) s (cE s).2 hb (by omega) hP;refine xd [0,1,4,5,6,7,8] rfl ?_;refine bp func11 2 rfl ?_;refine xp rfl (aj.aH H.iE H.ey rfl k3.row (by first|rfl|(simp;done)|(simp;omega))) ?_;refine xo rfl (aq (vs:=[_,_,_]) func23 rfl H.L7 rfl (ah.br (hcall))) ?_;rintro _ h4 ⟨e4,lv,rfl,hlv⟩;refine aS 6 [0,1,4,5,6,7,8] rfl ?_;refine G.ret func11 rfl rfl ?_;exact⟨_,rfl,e03.trans e4,_,rfl,(dU.lower hlv e03.size).pF (Ext.refl (fun _=>False) _) (fun _ _ q=>q) (fun _ _ q=>q.elim) (fun b _ q=>by have:=e03.size;omega)⟩
theorem fZ {p:Value}(hg:CI h) (kx:mY h p) (s:By) (hs:s.length<=500000){k:List Tr}{a e:Int}(hP:cj s (cE s).1 (cE s).2.1 k a e) :
 ah Tryz.prog 11 #[p,.string (bs s)] h (cT fun r h'=>aD h h'/\∃lv,r=packed [lv,.int .i64 a,.int .i64 e]/\bS eN h' (fun b=>b<h.size) lv k) :=
 (Fo hg kx s hs hP).ret fun _ _ ⟨e1,lv,h1,h2⟩=>⟨e1,lv,h1,h2.read (fun _ hb q=>Nat.not_lt.2 hb q) (fun _ _ q=>q)⟩
abbrev Lh:By:=[49,32,43,32,50,32,42,32,120]
abbrev Lg:By:=[102,40,97,44,32,98,41]
abbrev Lf:By:=[108,101,116,32,121,32,61,32,34,97,92,110,34]
abbrev Le:By:=[49,32,43]
abbrev Ld:By:=[97,32,98]
abbrev Ls:Tr:=.mk 5 [43] [.mk 0 [49] [],.mk 5 [42] [.mk 0 [50] [],.mk 3 [120] []]]
abbrev Lr:Tr:=.mk 9 [] [.mk 9 [] [.mk 3 [102] [],.mk 3 [97] []],.mk 3 [98] []]
abbrev ME:Tr:=.mk 7 [121] [.mk 1 [97,10] []]
theorem MM:cj Lh (cE Lh).1 (cE Lh).2.1 [Ls] 0 0:=.ok (u:=[(5,[49],0),(6,[43],2),(5,[50],4),(6,[42],6),(3,[120],8)]) (n:=40) (r:=[]) (by decide +kernel) (by kernel_rfl)
theorem ML:cj Lg (cE Lg).1 (cE Lg).2.1 [Lr] 0 0:=.ok (u:=[(3,[102],0),(7,[40],1),(3,[97],2),(6,[44],3),(3,[98],5),(8,[41],6)]) (n:=40) (r:=[]) (by decide +kernel) (by kernel_rfl)
theorem MK:cj Lf (cE Lf).1 (cE Lf).2.1 [ME] 0 0:=.ok (u:=[(4,[108,101,116],0),(3,[121],4),(6,[61],6),(9,[97,10],8)]) (n:=40) (r:=[]) (by decide +kernel) (by kernel_rfl)
theorem MJ:cj Le (cE Le).1 (cE Le).2.1 [] 3 10:=.bad (u:=[(5,[49],0),(6,[43],2)]) (n:=40) (k:=[.mk 5 [43] [.mk 0 [49] [],.mk 0 [] []]]) (by decide +kernel) (by kernel_rfl)
theorem MI:cj Ld (cE Ld).1 (cE Ld).2.1 [] 2 10:=.bad (u:=[(3,[97],0),(3,[98],2)]) (n:=40) (k:=[.mk 3 [97] []]) (by decide +kernel) (by kernel_rfl)
theorem MH:tC Ls=[40,49,32,43,32,40,50,32,42,32,120,41,41]:=by decide +kernel
theorem MG:tC Lr=[102,40,97,41,40,98,41]:=by decide +kernel
theorem pz {O:Nat->Prop}{v:Value}{x:Tr}(k:bS eN h O v [x]):∃b o cs c,v= .slice (some ⟨b,o,none⟩) 1 c/\Lw.rowAt h b o cs/\eN.R h O cs x:=by
 obtain⟨a,n,c,rfl,hw⟩:=k.open;have hn:1=n:=hw.len;subst hn;obtain⟨b,o,x',cs,ha,_,hx,hr,hR⟩:=Sl.nd hw (show 0<1 by decide);cases hx;rw[Nat.zero_mul,Nat.add_zero] at hr;exact⟨b,o,cs,c,by rw[ha],hr,hR⟩
theorem pn (hg:CI h):ah Tryz.prog 9 #[] h (cT fun r h'=>r= .bool true/\aD h h'):=by
 obtain⟨lim,hl1,hl2⟩:=hg.lx.sg;refine ah.of func9 rfl rfl ?_;refine aY func9 1 [0] rfl ?_;refine xr func9 rfl ?_;refine xo rfl (aq (vs:=[]) func10 rfl H.KH rfl (ah.br (wR hl2 hl1 hg.lx.tens hg.lx.rules))) ?_;rintro p h1 ⟨kx,e1⟩;have g1:=hg.ay e1;refine aS 1 [0,1] rfl ?_;refine bp func9 1 rfl ?_;refine xo rfl (aq (vs:=[_,_]) func11 rfl H.BX rfl (ah.br (fZ g1 kx Lh (by decide) MM))) ?_;rintro _ h2 ⟨e2,v2,rfl,s2⟩;refine aS 7 [0,1,2,4] rfl ?_;refine bp func9 1 rfl ?_;refine xo rfl (aq (vs:=[_,_]) func11 rfl H.BX rfl (ah.br (fZ (g1.ay e2) (kx.ay e2) Lg (by decide) ML))) ?_;rintro _ h3 ⟨e3,v3,rfl,s3⟩;have e13:=e2.trans e3;refine aS 7 [0,1,2,4,5,7] rfl ?_;refine bp func9 1 rfl ?_;refine xo rfl (aq (vs:=[_,_]) func11 rfl H.BX rfl (ah.br (fZ (g1.ay e13) (kx.ay e13) Lf (by decide) MK))) ?_;rintro _ h4 ⟨e4,v4,rfl,s4⟩;have e14:=e13.trans e4;refine aS 7 [0,1,2,4,5,7,8,10] rfl ?_;refine bp func9 1 rfl ?_;refine xo rfl (aq (vs:=[_,_]) func11 rfl H.BX rfl (ah.br (fZ (g1.ay e14) (kx.ay e14) Le (by decide) MJ))) ?_;rintro _ h5 ⟨e5,v5,rfl,s5⟩;have e15:=e14.trans e5;refine aS 7 [0,1,2,4,5,7,8,10,12,13] rfl ?_;refine bp func9 1 rfl ?_;refine xo rfl (aq (vs:=[_,_]) func11 rfl H.BX rfl (ah.br (fZ (g1.ay e15) (kx.ay e15) Ld (by decide) MI))) ?_;rintro _ h6 ⟨e6,v6,rfl,s6⟩;have e46:=e5.trans e6;have e36:=e4.trans e46;have e26:=e3.trans e36;have g6:=g1.ay (e2.trans e26);obtain⟨b2,o2,cs2,c2,rfl,r2,R2⟩:=pz (s2.ay e26);obtain⟨b3,o3,cs3,c3,rfl,r3,R3⟩:=pz (s3.ay e36);obtain⟨b4,o4,cs4,c4,rfl,r4,R4⟩:=pz (s4.ay e46);obtain⟨w4,rfl,t4⟩:=jF R4;obtain⟨b7,o7,cs7,c7,rfl,r7,R7⟩:=pz t4;obtain⟨w7,rfl,_⟩:=jF R7;refine aS 7 [0,1,2,4,5,7,8,10,12,13,15,16] rfl ?_;refine av rfl ?_;refine av rfl ?_;refine G.bE [(80,.bool false)] [(0,_),(1,_),(2,_),(4,_),(5,_),(7,_),(8,_),(10,_),(12,_),(13,_),(15,_),(16,_)] ⟨rfl,rfl,rfl,rfl,rfl,rfl,rfl,rfl,rfl,rfl,rfl,rfl,trivial⟩ func9 rfl ?_ ?_
 · refine bf 3 rfl ?_;refine RW.dn (d:=50) (b':=false) rfl (decide_eq_false ((by decide))) ?_;refine bf 4 rfl ?_;refine RW.dn (d:=54) (b':=false) rfl (decide_eq_false ((by decide))) ?_;refine bf 4 rfl ?_;refine RW.dn (d:=58) (b':=false) rfl (decide_eq_false ((by decide))) ?_;refine ct 1 rfl rfl (aj.aK underlying23 rfl) ?_;refine bf 3 rfl ?_;refine RW.dn (d:=63) (b':=false) rfl (decide_eq_false ((by decide))) ?_;refine ct 1 rfl rfl (aj.aK underlying23 rfl) ?_;refine bf 3 rfl ?_;refine RW.dn (d:=68) (b':=false) rfl (decide_eq_false ((by decide))) ?_;refine ct 1 rfl rfl (aj.aK underlying23 rfl) ?_;refine bf 3 rfl ?_;refine RW.dn (d:=73) (b':=false) rfl (decide_eq_false ((by decide))) ?_;refine ct 1 rfl rfl (aj.ax underlying23 H.aV rfl rfl 0 rfl rfl (by decide)) ?_;refine xp rfl (af (off:=2) underlying25 rfl rfl H.fO rfl) ?_;refine xp rfl (ai H.lV rfl (by rw[Nat.zero_mul,Nat.add_zero];exact r4 2 _ rfl)) ?_;refine xp rfl (aj.aK underlying23 rfl) ?_;refine bf 2 rfl ?_;refine aE rfl ?_;exact⟨rfl,aF rfl (rfl),rfl,rfl,rfl,rfl,rfl,rfl,rfl,rfl,rfl,rfl,rfl,rfl,trivial⟩
 · refine aG rfl rfl (fun hc=>absurd hc (by simp)) (fun _=>?_);obtain⟨w2,rfl,_⟩:=jF R2;obtain⟨w3,rfl,_⟩:=jF R3;have hs1:=vC (x:=Ls) (by decide) g6 (fN.of R2);refine aB rfl ?_;refine av rfl ?_;refine G.tO (fun(u:Unit) (h':az)=>aD h6 h') (fun(u:Unit)=>[(0,.bool true)]) [(1,_),(2,_),(4,_),(5,_),(7,_),(8,_),(10,_),(12,_),(13,_),(15,_),(16,_),(80,_)] ⟨rfl,rfl,rfl,rfl,rfl,rfl,rfl,rfl,rfl,rfl,rfl,rfl,trivial⟩ func9 rfl ?_ ?_
   · refine ct 1 rfl rfl (aj.ax underlying23 H.aV rfl rfl 0 rfl rfl (by decide)) ?_;refine xp rfl (aj.aH H.bQ H.aV rfl (by rw[Nat.zero_mul,Nat.add_zero];exact r2) (by first|rfl|(simp;done)|(simp;omega))) ?_;refine xo rfl (aq (vs:=[_]) func12 rfl H.Ky rfl (ah.br (hs1))) ?_;rintro _ h7 ⟨rfl,e7⟩;refine xp rfl (aj.dV rfl rfl) ?_;refine bf 1 rfl ?_;refine RW.dn (d:=86) (b':=true) rfl (decide_eq_true ((by rw[MH];rfl))) ?_;have hs2:=vC (x:=Lr) (by decide) (g6.ay e7) ((fN.of R3).mv (Mv.ay e7));refine ct 1 rfl rfl (aj.ax underlying23 H.aV rfl rfl 0 rfl rfl (by decide)) ?_;refine xp rfl (aj.aH H.bQ H.aV rfl (by rw[Nat.zero_mul,Nat.add_zero];exact e7.rowAt (fun k=>k) r3) (by first|rfl|(simp;done)|(simp;omega))) ?_;refine xo rfl (aq (vs:=[_]) func12 rfl H.Ky rfl (ah.br (hs2))) ?_;rintro _ h8 ⟨rfl,e8⟩;refine xp rfl (aj.dV rfl rfl) ?_;refine bf 2 rfl ?_;refine RW.dn (d:=93) (b':=true) rfl (decide_eq_true ((by rw[MG];rfl))) ?_;have e78:=e7.trans e8;have r4':=e78.rowAt (fun k=>k) r4;refine ct 1 rfl rfl (aj.ax underlying23 H.aV rfl rfl 0 rfl rfl (by decide)) ?_;refine xp rfl (af (off:=0) underlying25 rfl rfl H.bW rfl) ?_;refine xp rfl (ai H.cM rfl (by rw[Nat.zero_mul,Nat.add_zero];exact r4' 0 _ rfl)) ?_;refine bf 3 rfl ?_;refine RW.dn (d:=100) (b':=true) rfl (decide_eq_true (rfl)) ?_;refine ct 1 rfl rfl (aj.ax underlying23 H.aV rfl rfl 0 rfl rfl (by decide)) ?_;refine xp rfl (af (off:=1) underlying25 rfl rfl H.fq rfl) ?_;refine xp rfl (ai H.fM rfl (by rw[Nat.zero_mul,Nat.add_zero];exact r4' 1 _ rfl)) ?_;refine xp rfl (aj.dV rfl rfl) ?_;refine bf 2 rfl ?_;refine RW.dn (d:=107) (b':=true) rfl (decide_eq_true (rfl)) ?_;refine ct 1 rfl rfl (aj.ax underlying23 H.aV rfl rfl 0 rfl rfl (by decide)) ?_;refine xp rfl (af (off:=2) underlying25 rfl rfl H.fO rfl) ?_;refine xp rfl (ai H.lV rfl (by rw[Nat.zero_mul,Nat.add_zero];exact r4' 2 _ rfl)) ?_;refine xp rfl (aj.ax underlying23 H.aV rfl rfl 0 rfl rfl (by decide)) ?_;refine xp rfl (af (off:=1) underlying25 rfl rfl H.fq rfl) ?_;refine xp rfl (ai H.fM rfl (by rw[Nat.zero_mul,Nat.add_zero];exact(e78.rowAt (fun k=>k) r7) 1 _ rfl)) ?_;refine xp rfl (aj.dV rfl rfl) ?_;refine bf 2 rfl ?_;refine RW.dn (d:=117) (b':=true) rfl (decide_eq_true (rfl)) ?_;refine bf 4 rfl ?_;refine RW.dn (d:=121) (b':=true) rfl (decide_eq_true (rfl)) ?_;refine bf 4 rfl ?_;refine RW.dn (d:=125) (b':=true) rfl (decide_eq_true (rfl)) ?_;refine bf 4 rfl ?_;refine RW.dn (d:=129) (b':=true) rfl (decide_eq_true (rfl)) ?_;refine bf 4 rfl ?_;refine aE rfl ?_;exact⟨(),e78,aF rfl (rfl),rfl,rfl,rfl,rfl,rfl,rfl,rfl,rfl,rfl,rfl,rfl,rfl,trivial⟩
   · rintro u h7 e7;refine G.ret func9 rfl rfl ?_;exact⟨_,rfl,rfl,e1.trans ((e2.trans e26).trans e7)⟩
end
end Go.Proofs.YtmehdcdbeafljaaGreatDoor
namespace Go.Proofs.YtmehdcdbeafljaaGreatDoor
open Go
abbrev V (W:By->Bool) (t:Tr):Prop:=eD W t=true
def E (W:By->Bool) (t:Tr):Prop:=V W t/\(t.kind≠7\/t.kids.length=2)
def Pv (e:Int) (j:EG) (s:List Un) (t:Tr) (r:List Un):Prop:=∃n,pM e n j (.ok s)=some (t,.ok r)
theorem now {t:Tr}{r:List Un}:∃n0:Nat,∀n:Nat,n0<=n->(some (t,PS.ok r):mV)=some (t,.ok r):=⟨0,fun _ _=>rfl⟩
def Stop (u:Un):Prop:=u.1=8\/(u.1=6/\(u.2.1=[59]\/u.2.1=[44]))\/(u.1=4/\(u.2.1=G5\/u.2.1=lK))\/(u.1=7/\u.2.1=[123])
def Fr (r:List Un):Prop:=r=[]\/∃u r',r=u::r'/\Stop u
def MX (u:Un):Prop:=u.1=5\/u.1=9\/u.1=3\/(u.1=4/\(u.2.1=lJ\/u.2.1=l7))\/(u.1=7/\(u.2.1=[40]\/u.2.1=[123]))
def FA (t:By):Int:=if t=zN\/t=l9\/t=n7 then 4 else 6
def Fe (r:List Un):Prop:=r=[]\/∃u r',r=u::r'/\(u.1=8\/u.1=6/\u.2.1=[59])
abbrev Sh:=Int×By
mutual
def Dz:Bool->Tr->List Sh
 |bare,.mk k t l =>
  if k=0 then [(5,t)] else if k=1 then [(9,t)] else if k=2 then [(4,t)] else if k=3 then [(3,t)]
  else if k=4 then (7,[40])::(FA t,t)::(Bj 4 0 l++[(8,[41])])
  else if k=5 then (7,[40])::(Bj 50 0 l++((FA t,t)::(Bj 51 0 l++[(8,[41])])))
  else if k=6 then (if bare then (4,xR)::Bj 6 0 l else (7,[40])::(4,xR)::(Bj 6 0 l++[(8,[41])]))
  else if k=7 then (if l.length=1 then (4,nD)::(3,t)::(6,[61])::Bj 4 0 l else (7,[40])::(4,nD)::(3,t)::(6,[61])::(Bj 50 0 l++((4,G5)::(Bj 51 0 l++[(8,[41])]))))
  else if k=8 then (7,[40])::(4,zO)::(3,t)::(6,[45,62])::(Bj 4 0 l++[(8,[41])])
  else if k=9 then Bj 50 0 l++((7,[40])::(Bj 51 0 l++[(8,[41])]))
  else (7,[123])::(Bj 10 0 l++[(8,[125])])
def Bj:Nat->Nat->List Tr->List Sh
 |_,_,[]=>[]
 |w,i,x::l =>
  if w=4 then Dz false x
  else if w=50 then Dz false x
  else if w=51 then (if i=1 then Dz false x else Bj 51 (i+1) l)
  else if w=6 then (if i=0 then Dz false x++Bj 6 1 l else if i=1 then Dz false x++((4,lK)::Bj 6 2 l) else Dz true x)
  else (if l=[] then Dz false x else Dz false x++((6,[59])::Bj 10 (i+1) l))
end
def sE (u:Un):Sh:=(u.1,u.2.1)
theorem map_cons {us:List Un}{a:Sh}{l:List Sh}(h:us.map sE=a::l):∃u s,us=u::s/\u.1=a.1/\u.2.1=a.2/\s.map sE=l:=by
 cases us with
 |nil=>cases h
 |cons u s =>
  rw[List.map_cons,List.cons.injEq] at h;exact⟨u,s,rfl,by rw[<-h.1];rfl,by rw[<-h.1];rfl,h.2⟩
def Mo (t:Tr):Prop:=t.kind=7->t.kids.length=2
structure Shn (e:Int) (t:Tr):Prop where
 q:Mo t->∀us r t' r',us.map sE=Dz false t->Pv e (.callL t) r t' r'->Pv e (.part 7) (us++r) t' r'
 hd:Mo t->∀us,us.map sE=Dz false t->∃u s,us=u::s/\MX u
 s:¬Mo t->∀us r,us.map sE=Dz false t->Fe r->Pv e .stmt (us++r) t r
 b:t.kind=6->∀us r,us.map sE=Dz true t->∃u s,us=u::s/\(u.1=4/\u.2.1=xR)/\Pv e .choice (s++r) t r
 k:t.kind=10->∀us r,us.map sE=Dz false t->∃u s,us=u::s/\(u.1=7/\u.2.1=[123])/\Pv e .block (us++r) t r
end Go.Proofs.YtmehdcdbeafljaaGreatDoor
namespace Go.Proofs.YtmehdcdbeafljaaGreatDoor
open Go
set_option maxRecDepth 100000
section
variable {w r s:By}{U:List Nat}{n:Int}{a:Nat}{p:UInt8->Bool}
def cX (ss:List bK):List Nat->By->List Nat
 |T,[]=>T
 |T,c::w=>cX ss (bg ss c T) w
theorem iZ (ss:List bK):∀w:By,cX ss [] w=[]
 | []=>rfl
 |c::w=>by rw[cX,iR,iZ ss w]
theorem kf (ss:List bK):∀(v w:By) (T:List Nat),cX ss T (v++w)=cX ss (cX ss T v) w
 | [],_,_=>rfl
 |c::v,w,T=>kf ss v w _
def Ends (ss:List bK) (U:List Nat) (r:By):Prop:=r=[]\/∃c r',r=c::r'/\bg ss c U=[]
theorem kq {ss:List bK}{U:List Nat}(hU:0<=aJ ss U) (hU0:U≠[]):∀(w:By) (T:List Nat) (k:Nat) (b:Int×Int) (r:By),cX ss T w=U->Ends ss U r ->
 ck ss (w++r) T k b=(((k+w.length:Nat):Int),aJ ss U)
 | [],T,k,b,r,h,hr=>by
  have h:T=U:=h;subst h;have hT:¬T.length=0:=fun e=>hU0 (List.length_eq_zero_iff.1 e)
  rw[List.nil_append]
  rcases hr with rfl|⟨c,r',rfl,hc⟩
  · rw[ck,if_neg hT];simp only[if_pos hU];rfl
  · rw[ck,if_neg hT];simp only[if_pos hU];rw[gj (by rw[hc];rfl)];rfl
 |c::w,T,k,b,r,h,hr=>by
  have hT:¬T.length=0:=fun e=>hU0 (by rw[<-h,List.length_eq_zero_iff.1 e,iZ])
  rw[List.cons_append,ck,if_neg hT];rw[kq hU hU0 w _ _ _ r h hr,List.length_cons,show k+1+w.length=k+(w.length+1) by omega]
abbrev T0:List Nat:=cu cH 53
abbrev T1:List Nat:=cu dh 10
theorem AL (hw:cX cH T0 w=U) (hU:aJ cH U=n) (hn:0<=n) (hU0:U≠[]) (hr:Ends cH U r):cV 0 (w++r)=(((w.length:Nat):Int),n):=by
 show cP cH 53 (w++r)=_
 unfold cP;rw[if_neg (by decide),kq (by rw[hU];exact hn) hU0 w _ 0 _ r hw hr,hU,Nat.zero_add]
theorem Mc (hw:cX dh T1 w=U) (hU:aJ dh U=n) (hn:0<=n) (hU0:U≠[]) (hr:Ends dh U r):cV 1 (w++r)=(((w.length:Nat):Int),n):=by
 show cP dh 10 (w++r)=_
 unfold cP;rw[if_neg (by decide),kq (by rw[hU];exact hn) hU0 w _ 0 _ r hw hr,hU,Nat.zero_add]
theorem sB (h0:w≠[]){st:gC}(h:cV st.1 (w++r)=(((w.length:Nat):Int),n)) :
 bT (w++r) st.1=w.length/\dB (w++r) st.1=(if eV st.1 n=3/\de w=true then 4 else eV st.1 n)/\cR (w++r) st=cN st n:=by
 have hl:¬((w.length:Nat):Int)=0:=by have:=List.length_pos_iff.2 h0;omega
 unfold bT dB cR;rw[h];simp only[if_neg hl,Int.toNat_natCast,List.take_left];exact⟨trivial,trivial,trivial⟩
theorem En (h0:w≠[]) (hs:s.drop a=w++r):s.drop (a+w.length)=r/\a+w.length<=s.length:=by
 refine⟨by rw[<-List.drop_drop,hs,List.drop_left],?_⟩;have:=congrArg List.length hs;rw[List.length_drop,List.length_append] at this;have:=List.length_pos_iff.2 h0;omega
theorem EV (k:Int) (hs:s.drop a=w++r):dF s (k,((a:Nat):Int),((a+w.length:Nat):Int))=w:=by
 unfold dF;simp only[Int.toNat_natCast];rw[hs,show a+w.length-a=w.length by omega,List.take_left]
theorem I6 (k:Int) (h:a+w.length<=s.length):yI s (k,((a:Nat):Int),((a+w.length:Nat):Int))=true:=by
 unfold yI;simp only[Bool.and_eq_true,decide_eq_true_eq];omega
theorem we (h:(List.range 256).all (fun n=>p (UInt8.ofNat n))=true) (c:UInt8):p c=true:=by
 have:=List.all_eq_true.1 h c.toNat (List.mem_range.2 c.toNat_lt);simpa using this
def Bk (T:List Nat) (p:UInt8->Bool) (U:List Nat):Bool:=(List.range 256).all fun n=> !p (UInt8.ofNat n) ||decide (bg cH (UInt8.ofNat n) T=U)
theorem oz {T:List Nat}(h:Bk T p U=true){c:UInt8}(hc:p c=true):bg cH c T=U:=by
 have:=we (p:=fun c=> !p c ||decide (bg cH c T=U)) h c;simpa [hc] using this
theorem CT {T:List Nat}{p:UInt8->Bool}(h:Bk T p T=true):∀w:By,w.all p=true->cX cH T w=T
 | [],_=>rfl
 |c::w,k=>by
  rw[List.all_cons,Bool.and_eq_true] at k;rw[cX,oz h k.1];exact CT h w k.2
theorem mS (h:Bk U (fun _=>true) []=true) (r:By):Ends cH U r:=by
 cases r with
 |nil=>exact .inl rfl
 |cons c r=>exact .inr ⟨c,r,rfl,oz h rfl⟩
abbrev D1:List Nat:=[9,14,18,21]
abbrev D2:List Nat:=[17]
abbrev D3:List Nat:=[9,14,17]
theorem db:Bk T0 jj D1=true/\Bk D1 jj D1=true/\Bk D1 (fun c=>c ==46) D2=true/\Bk D2 jj D3=true/\Bk D3 jj D3=true:=by decide +kernel
def HJ (T:List Nat) (p:UInt8->Bool) (U:List Nat):Bool:=(List.range 256).all fun n=> !p (UInt8.ofNat n) ||decide (bg dh (UInt8.ofNat n) T=U)
theorem HI {T:List Nat}(h:HJ T p U=true){c:UInt8}(hc:p c=true):bg dh c T=U:=by
 have:=we (p:=fun c=> !p c ||decide (bg dh c T=U)) h c;simpa [hc] using this
theorem JX:aJ dh (cX dh T1 [34])=2/\cX dh T1 [34]≠[]/\HJ (cX dh T1 [34]) (fun _=>true) []=true:=by decide +kernel
theorem Ez (h:HJ U (fun _=>true) []=true) (r:By):Ends dh U r:=by
 cases r with
 |nil=>exact .inl rfl
 |cons c r=>exact .inr ⟨c,r,rfl,HI h rfl⟩
end
end Go.Proofs.YtmehdcdbeafljaaGreatDoor

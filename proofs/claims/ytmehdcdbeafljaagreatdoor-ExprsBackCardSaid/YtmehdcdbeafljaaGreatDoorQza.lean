/- What the proof of the statement leans on (part 27). -/
import Derived.Lib.LaidU8
import Derived.Test.YtmehdcdbeafljaaGreatDoorQz

namespace Go.Proofs.YtmehdcdbeafljaaGreatDoor
open Go.Proofs.Tryz
open Go Go.Lw Go.ChangeShapes Go.WideShapes Go.ChangeAt Go.RowKit
set_option maxRecDepth 100000
section
variable {W:World}
theorem Hp:Go.Pinned.utf8First=Lib.firstData:=by kernel_rfl
theorem Cv:(Rows.laid_limner_rules_table:DataW Unit)= .agg [.slice ((pO 0).map iX) [],.slice ((pO 1).map iX) [],.slice ((pO 2).map iX) []]:=by kernel_rfl
theorem B7:(Rows.laid_unicode_utf8_acceptRanges:DataW Unit)=Lib.acceptData:=by kernel_rfl
theorem FP (h3:Lib.VarReads Tryz.prog W "unicode/utf8.first" Lib.firstData) (h4:Lib.VarReads Tryz.prog W "unicode/utf8.acceptRanges" Lib.acceptData):J3 W.heap:=by
 refine⟨fun c hc=>?_,fun i hi=>?_⟩
 · obtain⟨g,t,cs,fuel,p,hg,hty,hvar,hd⟩:=h3;obtain rfl:=Option.some.inj ((show Tryz.prog.globalNamed "unicode/utf8.first" =some 5 by kernel_rfl).symm.trans hg);obtain rfl:=Option.some.inj ((show (Tryz.prog.globals[5]?).map (·.type)=some 273 by kernel_rfl).symm.trans hty);have hcs:=Lib.cells_of_tab underlying273 underlying5 (by kernel_rfl) (by kernel_rfl) hd;have:=World.var?_cell hg hvar c;rw[<-dS,this,<-Array.getElem?_toList,hcs];simp[Lib.firstTab,hc]
 · obtain⟨g,t,cs,fuel,p,hg,hty,hvar,hd⟩:=h4;obtain rfl:=Option.some.inj ((show Tryz.prog.globalNamed "unicode/utf8.acceptRanges" =some 6 by kernel_rfl).symm.trans hg);obtain rfl:=Option.some.inj ((show (Tryz.prog.globals[6]?).map (·.type)=some 276 by kernel_rfl).symm.trans hty);obtain⟨fuel',d,q,hdi,he⟩:=Lib.array_elem underlying276 hd i hi;simp only[List.getElem?_map,List.getElem?_range hi,Option.map_some,Option.some.injEq] at hdi;subst hdi;have c2:Tryz.prog.cellsOf 275=2:=by kernel_rfl
   have c1:Tryz.prog.cellsOf 5=1:=by kernel_rfl
   rw[c2] at he
   have hcs:=Lib.ints_of_struct underlying275 (fun j f hj=>by
    match j,hj with
    | 0,hj=>simp at hj;subst hj;exact⟨underlying5,rfl,c1⟩
    | 1,hj=>simp at hj;subst hj;exact⟨underlying5,rfl,c1⟩
    |j+2,hj=>simp at hj) (by rw[c2];rfl) he
   have e0:=congrArg (·[0]?) hcs;have e1:=congrArg (·[1]?) hcs;simp only[List.getElem?_take,List.getElem?_drop] at e0 e1;constructor
   · rw[<-dS,World.var?_cell hg hvar (2*i),<-Array.getElem?_toList];simpa [Nat.mul_comm] using e0
   · rw[<-dS,World.var?_cell hg hvar (2*i+1),<-Array.getElem?_toList];simpa [Nat.mul_comm] using e1
theorem Gk (h:Lib.VarReads Tryz.prog W "limner/rules.table" (.agg [.slice ((pO 0).map iX) [],.slice ((pO 1).map iX) [],.slice ((pO 2).map iX) []])):mJ W.heap:=by
 intro m hm;obtain⟨g,t,cs,fuel,p,hg,hty,hvar,hd⟩:=h;obtain rfl:=Option.some.inj ((show Tryz.prog.globalNamed "limner/rules.table" =some 0 by kernel_rfl).symm.trans hg);obtain rfl:=Option.some.inj ((show (Tryz.prog.globals[0]?).map (·.type)=some 145 by kernel_rfl).symm.trans hty);obtain⟨fuel',d,q,hdi,he⟩:=Lib.array_elem underlying145 hd m hm
 have hdm:d= .slice ((pO m).map iX) []:=by
  match m,hm with
  | 0,_=>exact(Option.some.inj hdi).symm
  | 1,_=>exact(Option.some.inj hdi).symm
  | 2,_=>exact(Option.some.inj hdi).symm
 subst hdm;have c1:Tryz.prog.cellsOf 142=1:=by kernel_rfl
 rw[c1] at he;obtain⟨v,hv,hs⟩:=E9 underlying142 underlying144 (by kernel_rfl) rfl rfl rfl underlying9 underlying3 underlying3 (by kernel_rfl) (by kernel_rfl) (by kernel_rfl) he;refine⟨v,?_,hs⟩;have e0:=congrArg (·[0]?) hv;simp only[List.getElem?_take,List.getElem?_drop] at e0;rw[<-dS,World.var?_cell hg hvar m,<-Array.getElem?_toList];simpa using e0
theorem BA (hL:laidMetH Tryz.prog Rows.exprsBackRow.laid W) (hS:W.ShapedOpen Tryz.prog):Ce W.heap:=by
 rw[MakeChecks.laidMetH_plain _ _ _ (by kernel_rfl)] at hL;obtain⟨g2,t2,cs2,f2,p2,hg2,tS,hv2,hd2⟩:=Lib.laidMet.reads hL (n:= "internal/strconv.uint64pow10") (.tail _ (.tail _ (.head _)));have h3:=Lib.laidMet.reads hL (n:= "unicode/utf8.acceptRanges") (.tail _ (.tail _ (.tail _ (.head _))));obtain⟨g4,t4,cs4,f4,p4,hg4,ht4,hv4,hd4⟩:=Lib.laidMet.reads hL (n:= "limner/regs.signs") (.tail _ (.tail _ (.tail _ (.tail _ (.head _)))));have h5:=Lib.laidMet.reads hL (n:= "limner/rules.table") (.tail _ (.tail _ (.tail _ (.tail _ (.tail _ (.head _))))));have h6:=Lib.laidMet.reads hL (n:= "unicode/utf8.first") (.tail _ (.tail _ (.tail _ (.tail _ (.tail _ (.tail _ (.tail _ (.tail _ (.tail _ (.head _))))))))));have h6':Lib.VarReads Tryz.prog W "unicode/utf8.first" Lib.firstData:=by rw[<-Hp];exact h6
 rw[B7] at h3;rw[Cv] at h5
 exact⟨⟨_,Nat.le_refl _,F7 hg4 ht4 hv4 hd4⟩,Ij hg2 tS hv2 hd2,Gk h5,FP h6' h3,
  zM (t:=3) (k:=.i64) (zero:= #[.int .i64 0]) hS (by decide +kernel) (by kernel_rfl) rfl (by kernel_rfl) (by kernel_rfl) underlying3⟩
noncomputable def G0 (os:Os):World:=(World.doorLaid Tryz.prog 4000 os).layVars Tryz.prog (Rows.exprsBackRow.laid.filter fun x=>["unicode/utf8.first"].contains x.1)
theorem II (os:Os):(G0 os).os=os:=by unfold G0;rw[World.layVars_os];rfl
noncomputable def lexB (os:Os):List Nat:=(List.range (World.doorLaid Tryz.prog 4000 os).heap.size).filter fun x=>x !=5
theorem IG (os:Os) (args:Array Value):laidMetH Tryz.prog Rows.exprsBackRow.laid ((G0 os).forCall (fun _ _=>0) ⟨#[],args,[]⟩).memory:=by
 rw[MakeChecks.laidMetH_plain _ _ _ (by kernel_rfl)]
 have h:laidMet Tryz.prog Rows.exprsBackRow.laid (G0 os) :=
  laidMet_layVars (w0:=World.doorLaid Tryz.prog 4000 os) ["unicode/utf8.first"] (lexB os) rfl (by kernel_rfl) (by kernel_rfl)
   (LaidIn.of_run (lexB os) 8 (by kernel_rfl) (by kernel_rfl) (by kernel_rfl) (by kernel_rfl))
 exact h.of_heap (by simp[World.memory,World.forCall,Input.heap])
theorem Hx:(Rows.laid_limner_exprs_escapes:DataW Unit)= .agg (jj.map fun p=>.agg [.lit (.int .u8 p.1.toNat),.lit (.int .u8 p.2.toNat)]):=by kernel_rfl
theorem FV:(Rows.laid_limner_exprs_unaries:DataW Unit)= .slice (qA.map fun s=>.lit (.string s)) []:=by kernel_rfl
theorem HH:(Rows.laid_limner_exprs_binaries:DataW Unit)= .slice (fV.map fun s=>.lit (.string s)) []:=by kernel_rfl
theorem KG (h:Lib.VarReads Tryz.prog W "limner/exprs.escapes" (.agg (jj.map fun p=>.agg [.lit (.int .u8 p.1.toNat),.lit (.int .u8 p.2.toNat)]))):pJ W.heap:=by
 obtain⟨g,t,cs,fuel,p,hg,hty,hvar,hd⟩:=h;obtain rfl:=Option.some.inj ((show Tryz.prog.globalNamed "limner/exprs.escapes" =some 1 by kernel_rfl).symm.trans hg);obtain rfl:=Option.some.inj ((show (Tryz.prog.globals[1]?).map (·.type)=some 215 by kernel_rfl).symm.trans hty);have c2:Tryz.prog.cellsOf 214=2:=by kernel_rfl
 have c1:Tryz.prog.cellsOf 5=1:=by kernel_rfl
 have key:∀i j,i<6->j<2->cs.toList[i*2+j]? =IW[i*2+j]? :=by
  intro i j hi hj;obtain⟨f1,d,q,hdi,he⟩:=Lib.array_elem underlying215 hd i hi;rw[List.getElem?_map,List.getElem?_eq_getElem (show i<jj.length from hi)] at hdi;have hdi:d= .agg [.lit (.int .u8 jj[i].1.toNat),.lit (.int .u8 jj[i].2.toNat)]:=(Option.some.inj hdi).symm;subst hdi;rw[c2] at he;obtain⟨f2,d2,q2,hdj,he2⟩:=Lib.array_elem underlying214 he j hj;rw[c1,Nat.mul_one] at he2
  have hv:((((cs.toList.drop (i*2)).take 2).drop j).take 1)=[if j=0 then .int .u8 jj[i].1.toNat else .int .u8 jj[i].2.toNat]:=by
   match j,hj with
   | 0,_=>have hdj:=Option.some.inj hdj;subst hdj;exact jC underlying5 (k':=.u8) he2
   | 1,_=>have hdj:=Option.some.inj hdj;subst hdj;exact jC underlying5 (k':=.u8) he2
  have e0:=congrArg (·[0]?) hv;simp only[List.getElem?_take,List.getElem?_drop] at e0
  have e1:cs.toList[i*2+j]? =some (if j=0 then .int .u8 jj[i].1.toNat else .int .u8 jj[i].2.toNat):=by
   match j,hj with
   | 0,_=>simpa using e0
   | 1,_=>simpa using e0
  rw[e1];have:=iL (sz:=2) (enc:=lD) (fun _=>rfl) jj i jj[i] j (if j=0 then .int .u8 jj[i].1.toNat else .int .u8 jj[i].2.toNat) (List.getElem?_eq_getElem hi) (by match j,hj with| 0,_=>rfl| 1,_=>rfl);exact this.symm
 intro n v hv;have hn:n<12:=(List.getElem?_eq_some_iff.1 hv).1;have hk:=key (n / 2) (n%2) (by omega) (by omega);rw[show n / 2*2+n%2=n by omega,hv] at hk;rw[Nat.zero_add,<-dS,World.var?_cell hg hvar n,<-Array.getElem?_toList,hk]
theorem DG {n:String}{g:Nat}{L:List By}(hn:Tryz.prog.globalNamed n=some g) (ht:(Tryz.prog.globals[g]?).map (·.type)=some 87) (h:Lib.VarReads Tryz.prog W n (.slice (L.map fun s=>.lit (.string s)) [])):∃v,cellAt W.heap ⟨g,0,none⟩=some v/\bX oB W.heap (fun _=>False) v L:=by
 obtain⟨g',t,cs,fuel,p,hg,hty,hvar,hd⟩:=h;obtain rfl:=Option.some.inj (hn.symm.trans hg);obtain rfl:=Option.some.inj (ht.symm.trans hty);have c1:Tryz.prog.cellsOf 9=1:=by kernel_rfl
 obtain⟨v,hv,hs⟩:=E8 underlying87 underlying9 c1 hd;refine⟨v,?_,hs⟩;rw[<-dS,World.var?_cell hg hvar 0,<-Array.getElem?_toList,hv];rfl
theorem IV (hL:laidMetH Tryz.prog Rows.exprsBackRow.laid W) (hS:W.ShapedOpen Tryz.prog):Dz W.heap:=by
 have hG:=BA hL hS;rw[MakeChecks.laidMetH_plain _ _ _ (by kernel_rfl)] at hL;have h6:=Lib.laidMet.reads hL (n:= "limner/exprs.escapes") (.tail _ (.tail _ (.tail _ (.tail _ (.tail _ (.tail _ (.head _)))))));have h7:=Lib.laidMet.reads hL (n:= "limner/exprs.unaries") (.tail _ (.tail _ (.tail _ (.tail _ (.tail _ (.tail _ (.tail _ (.head _))))))));have h8:=Lib.laidMet.reads hL (n:= "limner/exprs.binaries") (.tail _ (.tail _ (.tail _ (.tail _ (.tail _ (.tail _ (.tail _ (.tail _ (.head _)))))))));rw[Hx] at h6;rw[FV] at h7;rw[HH] at h8;exact⟨hG,KG h6,DG (by kernel_rfl) (by kernel_rfl) h7,DG (by kernel_rfl) (by kernel_rfl) h8⟩
abbrev Pt:=Int×By×Int
def BO (p:Pt):List Value:=[.int .i8 p.1,.string (bs p.2.1),.int .u8 p.2.2]
theorem Gp (p:Pt):∀v∈BO p,v.oneCell'=true:=fun v hv=>by simp[BO] at hv;rcases hv with rfl|rfl|rfl<;>rfl
abbrev NF:iA Pt:=.record 3 (by decide) BO (fun _=>rfl) Gp
theorem Ht:Tryz.prog.underlying 80=some (.struct (Tryz.prog.fieldsOf 80)):=by kernel_rfl
theorem CF {H:Type}{enc:TypeId×Value->H}{base:Nat}{v:Value}{d:DataW H}{p:List MemPlace}(hv:Value.okWide Tryz.prog W .any base 22 v) (h:DataW.Trod enc Tryz.prog W 0 (fun _=>true) true 22 v d p) :
 ∃l:List Pt,bX NF W.heap (fun _=>False) v l/\∀x∈l,(-128<=x.1/\x.1<=127)/\0<=x.2.2/\x.2.2<=255:=by
 exact ER (Q:=fun x=>(-128<=x.1/\x.1<=127)/\0<=x.2.2/\x.2.2<=255) (pos:=(by decide:0<3)) (hl:=fun a=>(rfl:(BO a).length=3)) (h1:=Gp) (fs:=Tryz.prog.fieldsOf 80) underlying22 Ht (Deep.hone_of (by kernel_rfl)) (by kernel_rfl) rfl (fun cs n hl hf=>by
  match cs,hl with
  | [c0,c1,c2],_ =>
   obtain⟨y0,h0⟩:=hf 0 _ c0 rfl rfl;obtain⟨y1,h1⟩:=hf 1 _ c1 rfl rfl;obtain⟨y2,h2⟩:=hf 2 _ c2 rfl rfl;obtain⟨n0,e0,_,w0⟩:=DataW.trod_int underlying78 h0;obtain⟨n1,e1,_,w1⟩:=DataW.trod_string underlying9 h1;obtain⟨n2,e2,_,w2⟩:=DataW.trod_int underlying5 h2;simp at e0 e1 e2;subst e0 e1 e2;refine⟨(n0,n1.data.toList,n2),by simp[BO,Ms],?_⟩;simpa [Lit.wf,IntKind.min,IntKind.max,IntKind.signed,IntKind.bits] using And.intro w0 w2) hv h
end
end Go.Proofs.YtmehdcdbeafljaaGreatDoor
namespace Go.Proofs.YtmehdcdbeafljaaGreatDoor
open Go.Proofs.Tryz
open Go Go.Lw
set_option maxRecDepth 20000
theorem BH {h:az}{p:Value}(O:Nat->Prop) (hO:∀y,O y->y<h.size) (hg:Ce h) (k:oh h p) (s:By) (hs:s.length<=1000000) :
 ah Tryz.prog 15 #[p,.string (bs s)] h (dh fun r h'=>(∃v,r= .tuple #[v,.agg (cO (fN s).2).toArray]/\bX JU h' O v (fN s).1)/\aD h h'):=by
 have hbs:=bD s;generalize hres:fN s=res;refine ah.of func15 rfl rfl ?_;refine bq func15 1 rfl ?_;refine xo rfl (aA.aY H.Cf) ?_;rintro _ h1 ⟨rfl,k5,e1,z1⟩;have k5:bp h1 h.size 41 (cO (0,0)):=k5;have y1:=e1.size;refine xd [0,1,4,5] rfl ?_;refine Jm rfl ?_;refine aZ func15 1 [0,1,4,5,6] rfl ?_;refine av rfl ?_;refine Jn rfl ?_;refine av rfl ?_;refine G.block rfl rfl ?_;refine bG (σ:=Nat×ur×Value×List Tk) (fun q=>[(0,p),(1,.string (bs s)),(4,q.2.2.1),(5,.pointer (some ⟨h.size,0,none⟩)),(6,.int .i64 (q.1:Nat))]) (fun q h'=>(q.1<=s.length/\q.2.2.2.length<=q.1/\Ia q.2.1.2)/\aD h h'/\h1.size<=h'.size/\bp h' h.size 41 (cO q.2.1)/\lR 3 fU h' h1.size 46 q.2.2.1 q.2.2.2/\(q.2.2.2++(fO s.length (s.drop q.1) q.1 q.2.1).1,(fO s.length (s.drop q.1) q.1 q.2.1).2)=res) (fun q=>s.length+1-q.1) ((0,(0,0),.slice none 0 0,[])) rfl ⟨rfl,rfl,rfl,rfl,rfl,trivial⟩ ⟨⟨Nat.zero_le _,by simp,by show Ia 0;unfold Ia;omega⟩,e1,Nat.le_refl _,k5,lR.nil _ _ _ _ _,hres⟩ ?_;rintro⟨i,st,vt,toks⟩ g ⟨⟨hi,htl,hst⟩,eg,hz,kS,ho,hcon⟩ ih
 try dsimp only
 dsimp only at hi htl hst kS ho hcon;have hho:aQ g h1.size 46 3 vt toks.length (toks.flatMap fU):=ho;obtain⟨ta,tc,rfl,_⟩:=hho.open;have tge:∀b,(Value.slice ta toks.length tc).ownBlock=some b->h1.size<=b/\b<g.size:=fun b hb=>hho.lt hb
 rcases Nat.lt_or_ge i s.length with hlt|hge
 · have hne:s.drop i≠[]:=fun e=>by have:=congrArg List.length e;rw[List.length_drop] at this;simp at this;omega
   have hkl:=nL hne st.1;rw[List.length_drop] at hkl;rw[iP hne (by rw[List.length_drop];omega)] at hcon;have hone:=EW (hg.ax eg) (k.ax eg) s i hlt hs st hst;unfold Ko at hone;have hnI:=Iv hst (s.drop i);rw[List.drop_drop] at hcon;generalize ef (s.drop i) st.1=L at *;generalize mY (s.drop i) st.1=kd at *;generalize nD (s.drop i) st=nx at *;generalize CU st.1 (s.drop i)=sp at *;refine G.block rfl rfl ?_;refine bq func15 3 rfl ?_;refine xp rfl (aj.aH H.jq H.eW rfl kS.row (by first|rfl|(simp;done)|(simp;omega))) ?_;refine xo rfl (aq (vs:=[_,_,_,_]) func34 rfl H.LC rfl (ah.bw (hone))) ?_;rintro _ g1 ⟨rfl,f1⟩;refine bh 4 rfl ?_;refine xo rfl (aA.aY H.FJ) ?_;rintro _ g2 ⟨rfl,c7,f2,y2⟩;refine xo rfl (aA.aY H.Cf) ?_;rintro _ g3 ⟨rfl,c8,f3,y3⟩;refine RW.cu rfl rfl rfl (aA.aB H.lV rfl rfl (c7.ax f3) (by first|rfl|(simp;done)|(simp;omega)) (by first|decide|exact of_decide_eq_true rfl|(simp;done)|(simp;omega)) (pN _)) ?_;rintro _ g4 ⟨rfl,d7,x4,y4⟩;have d7:bp g4 g1.size 46 (fU (kd,(i:Int),((i+L:Nat):Int))):=d7;have yz1:=f1.size;have yz2:=f2.size;have yz4:=x4.size;refine RW.cu rfl rfl rfl (aA.aB H.eW rfl rfl ((c8.ext x4 (show ¬g2.size=g1.size by omega))) (by first|rfl|(simp;done)|(simp;omega)) (by first|decide|exact of_decide_eq_true rfl|(simp;done)|(simp;omega)) (iU nx)) ?_;rintro _ g5 ⟨rfl,d8,x5,y5⟩;have d8:bp g5 g2.size 41 (cO nx):=d8;have d7:=d7.ext x5 (show ¬g1.size=g2.size by omega);have yz5:=x5.size;have eg5:aD g g5:=aD.only (aD.only ((f1.trans f2).trans f3) x4 (by omega)) x5 (by omega);have hho5:=hho.pq eg5;refine aS 1 [0,1,4,5,6,7,8] rfl ?_;refine av rfl ?_;refine G.block rfl rfl ?_;refine xr func15 rfl ?_;refine xp rfl (af (off:=2) underlying46 rfl rfl H.cA rfl) ?_;refine xp rfl (ai H.de rfl (d7.cell (i:=2) rfl)) ?_;refine aS 3 [0,1,4,5,6,7,8,19] rfl ?_;refine aI rfl rfl (fun hc=>absurd hc (by simp;omega)) (fun _=>?_);refine aC rfl ?_;refine G.aR ?_;refine bq func15 1 rfl ?_;refine xp rfl (aj.aH H.Al H.lV rfl d7.row (by first|rfl|(simp;done)|(simp;omega))) ?_;refine xo rfl (aA.cE (cs:=[_,_,_]) underlying39 H.Mh rfl rfl (by decide)) ?_;rintro _ _ ⟨rfl,rfl⟩;refine xo rfl (aA.bS underlying39 H.Mh rfl rfl (hho5) rfl rfl (pN _) (by omega) (by decide) (by omega)) ?_;rintro vt2 g6 ⟨ho6,hx6,hx6',hv6⟩;have yz6:=hx6.size;have d7:=d7.ext hx6 (fun k=>by have:=tge _ k.symm;omega);have d8:=d8.ext hx6 (fun k=>by have:=tge _ k.symm;omega);have kS6:=(kS.ax eg5).ext hx6 (fun k=>by have:=tge _ k.symm;omega);have e06:aD h g6:=Ext.own (eg.trans eg5) hho5 (by omega) hx6;have ho6:lR 3 fU g6 h1.size 46 vt2 (toks++[(kd,(i:Int),((i+L:Nat):Int))]):=lR.of ho6 rfl rfl;have hMa:¬(g1.size=h.size\/Array.size g6<=g1.size):=by omega
   have hMb:¬(g2.size=h.size\/Array.size g6<=g2.size):=by omega
   refine aS 1 [0,1,4,5,6,7,8,19] rfl ?_;refine b6 (fun b=>b=Array.size h\/Array.size g6<=b) (fun i=>Nat.blt i 6) (sz:=5) (listed:= #[false,false,false,false,false]) func15 H.mixed rfl rfl rfl ?_;refine bL 0 1 (by kernel_rfl) rfl (fun h' e=>af (off:=2) underlying46 rfl rfl H.cA rfl) ?_;refine bL 1 3 (by kernel_rfl) rfl (fun h' e=>ai H.de rfl (e.cell hMa (d7.cell (i:=2) rfl))) ?_;refine bL 2 7 (by kernel_rfl) rfl (fun h' e=>aj.aH H.jq H.eW rfl (e.rowAt hMb d8.row) (by first|rfl|(simp;done)|(simp;omega))) ?_;refine cg 3 15 (by kernel_rfl) rfl ?_;refine mN 4 31 (by kernel_rfl) rfl (aA.aB H.eW rfl rfl kS6 (by first|rfl|(simp;done)|(simp;omega)) (by first|decide|exact of_decide_eq_true rfl|(simp;done)|(simp;omega)) (iU nx)) ?_;rintro _ g7 ⟨rfl,kS7,x7,y7⟩;refine⟨fun _=>x7.mono (fun _ _ k=>.inl k),?_⟩;have kS7:bp g7 h.size 41 (cO nx):=kS7;have ho7:lR 3 fU g7 h1.size 46 vt2 (toks++[(kd,(i:Int),((i+L:Nat):Int))]):=aQ.ext x7 ho6 (fun b hb (k:b=h.size)=>by have:=(aQ.lt ho6 hb).1;omega);refine br (by kernel_rfl) ?_;refine xu [0,1,4,5,6,7,8,19] rfl ?_;refine G.aR ?_;exact ih (i+L,nx,vt2,toks++[(kd,(i:Int),((i+L:Nat):Int))]) _ _ ⟨rfl,rfl,rfl,rfl,rfl,trivial⟩ ⟨⟨by show i+L<=s.length;omega,by simp;omega,hnI⟩,aD.only e06 x7 (by omega),by have:=x7.size;show h1.size<=g7.size;omega,kS7,ho7,by simpa using hcon⟩ (by show s.length+1-(i+L)<s.length+1-i;omega)
 · obtain rfl:i=s.length:=by omega
   have hone:=Iu (h:=g) (p:=p) (b:=false) (fun g' eg'=>Bz (k.ax (eg.trans eg'))) s (s.length:Nat) hs st (.inr (.inr (by omega)));rw[List.drop_length,B4] at hcon;refine G.block rfl rfl ?_;refine bq func15 3 rfl ?_;refine xp rfl (aj.aH H.jq H.eW rfl kS.row (by first|rfl|(simp;done)|(simp;omega))) ?_;refine xo rfl (aq (vs:=[_,_,_,_]) func34 rfl H.LC rfl (ah.bw (hone))) ?_;rintro _ g1 ⟨rfl,f1⟩;refine bh 4 rfl ?_;refine xo rfl (aA.aY H.FJ) ?_;rintro _ g2 ⟨rfl,c7,f2,y2⟩;refine xo rfl (aA.aY H.Cf) ?_;rintro _ g3 ⟨rfl,c8,f3,y3⟩;refine RW.cu rfl rfl rfl (aA.aB H.lV rfl rfl (c7.ax f3) (by first|rfl|(simp;done)|(simp;omega)) (by first|decide|exact of_decide_eq_true rfl|(simp;done)|(simp;omega)) (pN _)) ?_;rintro _ g4 ⟨rfl,d7,x4,y4⟩;have d7:bp g4 g1.size 46 (fU (0,0,0)):=d7;have yz1:=f1.size;have yz2:=f2.size;have yz4:=x4.size;refine RW.cu rfl rfl rfl (aA.aB H.eW rfl rfl ((c8.ext x4 (show ¬g2.size=g1.size by omega))) (by first|rfl|(simp;done)|(simp;omega)) (by first|decide|exact of_decide_eq_true rfl|(simp;done)|(simp;omega)) (iU st)) ?_;rintro _ g5 ⟨rfl,d8,x5,y5⟩;have d7:=d7.ext x5 (show ¬g1.size=g2.size by omega);have yz5:=x5.size;have eg5:aD g g5:=aD.only (aD.only ((f1.trans f2).trans f3) x4 (by omega)) x5 (by omega);have hho5:=ho.ax eg5;have kS5:=kS.ax eg5;refine aS 1 [0,1,4,5,6,7,8] rfl ?_;refine av rfl ?_;refine G.block rfl rfl ?_;refine xr func15 rfl ?_;refine xp rfl (af (off:=2) underlying46 rfl rfl H.cA rfl) ?_;refine xp rfl (ai H.de rfl (d7.cell (i:=2) rfl)) ?_;refine aS 3 [0,1,4,5,6,7,8,19] rfl ?_;refine aI rfl rfl (fun _=>?_) (fun hc=>absurd hc (by simp));have hMa:¬(h.size=h.size/\Array.size g5<=h.size):=by omega
   refine bA rfl rfl ?_;refine av rfl ?_;refine b6 (fun b=>Array.size g5<=b) (fun i=>Nat.blt i 5) (sz:=4) (listed:= #[false,false,false,false]) func15 H.mixed rfl rfl rfl ?_;refine cg 0 1 (by kernel_rfl) rfl ?_;refine bL 1 3 (by kernel_rfl) rfl (fun h' e=>aj.aH H.jq H.eW rfl (e.rowAt (by omega) kS5.row) (by first|rfl|(simp;done)|(simp;omega))) ?_;refine cg 2 7 (by kernel_rfl) rfl ?_;refine mN 3 15 (by kernel_rfl) rfl (aA.aB H.eW rfl rfl kS5 (by first|rfl|(simp;done)|(simp;omega)) (by first|decide|exact of_decide_eq_true rfl|(simp;done)|(simp;omega)) (iU st)) ?_;rintro _ g7 ⟨rfl,kS7,x7,y7⟩;refine⟨fun _=>(lf kS5 kS7 x7).mono (fun _ _ k=>k.elim),?_⟩;have kS7:bp g7 h.size 41 (cO st):=kS7;have e7:=lf kS5 kS7 x7;refine br (by kernel_rfl) ?_;refine xu [0,1,4,5,6,7,8,19] rfl ?_;refine G.cU func15 rfl (.cons (bl.tmp rfl) (.cons (bl.cM H.jq H.eW rfl (kS7.row) (by first|rfl|(simp;done)|(simp;omega))) (.nil))) ?_;rw[<-hcon];exact⟨_,rfl,⟨_,rfl,by show bX JU g7 _ _ (toks++[]);rw[List.append_nil];exact lR.read (hho5.ax e7) (fun b hb k=>by have:=hO b k;omega)⟩,(eg.trans eg5).trans e7⟩
theorem CY {h:az}{p:Value}(hg:Ce h) (k:oh h p) (s:By) (hs:s.length<=1000000) :
 ah Tryz.prog 15 #[p,.string (bs s)] h (dh fun r h'=>(∃v,r= .tuple #[v,.agg (cO (fN s).2).toArray]/\bX JU h' (fun _=>False) v (fN s).1)/\aD h h'):=BH _ (fun _ k=>k.elim) hg k s hs
end Go.Proofs.YtmehdcdbeafljaaGreatDoor
namespace Go.Proofs.YtmehdcdbeafljaaGreatDoor
open Go.Proofs.Tryz
open Go Go.Lw
set_option maxRecDepth 100000
section
variable {h:az}
theorem Ba {p:Value}(hg:Dz h) (kx:oh h p) (s:By) (hs:s.length<=500000){k:List Tr}{a e:Int}(hP:cT s (fN s).1 (fN s).2.1 k a e) :
 ah Tryz.prog 11 #[p,.string (bs s)] h (dh fun r h'=>aD h h'/\∃lv,r=packed [lv,.int .i64 a,.int .i64 e]/\dH eN (fun b=>b<h.size) h' h.size 25 lv k):=by
 have hlen:(fN s).1.length<=s.length:=wC _ _ _ _;have hb:(fN s).1.length*(s.length+2)<=1000000000000:=Nat.le_trans (Nat.mul_le_mul hlen (Nat.le_refl _)) (Nat.le_trans (Nat.mul_le_mul hs (show s.length+2<=500002 by omega)) (by decide));refine ah.of func11 rfl rfl ?_;refine aZ func11 3 [0,1,4,5,6] rfl ?_;refine bq func11 2 rfl ?_;refine xo rfl (aq (vs:=[_,_]) func15 rfl H.Nw rfl (ah.bw (CY hg.lx kx s (by omega)))) ?_;rintro _ h1 ⟨⟨v,rfl,hv⟩,e1⟩;refine bh 3 rfl ?_;refine xo rfl (aA.aY H.Cf) ?_;rintro _ h2 ⟨rfl,k2,e2,z2⟩;refine bh 1 rfl ?_;refine RW.cu rfl rfl rfl (aA.aB H.eW rfl rfl k2 (by first|rfl|(simp;done)|(simp;omega)) (by first|decide|exact of_decide_eq_true rfl|(simp;done)|(simp;omega)) (iU _)) ?_;rintro _ h3 ⟨rfl,k3,x3,z3⟩;have k3:bp h3 h1.size 41 (cO (fN s).2):=k3;have e13:aD h1 h3:=aD.only e2 x3 (Nat.le_refl _);have e03:=e1.trans e13;have hcall:=Ch ((hg.ax e03).esc) (hv.ax e13) s (fN s).2 hb (by omega) hP;refine xd [0,1,4,5,6,7,8] rfl ?_;refine bq func11 2 rfl ?_;refine xp rfl (aj.aH H.jq H.eW rfl k3.row (by first|rfl|(simp;done)|(simp;omega))) ?_;refine xo rfl (aq (vs:=[_,_,_]) func23 rfl H.Nv rfl (ah.bw (hcall))) ?_;rintro _ h4 ⟨e4,lv,rfl,hlv⟩;refine aS 6 [0,1,4,5,6,7,8] rfl ?_;refine G.ret func11 rfl rfl ?_;exact⟨_,rfl,e03.trans e4,_,rfl,(dH.lower hlv e03.size).pV (Ext.refl (fun _=>False) _) (fun _ _ q=>q) (fun _ _ q=>q.elim) (fun b _ q=>by have:=e03.size;omega)⟩
theorem iJ {p:Value}(hg:Dz h) (kx:oh h p) (s:By) (hs:s.length<=500000){k:List Tr}{a e:Int}(hP:cT s (fN s).1 (fN s).2.1 k a e) :
 ah Tryz.prog 11 #[p,.string (bs s)] h (dh fun r h'=>aD h h'/\∃lv,r=packed [lv,.int .i64 a,.int .i64 e]/\bX eN h' (fun b=>b<h.size) lv k) :=
 (Ba hg kx s hs hP).ret fun _ _ ⟨e1,lv,h1,h2⟩=>⟨e1,lv,h1,h2.read (fun _ hb q=>Nat.not_lt.2 hb q) (fun _ _ q=>q)⟩
abbrev MK:By:=[49,32,43,32,50,32,42,32,120]
abbrev MJ:By:=[102,40,97,44,32,98,41]
abbrev MI:By:=[108,101,116,32,121,32,61,32,34,97,92,110,34]
abbrev MH:By:=[49,32,43]
abbrev MG:By:=[97,32,98]
abbrev MU:Tr:=.mk 5 [43] [.mk 0 [49] [],.mk 5 [42] [.mk 0 [50] [],.mk 3 [120] []]]
abbrev MT:Tr:=.mk 9 [] [.mk 9 [] [.mk 3 [102] [],.mk 3 [97] []],.mk 3 [98] []]
abbrev NX:Tr:=.mk 7 [121] [.mk 1 [97,10] []]
theorem N8:cT MK (fN MK).1 (fN MK).2.1 [MU] 0 0:=.ok (u:=[(5,[49],0),(6,[43],2),(5,[50],4),(6,[42],6),(3,[120],8)]) (n:=40) (r:=[]) (by decide +kernel) (by kernel_rfl)
theorem N7:cT MJ (fN MJ).1 (fN MJ).2.1 [MT] 0 0:=.ok (u:=[(3,[102],0),(7,[40],1),(3,[97],2),(6,[44],3),(3,[98],5),(8,[41],6)]) (n:=40) (r:=[]) (by decide +kernel) (by kernel_rfl)
theorem N6:cT MI (fN MI).1 (fN MI).2.1 [NX] 0 0:=.ok (u:=[(4,[108,101,116],0),(3,[121],4),(6,[61],6),(9,[97,10],8)]) (n:=40) (r:=[]) (by decide +kernel) (by kernel_rfl)
theorem N5:cT MH (fN MH).1 (fN MH).2.1 [] 3 10:=.bad (u:=[(5,[49],0),(6,[43],2)]) (n:=40) (k:=[.mk 5 [43] [.mk 0 [49] [],.mk 0 [] []]]) (by decide +kernel) (by kernel_rfl)
theorem N4:cT MG (fN MG).1 (fN MG).2.1 [] 2 10:=.bad (u:=[(3,[97],0),(3,[98],2)]) (n:=40) (k:=[.mk 3 [97] []]) (by decide +kernel) (by kernel_rfl)
theorem N0:lY MU=[40,49,32,43,32,40,50,32,42,32,120,41,41]:=by decide +kernel
theorem NZ:lY MT=[102,40,97,41,40,98,41]:=by decide +kernel
theorem nC {O:Nat->Prop}{v:Value}{x:Tr}(k:bX eN h O v [x]):∃b o cs c,v= .slice (some ⟨b,o,none⟩) 1 c/\Lw.rowAt h b o cs/\eN.R h O cs x:=by
 obtain⟨a,n,c,rfl,hw⟩:=k.open;have hn:1=n:=hw.len;subst hn;obtain⟨b,o,x',cs,ha,_,hx,hr,hR⟩:=Sl.nd hw (show 0<1 by decide);cases hx;rw[Nat.zero_mul,Nat.add_zero] at hr;exact⟨b,o,cs,c,by rw[ha],hr,hR⟩
theorem qO (hg:Dz h):ah Tryz.prog 9 #[] h (dh fun r h'=>r= .bool true/\aD h h'):=by
 obtain⟨lim,hl1,hl2⟩:=hg.lx.sg;refine ah.of func9 rfl rfl ?_;refine aZ func9 1 [0] rfl ?_;refine xr func9 rfl ?_;refine xo rfl (aq (vs:=[]) func10 rfl H.L6 rfl (ah.bw (yd hl2 hl1 hg.lx.tens hg.lx.rules))) ?_;rintro p h1 ⟨kx,e1⟩;have g1:=hg.ax e1;refine aS 1 [0,1] rfl ?_;refine bq func9 1 rfl ?_;refine xo rfl (aq (vs:=[_,_]) func11 rfl H.CL rfl (ah.bw (iJ g1 kx MK (by decide) N8))) ?_;rintro _ h2 ⟨e2,v2,rfl,s2⟩;refine aS 7 [0,1,2,4] rfl ?_;refine bq func9 1 rfl ?_;refine xo rfl (aq (vs:=[_,_]) func11 rfl H.CL rfl (ah.bw (iJ (g1.ax e2) (kx.ax e2) MJ (by decide) N7))) ?_;rintro _ h3 ⟨e3,v3,rfl,s3⟩;have e13:=e2.trans e3;refine aS 7 [0,1,2,4,5,7] rfl ?_;refine bq func9 1 rfl ?_;refine xo rfl (aq (vs:=[_,_]) func11 rfl H.CL rfl (ah.bw (iJ (g1.ax e13) (kx.ax e13) MI (by decide) N6))) ?_;rintro _ h4 ⟨e4,v4,rfl,s4⟩;have e14:=e13.trans e4;refine aS 7 [0,1,2,4,5,7,8,10] rfl ?_;refine bq func9 1 rfl ?_;refine xo rfl (aq (vs:=[_,_]) func11 rfl H.CL rfl (ah.bw (iJ (g1.ax e14) (kx.ax e14) MH (by decide) N5))) ?_;rintro _ h5 ⟨e5,v5,rfl,s5⟩;have e15:=e14.trans e5;refine aS 7 [0,1,2,4,5,7,8,10,12,13] rfl ?_;refine bq func9 1 rfl ?_;refine xo rfl (aq (vs:=[_,_]) func11 rfl H.CL rfl (ah.bw (iJ (g1.ax e15) (kx.ax e15) MG (by decide) N4))) ?_;rintro _ h6 ⟨e6,v6,rfl,s6⟩;have e46:=e5.trans e6;have e36:=e4.trans e46;have e26:=e3.trans e36;have g6:=g1.ax (e2.trans e26);obtain⟨b2,o2,cs2,c2,rfl,r2,R2⟩:=nC (s2.ax e26);obtain⟨b3,o3,cs3,c3,rfl,r3,R3⟩:=nC (s3.ax e36);obtain⟨b4,o4,cs4,c4,rfl,r4,R4⟩:=nC (s4.ax e46);obtain⟨w4,rfl,t4⟩:=jE R4;obtain⟨b7,o7,cs7,c7,rfl,r7,R7⟩:=nC t4;obtain⟨w7,rfl,_⟩:=jE R7;refine aS 7 [0,1,2,4,5,7,8,10,12,13,15,16] rfl ?_;refine av rfl ?_;refine av rfl ?_;refine G.bF [(80,.bool false)] [(0,_),(1,_),(2,_),(4,_),(5,_),(7,_),(8,_),(10,_),(12,_),(13,_),(15,_),(16,_)] ⟨rfl,rfl,rfl,rfl,rfl,rfl,rfl,rfl,rfl,rfl,rfl,rfl,trivial⟩ func9 rfl ?_ ?_
 · refine bh 3 rfl ?_;refine RW.dw (d:=50) (b':=false) rfl (decide_eq_false ((by decide))) ?_;refine bh 4 rfl ?_;refine RW.dw (d:=54) (b':=false) rfl (decide_eq_false ((by decide))) ?_;refine bh 4 rfl ?_;refine RW.dw (d:=58) (b':=false) rfl (decide_eq_false ((by decide))) ?_;refine cD 1 rfl rfl (aj.aJ underlying23 rfl) ?_;refine bh 3 rfl ?_;refine RW.dw (d:=63) (b':=false) rfl (decide_eq_false ((by decide))) ?_;refine cD 1 rfl rfl (aj.aJ underlying23 rfl) ?_;refine bh 3 rfl ?_;refine RW.dw (d:=68) (b':=false) rfl (decide_eq_false ((by decide))) ?_;refine cD 1 rfl rfl (aj.aJ underlying23 rfl) ?_;refine bh 3 rfl ?_;refine RW.dw (d:=73) (b':=false) rfl (decide_eq_false ((by decide))) ?_;refine cD 1 rfl rfl (aj.ay underlying23 H.aU rfl rfl 0 rfl rfl (by decide)) ?_;refine xp rfl (af (off:=2) underlying25 rfl rfl H.gq rfl) ?_;refine xp rfl (ai H.ng rfl (by rw[Nat.zero_mul,Nat.add_zero];exact r4 2 _ rfl)) ?_;refine xp rfl (aj.aJ underlying23 rfl) ?_;refine bh 2 rfl ?_;refine aE rfl ?_;exact⟨rfl,aF rfl (rfl),rfl,rfl,rfl,rfl,rfl,rfl,rfl,rfl,rfl,rfl,rfl,rfl,trivial⟩
 · refine aI rfl rfl (fun hc=>absurd hc (by simp)) (fun _=>?_);obtain⟨w2,rfl,_⟩:=jE R2;obtain⟨w3,rfl,_⟩:=jE R3;have hs1:=qq (x:=MU) (by decide) g6 (fZ.of R2);refine aC rfl ?_;refine av rfl ?_;refine G.uU (fun(u:Unit) (h':az)=>aD h6 h') (fun(u:Unit)=>[(0,.bool true)]) [(1,_),(2,_),(4,_),(5,_),(7,_),(8,_),(10,_),(12,_),(13,_),(15,_),(16,_),(80,_)] ⟨rfl,rfl,rfl,rfl,rfl,rfl,rfl,rfl,rfl,rfl,rfl,rfl,trivial⟩ func9 rfl ?_ ?_
   · refine cD 1 rfl rfl (aj.ay underlying23 H.aU rfl rfl 0 rfl rfl (by decide)) ?_;refine xp rfl (aj.aH H.bO H.aU rfl (by rw[Nat.zero_mul,Nat.add_zero];exact r2) (by first|rfl|(simp;done)|(simp;omega))) ?_;refine xo rfl (aq (vs:=[_]) func12 rfl H.Kt rfl (ah.bw (hs1))) ?_;rintro _ h7 ⟨rfl,e7⟩;refine xp rfl (aj.dX rfl rfl) ?_;refine bh 1 rfl ?_;refine RW.dw (d:=86) (b':=true) rfl (decide_eq_true ((by rw[N0];rfl))) ?_;have hs2:=qq (x:=MT) (by decide) (g6.ax e7) ((fZ.of R3).mv (Mv.ax e7));refine cD 1 rfl rfl (aj.ay underlying23 H.aU rfl rfl 0 rfl rfl (by decide)) ?_;refine xp rfl (aj.aH H.bO H.aU rfl (by rw[Nat.zero_mul,Nat.add_zero];exact e7.rowAt (fun k=>k) r3) (by first|rfl|(simp;done)|(simp;omega))) ?_;refine xo rfl (aq (vs:=[_]) func12 rfl H.Kt rfl (ah.bw (hs2))) ?_;rintro _ h8 ⟨rfl,e8⟩;refine xp rfl (aj.dX rfl rfl) ?_;refine bh 2 rfl ?_;refine RW.dw (d:=93) (b':=true) rfl (decide_eq_true ((by rw[NZ];rfl))) ?_;have e78:=e7.trans e8;have r4':=e78.rowAt (fun k=>k) r4;refine cD 1 rfl rfl (aj.ay underlying23 H.aU rfl rfl 0 rfl rfl (by decide)) ?_;refine xp rfl (af (off:=0) underlying25 rfl rfl H.cA rfl) ?_;refine xp rfl (ai H.de rfl (by rw[Nat.zero_mul,Nat.add_zero];exact r4' 0 _ rfl)) ?_;refine bh 3 rfl ?_;refine RW.dw (d:=100) (b':=true) rfl (decide_eq_true (rfl)) ?_;refine cD 1 rfl rfl (aj.ay underlying23 H.aU rfl rfl 0 rfl rfl (by decide)) ?_;refine xp rfl (af (off:=1) underlying25 rfl rfl H.fL rfl) ?_;refine xp rfl (ai H.gj rfl (by rw[Nat.zero_mul,Nat.add_zero];exact r4' 1 _ rfl)) ?_;refine xp rfl (aj.dX rfl rfl) ?_;refine bh 2 rfl ?_;refine RW.dw (d:=107) (b':=true) rfl (decide_eq_true (rfl)) ?_;refine cD 1 rfl rfl (aj.ay underlying23 H.aU rfl rfl 0 rfl rfl (by decide)) ?_;refine xp rfl (af (off:=2) underlying25 rfl rfl H.gq rfl) ?_;refine xp rfl (ai H.ng rfl (by rw[Nat.zero_mul,Nat.add_zero];exact r4' 2 _ rfl)) ?_;refine xp rfl (aj.ay underlying23 H.aU rfl rfl 0 rfl rfl (by decide)) ?_;refine xp rfl (af (off:=1) underlying25 rfl rfl H.fL rfl) ?_;refine xp rfl (ai H.gj rfl (by rw[Nat.zero_mul,Nat.add_zero];exact(e78.rowAt (fun k=>k) r7) 1 _ rfl)) ?_;refine xp rfl (aj.dX rfl rfl) ?_;refine bh 2 rfl ?_;refine RW.dw (d:=117) (b':=true) rfl (decide_eq_true (rfl)) ?_;refine bh 4 rfl ?_;refine RW.dw (d:=121) (b':=true) rfl (decide_eq_true (rfl)) ?_;refine bh 4 rfl ?_;refine RW.dw (d:=125) (b':=true) rfl (decide_eq_true (rfl)) ?_;refine bh 4 rfl ?_;refine RW.dw (d:=129) (b':=true) rfl (decide_eq_true (rfl)) ?_;refine bh 4 rfl ?_;refine aE rfl ?_;exact⟨(),e78,aF rfl (rfl),rfl,rfl,rfl,rfl,rfl,rfl,rfl,rfl,rfl,rfl,rfl,rfl,trivial⟩
   · rintro u h7 e7;refine G.ret func9 rfl rfl ?_;exact⟨_,rfl,rfl,e1.trans ((e2.trans e26).trans e7)⟩
end
end Go.Proofs.YtmehdcdbeafljaaGreatDoor
namespace Go.Proofs.YtmehdcdbeafljaaGreatDoor
open Go
def iM:List (Int×By×Int)->List Tr->List Tr
 | [],op=>op
 |p::l,op=>iM l (op.take (op.length-p.2.2.toNat%6)++[.mk p.1 p.2.1 (op.drop (op.length-p.2.2.toNat%6))])
def pR (l:List (Int×By×Int)):Bool:=l.all fun p=>decide (p.2.1.length<=200)
def mG (l:List (Int×By×Int)):Tr×Bool :=
 if 60<l.length\/l.length=0 then (tO,decide (l.length=0)) else if pR l=true then ((iM l []).getLastD tO,true) else (tO,false)
theorem pK:∀a b:List Tr,ji (a++b)=ji a+ji b
 | [],b=>by simp[ji]
 |x::a,b=>by rw[List.cons_append,ji,ji,pK a b];omega
theorem Eu (l:List Tr) (k:Nat):ji (l.take k)+ji (l.drop k)=ji l:=by rw[<-pK,List.take_append_drop]
theorem yC:∀(l:List (Int×By×Int)) (op:List Tr),pR l=true->ji (iM l op)<=ji op+420*l.length
 | [],op,_=>by simp[iM]
 |p::l,op,h=>by
  unfold pR at h;rw[List.all_cons,Bool.and_eq_true,decide_eq_true_iff] at h;rw[iM];have h1:=yC l (op.take (op.length-p.2.2.toNat%6)++[.mk p.1 p.2.1 (op.drop (op.length-p.2.2.toNat%6))]) h.2;have h2:=Eu op (op.length-p.2.2.toNat%6);rw[pK,ji,ji,Tr.wt] at h1;rw[List.length_cons];omega
theorem zT {α:Type}{l:List α}{z:α}(h:l≠[]):l.getLastD z∈l:=by
 cases l with
 |nil=>exact absurd rfl h
 |cons a l=>rw[List.getLastD_cons];exact List.getLastD_mem_cons
theorem Fv (l:List (Int×By×Int)):(mG l).1.wt<=25220:=by
 unfold mG;split
 · rw[tO,Tr.wt];simp[ji]
 · split
   · rename_i h1 h2;have h3:=yC l [] h2
     rcases hb:iM l [] with _|⟨a,m⟩
     · simp[tO,Tr.wt,ji]
     · have h4:=yN (zT (z:=tO) (l:=a::m) (by simp));rw[hb] at h3;simp only[ji] at h3 h4;simp only;omega
   · rw[tO,Tr.wt];simp[ji]
end Go.Proofs.YtmehdcdbeafljaaGreatDoor
namespace Go.Proofs.YtmehdcdbeafljaaGreatDoor
open Go.Proofs.Tryz
open Go Go.Lw
set_option maxRecDepth 20000
theorem BZ {l:List Pt}{i:Nat}{p:Pt}(h:l[i]? =some p) (op:List Tr):iM (l.drop i) op=iM (l.drop (i+1)) (op.take (op.length-p.2.2.toNat%6)++[.mk p.1 p.2.1 (op.drop (op.length-p.2.2.toNat%6))]):=by
 rw[drop_cons h,iM]
theorem Ga {l:List Pt}{i:Nat}{p:Pt}(h:l[i]? =some p) (hp:200<p.2.1.length):pR l=false:=by
 unfold pR;rw[Bool.eq_false_iff];intro q;have:=of_decide_eq_true (List.all_eq_true.1 q p (List.mem_of_getElem? h));omega
theorem BY {h:az}{O:Nat->Prop}{v:Value}{l:List Pt}(hv:bX NF h O v l) (hl:∀x∈l,(-128<=x.1/\x.1<=127)/\0<=x.2.2/\x.2.2<=255) :
 ah Tryz.prog 8 #[v] h (dh fun r h'=>aD h h'/\∃nv,r=packed [nv,.bool (mG l).2]/\fZ h' (fun b=>b<h.size) nv (mG l).1):=by
 obtain⟨pa,pn,pc,rfl,hps⟩:=id hv.open;have hpl:l.length=pn:=hps.len;subst hpl;have hpm:=hps.cap;have hpc:=hps.le;simp only[maxLen] at hpm;refine ah.of func8 rfl rfl ?_;refine xr func8 rfl ?_;refine xo rfl (aA.aY H.fc) ?_;rintro _ h1 ⟨rfl,k1,e1,z1⟩;have k1:bp h1 h.size 25 (tN 0 [] none 0 0):=k1;refine aS 1 [0,2,3] rfl ?_;refine aZ func8 1 [0,2,3,4] rfl ?_;refine av rfl ?_;refine av rfl ?_;refine G.bF [(15,.bool (decide (60<l.length\/l.length=0)))] [(0,_),(2,_),(3,_),(4,_)] ⟨rfl,rfl,rfl,rfl,trivial⟩ func8 rfl ?_ ?_
 · refine cD 1 rfl rfl (aj.aJ underlying22 rfl) ?_;refine bh 2 rfl ?_;refine aP (d:=11) rfl (fun a=>?_) (fun a=>?_)
   · have a:=of_decide_eq_true a;refine bh 4 rfl ?_;refine aE rfl ?_;exact⟨rfl,aF rfl (by rw[decide_eq_true (by omega)]),rfl,rfl,rfl,rfl,trivial⟩
   · have a:=of_decide_eq_false a;refine cD 1 rfl rfl (aj.aJ underlying22 rfl) ?_;refine bh 2 rfl ?_;refine aE rfl ?_;exact⟨rfl,aF rfl (by rw[decide_eq_decide];omega),rfl,rfl,rfl,rfl,trivial⟩
 · refine aO rfl rfl (fun hbig=>?_) (fun hbig=>?_)
   · have hR:mG l=(tO,decide (l.length=0)):=by unfold mG;rw[if_pos hbig]
     rw[hR];refine xr func8 rfl ?_;refine xp rfl (aN (H.B1 ) rfl) ?_;refine cD 1 rfl rfl (aj.aJ underlying22 rfl) ?_;refine bh 1 rfl ?_;refine RW.cu rfl rfl rfl (aA.aB H.aU rfl rfl k1 (by first|rfl|(simp;done)|(simp;omega)) (by first|decide|exact of_decide_eq_true rfl|(simp;done)|(simp;omega)) (jD)) ?_;rintro _ h2 ⟨rfl,k2,x2,z2⟩;refine aS 1 [0,2,3,4,15] rfl ?_;refine G.cU func8 rfl (.cons (bl.cM H.bO H.aU rfl (k2.row) (by first|rfl|(simp;done)|(simp;omega))) (.cons (bl.tmp rfl) (.nil))) ?_;exact⟨_,rfl,aD.only e1 x2 (Nat.le_refl _),_,by show packed [_,Value.bool (decide ((l.length:Int)=0))]=_;rw[show decide ((l.length:Int)=0)=decide (l.length=0) by rw[decide_eq_decide];omega];rfl,nG _ _⟩
   · have hR:mG l=if pR l=true then ((iM l []).getLastD tO,true) else (tO,false):=by unfold mG;rw[if_neg hbig]
     rw[hR];have hl60:l.length<=60/\0<l.length:=by omega
     refine aC rfl ?_;refine av rfl ?_;refine aZ func8 1 [0,2,3,4,5,15] rfl ?_;refine G.block rfl rfl ?_;refine bG (σ:=Nat×List Tr×Value) (fun w=>[(0,.slice pa l.length pc),(2,ptr h.size),(4,w.2.2),(5,.int .i64 (w.1:Nat))]) (fun w g=>w.1<=l.length/\aD h1 g/\bX eN g (fun b=>b<h1.size) w.2.2 w.2.1/\iM (l.drop w.1) w.2.1=iM l []/\w.2.1.length<=w.1/\(0<w.1->w.2.1≠[])/\∀x∈l.take w.1,x.2.1.length<=200) (fun w=>l.length-w.1) ((0,[],.slice none 0 0)) rfl ⟨rfl,rfl,rfl,rfl,trivial⟩ ⟨Nat.zero_le _,Ext.refl _ _,bX.nil _ _ _,rfl,Nat.le_refl _,fun q=>absurd q (Nat.lt_irrefl _),by simp⟩ ?_;rintro⟨i,op,ov⟩ g ⟨hi,eg,hov,hb,hol,hne,hsh⟩ ih
     try dsimp only
     dsimp only at hi hov hb hol hne hsh;have e0g:=e1.trans eg;have kg:=k1.ax eg;obtain⟨oa,on,oc,rfl,hos⟩:=id hov.open;have hon:op.length=on:=hos.len;subst hon;have hom:=hos.cap;have hoc:=hos.le;simp only[maxLen] at hom;refine av rfl ?_;refine bq func8 2 rfl ?_;refine xp rfl (aj.aJ underlying22 rfl) ?_;refine aS 1 [0,2,4,5,23] rfl ?_;refine aO rfl rfl (fun hlt=>?_) (fun hlt=>?_)
     · have hil:i<l.length:=by omega
       obtain⟨b,o,p,ha,_,hp,hrow⟩:=(hps.mv (Mv.ax e0g)).xl hil;have hpb:=hl p (List.mem_of_getElem? hp);have hpt:=bD p.2.1;refine aC rfl ?_;refine av rfl ?_;refine G.block rfl rfl ?_;refine av rfl ?_;refine bq func8 2 rfl ?_;refine xp rfl (aj.ay underlying22 H.Ik rfl rfl i rfl ha (by omega)) ?_;refine xp rfl (af (off:=1) underlying80 rfl rfl H.fL rfl) ?_;refine xp rfl (ai H.gj rfl (hrow 1 _ rfl)) ?_;refine xp rfl (aj.bM underlying9 rfl) ?_;refine aS 1 [0,2,4,5,23,32] rfl ?_;refine aO rfl rfl (fun h200=>?_) (fun h200=>?_)
       · rw[if_neg (by rw[Ga hp (by omega)];decide)];refine xr func8 rfl ?_;refine xp rfl (aN (H.B1 ) rfl) ?_;refine RW.cu rfl rfl rfl (aA.aB H.aU rfl rfl kg (by first|rfl|(simp;done)|(simp;omega)) (by first|decide|exact of_decide_eq_true rfl|(simp;done)|(simp;omega)) (jD)) ?_;rintro _ h2 ⟨rfl,k2,x2,z2⟩;refine aS 1 [0,2,3,4,5,23,32] rfl ?_;refine G.cU func8 rfl (.cons (bl.cM H.bO H.aU rfl (k2.row) (by first|rfl|(simp;done)|(simp;omega))) (.cons (bl.tmp rfl) (.nil))) ?_;exact⟨_,rfl,aD.only e0g x2 (Nat.le_refl _),_,rfl,nG _ _⟩
       · obtain⟨k,hk⟩:∃k,k=op.length-p.2.2.toNat%6:=⟨_,rfl⟩
         rw[BZ hp,<-hk] at hb;have hkm:p.2.2.tmod 6=((p.2.2.toNat%6:Nat):Int):=by rw[Int.tmod_eq_emod_of_nonneg hpb.2.1];omega
         refine aC rfl ?_;refine av rfl ?_;refine G.bF [(6,.int .i64 (k:Nat))] [(0,_),(2,_),(4,_),(5,_),(23,_),(32,_)] ⟨rfl,rfl,rfl,rfl,rfl,rfl,trivial⟩ func8 rfl ?_ ?_
         · refine cD 1 rfl rfl (aj.aJ underlying23 rfl) ?_;refine cD 2 rfl rfl (aj.ay underlying22 H.Ik rfl rfl i rfl ha (by omega)) ?_;refine xp rfl (af (off:=2) underlying80 rfl rfl H.KX rfl) ?_;refine xp rfl (ai H.My rfl (hrow 2 _ rfl)) ?_;refine xp rfl (aj.we underlying5 underlying3 rfl (wrap_i64 ⟨by omega,by omega⟩)) ?_;refine xp rfl (Ao rfl rfl (by decide)) ?_;refine xp rfl (aj.jt rfl rfl ⟨by rw[hkm];omega,by rw[hkm];omega⟩) ?_;refine xp rfl (aj.max2 rfl rfl) ?_;refine bh 1 rfl ?_;refine aE rfl ?_;exact⟨rfl,congrArg (fun x:Int=>some (Value.int .i64 x)) (show (if (op.length:Int)-p.2.2.tmod 6<0 then 0 else (op.length:Int)-p.2.2.tmod 6)=(k:Int) by rw[hkm];split<;>omega),rfl,rfl,rfl,rfl,rfl,rfl,trivial⟩
         · have hko:k<=op.length:=by omega
           have hosB:=hos.part (i:=k) (j:=op.length) hko (Nat.le_refl _);rw[List.take_length] at hosB;have hosA:=hos.part (i:=0) (j:=k) (Nat.zero_le _) hko;rw[List.drop_zero] at hosA;obtain⟨css,hc1,hc2,hc3,hc4,hc5⟩:=hosB.Lf;have hc2':∀(i:Nat) (cs:List Value) (x:Tr),css[i]? =some cs->(op.drop k)[i]? =some x->eN.R g (fun b=>b<h1.size\/g.size<=b) cs x:=fun i cs x q1 q2=>bW (hc2 i cs x q1 q2) (Ext.refl (fun _=>False) g) fun b hb q=>⟨fun k=>k,fun q2=>q2.elim q (fun q3=>by omega)⟩
           have hdl:(op.drop k).length=op.length-k:=List.length_drop;have hap:aQ g g.size 25 3 (.slice none 0 0) 0 []:=aQ.nil _ _ _ _;refine av rfl ?_;refine G.zW (fun(x:Value×Nat) (h':az)=>(aD g h'/\g.size<=x.2/\∃a n c,x.1= .slice a n c/\bp h' x.2 25 [.int .i64 p.1,.string (bs p.2.1),x.1]/\bX eN h' (fun b=>b<h1.size) x.1 (op.drop k))) (fun(x:Value×Nat)=>[(7,ptr x.2)]) [(0,_),(2,_),(4,_),(5,_),(6,_),(23,_),(32,_)] ⟨rfl,rfl,rfl,rfl,rfl,rfl,rfl,trivial⟩ (fun b=>Array.size g<=b) (fun i=>Nat.blt i 17) (sz:=18) (listed:= #[false,false,false,false,false,false,false,false,false,false,false,false,false,false,false,false,false,false]) func8 H.mixed rfl rfl rfl ?_ ?_
           · refine cg 0 1 (by kernel_rfl) rfl ?_;refine cg 1 3 (by kernel_rfl) rfl ?_;refine bL 2 7 (by kernel_rfl) rfl (fun h' e=>aj.ay underlying22 H.Ik rfl rfl i rfl ha (by omega)) ?_;refine bL 3 15 (by kernel_rfl) rfl (fun h' e=>af (off:=0) underlying80 rfl rfl H.M1 rfl) ?_;refine bL 4 31 (by kernel_rfl) rfl (fun h' e=>ai H.NJ rfl (e.old (hrow 0 _ rfl))) ?_;refine bL 5 63 (by kernel_rfl) rfl (fun h' e=>aj.we underlying78 underlying3 rfl (wrap_i64 ⟨by omega,by omega⟩)) ?_;refine cg 6 127 (by kernel_rfl) rfl ?_;refine cg 7 255 (by kernel_rfl) rfl ?_;refine bL 8 511 (by kernel_rfl) rfl (fun h' e=>aj.ay underlying22 H.Ik rfl rfl i rfl ha (by omega)) ?_;refine bL 9 1023 (by kernel_rfl) rfl (fun h' e=>af (off:=1) underlying80 rfl rfl H.fL rfl) ?_;refine bL 10 2047 (by kernel_rfl) rfl (fun h' e=>ai H.gj rfl (e.old (hrow 1 _ rfl))) ?_;refine cg 11 4095 (by kernel_rfl) rfl ?_;refine cg 12 8191 (by kernel_rfl) rfl ?_;refine bL 13 16383 (by kernel_rfl) rfl (fun h' e=>aj.qG underlying23 H.aU rfl rfl k rfl (by omega)) ?_;refine RD.Kc 14 16 (li:= #[true,true,true,true,true,true,true,true,true,true,true,true,true,true,true,false,false,false]) (lj:= #[true,true,true,true,true,true,true,true,true,true,true,true,true,true,false,false,true,false]) rfl rfl (by kernel_rfl) rfl rfl rfl rfl rfl rfl (aA.append underlying23 H.ir rfl rfl hap hc3 hc5 hc4 (by simp only[maxLen];omega) (by omega) (Nat.le_refl _)) (aA.aY H.fc) (by kernel_rfl) (by kernel_rfl) ?_ ?_
             · rintro v1 w1 ⟨ho1,hx1,_,hv1⟩;refine⟨fun _=>hx1.mono (fun y _ q=>by cases q),?_⟩;have ew1:aD g w1:=iq hx1;rw[Nat.zero_add,List.nil_append] at ho1;have hcp:dH eN (fun b=>b<h1.size\/g.size<=b) w1 g.size 25 v1 (op.drop k):=wO hc1 hc2' hdl ho1 ew1 (fun b q=>(hv1 b q).resolve_left (fun q=>by cases q));obtain⟨va,vc,rfl,_⟩:=ho1.open;refine bL 15 65535 (by kernel_rfl) rfl (fun h' e=>aN (H.iN _ _ _ _ _) rfl) ?_;refine eM 16 131071 (by kernel_rfl) rfl (aA.aY H.fc) ?_;rintro _ w2 ⟨rfl,kn,e2',z2'⟩;refine⟨fun _=>e2'.of,?_⟩;refine mN 17 262143 (by kernel_rfl) rfl (aA.aB H.aU rfl rfl kn (by first|rfl|(simp;done)|(simp;omega)) (by first|decide|exact of_decide_eq_true rfl|(simp;done)|(simp;omega)) (jD)) ?_;rintro _ w3 ⟨rfl,kn3,x3,z3⟩;refine⟨fun hk=>(nomatch hk),?_⟩;have ez1:=ew1.size;have e13:aD w1 w3:=aD.only e2' x3 (Nat.le_refl _);refine br (by kernel_rfl) ?_;exact⟨(.slice va (op.length-k) vc,w1.size),⟨ew1.trans e13,ez1,_,_,_,rfl,kn3,(hcp.ax e13).read (fun b hb q=>by have:=eg.size;omega) (fun b hb q=>.inl q)⟩,rfl,rfl,rfl,rfl,rfl,rfl,rfl,rfl,trivial⟩
             · rintro _ w1 ⟨rfl,kn,e1',z1'⟩;refine⟨fun _=>e1'.of,?_⟩;have e1':aD g w1:=e1';refine eM 14 98303 (by kernel_rfl) rfl (aA.append underlying23 H.ir rfl rfl (aQ.pq hap e1') hc3 (hc5.imp id (fun⟨b,o,q1,q2⟩=>⟨b,o,q1,e1'.rowAt (fun k=>k) q2⟩)) hc4 (by simp only[maxLen];omega) (by omega) e1'.size) ?_;rintro v1 w2 ⟨ho1,hx1,_,hv1⟩;refine⟨fun _=>hx1.mono (fun y _ q=>by cases q),?_⟩;have ew2:aD w1 w2:=iq hx1;rw[Nat.zero_add,List.nil_append] at ho1;have hcp:dH eN (fun b=>b<h1.size\/g.size<=b) w2 g.size 25 v1 (op.drop k):=wO hc1 hc2' hdl ho1 (e1'.trans ew2) (fun b q=>by have:=(hv1 b q).resolve_left (fun q=>by cases q);have:=e1'.size;omega);obtain⟨va,vc,rfl,_⟩:=ho1.open;have kz:=(kn.ax ew2).lt;refine bL 15 131071 (by kernel_rfl) rfl (fun h' e=>aN (H.iN _ _ _ _ _) rfl) ?_;refine mN 17 262143 (by kernel_rfl) rfl (aA.aB H.aU rfl rfl (kn.ax ew2) (by first|rfl|(simp;done)|(simp;omega)) (by first|decide|exact of_decide_eq_true rfl|(simp;done)|(simp;omega)) (jD)) ?_;rintro _ w3 ⟨rfl,kn3,x3,z3⟩;refine⟨fun hk=>(nomatch hk),?_⟩;have vne:∀b,(Value.slice va (op.length-k) vc).ownBlock=some b->¬b=g.size:=fun b q=>by have:=(hv1 b q).resolve_left (fun q=>by cases q);omega
               have hcp3:=hcp.pV x3 vne (fun b hb q=>.inr (by omega)) (fun b hb q=>q);refine br (by kernel_rfl) ?_;exact⟨(.slice va (op.length-k) vc,g.size),⟨aD.only (e1'.trans ew2) x3 (Nat.le_refl _),Nat.le_refl _,_,_,_,rfl,kn3,hcp3.read (fun b hb q=>by have:=eg.size;omega) (fun b hb q=>.inl q)⟩,rfl,rfl,rfl,rfl,rfl,rfl,rfl,rfl,trivial⟩
           · rintro⟨x1,x2⟩ g2 ⟨eg2,hx2,na,nn,nc,rfl,kx,hkd⟩;dsimp only at kx hkd hx2;have e1g2:=eg.trans eg2;have e0g2:=e1.trans e1g2;have z12:=e1g2.size;have hosA2:=hosA.mv (Mv.ax eg2);obtain⟨cst,ha1,ha2,ha3,ha4,ha5⟩:=hosA2.Lf;have htl:(op.take k).length=k:=by rw[List.length_take];omega
             have htl2:k-0=k:=Nat.sub_zero k;rw[htl2] at ha3 ha5;have hap2:aQ g2 g2.size 25 3 (.slice none 0 0) 0 []:=aQ.nil _ _ _ _;have hnode:eN.R g2 (fun b=>b<h1.size\/g2.size<=b) [.int .i64 p.1,.string (bs p.2.1),.slice na nn nc] (.mk p.1 p.2.1 (op.drop k)):=zV (hkd.mv (Mv.dQ (Ext.refl (fun _=>False) g2) fun b hb q=>⟨fun k=>k,fun q2=>q2.elim q (fun q3=>by omega)⟩));refine G.zW (fun(y:Value) (h':az)=>(aD g2 h'/\bX eN h' (fun b=>b<h1.size) y (op.take k++[.mk p.1 p.2.1 (op.drop k)]))) (fun(y:Value)=>[(4,y)]) [(0,_),(2,_),(5,_),(6,_),(7,_),(23,_),(32,_)] ⟨rfl,rfl,rfl,rfl,rfl,rfl,rfl,trivial⟩ (fun b=>Array.size g2<=b) (fun i=>Nat.blt i 8) (sz:=8) (listed:= #[false,false,false,false,false,false,false,false]) func8 H.mixed rfl rfl rfl ?_ ?_
             · refine cg 0 1 (by kernel_rfl) rfl ?_;refine cg 1 3 (by kernel_rfl) rfl ?_;refine bL 2 7 (by kernel_rfl) rfl (fun h' e=>aj.lW underlying23 H.aU rfl rfl k rfl (by omega)) ?_;refine bL 4 23 (by kernel_rfl) rfl (fun h' e=>aj.aH H.bO H.aU rfl (e.zw kx.row) (by first|rfl|(simp;done)|(simp;omega))) ?_;refine RD.Kc 3 5 (li:= #[true,true,true,true,true,false,false,false]) (lj:= #[true,true,true,false,true,true,false,false]) rfl rfl (by kernel_rfl) rfl rfl rfl rfl rfl rfl (aA.append underlying23 H.ir rfl rfl hap2 ha3 ha5 ha4 (by simp only[maxLen];omega) (by omega) (Nat.le_refl _)) (aA.cE (cs:=[_,_,_]) underlying23 H.ir rfl rfl (by decide)) (by kernel_rfl) (by kernel_rfl) ?_ ?_
               · rintro v1 w1 ⟨ho1,hx1,_,hv1⟩;refine⟨fun _=>hx1.mono (fun y _ q=>by cases q),?_⟩;have ew1:aD g2 w1:=iq hx1;rw[Nat.zero_add,List.nil_append] at ho1;refine eM 5 63 (by kernel_rfl) rfl (aA.cE (cs:=[_,_,_]) underlying23 H.ir rfl rfl (by decide)) ?_;rintro _ w2 ⟨rfl,hw2⟩;refine⟨fun _=>by rw[hw2];exact Ext.push _ _ _,?_⟩;have ew2:aD w1 w2:=by rw[hw2];exact Ext.push _ _ _
                 have hrS:Lw.rowAt w2 w1.size 0 [.int .i64 p.1,.string (bs p.2.1),.slice na nn nc]:=by rw[hw2];exact A7 _ _ _
                 have zz:=((ew1.trans ew2)).size;obtain⟨va,vc,rfl,_⟩:=aQ.open ((aQ.pq ho1 ew2));have hown1:∀b,(Value.slice va k vc).ownBlock=some b->g2.size<=b:=fun b q=>(hv1 b q).resolve_left (fun q=>by cases q)
                 refine eM 6 127 (by kernel_rfl) rfl (aA.append underlying23 H.ir rfl rfl (aQ.pq ho1 ew2) rfl (.inr ⟨_,_,rfl,hrS⟩) (by simp[Value.oneCell']) (by simp only[maxLen];omega) (by omega) (by omega)) ?_;rintro v3 w3 ⟨ho3,hx3,_,hv3⟩;refine⟨fun _=>hx3.mono (fun y _ q=>by have:=hown1 _ q.symm;omega),?_⟩;have hfin:dH eN (fun b=>b<h1.size) w3 g2.size 25 v3 (op.take k++[.mk p.1 p.2.1 (op.drop k)]):=dH.gF (h:=w2) (v:=.slice va k vc) (css:=cst) (cs:=[.int .i64 p.1,.string (bs p.2.1),.slice na nn nc]) (by rw[ha1]) (fun i cs y q1 q2=>bW (ha2 i cs y q1 q2) (ew1.trans ew2) (fun b hb q=>⟨fun k=>k,fun q3=>q3.elim (fun q4=>by have:=hown1 _ q4.symm;omega) q⟩)) (by rw[htl];exact ho3) hx3 hv3 (bW hnode (ew1.trans ew2) (fun b hb q=>⟨fun k=>k,fun q3=>q3.elim (fun q4=>by have:=hown1 _ q4.symm;omega) (fun q4=>q (.inl q4))⟩));have e3:aD g2 w3:=Ext.own (ew1.trans ew2) (aQ.pq ho1 ew2) (Nat.le_refl _) hx3;refine cg 7 255 (by kernel_rfl) rfl ?_;refine br (by kernel_rfl) ?_;exact⟨v3,⟨e3,hfin.read (fun b hb q=>by omega) (fun b hb q=>q)⟩,rfl,rfl,rfl,rfl,rfl,rfl,rfl,rfl,trivial⟩
               · rintro _ w1 ⟨rfl,hw1⟩;refine⟨fun _=>by rw[hw1];exact Ext.push _ _ _,?_⟩;have ew1:aD g2 w1:=by rw[hw1];exact Ext.push _ _ _
                 have hrS:Lw.rowAt w1 g2.size 0 [.int .i64 p.1,.string (bs p.2.1),.slice na nn nc]:=by rw[hw1];exact A7 _ _ _
                 refine eM 3 63 (by kernel_rfl) rfl (aA.append underlying23 H.ir rfl rfl (aQ.pq hap2 ew1) ha3 (ha5.imp id (fun⟨b,o,q1,q2⟩=>⟨b,o,q1,ew1.rowAt (fun k=>k) q2⟩)) ha4 (by simp only[maxLen];omega) (by omega) ew1.size) ?_;rintro v1 w2 ⟨ho1,hx1,_,hv1⟩;refine⟨fun _=>hx1.mono (fun y _ q=>by cases q),?_⟩;have ew2:aD w1 w2:=iq hx1;rw[Nat.zero_add,List.nil_append] at ho1;have zz:=((ew1.trans ew2)).size;obtain⟨va,vc,rfl,_⟩:=aQ.open (ho1);have hown1:∀b,(Value.slice va k vc).ownBlock=some b->g2.size<=b:=fun b q=>by have:=(hv1 b q).resolve_left (fun q=>by cases q);have:=ew1.size;omega
                 refine eM 6 127 (by kernel_rfl) rfl (aA.append underlying23 H.ir rfl rfl ho1 rfl (.inr ⟨_,_,rfl,ew2.rowAt (fun q=>q) hrS⟩) (by simp[Value.oneCell']) (by simp only[maxLen];omega) (by omega) (by omega)) ?_;rintro v3 w3 ⟨ho3,hx3,_,hv3⟩;refine⟨fun _=>hx3.mono (fun y _ q=>by have:=hown1 _ q.symm;omega),?_⟩;have hfin:dH eN (fun b=>b<h1.size) w3 g2.size 25 v3 (op.take k++[.mk p.1 p.2.1 (op.drop k)]):=dH.gF (h:=w2) (v:=.slice va k vc) (css:=cst) (cs:=[.int .i64 p.1,.string (bs p.2.1),.slice na nn nc]) (by rw[ha1]) (fun i cs y q1 q2=>bW (ha2 i cs y q1 q2) (ew1.trans ew2) (fun b hb q=>⟨fun k=>k,fun q3=>q3.elim (fun q4=>by have:=hown1 _ q4.symm;omega) q⟩)) (by rw[htl];exact ho3) hx3 hv3 (bW hnode (ew1.trans ew2) (fun b hb q=>⟨fun k=>k,fun q3=>q3.elim (fun q4=>by have:=hown1 _ q4.symm;omega) (fun q4=>q (.inl q4))⟩));have e3:aD g2 w3:=Ext.own (ew1.trans ew2) ho1 (Nat.le_refl _) hx3;refine cg 7 255 (by kernel_rfl) rfl ?_;refine br (by kernel_rfl) ?_;exact⟨v3,⟨e3,hfin.read (fun b hb q=>by omega) (fun b hb q=>q)⟩,rfl,rfl,rfl,rfl,rfl,rfl,rfl,rfl,trivial⟩
             · rintro y g3 ⟨eg3,hy⟩;obtain⟨ya,yn,yc,rfl,_⟩:=id hy.open;refine G.aR ?_;refine G.cz func8 rfl ?_;refine cD 1 rfl rfl (aj.bE rfl rfl ⟨by omega,by omega⟩) ?_;refine aS 1 [0,2,4,5,6,7,23,32] rfl ?_;exact ih (i+1,op.take k++[.mk p.1 p.2.1 (op.drop k)],.slice ya yn yc) _ _ ⟨rfl,rfl,rfl,rfl,trivial⟩ ⟨hil,e1g2.trans eg3,hy,hb,by dsimp only;rw[List.length_append,List.length_singleton,htl];omega,fun _=>by simp,fun x hx=>by rw[List.take_add_one,hp,List.mem_append] at hx;exact hx.elim (hsh x) (fun q=>by simp at q;rw[q];omega)⟩ (by show l.length-(i+1)<l.length-i;omega)
     · obtain rfl:i=l.length:=by omega
       rw[List.drop_length,iM] at hb;have hshort:pR l=true:=List.all_eq_true.2 fun x hx=>decide_eq_true (hsh x (by rw[List.take_length];exact hx))
       rw[if_pos hshort];have hop:=hne hl60.2
       have hlast:op[op.length-1]? =some (op.getLastD tO):=by
        rw[List.getLastD_eq_getLast?,List.getLast?_eq_getElem?];rw[List.getElem?_eq_getElem (by have:=List.length_pos_iff.2 hop;omega)];rfl
       have hpos:=List.length_pos_iff.2 hop;obtain⟨b,o,x,xk,xt,xa,xn,xc,ha,hx,hrow,hnx,_,_⟩:=nN hos (show op.length-1<op.length by omega);rw[hlast] at hx;have hx:=Option.some.inj hx;refine bA rfl rfl ?_;refine bq func8 2 rfl ?_;refine xp rfl (aj.aJ underlying23 rfl) ?_;refine xp rfl (aj.jt rfl rfl ⟨by omega,by omega⟩) ?_;refine xp rfl (aj.ay underlying23 H.aU rfl rfl (op.length-1) (by omega) ha (by omega)) ?_;refine xp rfl (aj.aH H.bO H.aU rfl hrow (by first|rfl|(simp;done)|(simp;omega))) ?_;refine RW.cu rfl rfl rfl (aA.aB H.aU rfl rfl kg (by first|rfl|(simp;done)|(simp;omega)) (by first|decide|exact of_decide_eq_true rfl|(simp;done)|(simp;omega)) (jD)) ?_;rintro _ h2 ⟨rfl,k2,x2,z2⟩;refine aS 1 [0,2,3,4,5,23] rfl ?_;refine G.cU func8 rfl (.cons (bl.cM H.bO H.aU rfl (k2.row) (by first|rfl|(simp;done)|(simp;omega))) (.cons (bl.tmp rfl) (.nil))) ?_;refine⟨_,rfl,aD.only e0g x2 (Nat.le_refl _),_,rfl,?_⟩;rw[<-hb,hx];exact hnx.ext x2 (fun b hb q=>⟨fun q2=>q (by have:=e1.size;omega),fun q2=>q (by have:=e1.size;omega)⟩)
end Go.Proofs.YtmehdcdbeafljaaGreatDoor
namespace Go.Proofs.YtmehdcdbeafljaaGreatDoor
open Go
section
variable {k e:Int}{ts:List By}{s r s1 s2 us:List Un}{s':PS}{x a b v:Tr}{t:By}{l:List Tr}{W:By->Bool}{u n h0 q:Un}{i:Nat}{j:wV}
def ue:List Un->Nat
 | []=>0
 |u::l=>2*u.2.1.length+40+ue l
def wS:PS->Nat|.ok r=>ue r|.bad _=>0
theorem Ig (l m:List Un):ue (l++m)=ue l+ue m:=by
 induction l with
 |nil=>simp[ue]
 |cons u l ih=>simp only[List.cons_append,ue,ih];omega
theorem yO (l m:List Tr):ji (l++m)=ji l+ji m:=by
 induction l with
 |nil=>simp[ji]
 |cons u l ih=>simp only[List.cons_append,ji,ih];omega
theorem yw {s:PS}{x:By}(h:bP k ts s=(some x,s')):wS s=wS s'+(2*x.length+40):=by
 obtain⟨u,r,rfl,rfl,_,h2,_⟩:=lB h;simp only[wS,ue,<-h2];omega
theorem oy {s:PS}(h:(b8 e k t s).cn=false):wS (b8 e k t s)+40<=wS s:=by
 unfold b8 at h ⊢
 rcases hq:bP k [t] s with ⟨o,s1⟩
 rw[hq] at h;cases o with
 |none=>rw[dM] at h;cases h
 |some x=>have:=yw hq;show wS s1+40<=wS s;omega
theorem zB {s:PS}(h:(cC e s).2.cn=false):wS (cC e s).2+(2*(cC e s).1.length+40)<=wS s:=by
 cases s with
 |bad m=>cases h
 |ok r =>
  cases r with
  |nil=>cases h
  |cons u r =>
   rw[gI] at h ⊢;split at h
   · rename_i q;rw[if_pos q];simp only[wS,ue];omega
   · cases h
theorem Ll {k:Nat}{s:PS}{x:By}(h:rL k s=(some x,s')):wS s'+(2*x.length+20)<=wS s:=by
 have key:∀{k ts}{s s':PS}{x:By},bP k ts s=(some x,s')->wS s'+(2*x.length+20)<=wS s:=fun h=>by have:=yw h;omega
 have two:∀{a b z:By}(_:z.length<=3),((match bP 4 [a] s with|(some _,s)=>(some z,s)|(none,s)=>match bP 6 [b] s with|(some _,s)=>(some z,s)|(none,s)=>(none,s)):Option By×PS)=(some x,s')->wS s'+(2*x.length+20)<=wS s:=fun {a b z} hz h0=>by
  rcases hq:bP 4 [a] s with ⟨o,s1⟩
  rw[hq] at h0;cases o with
  |some y=>have:=yw hq;cases h0;omega
  |none =>
   have:=aW hq;subst this;dsimp only at h0
   rcases hq2:bP 6 [b] s1 with ⟨o,s2⟩
   rw[hq2] at h0;cases o with
   |some y=>have:=yw hq2;cases h0;omega
   |none=>cases h0
 unfold rL at h;split at h
 · exact two (z:=sP) (by decide) h
 · split at h
   · exact two (z:=iY) (by decide) h
   · split at h
     · exact key h
     · split at h<;>exact key h
def jw:wV->Nat
 |.blockL l=>ji l+20
 |.opL _ t=>t.wt
 |.callL t=>t.wt
 |.argL t=>t.wt+20
 |_=>0
theorem kr (k:Int) (t:By) (l:List Tr):(Tr.mk k t l).wt=2*t.length+20+ji l:=by rw[Tr.wt]
theorem qx (a:Tr):ji [a]=a.wt:=by simp[ji]
theorem AE (a b:Tr):ji [a,b]=a.wt+b.wt:=by simp[ji]
theorem K7 (a b c:Tr):ji [a,b,c]=a.wt+(b.wt+c.wt):=by simp[ji]
theorem Li (e:Int):∀(n:Nat) (j:wV) (s:PS) (t:Tr) (s':PS),pM e n j s=some (t,s')->s'.cn=false->t.wt+wS s'<=wS s+jw j:=by
 intro n
 induction n with
 |zero=>intro j s t s' h;cases h
 |succ n ih =>
 intro j s t s' h hg;have isw:∀{k ts}{s s1:PS}{x:By},bP k ts s=(some x,s1)->wS s1+40<=wS s:=fun h=>by have:=yw h;omega
 cases j with
 |stmt =>
  rw[pM] at h
  rcases hq:bP 4 [gE] s with ⟨o,s1⟩
  rw[hq] at h;cases o with
  |some x=>have:=isw hq;have:=ih _ _ _ _ h hg;simp only[jw] at *;omega
  |none=>have:=aW hq;subst this;simp only at h;have q:=ih _ _ _ _ h hg;exact q
 |expr =>
  rw[pM] at h
  rcases hq:bP 4 [gE] s with ⟨o,s1⟩
  rw[hq] at h;cases o with
  |some x=>have:=isw hq;have:=ih _ _ _ _ h hg;simp only[jw] at *;omega
  |none =>
   have:=aW hq;subst this;simp only at h
   rcases hq:bP 4 [kR] s1 with ⟨o,s2⟩
   rw[hq] at h;cases o with
   |some x=>have:=isw hq;have:=ih _ _ _ _ h hg;simp only[jw] at *;omega
   |none =>
    have:=aW hq;subst this;simp only at h
    rcases hq:bP 4 [mW] s2 with ⟨o,s3⟩
    rw[hq] at h;cases o with
    |some x=>have:=isw hq;have:=ih _ _ _ _ h hg;simp only[jw] at *;omega
    |none=>have:=aW hq;subst this;simp only at h;have q:=ih _ _ _ _ h hg;exact q
 |lt al =>
  rw[pM] at h;obtain⟨v,s1,hv,h⟩:=aG h
  rcases hq:bP 4 [sQ] s1 with ⟨o,s2⟩
  rw[hq] at h
  have fin:s1.cn=false->v.wt+wS s1+(2*(cC e s).1.length+80)<=wS s:=fun g=>by
   have g1:=bH hv g;have h1:=ih _ _ _ _ hv g;have h2:=oy g1;have h3:=zB (dA g1);simp only[jw] at h1;omega
  cases o with
  |some x =>
   obtain⟨w,s3,hw,h⟩:=aG h;cases h;have g1:=bz hq (bH hw hg);have:=fin g1;have:=isw hq;have:=ih _ _ _ _ hw hg;rw[kr,AE];simp only[jw] at *;omega
  |none =>
   have:=aW hq;subst this;cases al with
   |true=>simp only[if_true] at h;cases h;have:=fin hg;rw[kr,qx];simp only[jw];omega
   |false=>simp only[Bool.false_eq_true,if_false] at h;cases h;rw[dM] at hg;cases hg
 |choice =>
  rw[pM] at h;obtain⟨a,s1,ha,h⟩:=aG h;obtain⟨b,s2,hb,h⟩:=aG h
  rcases hq:bP 4 [kR] (b8 e 4 dD s2) with ⟨o,s3⟩
  rw[hq] at h
  have fin:s3.cn=false->∀{c:Tr}{s4:PS},c.wt+wS s4<=wS s3->(Tr.mk 6 [] [a,b,c]).wt+wS s4<=wS s:=fun g {c s4} hc=>by
   have g2:=bz hq g;have g1:=dA g2;have h1:=oy g2;have h2:=ih _ _ _ _ hb g1;have h3:=ih _ _ _ _ ha (bH hb g1)
   have h4:wS s3<=wS (b8 e 4 dD s2):=by
    cases o with
    |some x=>have:=isw hq;omega
    |none=>have:=aW hq;rw[this];exact Nat.le_refl _
   rw[kr,K7];simp only[jw,List.length_nil] at *;omega
  cases o with
  |some x =>
   obtain⟨c,s4,hc,h⟩:=aG h;cases h;exact fin (bH hc hg) (ih _ _ _ _ hc hg)
  |none =>
   obtain⟨c,s4,hc,h⟩:=aG h;cases h;exact fin (bH hc hg) (ih _ _ _ _ hc hg)
 |fn =>
  rw[pM] at h
  rcases hq:bP 6 [[44]] (cC e s).2 with ⟨o,s1⟩
  rw[hq] at h;cases o with
  |some x =>
   obtain⟨a,s2,ha,h⟩:=aG h;cases h;have g1:=bH ha hg;have:=zB (bz hq g1);have:=isw hq;have:=ih _ _ _ _ ha hg;rw[kr,qx];simp only[jw] at *;omega
  |none =>
   have e1:=aW hq;obtain⟨a,s2,ha,h⟩:=aG h;cases h;have g1:=bH ha hg;have g2:=dA g1;have h1:=oy g1;rw[e1] at g2 h1;have:=zB g2;have:=ih _ _ _ _ ha hg;rw[e1] at this;rw[kr,qx];simp only[jw] at *;omega
 |block =>
  rw[pM] at h;have h1:=ih _ _ _ _ h hg;have h2:=oy (bH h hg);simp only[jw,ji] at *;omega
 |blockL l =>
  rw[pM] at h;obtain⟨a,s1,ha,h⟩:=aG h
  rcases hq:bP 6 [[59]] s1 with ⟨o,s2⟩
  rw[hq] at h;simp only at h
  rcases hq2:bP 8 [[125]] s2 with ⟨o2,s3⟩
  rw[hq2] at h
  have h4:wS s2<=wS s1:=by
   cases o with
   |some x=>have:=isw hq;omega
   |none=>have:=aW hq;rw[this];exact Nat.le_refl _
  cases o2 with
  |some x =>
   cases h;have:=isw hq2;have:=ih _ _ _ _ ha (bz hq (bz hq2 hg));rw[kr,yO,qx];simp only[jw,List.length_nil] at *;omega
  |none =>
   have e3:=aW hq2;subst e3;simp only at h;split at h
   · have h1:=ih _ _ _ _ h hg;have h2:=ih _ _ _ _ ha (bz hq (bH h hg));simp only[jw,yO,qx] at *;omega
   · cases h;rw[dM] at hg;cases hg
 |part k =>
  rw[pM] at h;split at h
  · obtain⟨a,s1,ha,h⟩:=aG h;have:=ih _ _ _ _ h hg;have:=ih _ _ _ _ ha (bH h hg);simp only[jw] at *;omega
  · split at h
    · rcases hq:bP 4 [gD] s with ⟨o,s1⟩
      rw[hq] at h;cases o with
      |some x =>
       obtain⟨a,s2,ha,h⟩:=aG h;cases h;have:=isw hq;have:=ih _ _ _ _ ha hg;rw[kr,qx];have:gD.length=3:=rfl;simp only[jw] at *;omega
      |none =>
       have:=aW hq;subst this;simp only at h
       rcases hq:bP 6 [qE] s1 with ⟨o,s2⟩
       rw[hq] at h;cases o with
       |some x =>
        obtain⟨a,s2,ha,h⟩:=aG h;cases h;have:=isw hq;have:=ih _ _ _ _ ha hg;rw[kr,qx];have:gD.length=3:=rfl;simp only[jw] at *;omega
       |none=>have:=aW hq;subst this;simp only at h;have q:=ih _ _ _ _ h hg;exact q
    · split at h
      · rcases hq:bP 6 [fD] s with ⟨o,s1⟩
        rw[hq] at h;cases o with
        |some x =>
         obtain⟨a,s2,ha,h⟩:=aG h;cases h;have:=isw hq;have:=ih _ _ _ _ ha hg;rw[kr,qx];have:fD.length=1:=rfl;simp only[jw] at *;omega
        |none=>have:=aW hq;subst this;simp only at h;have q:=ih _ _ _ _ h hg;exact q
      · obtain⟨a,s1,ha,h⟩:=aG h;have:=ih _ _ _ _ h hg;have:=ih _ _ _ _ ha (bH h hg);simp only[jw] at *;omega
 |opL k u =>
  rw[pM] at h
  rcases hq:rL k s with ⟨o,s1⟩
  rw[hq] at h;cases o with
  |none=>cases h;have:=Bi hq;subst this;simp only[jw];omega
  |some x =>
   obtain⟨a,s2,ha,h⟩:=aG h;have h1:=Ll hq;split at h
   · cases h;have:=ih _ _ _ _ ha hg;rw[kr,AE];simp only[jw] at *;omega
   · have h3:=ih _ _ _ _ h hg;have:=ih _ _ _ _ ha (bH h hg);simp only[jw] at *;rw[kr,AE] at h3;omega
 |callL u =>
  rw[pM] at h
  rcases hq:bP 7 [[40]] s with ⟨o,s1⟩
  rw[hq] at h;cases o with
  |none=>cases h;have:=aW hq;subst this;simp only[jw];omega
  |some x=>have:=isw hq;have:=ih _ _ _ _ h hg;simp only[jw] at *;omega
 |argL u =>
  rw[pM] at h;obtain⟨a,s1,ha,h⟩:=aG h
  rcases hq:bP 6 [[44]] s1 with ⟨o,s2⟩
  rw[hq] at h;cases o with
  |some x =>
   have h1:=isw hq;have h3:=ih _ _ _ _ h hg;have:=ih _ _ _ _ ha (bz hq (bH h hg));simp only[jw] at *;rw[kr,AE] at h3;simp only[List.length_nil] at h3;omega
  |none =>
   have:=aW hq;subst this;simp only at h;have g1:=bH h hg;have h3:=ih _ _ _ _ h hg;have h2:=oy g1;have:=ih _ _ _ _ ha (dA g1);simp only[jw] at *;rw[kr,AE] at h3;simp only[List.length_nil] at h3;omega
 |atom =>
  have h1:∃u r,s= .ok (u::r):=by
   cases s with
   |bad m=>have h:some (tO,PS.bad m)=some (t,s'):=h;cases h;cases hg
   |ok r=>cases r with
    |nil=>have h:some (tO,cY e (.ok []))=some (t,s'):=h;cases h;cases hg
    |cons u r=>exact⟨u,r,rfl⟩
  obtain⟨u,r,rfl⟩:=h1;rw[pM] at h;split at h
  · rename_i t' q;cases h;have k:∀k:Int,(Tr.mk k u.2.1 []).wt+ue r<=ue (u::r):=fun k=>by rw[kr];simp only[ji,ue];omega
    unfold fK at q;split at q
    · cases q;exact k _
    · split at q
      · cases q;exact k _
      · split at q
        · cases q;exact k _
        · split at q
          · cases q;exact k _
          · cases q
  · split at h
    · have:=ih _ _ _ _ h hg;simp only[jw] at *;omega
    · split at h
      · obtain⟨a,s1,ha,h⟩:=aG h;cases h;have h1:=ih _ _ _ _ ha (dA hg);have h2:=oy hg;simp only[jw,wS,ue] at *;omega
      · cases h;rw[dM] at hg;cases hg
theorem rZ {e:Int}:∀(n:Nat) (l:List Tr) (s:PS) (K:List Tr) (F:PS),cR e n l s=some (K,F)->F.cn=false->ji K+wS F<=ji l+wS s
 | 0,_,_,_,_,h,_=>by cases h
 |n+1,l,s,K,F,h,hg=>by
  rw[cR] at h;split at h
  · cases h;exact Nat.le_refl _
  · cases h1:pM e n .stmt s with
    |none=>rw[h1] at h;cases h
    |some p =>
     obtain⟨t,s1⟩:=p;rw[h1] at h;simp only[Option.bind_some] at h
     rcases h2:bP 6 [[59]] s1 with ⟨o,s2⟩
     rw[h2] at h
     have h4:wS s2<=wS s1:=by
      cases o with
      |some x=>have:=yw h2;omega
      |none=>have:=aW h2;rw[this];exact Nat.le_refl _
     have good:s2.cn=false->ji (l++[t])+wS s2<=ji l+wS s:=fun g=>by
      have:=Li e n _ _ _ _ h1 (bz h2 g);rw[yO,qx];simp only[jw] at this;omega
     have pg:∀{n l s K F},cR e n l s=some (K,F)->F.cn=false->s.cn=false:=fun {n l s K F} h g=>by
      cases s with
      |ok r=>rfl
      |bad m =>
       cases n with
       |zero=>cases h
       |succ n=>rw[cR,if_pos (show (PS.bad m).len=0 from rfl)] at h;cases h;cases g
     cases o with
     |some x =>
      simp only at h;have:=rZ n _ _ _ _ h hg;have:=good (pg h hg);omega
     |none =>
      simp only at h;split at h
      · have:=rZ n _ _ _ _ h hg;have:=good (pg h hg);omega
      · have:=pg h hg;rw[dM] at this;cases this
theorem Dm (x:By):∀l:List Un,ue (iQ x l)<=ue l+2*x.length
 | []=>by simp[iQ,ue]
 | [u]=>by simp only[iQ,ue,List.length_append];omega
 |u::v::l=>by have:=Dm x (v::l);simp only[iQ,ue] at *;omega
theorem Ih {s:By}{out out':List Un}{op op':Bool}{t:Tok}(h:fk s out op t= .go out' op'):ue out'<=ue out+(2*s.length+42):=by
 have ht:(cV s t).length<=s.length:=by unfold cV;rw[List.length_take,List.length_drop];omega
 unfold fk at h;split at h
 · cases h
 · split at h
   · split at h
     · cases h;omega
     · split at h
       · cases h;have:=Dm [oL (cV s t)] out;simp only[List.length_singleton] at this;omega
       · cases h;have:=Dm (cV s t) out;omega
   · split at h
     · cases h;omega
     · split at h
       · cases h
       · cases h;rw[Ig];simp only[ue];split
         · simp only[List.length_nil];omega
         · omega
theorem DC {s:By}:∀(l:List Tok) (out out':List Un) (op op':Bool),eo s l out op= .go out' op'->ue out'<=ue out+l.length*(2*s.length+42)
 | [],_,_,_,_,h=>by cases h;omega
 |t::l,out,out',op,op',h=>by
  rw[eo] at h;split at h
  · cases h
  · rename_i o1 p1 q;have h1:=Ih q;have h2:=DC l _ _ _ _ h;rw[List.length_cons,Nat.succ_mul];omega
theorem cT.wt {s:By}{l:List Tok}{m:Int}{k:List Tr}{a:Int}(h:cT s l m k a e):ji k<=l.length*(2*s.length+42):=by
 cases h with
 |units _=>simp[ji]
 |bad _ _=>simp[ji]
 |ok h h2 =>
  rename_i u n r;have h1:=rZ _ _ _ _ _ h2 rfl;simp only[ji,wS] at h1;unfold fP at h;split at h
  · split at h
    · cases h
    · rename_i q;split at h
      · cases h
      · cases h;have:=DC _ _ _ _ _ q;simp only[ue] at this;omega
  · cases h
def N9 (W:By->Bool) (u:Un):Prop:=(u.1=3->eE W u.2.1=true)/\(u.1=5->mh u.2.1=true)/\(u.1=9->u.2.1.length<=16384)
def zx (W:By->Bool):PS->Prop|.ok r=>∀u∈r,N9 W u|.bad _=>True
theorem qQ (h:zx W (.ok (u::r))):zx W (.ok r):=fun x hx=>h x (List.mem_cons_of_mem _ hx)
theorem eF {s:PS}{o:Option By}(h:bP k ts s=(o,s')) (hs:zx W s):zx W s':=by
 cases o with
 |none=>have:=aW h;subst this;exact hs
 |some x=>obtain⟨u,r,rfl,rfl,_⟩:=lB h;exact qQ hs
theorem vT (e:Int) (s:PS):zx W (cY e s):=by cases s<;>trivial
theorem lu (e k:Int) (t:By){s:PS}(hs:zx W s):zx W (b8 e k t s):=by
 unfold b8
 rcases hq:bP k [t] s with ⟨o,s1⟩
 cases o with
 |none=>exact vT e s1
 |some x=>exact eF hq hs
theorem Bo (e:Int){s:PS}(hs:zx W s):zx W (cC e s).2:=by
 cases s with
 |bad m=>trivial
 |ok r=>cases r with
  |nil=>exact vT e (.ok [])
  |cons u r =>
   rw[gI];split
   · exact qQ hs
   · exact vT e (.ok (u::r))
theorem nJ {s:PS}(hs:zx W s) (h:(cC e s).2.cn=false):eE W (cC e s).1=true:=by
 cases s with
 |bad m=>cases h
 |ok r=>cases r with
  |nil=>cases h
  |cons u r =>
   rw[gI] at h ⊢;split at h
   · rename_i q;rw[if_pos q];exact(hs u (by simp)).1 q
   · cases h
theorem Kn {k:Nat}{s:PS}{x:By}(h:rL k s=(some x,s')):x∈fV:=by
 have two:∀{a b z:By}(_:z∈fV),((match bP 4 [a] s with|(some _,s)=>(some z,s)|(none,s)=>match bP 6 [b] s with|(some _,s)=>(some z,s)|(none,s)=>(none,s)):Option By×PS)=(some x,s')->x∈fV:=fun {a b z} hz h0=>by
  rcases hq:bP 4 [a] s with ⟨o,s1⟩
  rw[hq] at h0;cases o with
  |some y=>cases h0;exact hz
  |none =>
   dsimp only at h0
   rcases hq2:bP 6 [b] s1 with ⟨o,s2⟩
   rw[hq2] at h0;cases o with
   |some y=>cases h0;exact hz
   |none=>cases h0
 have one:∀{ts:List By},(∀y∈ts,y∈fV)->bP 6 ts s=(some x,s')->x∈fV:=fun ht h0=>by
  obtain⟨_,_,_,_,_,rfl,hm⟩:=lB h0;exact ht _ hm
 unfold rL at h;split at h
 · exact two (z:=sP) (by decide) h
 · split at h
   · exact two (z:=iY) (by decide) h
   · split at h
     · exact one (by decide) h
     · split at h
       · exact one (by decide) h
       · exact one (by decide) h
theorem Km {k:Nat}{s:PS}{o:Option By}(h:rL k s=(o,s')) (hs:zx W s):zx W s':=by
 have two:∀{a b z:By},((match bP 4 [a] s with|(some _,s)=>(some z,s)|(none,s)=>match bP 6 [b] s with|(some _,s)=>(some z,s)|(none,s)=>(none,s)):Option By×PS)=(o,s')->zx W s':=fun {a b z} h0=>by
  rcases hq:bP 4 [a] s with ⟨o1,s1⟩
  have h1:=eF hq hs;rw[hq] at h0;cases o1 with
  |some y=>cases h0;exact h1
  |none =>
   dsimp only at h0
   rcases hq2:bP 6 [b] s1 with ⟨o2,s2⟩
   have h2:=eF hq2 h1;rw[hq2] at h0;cases o2 with
   |some y=>cases h0;exact h2
   |none=>cases h0;exact h2
 unfold rL at h;split at h
 · exact two (z:=sP) h
 · split at h
   · exact two (z:=iY) h
   · split at h
     · exact eF h hs
     · split at h<;>exact eF h hs
abbrev V (W:By->Bool) (t:Tr):Prop:=bY W t=true
def E (W:By->Bool) (t:Tr):Prop:=V W t/\(t.kind≠7\/t.kids.length=2)
theorem IA (h:k≠7):(Tr.mk k t l).kind≠7:=h
theorem fX (h:E W x) (hk:k≠6\/i=0):fI k i x=true:=by
 obtain⟨k',t',l'⟩:=x;have:=h.2;simp only[Tr.kind,Tr.kids] at this;simp only[fI,Bool.and_eq_true,Bool.or_eq_true,decide_eq_true_eq];exact⟨.inr this,hk.elim .inl fun h=>.inr (.inl h)⟩
theorem HV:V W (.mk k t l)↔fS W k t l.length=true/\fe W k 0 l=true:=by
 show (fS W k t l.length && fe W k 0 l)=true↔_
 rw[Bool.and_eq_true]
theorem MP (h:fS W k t 0=true):V W (.mk k t []):=HV.2 ⟨h,rfl⟩
theorem K3 (h:fS W k t 1=true) (ha:V W a) (ka:fI k 0 a=true):V W (.mk k t [a]):=HV.2 ⟨h,by
 show ((bY W a && fI k 0 a) && true)=true
 rw[ha,ka];rfl⟩
theorem NK (h:fS W k t 2=true) (ha:V W a) (ka:fI k 0 a=true) (hb:V W b) (kb:fI k 1 b=true):V W (.mk k t [a,b]):=HV.2 ⟨h,by
 show ((bY W a && fI k 0 a) && ((bY W b && fI k 1 b) && true))=true
 rw[ha,ka,hb,kb];rfl⟩
theorem Om {c:Tr}(h:fS W k t 3=true) (ha:V W a) (ka:fI k 0 a=true) (hb:V W b) (kb:fI k 1 b=true) (hc:V W c) (kc:fI k 2 c=true):V W (.mk k t [a,b,c]):=HV.2 ⟨h,by
 show ((bY W a && fI k 0 a) && ((bY W b && fI k 1 b) && ((bY W c && fI k 2 c) && true)))=true
 rw[ha,ka,hb,kb,hc,kc];rfl⟩
theorem xK {W:By->Bool}:∀(l:List Tr) (i:Nat),(∀x∈l,V W x)->fe W 10 i l=true
 | [],_,_=>rfl
 |x::l,i,h=>by
  show ((bY W x && fI 10 i x) && fe W 10 (i+1) l)=true
  have hk:fI 10 i x=true:=by cases x;rfl
  rw[h x (by simp),hk,xK l (i+1) (fun y hy=>h y (by simp[hy]))];rfl
theorem jN (hk:k=3\/k=7\/k=8) (h:eE W t=true){n:Nat}(hn:(cW k).1<=n/\n<=(cW k).2):fS W k t n=true:=by
 unfold fS dn;have:0<=k/\k<=10:=by omega
 rw[decide_eq_true hn.1,decide_eq_true hn.2,decide_eq_true this.1,decide_eq_true this.2,if_neg (by omega),if_neg (by omega),if_neg (by omega),if_pos hk,h];rfl
theorem Gb (h:t∈fV):fS W 5 t 2=true:=by
 show (decide ((cW 5).1<=2) && (decide (2<=(cW 5).2) && (decide ((0:Int)<=5) && (decide ((5:Int)<=10) && dn W 5 t))))=true
 have:dn W 5 t=decide (t∈fV):=rfl;rw[this,decide_eq_true h];rfl
def Og (W:By->Bool):wV->PS->Prop
 |.blockL l,s=>l.length+s.len<=500/\∀x∈l,V W x
 |.opL _ t,s=>s.len<=500/\E W t
 |.callL t,s=>s.len<=500/\E W t
 |.argL t,s=>s.len<=500/\E W t
 |_,s=>s.len<=500
def NB (W:By->Bool):wV->Tr->Prop
 |.stmt,t=>V W t
 |.lt true,t=>V W t
 |.choice,t=>E W t/\t.kind=6
 |.block,t=>E W t/\t.kind=10
 |.blockL _,t=>E W t/\t.kind=10
 |_,t=>E W t
theorem Gv (e:Int):∀(n:Nat) (j:wV) (s:PS) (t:Tr) (s':PS),pM e n j s=some (t,s')->s'.cn=false->zx W s->Og W j s->NB W j t/\zx W s':=by
 intro n
 induction n with
 |zero=>intro j s t s' h;cases h
 |succ n ih =>
 intro j s t s' h hg hs hj;have si:∀{k ts}{s s1:PS}{x:By},bP k ts s=(some x,s1)->s1.len<=s.len:=fun h=>by have:=cS h;omega
 cases j with
 |stmt =>
  rw[pM] at h
  rcases hq:bP 4 [gE] s with ⟨o,s1⟩
  rw[hq] at h;have o1:=eF hq hs;cases o with
  |some x=>have q:=ih _ _ _ _ h hg o1 (Nat.le_trans (si hq) hj);exact q
  |none=>have:=aW hq;subst this;simp only at h;have q:=ih _ _ _ _ h hg hs hj;exact⟨q.1.1,q.2⟩
 |expr =>
  rw[pM] at h
  rcases hq:bP 4 [gE] s with ⟨o,s1⟩
  rw[hq] at h;have o1:=eF hq hs;cases o with
  |some x=>have q:=ih _ _ _ _ h hg o1 (Nat.le_trans (si hq) hj);exact q
  |none =>
   have:=aW hq;subst this;simp only at h
   rcases hq:bP 4 [kR] s1 with ⟨o,s2⟩
   rw[hq] at h;have o1:=eF hq hs;cases o with
   |some x=>have q:=ih _ _ _ _ h hg o1 (Nat.le_trans (si hq) hj);exact⟨q.1.1,q.2⟩
   |none =>
    have:=aW hq;subst this;simp only at h
    rcases hq:bP 4 [mW] s2 with ⟨o,s3⟩
    rw[hq] at h;have o1:=eF hq hs;cases o with
    |some x=>have q:=ih _ _ _ _ h hg o1 (Nat.le_trans (si hq) hj);exact q
    |none=>have:=aW hq;subst this;simp only at h;have q:=ih _ _ _ _ h hg hs hj;exact q
 |lt al =>
  rw[pM] at h;obtain⟨v,s1,hv,h⟩:=aG h
  rcases hq:bP 4 [sQ] s1 with ⟨o,s2⟩
  rw[hq] at h;have on:=lu e 6 [61] (Bo e hs);have ln:(b8 e 6 [61] (cC e s).2).len<=500:=Nat.le_trans (eP e 6 [61] _) (Nat.le_trans (lq e s).1 hj);have fin:s1.cn=false->(E W v/\zx W s1)/\eE W (cC e s).1=true:=fun g=>⟨ih _ _ _ _ hv g on ln,nJ hs (dA (bH hv g))⟩
  have l1:=iK hv;cases o with
  |some x =>
   obtain⟨w,s3,hw,h⟩:=aG h;cases h;obtain⟨⟨f1,f2⟩,f3⟩:=fin (bz hq (bH hw hg));have q:=ih _ _ _ _ hw hg (eF hq f2) (Nat.le_trans (si hq) (Nat.le_trans l1 ln));have hV:V W (.mk 7 (cC e s).1 [v,w]):=NK (jN (.inr (.inl rfl)) f3 (by decide)) f1.1 (fX f1 (.inl (by decide))) q.1.1 (fX q.1 (.inl (by decide)));refine⟨?_,q.2⟩;cases al with
   |true=>exact hV
   |false=>exact⟨hV,.inr rfl⟩
  |none =>
   have:=aW hq;subst this;cases al with
   |true =>
    simp only[if_true] at h;cases h;obtain⟨⟨f1,f2⟩,f3⟩:=fin hg;exact⟨K3 (jN (.inr (.inl rfl)) f3 (by decide)) f1.1 (fX f1 (.inl (by decide))),f2⟩
   |false=>simp only[Bool.false_eq_true,if_false] at h;cases h;rw[dM] at hg;cases hg
 |choice =>
  rw[pM] at h;obtain⟨a,s1,ha,h⟩:=aG h;obtain⟨b,s2,hb,h⟩:=aG h
  rcases hq:bP 4 [kR] (b8 e 4 dD s2) with ⟨o,s3⟩
  rw[hq] at h;have l1:=iK ha;have l2:=iK hb;have l3:=eP e 4 dD s2
  have fin:s3.cn=false->zx W s3/\s3.len<=500/\∀{c:Tr},E W c->c.kind=10\/c.kind=6->E W (.mk 6 [] [a,b,c])/\(Tr.mk 6 [] [a,b,c]).kind=6:=fun g=>by
   have g2:=bz hq g;have g1:=dA g2;have qa:=ih _ _ _ _ ha (bH hb g1) hs hj;have qb:=ih _ _ _ _ hb g1 qa.2 (Nat.le_trans l1 hj)
   have hl:s3.len<=500:=by
    have hj:s.len<=500:=hj;cases o with
    |some x=>have:=cS hq;omega
    |none=>have:=aW hq;rw[this];omega
   refine⟨eF hq (lu e 4 dD qb.2),hl,fun {c} hc hk=>⟨⟨Om rfl qa.1.1 (fX qa.1 (.inr rfl)) qb.1.1.1 ?_ hc.1 ?_,.inl (IA (by decide))⟩,rfl⟩⟩
   · obtain⟨k',t',l'⟩:=b;have hk:k'=10:=qb.1.2;subst hk;rfl
   · obtain⟨k',t',l'⟩:=c;have hk:k'=10\/k'=6:=hk
     rcases hk with rfl|rfl<;>rfl
  cases o with
  |some x =>
   obtain⟨c,s4,hc,h⟩:=aG h;cases h;obtain⟨f1,f2,f3⟩:=fin (bH hc hg);have q:=ih _ _ _ _ hc hg f1 f2;exact⟨f3 q.1.1 (.inr q.1.2),q.2⟩
  |none =>
   obtain⟨c,s4,hc,h⟩:=aG h;cases h;obtain⟨f1,f2,f3⟩:=fin (bH hc hg);have q:=ih _ _ _ _ hc hg f1 f2;exact⟨f3 q.1.1 (.inl q.1.2),q.2⟩
 |fn =>
  rw[pM] at h
  rcases hq:bP 6 [[44]] (cC e s).2 with ⟨o,s1⟩
  rw[hq] at h;have on:=eF hq (Bo e hs);have ln:=(lq e s).1;have hj:s.len<=500:=hj;cases o with
  |some x =>
   obtain⟨a,s2,ha,h⟩:=aG h;cases h;have g1:=bH ha hg;have hn:=nJ hs (bz hq g1);have:=cS hq;have q:=ih _ _ _ _ ha hg on (show s1.len<=500 by omega);exact⟨⟨K3 (jN (.inr (.inr rfl)) hn (by decide)) q.1.1 (fX q.1 (.inl (by decide))),.inl (IA (by decide))⟩,q.2⟩
  |none =>
   have e1:=aW hq;obtain⟨a,s2,ha,h⟩:=aG h;cases h;have g1:=bH ha hg;have g2:=dA g1;rw[e1] at g2;have hn:=nJ hs g2;have l2:=eP e 6 [45,62] s1;have q:=ih _ _ _ _ ha hg (lu e 6 [45,62] on) (show (b8 e 6 [45,62] s1).len<=500 by rw[e1] at l2 ⊢;omega);exact⟨⟨K3 (jN (.inr (.inr rfl)) hn (by decide)) q.1.1 (fX q.1 (.inl (by decide))),.inl (IA (by decide))⟩,q.2⟩
 |block =>
  rw[pM] at h;have l1:=eP e 7 [123] s;have hj:s.len<=500:=hj;have q:=ih _ _ _ _ h hg (lu e 7 [123] hs) ⟨by simp only[List.length_nil];omega,fun x hx=>by cases hx⟩;exact q
 |blockL l =>
  rw[pM] at h;obtain⟨a,s1,ha,h⟩:=aG h
  rcases hq:bP 6 [[59]] s1 with ⟨o,s2⟩
  rw[hq] at h;simp only at h
  rcases hq2:bP 8 [[125]] s2 with ⟨o2,s3⟩
  rw[hq2] at h;have l1:=iK ha;obtain⟨hjl,hjv⟩:=hj
  have l2:s2.len<=s1.len/\(o.isSome=true->s2.len<s1.len):=by
   cases o with
   |some x=>have:=cS hq;exact⟨by omega,fun _=>by omega⟩
   |none=>have:=aW hq;rw[this];exact⟨Nat.le_refl _,fun k=>by cases k⟩
  have all:V W a->∀x∈l++[a],V W x:=fun hv x hx=>by
   rcases List.mem_append.1 hx with hx|hx
   · exact hjv x hx
   · simp at hx;rw[hx];exact hv
  cases o2 with
  |some x =>
   cases h;have l3:=cS hq2;have qa:=ih _ _ _ _ ha (bz hq (bz hq2 hg)) hs (show s.len<=500 by omega);refine⟨⟨⟨HV.2 ⟨?_,xK _ _ (all qa.1)⟩,.inl (IA (by decide))⟩,rfl⟩,eF hq2 (eF hq qa.2)⟩;have hn:1<=(l++[a]).length/\(l++[a]).length<=500:=by rw[List.length_append];simp only[List.length_cons,List.length_nil];omega
   show (decide (1<=(l++[a]).length) && (decide ((l++[a]).length<=500) && (decide ((0:Int)<=10) && (decide ((10:Int)<=10) && dn W 10 []))))=true
   rw[decide_eq_true hn.1,decide_eq_true hn.2];rfl
  |none =>
   have e3:=aW hq2;subst e3;simp only at h;split at h
   · rename_i hm;rw[Bool.and_eq_true] at hm;have qa:=ih _ _ _ _ ha (bz hq (bH h hg)) hs (show s.len<=500 by omega);have q:=ih _ _ _ _ h hg (eF hq qa.2) ⟨by have:=l2.2 hm.1;rw[List.length_append];simp only[List.length_cons,List.length_nil];omega,all qa.1⟩;exact q
   · cases h;rw[dM] at hg;cases hg
 |part k =>
  rw[pM] at h;have hj:s.len<=500:=hj;split at h
  · obtain⟨a,s1,ha,h⟩:=aG h;have l1:=iK ha;have qa:=ih _ _ _ _ ha (bH h hg) hs hj;have q:=ih _ _ _ _ h hg qa.2 ⟨by omega,qa.1⟩;exact q
  · split at h
    · rcases hq:bP 4 [gD] s with ⟨o,s1⟩
      rw[hq] at h;have o1:=eF hq hs;cases o with
      |some x =>
       obtain⟨a,s2,ha,h⟩:=aG h;cases h;have q:=ih _ _ _ _ ha hg o1 (Nat.le_trans (si hq) hj);exact⟨⟨K3 rfl q.1.1 (fX q.1 (.inl (by decide))),.inl (IA (by decide))⟩,q.2⟩
      |none =>
       have:=aW hq;subst this;simp only at h
       rcases hq:bP 6 [qE] s1 with ⟨o,s2⟩
       rw[hq] at h;have o1:=eF hq hs;cases o with
       |some x =>
        obtain⟨a,s2,ha,h⟩:=aG h;cases h;have q:=ih _ _ _ _ ha hg o1 (Nat.le_trans (si hq) hj);exact⟨⟨K3 rfl q.1.1 (fX q.1 (.inl (by decide))),.inl (IA (by decide))⟩,q.2⟩
       |none=>have:=aW hq;subst this;simp only at h;have q:=ih _ _ _ _ h hg hs hj;exact q
    · split at h
      · rcases hq:bP 6 [fD] s with ⟨o,s1⟩
        rw[hq] at h;have o1:=eF hq hs;cases o with
        |some x =>
         obtain⟨a,s2,ha,h⟩:=aG h;cases h;have q:=ih _ _ _ _ ha hg o1 (Nat.le_trans (si hq) hj);exact⟨⟨K3 rfl q.1.1 (fX q.1 (.inl (by decide))),.inl (IA (by decide))⟩,q.2⟩
        |none=>have:=aW hq;subst this;simp only at h;have q:=ih _ _ _ _ h hg hs hj;exact q
      · obtain⟨a,s1,ha,h⟩:=aG h;have l1:=iK ha;have qa:=ih _ _ _ _ ha (bH h hg) hs hj;have q:=ih _ _ _ _ h hg qa.2 ⟨by omega,qa.1⟩;exact q
 |opL k u =>
  rw[pM] at h
  rcases hq:rL k s with ⟨o,s1⟩
  rw[hq] at h;have o1:=Km hq hs;obtain⟨hj,hE⟩:=hj;cases o with
  |none=>cases h;exact⟨hE,o1⟩
  |some x =>
   obtain⟨a,s2,ha,h⟩:=aG h;have l0:=zv hq;have l1:=iK ha;have hx:=Kn hq;have mk:E W a->E W (.mk 5 x [u,a]):=fun q=>⟨NK (Gb hx) hE.1 (fX hE (.inl (by decide))) q.1 (fX q (.inl (by decide))),.inl (IA (by decide))⟩
   split at h
   · cases h;have q:=ih _ _ _ _ ha hg o1 (show s1.len<=500 by omega);exact⟨mk q.1,q.2⟩
   · have q:=ih _ _ _ _ ha (bH h hg) o1 (show s1.len<=500 by omega);have q:=ih _ _ _ _ h hg q.2 ⟨by omega,mk q.1⟩;exact q
 |callL u =>
  rw[pM] at h
  rcases hq:bP 7 [[40]] s with ⟨o,s1⟩
  rw[hq] at h;have o1:=eF hq hs;obtain⟨hj,hE⟩:=hj;cases o with
  |none=>cases h;exact⟨hE,o1⟩
  |some x=>have q:=ih _ _ _ _ h hg o1 ⟨Nat.le_trans (si hq) hj,hE⟩;exact q
 |argL u =>
  rw[pM] at h;obtain⟨a,s1,ha,h⟩:=aG h
  rcases hq:bP 6 [[44]] s1 with ⟨o,s2⟩
  rw[hq] at h;obtain⟨hj,hE⟩:=hj;have l1:=iK ha;have mk:E W a->E W (.mk 9 [] [u,a]):=fun q=>⟨NK rfl hE.1 (fX hE (.inl (by decide))) q.1 (fX q (.inl (by decide))),.inl (IA (by decide))⟩
  cases o with
  |some x =>
   have l2:=cS hq;have q:=ih _ _ _ _ ha (bz hq (bH h hg)) hs hj;have q:=ih _ _ _ _ h hg (eF hq q.2) ⟨by omega,mk q.1⟩;exact q
  |none =>
   have:=aW hq;subst this;simp only at h;have g1:=bH h hg;have l2:=eP e 8 [41] s2;have q:=ih _ _ _ _ ha (dA g1) hs hj;have q:=ih _ _ _ _ h hg (lu e 8 [41] q.2) ⟨by omega,mk q.1⟩;exact q
 |atom =>
  have h1:∃u r,s= .ok (u::r):=by
   cases s with
   |bad m=>have h:some (tO,PS.bad m)=some (t,s'):=h;cases h;cases hg
   |ok r=>cases r with
    |nil=>have h:some (tO,cY e (.ok []))=some (t,s'):=h;cases h;cases hg
    |cons u r=>exact⟨u,r,rfl⟩
  obtain⟨u,r,rfl⟩:=h1;rw[pM] at h;have hj:(PS.ok (u::r)).len<=500:=hj;have hr:(PS.ok r).len<=500:=by simp only[PS.len,List.length_cons] at hj ⊢;omega
  split at h
  · rename_i t' q;cases h;refine⟨?_,qQ hs⟩;obtain⟨hu3,hu5,hu9⟩:=hs u (by simp);unfold fK at q;split at q
    · rename_i k;cases q;exact⟨MP (by
       show (decide ((cW 0).1<=0) && (decide (0<=(cW 0).2) && (decide ((0:Int)<=0) && (decide ((0:Int)<=10) && dn W 0 u.2.1))))=true
       have:dn W 0 u.2.1=mh u.2.1:=rfl;rw[this,hu5 k];rfl),.inl (show (0:Int)≠7 by decide)⟩
    · split at q
      · rename_i k;cases q;exact⟨MP (by
         show (decide ((cW 1).1<=0) && (decide (0<=(cW 1).2) && (decide ((0:Int)<=1) && (decide ((1:Int)<=10) && dn W 1 u.2.1))))=true
         have:dn W 1 u.2.1=decide (u.2.1.length<=16384):=rfl;rw[this,decide_eq_true (hu9 k)];rfl),.inl (show (1:Int)≠7 by decide)⟩
      · split at q
        · rename_i k;cases q;exact⟨MP (jN (.inl rfl) (hu3 k) (by decide)),.inl (show (3:Int)≠7 by decide)⟩
        · split at q
          · rename_i k;cases q;refine⟨?_,.inl (show (2:Int)≠7 by decide)⟩
            rcases k.2 with k|k<;>(rw[k];exact MP rfl)
          · cases q
  · split at h
    · have q:=ih _ _ _ _ h hg hs hj;exact⟨q.1.1,q.2⟩
    · split at h
      · obtain⟨a,s1,ha,h⟩:=aG h;cases h;have q:=ih _ _ _ _ ha (dA hg) (qQ hs) hr;exact⟨q.1,lu e 8 [41] q.2⟩
      · cases h;rw[dM] at hg;cases hg
def Pv (e:Int) (j:wV) (s:List Un) (t:Tr) (r:List Un):Prop:=∃n,pM e n j (.ok s)=some (t,.ok r)
theorem Pv.step {j':wV}{s':List Un}{t:Tr}(h:∀n,pM e (n+1) j (.ok s)=pM e n j' (.ok s')) (k:Pv e j' s' t r):Pv e j s t r:=by
 obtain⟨n,k⟩:=k;exact⟨n+1,by rw[h,k]⟩
theorem Pv.then {j1:wV}{r1:List Un}{t:Tr}{F:Nat->Tr->PS->rK}(h:∀n,pM e (n+1) j (.ok s)=dc (pM e n j1 (.ok s1)) (F n)) (k1:Pv e j1 s1 a r1)
 (k2:∃n0,∀n,n0<=n->F n a (.ok r1)=some (t,.ok r)):Pv e j s t r:=by
 obtain⟨n1,k1⟩:=k1;obtain⟨n0,k2⟩:=k2;refine⟨max n0 n1+1,?_⟩;rw[h,zq k1 (Nat.le_max_right _ _)];exact k2 _ (Nat.le_max_left _ _)
theorem Pv.up {t:Tr}(k:Pv e j s t r):∃n0,∀n,n0<=n->pM e n j (.ok s)=some (t,.ok r):=by
 obtain⟨n,k⟩:=k;exact⟨n,fun m hm=>zq k hm⟩
theorem now {t:Tr}:∃n0:Nat,∀n:Nat,n0<=n->(some (t,PS.ok r):rK)=some (t,.ok r):=⟨0,fun _ _=>rfl⟩
theorem iW (h:u.1=k/\u.2.1∈ts):bP k ts (.ok (u::r))=(some u.2.1,.ok r):=by rw[jd,if_pos h]
theorem eC (h:¬(u.1=k/\u.2.1∈ts)):bP k ts (.ok (u::r))=(none,.ok (u::r)):=by rw[jd,if_neg h]
theorem IS:bP k ts (.ok [])=(none,.ok []):=rfl
theorem jR (h:u.1=k/\u.2.1=t):b8 e k t (.ok (u::r))= .ok r:=by
 unfold b8;rw[iW ⟨h.1,by rw[h.2];simp⟩]
def Stop (u:Un):Prop:=u.1=8\/(u.1=6/\(u.2.1=[59]\/u.2.1=[44]))\/(u.1=4/\(u.2.1=sQ\/u.2.1=dD))\/(u.1=7/\u.2.1=[123])
def Fr (r:List Un):Prop:=r=[]\/∃u r',r=u::r'/\Stop u
def Ib (u:Un):Prop:=u.1=5\/u.1=9\/u.1=3\/(u.1=4/\(u.2.1=gU\/u.2.1=gk))\/(u.1=7/\(u.2.1=[40]\/u.2.1=[123]))
theorem ku {k:Nat}(h:Fr r):rL k (.ok r)=(none,.ok r):=by
 have m:∀{c:Int}{ts:List By},(c=4->sQ∉ts/\dD∉ts)->(c=6->[59]∉ts/\[44]∉ts)->(c=4\/c=6)->bP c ts (.ok r)=(none,.ok r):=fun {c ts} h4 h6 hc=>by
  rcases h with rfl|⟨u,r',rfl,hu⟩
  · rfl
  · refine eC fun q=>?_
    obtain⟨q1,q2⟩:=q
    rcases hu with a|⟨a,b⟩|⟨a,b⟩|⟨a,b⟩
    · omega
    · have:=h6 (by omega);rcases b with b|b<;>rw[b] at q2<;>simp_all
    · have:=h4 (by omega);rcases b with b|b<;>rw[b] at q2<;>simp_all
    · omega
 unfold rL;split
 · rw[m (fun _=>by decide) (fun _=>by decide) (.inl rfl)];dsimp only;rw[m (fun _=>by decide) (fun _=>by decide) (.inr rfl)]
 · split
   · rw[m (fun _=>by decide) (fun _=>by decide) (.inl rfl)];dsimp only;rw[m (fun _=>by decide) (fun _=>by decide) (.inr rfl)]
   · split
     · exact m (fun _=>by decide) (fun _=>by decide) (.inr rfl)
     · split
       · exact m (fun _=>by decide) (fun _=>by decide) (.inr rfl)
       · exact m (fun _=>by decide) (fun _=>by decide) (.inr rfl)
theorem rQ {t:Tr}(h:Fr r):Pv e (.callL t) r t r:=by
 have:bP 7 [[40]] (.ok r)=(none,.ok r):=by
  rcases h with rfl|⟨u,r',rfl,hu⟩
  · rfl
  · refine eC fun q=>?_
    obtain⟨q1,q2⟩:=q
    rcases hu with a|⟨a,b⟩|⟨a,b⟩|⟨a,b⟩
    · omega
    · omega
    · omega
    · rw[b] at q2;revert q2;decide
 exact⟨1,by rw[pM,this]⟩
theorem eV (h:Ib u){c:Int}(hc:c=6\/c=4/\gU∉ts/\gk∉ts):bP c ts (.ok (u::r))=(none,.ok (u::r)):=by
 refine eC fun q=>?_
 obtain⟨q1,q2⟩:=q
 rcases h with a|a|a|⟨a,b⟩|⟨a,b⟩
 · omega
 · omega
 · omega
 · rcases hc with hc|⟨hc,h1,h2⟩
   · omega
   · rcases b with b|b<;>rw[b] at q2<;>contradiction
 · omega
theorem qz {t:Tr}(hu:Ib u) (h7:Pv e (.part 7) (u::s) t r){k:Nat}(hk:k<=7) (hop:∀i,k<=i->i<=5->rL i (.ok r)=(none,.ok r)):Pv e (.part k) (u::s) t r:=by
 have opl:∀{i t},k<=i->i<=5->Pv e (.opL i t) r t r:=fun {i t} h1 h2=>⟨1,by rw[pM,hop i h1 h2]⟩
 have lev:∀j,j<=7->k<=7-j->Pv e (.part (7-j)) (u::s) t r:=by
  intro j
  induction j with
  |zero=>intro _ _;exact h7
  |succ j ih =>
   intro hj hkj;have h:=ih (by omega) (by omega);obtain⟨i,hi⟩:∃i,i=7-(j+1):=⟨_,rfl⟩
   rw[show 7-j=i+1 by omega] at h;rw[<-hi]
   by_cases h2:i=2
   · subst h2;refine Pv.step (fun n=>?_) h;rw[pM,if_neg (by decide),if_pos rfl,eV hu (.inr ⟨rfl,by decide,by decide⟩)];dsimp only;rw[eV hu (.inl rfl)]
   · by_cases h6:i=6
     · subst h6;refine Pv.step (fun n=>?_) h;rw[pM,if_neg (by decide),if_neg (by decide),if_pos rfl,eV hu (.inl rfl)]
     · refine Pv.then (F:=fun n t s=>pM e n (.opL i t) s) (fun n=>?_) h (opl (by omega) (by omega)).up;rw[pM,if_neg (by omega),if_neg h2,if_neg h6]
 have:=lev (7-k) (by omega) (by omega)
 rwa [show 7-(7-k)=k by omega] at this
theorem IU {t:Tr}(hu:Ib u) (h7:Pv e (.part 7) (u::s) t r) (hr:Fr r):Pv e .expr (u::s) t r:=by
 refine Pv.step (fun n=>?_) (qz hu h7 (k:=0) (by decide) fun i _ _=>ku hr);rw[pM,eV hu (.inr ⟨rfl,by decide,by decide⟩)];dsimp only;rw[eV hu (.inr ⟨rfl,by decide,by decide⟩)];dsimp only;rw[eV hu (.inr ⟨rfl,by decide,by decide⟩)]
theorem Il {t:Tr}(hu:Ib u) (h:Pv e .expr (u::s) t r):Pv e .stmt (u::s) t r:=by
 refine Pv.step (fun n=>?_) h;rw[pM,eV hu (.inr ⟨rfl,by decide,by decide⟩)]
theorem Cp {t:Tr}{K:Nat}(hK:K<=7) (h:Pv e (.part K) s t r){k:Nat}(hk:k<=K) (h2:k<=2->2<K->bP 4 [gD] (.ok s)=(none,.ok s)/\bP 6 [qE] (.ok s)=(none,.ok s))
 (h6:k<=6->6<K->bP 6 [fD] (.ok s)=(none,.ok s)) (hop:∀i,k<=i->i<K->i<=5->rL i (.ok r)=(none,.ok r)):Pv e (.part k) s t r:=by
 have lev:∀j,j<=K-k->Pv e (.part (K-j)) s t r:=by
  intro j
  induction j with
  |zero=>intro _;exact h
  |succ j ih =>
   intro hj;have h:=ih (by omega);obtain⟨i,hi⟩:∃i,i=K-(j+1):=⟨_,rfl⟩
   rw[show K-j=i+1 by omega] at h;rw[<-hi]
   by_cases e2:i=2
   · subst e2;have q:=h2 (by omega) (by omega);refine Pv.step (fun n=>?_) h;rw[pM,if_neg (by decide),if_pos rfl,q.1];dsimp only;rw[q.2]
   · by_cases e6:i=6
     · subst e6;refine Pv.step (fun n=>?_) h;rw[pM,if_neg (by decide),if_neg (by decide),if_pos rfl,h6 (by omega) (by omega)]
     · have opl:Pv e (.opL i t) r t r:=⟨1,by rw[pM,hop i (by omega) (by omega) (by omega)]⟩
       refine Pv.then (F:=fun n t s=>pM e n (.opL i t) s) (fun n=>?_) h opl.up;rw[pM,if_neg (by omega),if_neg e2,if_neg e6]
 have:=lev (K-k) (Nat.le_refl _)
 rwa [show K-(K-k)=k by omega] at this
theorem Gt {r':List Un}{t:Tr}(h:Pv e .atom s x r) (k:Pv e (.callL x) r t r'):Pv e (.part 7) s t r' :=
 Pv.then (F:=fun n t s=>pM e n (.callL t) s) (fun n=>by rw[pM,if_pos rfl]) h k.up
theorem paren {v:Un}(hu:u.1=7/\u.2.1=[40]) (hv:v.1=8/\v.2.1=[41]) (h:Pv e .expr s x (v::r)):Pv e .atom (u::s) x r:=by
 refine Pv.then (F:=fun _ t s=>some (t,b8 e 8 [41] s)) (fun n=>?_) h ⟨0,fun n _=>by rw[jR hv]⟩
 have ha:fK u=none:=by
  unfold fK;rw[if_neg (by omega),if_neg (by omega),if_neg (by omega),if_neg (by omega)]
 rw[pM,ha];dsimp only;rw[if_neg (fun q=>by have:=q.2;rw[hu.2] at this;revert this;decide),if_pos hu]
theorem GC (h:fK u=some x):Pv e .atom (u::r) x r:=⟨1,by rw[pM,h]⟩
theorem nQ {v:Un}(hv:v.1=8):Fr (v::r):=.inr ⟨v,r,rfl,.inl hv⟩
theorem KB (hu:u.1=4/\u.2.1=gD) (hb:Ib h0) (h:Pv e (.part 7) (h0::s) x r) (hr:Fr r):Pv e .expr (u::h0::s) (.mk 4 gD [x]) r:=by
 have h2:=qz hb h (k:=2) (by decide) fun i _ _=>ku hr
 have p2:Pv e (.part 2) (u::h0::s) (.mk 4 gD [x]) r:=by
  refine Pv.then (F:=fun _ t s=>some (.mk 4 gD [t],s)) (fun n=>?_) h2 now;rw[pM,if_neg (by decide),if_pos rfl,iW (ts:=[gD]) ⟨hu.1,by rw[hu.2];simp⟩]
 have p0:=Cp (k:=0) (by decide) p2 (by decide) (fun _ q=>absurd q (by decide)) (fun _ q=>absurd q (by decide)) fun i _ _ _=>ku hr
 have miss:∀{ts:List By},gD∉ts->bP 4 ts (.ok (u::h0::s))=(none,.ok (u::h0::s)):=fun ht=>eC fun q=>ht (hu.2▸q.2)
 refine Pv.step (fun n=>?_) p0;rw[pM,miss (by decide)];dsimp only;rw[miss (by decide)];dsimp only;rw[miss (by decide)]
theorem KC (hu:u.1=6/\u.2.1=fD) (hb:Ib h0) (h:Pv e (.part 7) (h0::s) x r) (hr:Fr r):Pv e .expr (u::h0::s) (.mk 4 fD [x]) r:=by
 have h2:=qz hb h (k:=6) (by decide) fun i _ _=>ku hr
 have p2:Pv e (.part 6) (u::h0::s) (.mk 4 fD [x]) r:=by
  refine Pv.then (F:=fun _ t s=>some (.mk 4 fD [t],s)) (fun n=>?_) h2 now;rw[pM,if_neg (by decide),if_neg (by decide),if_pos rfl,iW (ts:=[fD]) ⟨hu.1,by rw[hu.2];simp⟩]
 have m4:∀{ts:List By},bP 4 ts (.ok (u::h0::s))=(none,.ok (u::h0::s)):=eC fun q=>by omega
 have p0:=Cp (k:=0) (by decide) p2 (by decide) (fun _ _=>⟨m4,eC fun q=>by have:=q.2;rw[hu.2] at this;revert this;decide⟩) (fun _ q=>absurd q (by decide)) fun i _ _ _=>ku hr
 refine Pv.step (fun n=>?_) p0;rw[pM,m4];dsimp only;rw[m4];dsimp only;rw[m4]
def lvl (t:By):Nat:=if t=sP then 0 else if t=iY then 1 else if t∈EA then 3 else if t∈Ez then 4 else 5
def ie (t:By):Int:=if t=sP\/t=iY\/t=gD then 4 else 6
theorem Kl (ht:t∈fV) (hu:u.1=ie t/\u.2.1=t):rL (lvl t) (.ok (u::r))=(some t,.ok r):=by
 obtain⟨a,b,c⟩:=u;obtain⟨h1,h2⟩:=hu;dsimp only at h1 h2;subst h1 h2;simp only[fV,List.mem_cons,List.not_mem_nil,or_false] at ht
 rcases ht with rfl|rfl|rfl|rfl|rfl|rfl|rfl|rfl|rfl|rfl|rfl|rfl|rfl<;>rfl
theorem Ir (ht:t∈fV) (hu:u.1=ie t/\u.2.1=t):∀i,lvl t<i->i<=5->rL i (.ok (u::r))=(none,.ok (u::r)):=by
 obtain⟨a,b,c⟩:=u;obtain⟨h1,h2⟩:=hu;dsimp only at h1 h2;subst h1 h2;simp only[fV,List.mem_cons,List.not_mem_nil,or_false] at ht;intro i hi h5
 match i,h5 with
 | 0,_=>exact absurd hi (Nat.not_lt_zero _)
 | 1,_=>rcases ht with rfl|rfl|rfl|rfl|rfl|rfl|rfl|rfl|rfl|rfl|rfl|rfl|rfl<;>first|rfl|(exfalso;revert hi;decide)
 | 2,_=>rcases ht with rfl|rfl|rfl|rfl|rfl|rfl|rfl|rfl|rfl|rfl|rfl|rfl|rfl<;>first|rfl|(exfalso;revert hi;decide)
 | 3,_=>rcases ht with rfl|rfl|rfl|rfl|rfl|rfl|rfl|rfl|rfl|rfl|rfl|rfl|rfl<;>first|rfl|(exfalso;revert hi;decide)
 | 4,_=>rcases ht with rfl|rfl|rfl|rfl|rfl|rfl|rfl|rfl|rfl|rfl|rfl|rfl|rfl<;>first|rfl|(exfalso;revert hi;decide)
 | 5,_=>rcases ht with rfl|rfl|rfl|rfl|rfl|rfl|rfl|rfl|rfl|rfl|rfl|rfl|rfl<;>first|rfl|(exfalso;revert hi;decide)
theorem Kv (ht:t∈fV):lvl t=0\/lvl t=1\/lvl t=3\/lvl t=4\/lvl t=5:=by
 simp only[fV,List.mem_cons,List.not_mem_nil,or_false] at ht
 rcases ht with rfl|rfl|rfl|rfl|rfl|rfl|rfl|rfl|rfl|rfl|rfl|rfl|rfl<;>decide
theorem Is (hu:u.1=ie t/\u.2.1=t):Pv e (.callL x) (u::r) x (u::r):=by
 have:u.1≠7:=by rw[hu.1];unfold ie;split<;>decide
 exact⟨1,by rw[pM,eC fun q=>this q.1]⟩
theorem Kz (ht:t∈fV){h1:Un}{s s1 s2 r:List Un}{y:Tr}(hu:u.1=ie t/\u.2.1=t) (b0:Ib h0) (b1:Ib h1) (hx:Pv e (.part 7) (h0::s) x (u::h1::s2)) (hy:Pv e (.part 7) (h1::s2) y r) (hr:Fr r) :
 Pv e .expr (h0::s) (.mk 5 t [x,y]) r:=by
 have hl:=Kv ht;obtain⟨k,hk⟩:∃k,k=lvl t:=⟨_,rfl⟩
 rw[<-hk] at hl;have a:=qz b0 hx (k:=k+1) (by omega) fun i h1 h5=>Ir ht hu i (by omega) h5
 have b:=qz b1 hy (k:=k+1) (by omega) fun i _ _=>ku hr
 have c:Pv e (.opL k x) (u::h1::s2) (.mk 5 t [x,y]) r:=by
  have fin:Pv e (.opL k (.mk 5 t [x,y])) r (.mk 5 t [x,y]) r:=⟨1,by rw[pM,ku hr]⟩
  refine Pv.then (F:=fun n u s=>if k=3 then some (.mk 5 t [x,u],s) else pM e n (.opL k (.mk 5 t [x,u])) s) (fun n=>?_) b ?_
  · rw[pM,hk,Kl ht hu]
  · by_cases h3:k=3
    · exact⟨0,fun n _=>by rw[if_pos h3]⟩
    · obtain⟨n0,q⟩:=fin.up;exact⟨n0,fun n hn=>by rw[if_neg h3];exact q n hn⟩
 have d:Pv e (.part k) (h0::s) (.mk 5 t [x,y]) r:=Pv.then (F:=fun n t s=>pM e n (.opL k t) s) (fun n=>by rw[pM,if_neg (by omega),if_neg (by omega),if_neg (by omega)]) a c.up;have p0:=Cp (k:=0) (by omega) d (Nat.zero_le _) (fun _ _=>⟨eV b0 (.inr ⟨rfl,by decide,by decide⟩),eV b0 (.inl rfl)⟩) (fun _ _=>eV b0 (.inl rfl)) fun i _ _ _=>ku hr
 refine Pv.step (fun n=>?_) p0;rw[pM,eV b0 (.inr ⟨rfl,by decide,by decide⟩)];dsimp only;rw[eV b0 (.inr ⟨rfl,by decide,by decide⟩)];dsimp only;rw[eV b0 (.inr ⟨rfl,by decide,by decide⟩)]
theorem nI (h:u.1=3):cC e (.ok (u::r))=(u.2.1,.ok r):=by rw[gI,if_pos h]
theorem rN {w:By}(hu:u.1=4/\u.2.1=w) (hw:w=gE/\j= .lt false\/w=kR/\j= .choice\/w=mW/\j= .fn) (h:Pv e j s x r):Pv e .expr (u::s) x r:=by
 refine Pv.step (fun n=>?_) h;have hit:∀{ts:List By},w∈ts->bP 4 ts (.ok (u::s))=(some u.2.1,.ok s):=fun q=>iW ⟨hu.1,hu.2▸q⟩
 have miss:∀{ts:List By},w∉ts->bP 4 ts (.ok (u::s))=(none,.ok (u::s)):=fun q=>eC fun k=>q (hu.2▸k.2)
 rcases hw with ⟨rfl,rfl⟩|⟨rfl,rfl⟩|⟨rfl,rfl⟩
 · rw[pM,hit (by decide)]
 · rw[pM,miss (by decide)];dsimp only;rw[hit (by decide)]
 · rw[pM,miss (by decide)];dsimp only;rw[miss (by decide)];dsimp only;rw[hit (by decide)]
theorem IJ {i:Un}{w:Tr}{al:Bool}(hn:n.1=3) (hq:q.1=6/\q.2.1=[61]) (hi:i.1=4/\i.2.1=sQ) (hv:Pv e .expr s1 v (i::s2)) (hw:Pv e .expr s2 w r) :
 Pv e (.lt al) (n::q::s1) (.mk 7 n.2.1 [v,w]) r:=by
 have hm:b8 e 6 [61] (cC e (.ok (n::q::s1))).2= .ok s1:=by rw[nI hn];exact jR hq
 have hnm:(cC e (.ok (n::q::s1))).1=n.2.1:=by rw[nI hn]
 obtain⟨n2,k2⟩:=hw.up
 refine Pv.then (F:=fun m v s1=>match bP 4 [sQ] s1 with
  |(some _,s2)=>dc (pM e m .expr s2) fun w s3=>some (.mk 7 n.2.1 [v,w],s3)
  |(none,s2)=>some (.mk 7 n.2.1 [v],if al then s2 else cY e s2)) (fun m=>?_) hv ⟨n2,fun m hm=>?_⟩
 · rw[pM,hm,hnm]<;>rfl
 · rw[iW (ts:=[sQ]) ⟨hi.1,by rw[hi.2];simp⟩];dsimp only;rw[k2 m hm];rfl
def Fe (r:List Un):Prop:=r=[]\/∃u r',r=u::r'/\(u.1=8\/u.1=6/\u.2.1=[59])
theorem Fe.fr (h:Fe r):Fr r:=h.imp id fun⟨u,r',e,k⟩=>⟨u,r',e,k.elim .inl fun q=>.inr (.inl ⟨q.1,.inl q.2⟩)⟩
theorem IL (hn:n.1=3) (hq:q.1=6/\q.2.1=[61]) (hv:Pv e .expr s1 v r) (hr:Fe r):Pv e (.lt true) (n::q::s1) (.mk 7 n.2.1 [v]) r:=by
 have hm:b8 e 6 [61] (cC e (.ok (n::q::s1))).2= .ok s1:=by rw[nI hn];exact jR hq
 have hnm:(cC e (.ok (n::q::s1))).1=n.2.1:=by rw[nI hn]
 have hi:bP 4 [sQ] (.ok r)=(none,.ok r):=by
  rcases hr with rfl|⟨u,r',rfl,hu⟩
  · rfl
  · exact eC fun k=>by rcases hu with hu|hu<;>omega
 refine Pv.then (F:=fun m v s1=>match bP 4 [sQ] s1 with
  |(some _,s2)=>dc (pM e m .expr s2) fun w s3=>some (.mk 7 n.2.1 [v,w],s3)
  |(none,s2)=>some (.mk 7 n.2.1 [v],if true then s2 else cY e s2)) (fun m=>?_) hv ⟨0,fun m _=>?_⟩
 · rw[pM,hm,hnm]<;>rfl
 · rw[hi];rfl
theorem F6 (hu:u.1=4/\u.2.1=gE) (hn:n.1=3) (hq:q.1=6/\q.2.1=[61]) (hv:Pv e .expr s1 v r) (hr:Fe r):Pv e .stmt (u::n::q::s1) (.mk 7 n.2.1 [v]) r:=by
 refine Pv.step (fun m=>?_) (IL hn hq hv hr);rw[pM,iW (ts:=[gE]) ⟨hu.1,by rw[hu.2];simp⟩]
theorem KD (hn:n.1=3) (hq:q.1=6/\q.2.1=[45,62]) (hv:Pv e .expr s1 v r):Pv e .fn (n::q::s1) (.mk 8 n.2.1 [v]) r:=by
 refine Pv.then (F:=fun _ a s=>some (.mk 8 n.2.1 [a],s)) (fun m=>?_) hv now;rw[pM,nI hn];dsimp only;rw[eC fun k=>by have:=k.2;rw[hq.2] at this;revert this;decide];dsimp only;rw[jR hq]
theorem Ft {w:Un}{s3:List Un}{c:Tr}(ha:Pv e .expr s1 a s2) (hb:Pv e .block s2 b (w::s3)) (hw:w.1=4/\w.2.1=dD)
 (hc:(∃i s4,s3=i::s4/\(i.1=4/\i.2.1=kR)/\Pv e .choice s4 c r)\/(∃i s4,s3=i::s4/\i.1=7/\Pv e .block s3 c r)):Pv e .choice s1 (.mk 6 [] [a,b,c]) r:=by
 obtain⟨n1,k1⟩:=hb.up;have hm:b8 e 4 dD (.ok (w::s3))= .ok s3:=jR hw
 rcases hc with ⟨i,s4,rfl,hi,hc⟩|⟨i,s4,rfl,hi,hc⟩
 · obtain⟨n2,k2⟩:=hc.up
   refine Pv.then (F:=fun n a s=>dc (pM e n .block s) fun b s=>match bP 4 [kR] (b8 e 4 dD s) with
    |(some _,s)=>dc (pM e n .choice s) fun c s=>some (.mk 6 [] [a,b,c],s)
    |(none,s)=>dc (pM e n .block s) fun c s=>some (.mk 6 [] [a,b,c],s)) (fun n=>by rw[pM]<;>rfl) ha ⟨max n1 n2,fun n hn=>?_⟩
   rw[k1 n (by omega)]
   show (match bP 4 [kR] (b8 e 4 dD (.ok (w::i::s4))) with
    |(some _,s)=>dc (pM e n .choice s) fun c s=>some (.mk 6 [] [a,b,c],s)
    |(none,s)=>dc (pM e n .block s) fun c s=>some (.mk 6 [] [a,b,c],s))=_
   rw[hm,iW (ts:=[kR]) ⟨hi.1,by rw[hi.2];simp⟩];dsimp only;rw[k2 n (by omega)];rfl
 · obtain⟨n2,k2⟩:=hc.up
   refine Pv.then (F:=fun n a s=>dc (pM e n .block s) fun b s=>match bP 4 [kR] (b8 e 4 dD s) with
    |(some _,s)=>dc (pM e n .choice s) fun c s=>some (.mk 6 [] [a,b,c],s)
    |(none,s)=>dc (pM e n .block s) fun c s=>some (.mk 6 [] [a,b,c],s)) (fun n=>by rw[pM]<;>rfl) ha ⟨max n1 n2,fun n hn=>?_⟩
   rw[k1 n (by omega)]
   show (match bP 4 [kR] (b8 e 4 dD (.ok (w::i::s4))) with
    |(some _,s)=>dc (pM e n .choice s) fun c s=>some (.mk 6 [] [a,b,c],s)
    |(none,s)=>dc (pM e n .block s) fun c s=>some (.mk 6 [] [a,b,c],s))=_
   rw[hm,eC fun q=>by omega];dsimp only;rw[k2 n (by omega)];rfl
theorem I0 {p:Un}{r':List Un}{f t:Tr}(hp:p.1=7/\p.2.1=[40]) (hq:q.1=8/\q.2.1=[41]) (hx:Pv e .expr s x (q::r)) (k:Pv e (.callL (.mk 9 [] [f,x])) r t r'):Pv e (.callL f) (p::s) t r':=by
 obtain⟨n1,k1⟩:=k.up
 have ha:Pv e (.argL f) s t r':=by
  refine Pv.then (F:=fun n a s=>match bP 6 [[44]] s with
   |(some _,s)=>pM e n (.argL (.mk 9 [] [f,a])) s
   |(none,s)=>pM e n (.callL (.mk 9 [] [f,a])) (b8 e 8 [41] s)) (fun n=>by rw[pM]<;>rfl) hx ⟨n1,fun n hn=>?_⟩
  rw[eC fun k=>by omega];dsimp only;rw[jR hq];exact k1 n hn
 refine Pv.step (fun n=>?_) ha;rw[pM,iW (ts:=[[40]]) ⟨hp.1,by rw[hp.2];simp⟩]
theorem Df (hq:q.1=8/\q.2.1=[125]) (hx:Pv e .stmt s x (q::r)):Pv e (.blockL l) s (.mk 10 [] (l++[x])) r:=by
 refine Pv.then (F:=fun n t s=>match bP 6 [[59]] s with
  |(more,s)=>match bP 8 [[125]] s with
   |(some _,s)=>some (.mk 10 [] (l++[t]),s)
   |(none,s)=>if more.isSome && !s.cn then pM e n (.blockL (l++[t])) s else some (.mk 10 [] (l++[t]),cY e s)) (fun n=>by rw[pM]<;>rfl) hx ⟨0,fun n _=>?_⟩
 dsimp only;rw[eC fun k=>by omega];dsimp only;rw[iW (ts:=[[125]]) ⟨hq.1,by rw[hq.2];simp⟩]
theorem De {i:Un}{t:Tr}(hq:q.1=6/\q.2.1=[59]) (hi:i.1≠8) (hx:Pv e .stmt s x (q::i::s2)) (k:Pv e (.blockL (l++[x])) (i::s2) t r):Pv e (.blockL l) s t r:=by
 obtain⟨n1,k1⟩:=k.up
 refine Pv.then (F:=fun n t s=>match bP 6 [[59]] s with
  |(more,s)=>match bP 8 [[125]] s with
   |(some _,s)=>some (.mk 10 [] (l++[t]),s)
   |(none,s)=>if more.isSome && !s.cn then pM e n (.blockL (l++[t])) s else some (.mk 10 [] (l++[t]),cY e s)) (fun n=>by rw[pM]<;>rfl) hx ⟨n1,fun n hn=>?_⟩
 dsimp only;rw[iW (ts:=[[59]]) ⟨hq.1,by rw[hq.2];simp⟩];dsimp only;rw[eC fun k=>hi k.1];exact k1 n hn
theorem HF (hu:u.1=7/\u.2.1=[123]) (h:Pv e (.blockL []) s x r):Pv e .block (u::s) x r:=by
 refine Pv.step (fun n=>?_) h;rw[pM,jR hu]
theorem Dg (hu:u.1=7/\u.2.1=[123]) (h:Pv e .block (u::s) x r):Pv e .atom (u::s) x r:=by
 refine Pv.step (fun n=>?_) h
 have ha:fK u=none:=by
  unfold fK;rw[if_neg (by omega),if_neg (by omega),if_neg (by omega),if_neg (by omega)]
 rw[pM,ha];dsimp only;rw[if_pos hu]
abbrev Sh:=Int×By
end
mutual
def dN:Bool->Tr->List Sh
 |bare,.mk k t l =>
  if k=0 then [(5,t)] else if k=1 then [(9,t)] else if k=2 then [(4,t)] else if k=3 then [(3,t)]
  else if k=4 then (7,[40])::(ie t,t)::(jK 4 0 l++[(8,[41])])
  else if k=5 then (7,[40])::(jK 50 0 l++((ie t,t)::(jK 51 0 l++[(8,[41])])))
  else if k=6 then (if bare then (4,kR)::jK 6 0 l else (7,[40])::(4,kR)::(jK 6 0 l++[(8,[41])]))
  else if k=7 then (if l.length=1 then (4,gE)::(3,t)::(6,[61])::jK 4 0 l else (7,[40])::(4,gE)::(3,t)::(6,[61])::(jK 50 0 l++((4,sQ)::(jK 51 0 l++[(8,[41])]))))
  else if k=8 then (7,[40])::(4,mW)::(3,t)::(6,[45,62])::(jK 4 0 l++[(8,[41])])
  else if k=9 then jK 50 0 l++((7,[40])::(jK 51 0 l++[(8,[41])]))
  else (7,[123])::(jK 10 0 l++[(8,[125])])
def jK:Nat->Nat->List Tr->List Sh
 |_,_,[]=>[]
 |w,i,x::l =>
  if w=4 then dN false x
  else if w=50 then dN false x
  else if w=51 then (if i=1 then dN false x else jK 51 (i+1) l)
  else if w=6 then (if i=0 then dN false x++jK 6 1 l else if i=1 then dN false x++((4,dD)::jK 6 2 l) else dN true x)
  else (if l=[] then dN false x else dN false x++((6,[59])::jK 10 (i+1) l))
end
section
variable {k e:Int}{ts:List By}{s r s1 s2 us:List Un}{s':PS}{x a b v:Tr}{t:By}{l:List Tr}{W:By->Bool}{u n h0 q:Un}{i:Nat}{j:wV}
def uV (u:Un):Sh:=(u.1,u.2.1)
theorem map_cons {us:List Un}{a:Sh}{l:List Sh}(h:us.map uV=a::l):∃u s,us=u::s/\u.1=a.1/\u.2.1=a.2/\s.map uV=l:=by
 cases us with
 |nil=>cases h
 |cons u s =>
  rw[List.map_cons,List.cons.injEq] at h;exact⟨u,s,rfl,by rw[<-h.1];rfl,by rw[<-h.1];rfl,h.2⟩
theorem ig {a l:List Sh}(h:us.map uV=a++l):∃u s,us=u++s/\u.map uV=a/\s.map uV=l:=List.map_eq_append_iff.1 h
theorem qS {a:Sh}(h:us.map uV=[a]):∃u,us=[u]/\u.1=a.1/\u.2.1=a.2:=by
 obtain⟨u,s,rfl,h1,h2,h3⟩:=map_cons h;exact⟨u,by rw[List.map_eq_nil_iff.1 h3],h1,h2⟩
def H6 (t:Tr):Prop:=t.kind=7->t.kids.length=2
structure HX (e:Int) (t:Tr):Prop where
 q:H6 t->∀us r t' r',us.map uV=dN false t->Pv e (.callL t) r t' r'->Pv e (.part 7) (us++r) t' r'
 hd:H6 t->∀us,us.map uV=dN false t->∃u s,us=u::s/\Ib u
 s:¬H6 t->∀us r,us.map uV=dN false t->Fe r->Pv e .stmt (us++r) t r
 b:t.kind=6->∀us r,us.map uV=dN true t->∃u s,us=u::s/\(u.1=4/\u.2.1=kR)/\Pv e .choice (s++r) t r
 k:t.kind=10->∀us r,us.map uV=dN false t->∃u s,us=u::s/\(u.1=7/\u.2.1=[123])/\Pv e .block (us++r) t r
theorem HX.p7 {t:Tr}(h:HX e t) (hv:H6 t) (hu:us.map uV=dN false t) (hr:∀x,Pv e (.callL x) r x r):Pv e (.part 7) (us++r) t r:=h.q hv us r t r hu (hr t)
theorem HX.ex {t:Tr}(h:HX e t) (hv:H6 t) (hu:us.map uV=dN false t) (hr:Fr r):Pv e .expr (us++r) t r:=by
 obtain⟨u,s,rfl,hb⟩:=h.hd hv us hu;exact IU hb (h.p7 hv hu fun _=>rQ hr) hr
theorem HX.st {t:Tr}(h:HX e t) (hu:us.map uV=dN false t) (hr:Fe r):Pv e .stmt (us++r) t r:=by
 by_cases hv:H6 t
 · have:=h.ex hv hu hr.fr;obtain⟨u,s,rfl,hb⟩:=h.hd hv us hu;exact Il hb this
 · exact h.s hv us r hu hr
theorem nO {α:Prop}{j:Int}(h:k≠j) (q:(Tr.mk k t l).kind=j):α:=absurd q h
theorem oz {α:Type}{l:List α}(h:l.length=2):∃a b,l=[a,b]:=by
 match l,h with
 | [a,b],_=>exact⟨a,b,rfl⟩
theorem ym {α:Type}{l:List α}(h:l.length=3):∃a b c,l=[a,b,c]:=by
 match l,h with
 | [a,b,c],_=>exact⟨a,b,c,rfl⟩
theorem oY (h:fI k i x=true) (hk:k≠10):H6 x:=by
 cases x with
 |mk k' t' l' =>
  unfold fI at h;simp only[Bool.and_eq_true,Bool.or_eq_true,decide_eq_true_eq] at h
  rcases h.1 with q|q|q
  · exact absurd q hk
  · exact fun e=>absurd e q
  · exact fun _=>q
theorem qy (h:bY W (.mk k t l)=true):(cW k).1<=l.length/\l.length<=(cW k).2/\0<=k/\k<=10/\dn W k t=true/\fe W k 0 l=true:=by
 rw[bY,Bool.and_eq_true] at h;obtain⟨h1,h2⟩:=h;unfold fS at h1;simp only[Bool.and_eq_true,decide_eq_true_eq] at h1;exact⟨h1.1,h1.2.1,h1.2.2.1,h1.2.2.2.1,h1.2.2.2.2,h2⟩
theorem bR (h:fe W k i (x::l)=true):bY W x=true/\fI k i x=true/\fe W k (i+1) l=true:=by
 rw[fe,Bool.and_eq_true,Bool.and_eq_true] at h;exact⟨h.1.1,h.1.2,h.2⟩
theorem Ec {n:Nat}(h:(Tr.mk k t l).dep<=n+1) (hx:x∈l):x.dep<=n:=by have:=uo (k:=k) (t:=t) hx;omega
theorem JR {v:Un}(h:Stop v):Fr (v::r):=.inr ⟨v,r,rfl,h⟩
theorem wk {e:Int}{W:By->Bool}:∀(l:List Tr) (i:Nat) (us:List Un) (acc:List Tr) (c:Un) (r:List Un),l≠[]->(∀x∈l,HX e x)->us.map uV=jK 10 i l->(c.1=8/\c.2.1=[125])->(∀x∈l,bY W x=true) ->
 Pv e (.blockL acc) (us++c::r) (.mk 10 [] (acc++l)) r
 | [],_,_,_,_,_,h,_,_,_,_=>absurd rfl h
 | [x],i,us,acc,c,r,_,hs,hu,hc,_=>by
  rw[jK,if_neg (by decide),if_neg (by decide),if_neg (by decide),if_neg (by decide),if_pos rfl] at hu;exact Df hc ((hs x List.mem_cons_self).st hu (.inr ⟨c,r,rfl,.inl hc.1⟩))
 |x::y::l,i,us,acc,c,r,_,hs,hu,hc,hv=>by
  rw[jK,if_neg (by decide),if_neg (by decide),if_neg (by decide),if_neg (by decide),if_neg (by simp)] at hu;obtain⟨ux,s1,rfl,h1,h2⟩:=ig hu;obtain⟨q,s2,rfl,h3,h4,h5⟩:=map_cons h2;have ih:=wk (y::l) (i+1) s2 (acc++[x]) c r (by simp) (fun z hz=>hs z (List.mem_cons_of_mem _ hz)) h5 hc (fun z hz=>hv z (List.mem_cons_of_mem _ hz));rw[List.append_assoc,List.singleton_append] at ih
  have hne:∃j s3,s2=j::s3/\j.1≠8:=by
   have hy:=hs y (List.mem_cons_of_mem _ List.mem_cons_self)
   have key:∀us',us'.map uV=dN false y->∃j s3,us'=j::s3/\j.1≠8:=fun us' hq=>by
    by_cases hiv:H6 y
    · obtain⟨j,s3,rfl,hb⟩:=hy.hd hiv us' hq;exact⟨j,s3,rfl,fun e8=>by rcases hb with b|b|b|b|b<;>first|omega|(have:=b.1;omega)⟩
    · cases y with
      |mk k t l' =>
       have hk:k=7:=by
        by_cases q:k=7
        · exact q
        · exact absurd (fun e=>absurd e q) hiv
       have hl:l'.length=1:=by
        have:=(qy (hv (.mk k t l') (by simp)))
        subst hk;have h1:(cW 7)=(1,2):=by decide
        rw[h1] at this;have h2:¬l'.length=2:=fun e=>hiv fun _=>e
        simp only at this;omega
       subst hk;rw[dN,if_neg (by decide),if_neg (by decide),if_neg (by decide),if_neg (by decide),if_neg (by decide),if_neg (by decide),if_neg (by decide),if_pos rfl,if_pos hl] at hq;obtain⟨j,s3,rfl,e1,_,_⟩:=map_cons hq;exact⟨j,s3,rfl,by rw[e1];decide⟩
   cases l with
   |nil =>
    rw[jK,if_neg (by decide),if_neg (by decide),if_neg (by decide),if_neg (by decide),if_pos rfl] at h5;exact key s2 h5
   |cons z l =>
    rw[jK,if_neg (by decide),if_neg (by decide),if_neg (by decide),if_neg (by decide),if_neg (by simp)] at h5;obtain⟨uy,s3,rfl,g1,_⟩:=ig h5;obtain⟨j,s4,rfl,g2⟩:=key uy g1;exact⟨j,s4++s3,rfl,g2⟩
  obtain⟨j,s3,rfl,hj⟩:=hne;rw[List.append_assoc,List.cons_append];refine De ⟨h3,h4⟩ hj ((hs x List.mem_cons_self).st h1 (.inr ⟨q,_,rfl,.inr ⟨h3,h4⟩⟩)) ?_;exact ih
theorem J8 (b:Bool) (h:k≠6):dN b (.mk k t l)=dN false (.mk k t l):=by
 rw[dN,dN];simp only[if_neg h]
theorem Ej (e:Int):∀(n:Nat) (t:Tr),t.dep<=n->bY W t=true->HX e t:=by
 intro n
 induction n with
 |zero=>intro t ht;cases t with|mk k t l=>exact absurd ht (by show ¬Tr.dep.depL l+1<=0;omega)
 |succ n ih =>
  intro t ht hv;obtain⟨k,t,l⟩:=t;obtain⟨hl1,hl2,hk0,hk1,htx,hq⟩:=qy hv;have kid:∀x∈l,bY W x=true->HX e x:=fun x hx hvx=>ih x (Ec ht hx) hvx
  -- a node that is one unit
  have one:∀{c:Int},k≠7->k≠6->k≠10->dN false (.mk k t l)=[(c,t)]->(∀u:Un,u.1=c->u.2.1=t->fK u=some (.mk k t l)/\Ib u)->HX e (.mk k t l):=fun {c} h7 h6 h10 hu ha =>
   {
    q:=fun _ us r t' r' hus hc=>by
     rw[hu] at hus;obtain⟨u,rfl,h1,h2⟩:=qS hus;exact Gt (GC (ha u h1 h2).1) hc
    hd:=fun _ us hus=>by
     rw[hu] at hus;obtain⟨u,rfl,h1,h2⟩:=qS hus;exact⟨u,[],rfl,(ha u h1 h2).2⟩
    s:=fun hv=>absurd (fun e=>absurd e h7) hv
    b:=fun e=>absurd e h6
    k:=fun e=>absurd e h10 }
  -- a node in brackets
  have brk:k≠10->H6 (.mk k t l)->(∃us0,dN false (.mk k t l)=(7,[40])::(us0++[(8,[41])])/\∀us c r,us.map uV=us0->(c:Un).1=8/\c.2.1=[41]->Pv e .expr (us++c::r) (.mk k t l) (c::r))->(k=6->∀us r,us.map uV=dN true (.mk k t l)->∃u s,us=u::s/\(u.1=4/\u.2.1=kR)/\Pv e .choice (s++r) (.mk k t l) r)->HX e (.mk k t l):=fun h10 hiv ⟨us0,h1,h2⟩ hb =>
   {
    q:=fun _ us r t' r' hus hc=>by
     rw[h1] at hus;obtain⟨p,s,rfl,p1,p2,hs⟩:=map_cons hus;obtain⟨a,b,rfl,a1,b1⟩:=ig hs;obtain⟨c,rfl,c1,c2⟩:=qS b1;rw[List.cons_append,List.append_assoc];exact Gt (paren ⟨p1,p2⟩ ⟨c1,c2⟩ (h2 a c r a1 ⟨c1,c2⟩)) hc
    hd:=fun _ us hus=>by
     rw[h1] at hus;obtain⟨p,s,rfl,p1,p2,hs⟩:=map_cons hus;exact⟨p,s,rfl,.inr (.inr (.inr (.inr ⟨p1,.inl p2⟩)))⟩
    s:=fun hv=>absurd hiv hv
    b:=hb
    k:=fun e=>absurd e h10 }
  have K:k=0\/k=1\/k=2\/k=3\/k=4\/k=5\/k=6\/k=7\/k=8\/k=9\/k=10:=by omega
  rcases K with rfl|rfl|rfl|rfl|rfl|rfl|rfl|rfl|rfl|rfl|rfl
  · have hl:l=[]:=List.length_eq_zero_iff.1 (Nat.le_zero.1 hl2);subst hl;refine one (c:=5) (by decide) (by decide) (by decide) (by rw[dN,if_pos rfl]) fun u h1 h2=>⟨by unfold fK;rw[if_pos h1,h2],.inl h1⟩
  · have hl:l=[]:=List.length_eq_zero_iff.1 (Nat.le_zero.1 hl2);subst hl;refine one (c:=9) (by decide) (by decide) (by decide) (by rw[dN,if_neg (by decide),if_pos rfl]) fun u h1 h2=>⟨by unfold fK;rw[if_neg (by omega),if_pos h1,h2],.inr (.inl h1)⟩
  · have hl:l=[]:=List.length_eq_zero_iff.1 (Nat.le_zero.1 hl2);subst hl
    have hb:t=gU\/t=gk:=by
     unfold dn at htx;rw[if_neg (by decide),if_neg (by decide),if_pos rfl,Bool.or_eq_true,decide_eq_true_eq,decide_eq_true_eq] at htx;exact htx
    refine one (c:=4) (by decide) (by decide) (by decide) (by rw[dN,if_neg (by decide),if_neg (by decide),if_pos rfl]) fun u h1 h2=>⟨by unfold fK;rw[if_neg (by omega),if_neg (by omega),if_neg (by omega),if_pos ⟨h1,by rw[h2];exact hb⟩,h2],.inr (.inr (.inr (.inl ⟨h1,by rw[h2];exact hb⟩)))⟩
  · have hl:l=[]:=List.length_eq_zero_iff.1 (Nat.le_zero.1 hl2);subst hl;refine one (c:=3) (by decide) (by decide) (by decide) (by rw[dN,if_neg (by decide),if_neg (by decide),if_neg (by decide),if_pos rfl]) fun u h1 h2=>⟨by unfold fK;rw[if_neg (by omega),if_neg (by omega),if_pos h1,h2],.inr (.inr (.inl h1))⟩
  · -- unary
    obtain⟨x,rfl⟩:∃x,l=[x]:=List.length_eq_one_iff.1 (Nat.le_antisymm hl2 hl1);obtain⟨vx,kx,_⟩:=bR hq;have hx:=kid x (by simp) vx;have ix:=oY kx (by decide)
    have ho:t=[45]\/t=gD:=by
     unfold dn at htx;rw[if_neg (by decide),if_neg (by decide),if_neg (by decide),if_neg (by decide),if_pos rfl,decide_eq_true_eq] at htx;simpa [qA] using htx
    refine brk (by decide) (nO (by decide)) ⟨(ie t,t)::dN false x,by rw[dN,if_neg (by decide),if_neg (by decide),if_neg (by decide),if_neg (by decide),if_pos rfl,jK,if_pos rfl];rfl,fun us c r hus hc=>?_⟩ (fun q=>absurd q (by decide));obtain⟨o,s,rfl,o1,o2,hs⟩:=map_cons hus;obtain⟨h0,s0,rfl,hb⟩:=hx.hd ix s hs;have hr:Fr (c::r):=nQ hc.1;have p7:=hx.p7 ix hs (fun _=>rQ hr)
    rcases ho with rfl|rfl
    · exact KC ⟨by rw[o1];decide,o2⟩ hb p7 hr
    · exact KB ⟨by rw[o1];decide,o2⟩ hb p7 hr
  · -- two
    obtain⟨x,y,rfl⟩:∃x y,l=[x,y]:=oz (Nat.le_antisymm hl2 hl1);obtain⟨vx,kx,hq⟩:=bR hq;obtain⟨vy,ky,_⟩:=bR hq;have hx:=kid x (by simp) vx;have hy:=kid y (by simp) vy;have ix:=oY kx (by decide);have iy:=oY ky (by decide)
    have ho:t∈fV:=by
     unfold dn at htx;rw[if_neg (by decide),if_neg (by decide),if_neg (by decide),if_neg (by decide),if_neg (by decide),if_pos rfl,decide_eq_true_eq] at htx;exact htx
    refine brk (by decide) (nO (by decide)) ⟨dN false x++((ie t,t)::dN false y),by
     rw[dN,if_neg (by decide),if_neg (by decide),if_neg (by decide),if_neg (by decide),if_neg (by decide),if_pos rfl];simp only[jK];simp,fun us c r hus hc=>?_⟩ (fun q=>absurd q (by decide))
    obtain⟨ux,s1,rfl,h1,hs⟩:=ig hus;obtain⟨o,uy,rfl,o1,o2,h2⟩:=map_cons hs;have hr:Fr (c::r):=nQ hc.1;obtain⟨b1,s3,rfl,hb1⟩:=hy.hd iy uy h2;have p7y:=hy.p7 iy h2 (r:=c::r) (fun _=>rQ hr);have p7x:=hx.p7 ix h1 (r:=o::(b1::s3++c::r)) (fun _=>Is ⟨o1,o2⟩);obtain⟨b0,s2,rfl,hb0⟩:=hx.hd ix ux h1;rw[List.append_assoc,List.cons_append];exact Kz (s1:=[]) ho ⟨o1,o2⟩ hb0 hb1 p7x p7y hr
  · -- a choice
    obtain⟨a,b,c,rfl⟩:∃a b c,l=[a,b,c]:=ym (Nat.le_antisymm hl2 hl1);obtain⟨va,ka,hq⟩:=bR hq;obtain⟨vb,kb,hq⟩:=bR hq;obtain⟨vc,kc,_⟩:=bR hq
    have FI:t=[]:=by
     unfold dn at htx;rw[if_neg (by decide),if_neg (by decide),if_neg (by decide),if_neg (by decide),if_neg (by decide),if_neg (by decide),decide_eq_true_eq] at htx;exact htx
    subst FI;have ha:=kid a (by simp) va;have hb:=kid b (by simp) vb;have hc:=kid c (by simp) vc
    have bk:b.kind=10:=by
     cases b with
     |mk k' t' l' =>
      unfold fI at kb;simp only[Bool.and_eq_true,Bool.or_eq_true,decide_eq_true_eq] at kb
      rcases kb.2 with q|q|q|q
      · exact absurd rfl q
      · omega
      · exact q
      · exact absurd rfl q.1
    have ck:c.kind=10\/c.kind=6:=by
     cases c with
     |mk k' t' l' =>
      unfold fI at kc;simp only[Bool.and_eq_true,Bool.or_eq_true,decide_eq_true_eq] at kc
      rcases kc.2 with q|q|q|q
      · exact absurd rfl q
      · omega
      · exact .inl q
      · exact .inr q.2
    have cho:∀us r,us.map uV=jK 6 0 [a,b,c]->Pv e .choice (us++r) (.mk 6 [] [a,b,c]) r:=fun us r hus=>by
     have e0:jK 6 0 [a,b,c]=dN false a++(dN false b++((4,dD)::dN true c)):=by simp[jK]
     rw[e0] at hus;obtain⟨ua,s1,rfl,h1,hs1⟩:=ig hus;obtain⟨ub,s2,rfl,h2,hs2⟩:=ig hs1;obtain⟨w,uc,rfl,w1,w2,h3⟩:=map_cons hs2;obtain⟨ib,sb,rfl,hib,pb⟩:=hb.k bk ub (w::uc++r) h2;have pa:=ha.ex (oY ka (by decide)) h1 (r:=ib::sb++(w::uc++r)) (JR (.inr (.inr (.inr hib))));rw[List.append_assoc,List.append_assoc];refine Ft pa pb ⟨w1,w2⟩ ?_
     rcases ck with q|q
     · right
       have h3:uc.map uV=dN false c:=by
        cases c with|mk k' t' l'=>exact h3.trans (J8 true (by intro e6;have q:k'=10:=q;omega))
       obtain⟨ic,sc,rfl,hic,pc⟩:=hc.k q uc r h3;exact⟨ic,sc++r,rfl,hic.1,pc⟩
     · left
       obtain⟨ic,sc,rfl,hic,pc⟩:=hc.b q uc r h3;exact⟨ic,sc++r,rfl,hic,pc⟩
    refine brk (by decide) (nO (by decide)) ⟨(4,kR)::jK 6 0 [a,b,c],by
     rw[dN,if_neg (by decide),if_neg (by decide),if_neg (by decide),if_neg (by decide),if_neg (by decide),if_neg (by decide),if_pos rfl];simp,fun us c' r hus hc'=>?_⟩ (fun _ us r hus=>?_)
    · obtain⟨i,s,rfl,i1,i2,hs⟩:=map_cons hus;exact rN ⟨i1,i2⟩ (.inr (.inl ⟨rfl,rfl⟩)) (cho s (c'::r) hs)
    · rw[dN,if_neg (by decide),if_neg (by decide),if_neg (by decide),if_neg (by decide),if_neg (by decide),if_neg (by decide),if_pos rfl,if_pos rfl] at hus;obtain⟨i,s,rfl,i1,i2,hs⟩:=map_cons hus;exact⟨i,s,rfl,⟨i1,i2⟩,cho s r hs⟩
  · -- a name that is given
    have hl:l.length=1\/l.length=2:=by
     have e1:cW 7=(1,2):=by decide
     rw[e1] at hl1 hl2;simp only at hl1 hl2;omega
    rcases hl with hl|hl
    · obtain⟨x,rfl⟩:∃x,l=[x]:=List.length_eq_one_iff.1 hl;obtain⟨vx,kx,_⟩:=bR hq;have hx:=kid x (by simp) vx;have ix:=oY kx (by decide);have hno:¬H6 (.mk 7 t [x]):=fun q=>by have:=q rfl;cases this
      exact
       {
        q:=fun hv=>absurd hv hno
        hd:=fun hv=>absurd hv hno
        s:=fun _ us r hus hr=>by
         rw[dN,if_neg (by decide),if_neg (by decide),if_neg (by decide),if_neg (by decide),if_neg (by decide),if_neg (by decide),if_neg (by decide),if_pos rfl,if_pos (show [x].length=1 from rfl),jK,if_pos rfl] at hus;obtain⟨u,s1,rfl,u1,u2,hus⟩:=map_cons hus;obtain⟨n1,s2,rfl,m1,m2,hus⟩:=map_cons hus;obtain⟨q1,s3,rfl,p1,p2,hus⟩:=map_cons hus;have:=F6 (e:=e) ⟨u1,u2⟩ m1 ⟨p1,p2⟩ (hx.ex ix hus hr.fr) hr;rw[show n1.2.1=t from m2] at this;exact this
        b:=nO (by decide)
        k:=nO (by decide) }
    · obtain⟨x,y,rfl⟩:∃x y,l=[x,y]:=oz hl;obtain⟨vx,kx,hq⟩:=bR hq;obtain⟨vy,ky,_⟩:=bR hq;have hx:=kid x (by simp) vx;have hy:=kid y (by simp) vy
      refine brk (by decide) (fun _=>rfl) ⟨(4,gE)::(3,t)::(6,[61])::(dN false x++((4,sQ)::dN false y)),by
       rw[dN,if_neg (by decide),if_neg (by decide),if_neg (by decide),if_neg (by decide),if_neg (by decide),if_neg (by decide),if_neg (by decide),if_pos rfl,if_neg (by simp)];simp only[jK];simp,fun us c r hus hc=>?_⟩ (fun q=>absurd q (by decide))
      obtain⟨u,s1,rfl,u1,u2,hus⟩:=map_cons hus;obtain⟨n1,s2,rfl,m1,m2,hus⟩:=map_cons hus;obtain⟨q1,s3,rfl,p1,p2,hus⟩:=map_cons hus;obtain⟨ux,s4,rfl,h1,hus⟩:=ig hus;obtain⟨i,uy,rfl,i1,i2,h2⟩:=map_cons hus;have hr:Fr (c::r):=nQ hc.1;have px:=hx.ex (oY kx (by decide)) h1 (r:=i::(uy++c::r)) (JR (.inr (.inr (.inl ⟨i1,.inl i2⟩))));have py:=hy.ex (oY ky (by decide)) h2 hr;have:=IJ (e:=e) (al:=false) m1 ⟨p1,p2⟩ ⟨i1,i2⟩ px py;rw[show n1.2.1=t from m2] at this;simp only[List.cons_append,List.append_assoc];exact rN ⟨u1,u2⟩ (.inl ⟨rfl,rfl⟩) this
  · -- a function
    obtain⟨x,rfl⟩:∃x,l=[x]:=List.length_eq_one_iff.1 (Nat.le_antisymm hl2 hl1);obtain⟨vx,kx,_⟩:=bR hq;have hx:=kid x (by simp) vx
    refine brk (by decide) (nO (by decide)) ⟨(4,mW)::(3,t)::(6,[45,62])::dN false x,by
     rw[dN,if_neg (by decide),if_neg (by decide),if_neg (by decide),if_neg (by decide),if_neg (by decide),if_neg (by decide),if_neg (by decide),if_neg (by decide),if_pos rfl,jK,if_pos rfl];rfl,fun us c r hus hc=>?_⟩ (fun q=>absurd q (by decide))
    obtain⟨u,s1,rfl,u1,u2,hus⟩:=map_cons hus;obtain⟨n1,s2,rfl,m1,m2,hus⟩:=map_cons hus;obtain⟨q1,s3,rfl,p1,p2,hus⟩:=map_cons hus;have:=KD (e:=e) m1 ⟨p1,p2⟩ (hx.ex (oY kx (by decide)) hus (nQ (r:=r) hc.1));rw[show n1.2.1=t from m2] at this;exact rN ⟨u1,u2⟩ (.inr (.inr ⟨rfl,rfl⟩)) this
  · -- a call
    obtain⟨f,x,rfl⟩:∃x y,l=[x,y]:=oz (Nat.le_antisymm hl2 hl1);obtain⟨vf,kf,hq⟩:=bR hq;obtain⟨vx,kx,_⟩:=bR hq;have hf:=kid f (by simp) vf;have hx:=kid x (by simp) vx;have jf:=oY kf (by decide)
    have FI:t=[]:=by
     unfold dn at htx;rw[if_neg (by decide),if_neg (by decide),if_neg (by decide),if_neg (by decide),if_neg (by decide),if_neg (by decide),decide_eq_true_eq] at htx;exact htx
    subst FI
    have e0:dN false (.mk 9 [] [f,x])=dN false f++((7,[40])::(dN false x++[(8,[41])])):=by
     rw[dN,if_neg (by decide),if_neg (by decide),if_neg (by decide),if_neg (by decide),if_neg (by decide),if_neg (by decide),if_neg (by decide),if_neg (by decide),if_neg (by decide),if_pos rfl];simp only[jK];simp
    exact
     {
      q:=fun _ us r t' r' hus hc=>by
       rw[e0] at hus;obtain⟨uf,s1,rfl,h1,hus⟩:=ig hus;obtain⟨p,s2,rfl,p1,p2,hus⟩:=map_cons hus;obtain⟨ux,s3,rfl,h2,hus⟩:=ig hus;obtain⟨c,rfl,c1,c2⟩:=qS hus;have px:=hx.ex (oY kx (by decide)) h2 (r:=c::r) (nQ c1);have:=hf.q jf uf (p::(ux++c::r)) t' r' h1 (I0 ⟨p1,p2⟩ ⟨c1,c2⟩ px hc);simpa only[List.cons_append,List.append_assoc,List.nil_append] using this
      hd:=fun _ us hus=>by
       rw[e0] at hus;obtain⟨uf,s1,rfl,h1,hus⟩:=ig hus;obtain⟨u,s,rfl,hb⟩:=hf.hd jf uf h1;exact⟨u,s++s1,rfl,hb⟩
      s:=fun hv=>absurd (nO (by decide)) hv
      b:=nO (by decide)
      k:=nO (by decide) }
  · -- a block
    have FI:t=[]:=by
     unfold dn at htx;rw[if_neg (by decide),if_neg (by decide),if_neg (by decide),if_neg (by decide),if_neg (by decide),if_neg (by decide),decide_eq_true_eq] at htx;exact htx
    subst FI;have hne:l≠[]:=by rintro rfl;exact absurd hl1 (by decide)
    have hall:∀x∈l,bY W x=true:=by
     have:∀(l:List Tr) (i:Nat),fe W 10 i l=true->∀x∈l,bY W x=true:=by
      intro l
      induction l with
      |nil=>intro _ _ x hx;cases hx
      |cons y l ihl =>
       intro i hv x hx;obtain⟨v1,_,v2⟩:=bR hv
       rcases List.mem_cons.1 hx with rfl|hx
       · exact v1
       · exact ihl _ v2 x hx
     exact this l 0 hq
    have e0:dN false (.mk 10 [] l)=(7,[123])::(jK 10 0 l++[(8,[125])]):=by
     rw[dN,if_neg (by decide),if_neg (by decide),if_neg (by decide),if_neg (by decide),if_neg (by decide),if_neg (by decide),if_neg (by decide),if_neg (by decide),if_neg (by decide),if_neg (by decide)]
    have blk:∀us r,us.map uV=dN false (.mk 10 [] l)->∃u s,us=u::s/\(u.1=7/\u.2.1=[123])/\Pv e .block (us++r) (.mk 10 [] l) r:=fun us r hus=>by
     rw[e0] at hus;obtain⟨u,s,rfl,u1,u2,hus⟩:=map_cons hus;obtain⟨ul,s1,rfl,h1,hus⟩:=ig hus;obtain⟨c,rfl,c1,c2⟩:=qS hus;refine⟨u,_,rfl,⟨u1,u2⟩,?_⟩;have:=wk (e:=e) (W:=W) l 0 ul [] c r hne (fun x hx=>kid x hx (hall x hx)) h1 ⟨c1,c2⟩ hall;have:=HF ⟨u1,u2⟩ this;simpa only[List.cons_append,List.append_assoc,List.nil_append] using this
    exact
     {
      q:=fun _ us r t' r' hus hc=>by
       obtain⟨u,s,rfl,hu,pb⟩:=blk us r hus;exact Gt (Dg hu pb) hc
      hd:=fun _ us hus=>by
       obtain⟨u,s,rfl,hu,_⟩:=blk us [] hus;exact⟨u,s,rfl,.inr (.inr (.inr (.inr ⟨hu.1,.inr hu.2⟩)))⟩
      s:=fun hv=>absurd (nO (by decide)) hv
      b:=nO (by decide)
      k:=fun _ us r hus=>blk us r hus }
end
end Go.Proofs.YtmehdcdbeafljaaGreatDoor
namespace Go.Proofs.YtmehdcdbeafljaaGreatDoor
open Go
set_option maxRecDepth 100000
section
variable {p:UInt8->Bool}{w d r s l:By}{f n t:Int}{a:Nat}{c:UInt8}{U T:List Nat}{out:List Un}
abbrev Gh:Nat:=10633823849912963253511222494305976320
abbrev A2:Nat:=10633823849912963253799171395480977408
abbrev Gi:Nat:=287948901175001088
theorem wD {p:Nat->Bool}(h:(List.range 256).all p=true) (c:UInt8):p c.toNat=true:=List.all_eq_true.1 h _ (List.mem_range.2 c.toNat_lt)
theorem Eb (c:UInt8):Gi.testBit c.toNat=true->cQ c=true:=by
 have h:=wD (p:=fun n=> !(Gi.testBit n) ||(decide (48<=n) && decide (n<=57))) (by decide +kernel) c;intro k;rw[k] at h;simpa [cQ,UInt8.le_iff_toNat_le] using h
theorem IK (c:UInt8):Gh.testBit c.toNat=true->isLet c=true:=by
 have h:=wD (p:=fun n=> !(Gh.testBit n) ||((decide (97<=n) && decide (n<=122)) ||((decide (65<=n) && decide (n<=90)) ||decide (n=95)))) (by decide +kernel) c;intro k;rw[k] at h;have e:(c=95)=(c.toNat=95):=propext ⟨fun q=>by rw[q];rfl,fun q=>UInt8.toNat_inj.1 (by rw[q];rfl)⟩;simpa [isLet,UInt8.le_iff_toNat_le,e] using h
theorem FO (c:UInt8):A2.testBit c.toNat=true->(isLet c ||cQ c)=true:=by
 have h:=wD (p:=fun n=> !(A2.testBit n) ||(((decide (97<=n) && decide (n<=122)) ||((decide (65<=n) && decide (n<=90)) ||decide (n=95))) ||(decide (48<=n) && decide (n<=57)))) (by decide +kernel) c;intro k;rw[k] at h;have e:(c=95)=(c.toNat=95):=propext ⟨fun q=>by rw[q];rfl,fun q=>UInt8.toNat_inj.1 (by rw[q];rfl)⟩;simpa [isLet,cQ,UInt8.le_iff_toNat_le,e,or_assoc] using h
theorem AS {A:By->Prop}(h:∀u,A u->∃c,u=[c]/\p c=true) (k:rH A w):w.all p=true:=by
 induction k with
 |nil=>rfl
 |cons ha _ ih=>obtain⟨c,rfl,hc⟩:=h _ ha;rw[List.all_append,ih];simp[hc]
theorem GW (h:Dv (.mk 2 0 [.mk 1 Gh [],.mk 4 0 [.mk 1 A2 []]]) w):∃c r,w=c::r/\isLet c=true/\r.all (fun c=>isLet c ||cQ c)=true:=by
 obtain⟨u,v,rfl,⟨c,rfl,hc⟩,u',v',rfl,hu,rfl⟩:∃u v,w=u++v/\(∃c:UInt8,u=[c]/\Gh.testBit c.toNat=true)/\∃u' v',v=u'++v'/\rH (fun w=>∃c:UInt8,w=[c]/\A2.testBit c.toNat=true) u'/\v'=[]:=h;exact⟨c,u'++[],rfl,IK c hc,by rw[List.append_nil];exact AS (fun u ⟨c,e,q⟩=>⟨c,e,FO c q⟩) hu⟩
theorem vY (h:∃u v,w=u++v/\(∃c:UInt8,u=[c]/\Gi.testBit c.toNat=true)/\rH (fun w=>∃c:UInt8,w=[c]/\Gi.testBit c.toNat=true) v):w≠[]/\w.all cQ=true:=by
 obtain⟨u,v,rfl,⟨c,rfl,hc⟩,hv⟩:=h;exact⟨by simp,by rw[List.all_append,AS (p:=cQ) (fun u ⟨c,e,q⟩=>⟨c,e,Eb c q⟩) hv];simp[Eb c hc]⟩
theorem lF (hd:d.all cQ=true) (hr:∀c r',r=c::r'->cQ c=false):dm (d++r)=r:=by
 unfold dm
 induction d with
 |nil =>
  cases r with
  |nil=>rfl
  |cons c r'=>rw[List.nil_append,List.dropWhile_cons,hr c r' rfl];rfl
 |cons c d ih =>
  rw[List.all_cons,Bool.and_eq_true] at hd;rw[List.cons_append,List.dropWhile_cons,hd.1];exact ih hd.2
theorem oD (h0:d≠[]) (hd:d.all cQ=true) (hr:∀c r',r=c::r'->cQ c=false):dK (d++r)=true:=by
 unfold dK;rw[lF hd hr,List.length_append];have:=List.length_pos_iff.2 h0;exact decide_eq_true (by omega)
theorem D0 {e:By}(h:e=[]\/∃c s d,e=c::(s++d)/\(c=101\/c=69)/\(s=[]\/∃x,s=[x]/\(x=43\/x=45))/\d≠[]/\d.all cQ=true):lC e true=true:=by
 rcases h with rfl|⟨c,s,d,rfl,hc,hs,h0,hd⟩
 · rfl
 · have n0:∀c r',([]:By)=c::r'->cQ c=false:=fun _ _ q=>by cases q
   have e1:dK d=true:=by have:=oD h0 hd n0;rwa [List.append_nil] at this
   have e2:dm d=[]:=by have:=lF (r:=[]) hd n0;rwa [List.append_nil] at this
   unfold lC;dsimp only;rw[if_pos ⟨rfl,hc⟩]
   rcases hs with rfl|⟨x,rfl,hx⟩
   · cases d with
     |nil=>exact absurd rfl h0
     |cons a d' =>
      rw[List.all_cons,Bool.and_eq_true] at hd;have ha:¬(a=43\/a=45):=fun q=>by rcases q with rfl|rfl<;>exact absurd hd.1 (by decide)
      show (if a=43\/a=45 then _ else _)=true
      rw[if_neg ha,List.nil_append,e1,e2];rfl
   · show (if x=43\/x=45 then _ else _)=true
     rw[if_pos hx,show ([]:By).append d=d from rfl,e1,e2];rfl
theorem GF {f e:By}(h0:d≠[]) (hd:d.all cQ=true) (hf:f=[]\/∃g,f=46::g/\g≠[]/\g.all cQ=true)
 (he:e=[]\/∃c s d,e=c::(s++d)/\(c=101\/c=69)/\(s=[]\/∃x,s=[x]/\(x=43\/x=45))/\d≠[]/\d.all cQ=true):mh (d++(f++e))=true:=by
 have ne:∀c r',e=c::r'->cQ c=false/\c≠46:=fun c r' q=>by
  rcases he with rfl|⟨c',s,d',rfl,hc,_⟩
  · cases q
  · cases q;rcases hc with rfl|rfl<;>exact⟨by decide,by decide⟩
 rcases hf with rfl|⟨g,rfl,g0,hg⟩
 · rw[List.nil_append];have h1:=lF hd (fun c r' q=>(ne c r' q).1);have h2:=oD h0 hd (fun c r' q=>(ne c r' q).1);unfold mh;rw[h1,h2];cases e with
   |nil=>rfl
   |cons c r=>dsimp only;rw[if_neg (fun q=>(ne c r rfl).2 q.2)];exact D0 he
 · have n46:∀c r',(46::g++e)=c::r'->cQ c=false:=fun c r' q=>by cases q;decide
   have h1:=lF (r:=46::g++e) hd n46;have h2:=oD (r:=46::g++e) h0 hd n46;unfold mh;rw[h1,h2,List.cons_append]
   show (if true=true/\(46:UInt8)=46 then lC (dm (g++e)) (dK (g++e)) else _)=true
   rw[if_pos ⟨rfl,rfl⟩,lF hg (fun c r' q=>(ne c r' q).1),oD g0 hg (fun c r' q=>(ne c r' q).1)];exact D0 he
abbrev qN:Nd:=.mk 5 0 [.mk 1 Gi []]
theorem I2 {s:Nat}(h:(List.range 256).all (fun n=> !(s.testBit n) ||decide (n=a))=true) (k:s.testBit c.toNat=true):c.toNat=a:=by
 have:=wD h c;rw[k] at this;simpa using this
theorem Eh {s b:Nat}(h:(List.range 256).all (fun n=> !(s.testBit n) ||(decide (n=a) ||decide (n=b)))=true) (k:s.testBit c.toNat=true):c.toNat=a\/c.toNat=b:=by
 have:=wD h c;rw[k] at this;simpa using this
theorem Ix (h:Dv (.mk 2 0 [qN,.mk 6 0 [.mk 2 0 [.mk 1 70368744177664 [],qN]],.mk 6 0 [.mk 2 0 [.mk 1 2535301201046754613352112062464 [],.mk 6 0 [.mk 1 43980465111040 []],qN]]]) w):mh w=true:=by
 obtain⟨d,w1,rfl,hd,f,w2,rfl,hf,e,w3,rfl,he,rfl⟩:∃d w1,w=d++w1/\Dv qN d/\∃f w2,w1=f++w2/\(f=[]\/∃u v,f=u++v/\(∃c:UInt8,u=[c]/\Nat.testBit 70368744177664 c.toNat=true)/\∃u' v',v=u'++v'/\Dv qN u'/\v'=[]) /\
  ∃e w3,w2=e++w3/\(e=[]\/∃u v,e=u++v/\(∃c:UInt8,u=[c]/\Nat.testBit 2535301201046754613352112062464 c.toNat=true)/\∃s v',v=s++v'/\(s=[]\/∃c:UInt8,s=[c]/\Nat.testBit 43980465111040 c.toNat=true)/\∃u' v'',v'=u'++v''/\Dv qN u'/\v''=[])/\w3=[]:=h
 have hd:=vY hd;rw[List.append_nil];refine GF hd.1 hd.2 ?_ ?_
 · rcases hf with rfl|⟨u,v,rfl,⟨c,rfl,hc⟩,u',v',rfl,hu,rfl⟩
   · exact .inl rfl
   · have:=vY hu;have hc:c=46:=UInt8.toNat_inj.1 (I2 (a:=46) (by decide +kernel) hc);subst hc;exact .inr ⟨u',by simp,this.1,this.2⟩
 · rcases he with rfl|⟨u,v,rfl,⟨c,rfl,hc⟩,s,v',rfl,hs,u',v'',rfl,hu,rfl⟩
   · exact .inl rfl
   · have:=vY hu;have hc:c=69\/c=101:=(Eh (a:=69) (b:=101) (by decide +kernel) hc).imp (fun q=>UInt8.toNat_inj.1 q) (fun q=>UInt8.toNat_inj.1 q);refine .inr ⟨c,s,u',by simp,hc.symm,?_,this.1,this.2⟩
     rcases hs with rfl|⟨x,rfl,hx⟩
     · exact .inl rfl
     · exact .inr ⟨x,rfl,(Eh (a:=43) (b:=45) (by decide +kernel) hx).imp (fun q=>UInt8.toNat_inj.1 q) (fun q=>UInt8.toNat_inj.1 q)⟩
theorem N3:(bZ (pS.getD 2 [])).1= .mk 2 0 [.mk 1 Gh [],.mk 4 0 [.mk 1 A2 []]]:=by kernel_rfl
theorem N2:(bZ (pS.getD 3 [])).1= .mk 2 0 [qN,.mk 6 0 [.mk 2 0 [.mk 1 70368744177664 [],qN]],.mk 6 0 [.mk 2 0 [.mk 1 2535301201046754613352112062464 [],.mk 6 0 [.mk 1 43980465111040 []],qN]]]:=by kernel_rfl
theorem E5 {m:Int}(h:mY l m=3):eE bQ (l.take (ef l m))=true:=by
 unfold mY at h;split at h
 · cases h
 · rename_i h0;split at h
   · cases h
   · rename_i hw;have hlen:ef l m=(dR m l).1.toNat:=by unfold ef;rw[if_neg h0]
     have hword:bQ (l.take (dR m l).1.toNat)=false:=by
      cases q:bQ (l.take (dR m l).1.toNat)
      · rfl
      · exact absurd ⟨h,q⟩ hw
     rw[hlen];unfold fu at h;split at h
     · rename_i p hp;unfold je at hp;split at hp
       · cases hp
       · rename_i hn
         have key:m=0/\(dR m l).2=2:=by
          unfold qY at hp;generalize (dR m l).2=n at *;obtain⟨n,rfl⟩:=Int.eq_ofNat_of_zero_le (Int.not_lt.1 hn);simp only[Int.toNat_natCast] at hp
          have:∀{L:List (Int×Int)}{i:Nat},(∀q∈L.zipIdx,q.1.1=3->q.2=2)->L[i]? =some p->i=2:=fun {L i} hL hi=>by
           have:=hL (p,i) (by rw[List.mem_zipIdx_iff_getElem?];exact hi) h;exact this
          split at hp
          · rename_i hm;have:=this (by decide) hp;exact⟨hm,by omega⟩
          · split at hp
            · have:=this (L:=[(9,0),(10,0),(9,2),(9,0)]) (i:=n) (fun q hq=>by revert q;decide) hp;subst this;cases hp;cases h
            · split at hp
              · have:=this (i:=n) (fun q hq=>by revert q;decide) hp;subst this;cases hp;cases h
              · cases hp
         obtain⟨rfl,hr⟩:=key;have hs:dR 0 l=dx dZ 53 l:=rfl
         rcases nK GY l with ⟨e,_⟩|⟨n,r,e,_,⟨s,hs1,hl⟩,_⟩
         · rw[<-hs] at e;rw[e] at h0;exact absurd rfl h0
         · rw[<-hs] at e;rw[e] at hr;have hr:r=2:=by have:(r:Int)=2:=hr;omega
           subst hr;have hs2:s=pS.getD 2 []:=by rw[List.getD_eq_getElem?_getD,hs1];rfl
           rw[hs2,N3] at hl;obtain⟨c,rr,hw',hc,hr⟩:=GW hl;rw[e] at hword ⊢;simp only[Int.toNat_natCast] at hword ⊢;unfold eE;rw[hword,hw'];dsimp only;rw[hc,hr];rfl
     · cases h
theorem IF {m:Int}(h:mY l m=5):mh (l.take (ef l m))=true:=by
 unfold mY at h;split at h
 · cases h
 · rename_i h0;split at h
   · cases h
   · have hlen:ef l m=(dR m l).1.toNat:=by unfold ef;rw[if_neg h0]
     rw[hlen];unfold fu at h;split at h
     · rename_i p hp;unfold je at hp;split at hp
       · cases hp
       · rename_i hn
         have key:m=0/\(dR m l).2=3:=by
          unfold qY at hp;generalize (dR m l).2=n at *;obtain⟨n,rfl⟩:=Int.eq_ofNat_of_zero_le (Int.not_lt.1 hn);simp only[Int.toNat_natCast] at hp
          have:∀{L:List (Int×Int)}{i:Nat},(∀q∈L.zipIdx,q.1.1=5->q.2=3)->L[i]? =some p->i=3:=fun {L i} hL hi=>by
           have:=hL (p,i) (by rw[List.mem_zipIdx_iff_getElem?];exact hi) h;exact this
          split at hp
          · rename_i hm;have:=this (by decide) hp;exact⟨hm,by omega⟩
          · split at hp
            · have:=this (i:=n) (fun q hq=>by revert q;decide) hp;subst this;cases hp;cases h
            · split at hp
              · have:=this (i:=n) (fun q hq=>by revert q;decide) hp;subst this;cases hp;cases h
              · cases hp
         obtain⟨rfl,hr⟩:=key;have hs:dR 0 l=dx dZ 53 l:=rfl
         rcases nK GY l with ⟨e,_⟩|⟨n,r,e,_,⟨s,hs1,hl⟩,_⟩
         · rw[<-hs] at e;rw[e] at h0;exact absurd rfl h0
         · rw[<-hs] at e;rw[e] at hr;have hr:r=3:=by have:(r:Int)=3:=hr;omega
           subst hr;have hs2:s=pS.getD 3 []:=by rw[List.getD_eq_getElem?_getD,hs1];rfl
           rw[hs2,N2] at hl;rw[e];simp only[Int.toNat_natCast];exact Ix hl
     · cases h
def ew (ss:List bT):List Nat->By->List Nat
 |T,[]=>T
 |T,c::w=>ew ss (cB ss c T) w
theorem A6 (ss:List bT):∀w:By,ew ss [] w=[]
 | []=>rfl
 |c::w=>by rw[ew,xP,A6 ss w]
theorem uR (ss:List bT):∀(v w:By) (T:List Nat),ew ss T (v++w)=ew ss (ew ss T v) w
 | [],_,_=>rfl
 |c::v,w,T=>uR ss v w _
def Ends (ss:List bT) (U:List Nat) (r:By):Prop:=r=[]\/∃c r',r=c::r'/\cB ss c U=[]
theorem se {ss:List bT}{U:List Nat}(hU:0<=bg ss U) (hU0:U≠[]):∀(w:By) (T:List Nat) (k:Nat) (b:Int×Int) (r:By),ew ss T w=U->Ends ss U r ->
 gJ ss (w++r) T k b=(((k+w.length:Nat):Int),bg ss U)
 | [],T,k,b,r,h,hr=>by
  have h:T=U:=h;subst h;have hT:¬T.length=0:=fun e=>hU0 (List.length_eq_zero_iff.1 e)
  rw[List.nil_append]
  rcases hr with rfl|⟨c,r',rfl,hc⟩
  · rw[gJ,if_neg hT];simp only[if_pos hU];rfl
  · rw[gJ,if_neg hT];simp only[if_pos hU];rw[pX (by rw[hc];rfl)];rfl
 |c::w,T,k,b,r,h,hr=>by
  have hT:¬T.length=0:=fun e=>hU0 (by rw[<-h,List.length_eq_zero_iff.1 e,A6])
  rw[List.cons_append,gJ,if_neg hT];rw[se hU hU0 w _ _ _ r h hr,List.length_cons,show k+1+w.length=k+(w.length+1) by omega]
abbrev T0:List Nat:=cG dZ 53
abbrev T1:List Nat:=cG fm 10
theorem G2 (hw:ew dZ T0 w=U) (hU:bg dZ U=n) (hn:0<=n) (hU0:U≠[]) (hr:Ends dZ U r):dR 0 (w++r)=(((w.length:Nat):Int),n):=by
 show dx dZ 53 (w++r)=_
 unfold dx;rw[if_neg (by decide),se (by rw[hU];exact hn) hU0 w _ 0 _ r hw hr,hU,Nat.zero_add]
theorem Kw (hw:ew fm T1 w=U) (hU:bg fm U=n) (hn:0<=n) (hU0:U≠[]) (hr:Ends fm U r):dR 1 (w++r)=(((w.length:Nat):Int),n):=by
 show dx fm 10 (w++r)=_
 unfold dx;rw[if_neg (by decide),se (by rw[hU];exact hn) hU0 w _ 0 _ r hw hr,hU,Nat.zero_add]
theorem oq (h0:w≠[]){st:ur}(h:dR st.1 (w++r)=(((w.length:Nat):Int),n)) :
 ef (w++r) st.1=w.length/\mY (w++r) st.1=(if fu st.1 n=3/\bQ w=true then 4 else fu st.1 n)/\nD (w++r) st=fG st n:=by
 have hl:¬((w.length:Nat):Int)=0:=by have:=List.length_pos_iff.2 h0;omega
 unfold ef mY nD;rw[h];simp only[if_neg hl,Int.toNat_natCast,List.take_left];exact⟨trivial,trivial,trivial⟩
def ko (l:By) (us:List Sh):Prop:=∀(s:By) (a n:Nat),s.drop a=l->a<=s.length->l.length<=n ->
 (fO n l a (0,0)).2.1=0/\(∀t∈(fO n l a (0,0)).1,zQ s t=true)/\∀out:List Un,(∃vs:List Un,vs.map uV=us/\eo s (fO n l a (0,0)).1 out false= .go (out++vs) false)\/∃p,eo s (fO n l a (0,0)).1 out false= .er p 3
theorem ko.nil:ko [] []:=fun s a n _ _ _=>by
 rw[B4];exact⟨rfl,fun t ht=>(by cases ht),fun out=>.inl ⟨[],rfl,by rw[eo,List.append_nil]⟩⟩
theorem jJ (h0:w≠[]) (hs:s.drop a=w++r):s.drop (a+w.length)=r/\a+w.length<=s.length:=by
 refine⟨by rw[<-List.drop_drop,hs,List.drop_left],?_⟩;have:=congrArg List.length hs;rw[List.length_drop,List.length_append] at this;have:=List.length_pos_iff.2 h0;omega
theorem qC (k:Int) (hs:s.drop a=w++r):cV s (k,((a:Nat):Int),((a+w.length:Nat):Int))=w:=by
 unfold cV;simp only[Int.toNat_natCast];rw[hs,show a+w.length-a=w.length by omega,List.take_left]
theorem rP (k:Int) (h:a+w.length<=s.length):zQ s (k,((a:Nat):Int),((a+w.length:Nat):Int))=true:=by
 unfold zQ;simp only[Bool.and_eq_true,decide_eq_true_eq];omega
theorem oF {us:List Sh}{k:Int}(h0:w≠[]) (h:dR 0 (w++r)=(((w.length:Nat):Int),n)) (hk:(if fu 0 n=3/\bQ w=true then 4 else fu 0 n)=k) (ha:fG (0,0) n=(0,0))
 (hne:k≠0/\k≠1/\k≠2/\k≠11/\k≠9) (ih:ko r us):ko (w++r) ((k,w)::us):=by
 intro s a m hs hal hm;obtain⟨h1,h2,h3⟩:=oq (st:=(0,0)) h0 h;obtain⟨hd,hlen⟩:=jJ h0 hs;have hp:=List.length_pos_iff.2 h0;rw[iP (by simp[h0]) hm,h1,h2,h3,ha,hk,List.drop_left];obtain⟨i1,i2,i3⟩:=ih s (a+w.length) m hd hlen (by rw[List.length_append] at hm;omega);refine⟨i1,fun t ht=>?_,fun out=>?_⟩
 · rcases List.mem_cons.1 ht with rfl|ht
   · exact rP k hlen
   · exact i2 t ht
 rw[eo];unfold fk;rw[qC k hs];simp only;rw[if_neg hne.1,if_neg (by decide:¬false=true),if_neg (by rintro(q|q|q)<;>simp_all)]
 by_cases h5:out.length=500
 · rw[if_pos h5];exact .inr ⟨_,rfl⟩
 · rw[if_neg h5,if_neg hne.2.2.2.2,decide_eq_false hne.2.2.2.2]
   rcases i3 (out++[(k,w,(a:Int))]) with ⟨vs,q1,q2⟩|q
   · exact .inl ⟨(k,w,(a:Int))::vs,by rw[List.map_cons,q1];rfl,by show eo s _ (out++[(k,w,(a:Int))]) false=_;rw[q2];simp⟩
   · exact .inr q
theorem ko.skip {us:List Sh}{k:Int}(h0:w≠[]) (h:dR 0 (w++r)=(((w.length:Nat):Int),n)) (hk:(if fu 0 n=3/\bQ w=true then 4 else fu 0 n)=k) (ha:fG (0,0) n=(0,0))
 (hne:k=1\/k=2\/k=11) (ih:ko r us):ko (w++r) us:=by
 intro s a m hs hal hm;obtain⟨h1,h2,h3⟩:=oq (st:=(0,0)) h0 h;obtain⟨hd,hlen⟩:=jJ h0 hs;have hp:=List.length_pos_iff.2 h0;rw[iP (by simp[h0]) hm,h1,h2,h3,ha,hk,List.drop_left];obtain⟨i1,i2,i3⟩:=ih s (a+w.length) m hd hlen (by rw[List.length_append] at hm;omega);refine⟨i1,fun t ht=>?_,fun out=>?_⟩
 · rcases List.mem_cons.1 ht with rfl|ht
   · exact rP k hlen
   · exact i2 t ht
 rw[eo];unfold fk;simp only;rw[if_neg (by omega),if_neg (by decide:¬false=true),if_pos hne];exact i3 out
theorem HQ (h:(List.range 256).all (fun n=>p (UInt8.ofNat n))=true) (c:UInt8):p c=true:=by
 have:=List.all_eq_true.1 h c.toNat (List.mem_range.2 c.toNat_lt);simpa using this
def vF (T:List Nat) (p:UInt8->Bool) (U:List Nat):Bool:=(List.range 256).all fun n=> !p (UInt8.ofNat n) ||decide (cB dZ (UInt8.ofNat n) T=U)
theorem mz (h:vF T p U=true) (hc:p c=true):cB dZ c T=U:=by
 have:=HQ (p:=fun c=> !p c ||decide (cB dZ c T=U)) h c;simpa [hc] using this
def NC (c:UInt8):Bool:=isLet c ||cQ c
abbrev N1:List Nat:=[5,7]
theorem Od:vF T0 isLet N1=true:=by decide +kernel
theorem Oc:vF N1 NC N1=true:=by decide +kernel
theorem Ob:bg dZ N1=2:=by decide +kernel
theorem y8 {T:List Nat}{p:UInt8->Bool}(h:vF T p T=true):∀w:By,w.all p=true->ew dZ T w=T
 | [],_=>rfl
 |c::w,k=>by
  rw[List.all_cons,Bool.and_eq_true] at k;rw[ew,mz h k.1];exact y8 h w k.2
def lO (r:By):Prop:=r=[]\/∃c r',r=c::r'/\(c=32\/c=41\/c=40\/c=59)
theorem gQ (r:By):lO (32::r):=.inr ⟨_,_,rfl,.inl rfl⟩
theorem lO.cl (r:By):lO (41::r):=.inr ⟨_,_,rfl,.inr (.inl rfl)⟩
theorem lO.op (r:By):lO (40::r):=.inr ⟨_,_,rfl,.inr (.inr (.inl rfl))⟩
theorem KW (r:By):lO (59::r):=.inr ⟨_,_,rfl,.inr (.inr (.inr rfl))⟩
theorem lO.ends (h:lO r) (k:vF U (fun c=>c ==32 ||(c ==41 ||(c ==40 ||c ==59))) []=true):Ends dZ U r:=by
 rcases h with rfl|⟨c,r',rfl,h⟩
 · exact .inl rfl
 · exact .inr ⟨c,r',rfl,mz k (by rcases h with rfl|rfl|rfl|rfl<;>decide)⟩
theorem Bn (h:mR w=true) (hr:lO r):dR 0 (w++r)=(((w.length:Nat):Int),2):=by
 cases w with
 |nil=>cases h
 |cons c w =>
  unfold mR at h;rw[Bool.and_eq_true] at h;refine G2 (U:=N1) ?_ Ob (by decide) (by decide) (hr.ends (by decide +kernel));rw[ew,mz Od h.1];exact y8 Oc w h.2
theorem ye (h:mR w=true):w≠[]:=by rintro rfl;cases h
theorem J9 {us:List Sh}(h:mR w=true) (hw:bQ w=true) (hr:lO r) (ih:ko r us):ko (w++r) ((4,w)::us) :=
 oF (ye h) (Bn h hr) (if_pos ⟨by decide,hw⟩) (by decide) (by decide) ih
theorem yS {us:List Sh}(h:eE bQ w=true) (hr:lO r) (ih:ko r us):ko (w++r) ((3,w)::us):=by
 rw[ox,Bool.and_eq_true] at h;have hw:bQ w=false:=by simpa using h.2
 exact oF (ye h.1) (Bn h.1 hr) (by rw[hw];rfl) (by decide) (by decide) ih
theorem zF (h:cB dZ c T0=U) (hU:bg dZ U=n) (hn:0<=n) (hU0:U≠[]) (hr:Ends dZ U r):dR 0 ([c]++r)=(((1:Nat):Int),n) :=
 G2 (w:=[c]) (by rw[ew,h];rfl) hU hn hU0 hr
theorem wA (h:vF U (fun _=>true) []=true) (r:By):Ends dZ U r:=by
 cases r with
 |nil=>exact .inl rfl
 |cons c r=>exact .inr ⟨c,r,rfl,mz h rfl⟩
theorem pL {us:List Sh}(hc:c=40\/c=123) (ih:ko r us):ko (c::r) ((7,[c])::us):=by
 have h:cB dZ c T0=[32]:=by rcases hc with rfl|rfl<;>decide +kernel
 exact oF (w:=[c]) (by simp) (zF (n:=7) h (by decide +kernel) (by decide) (by decide) (wA (by decide +kernel) r)) (by rfl) (by decide) (by decide) ih
theorem lU {us:List Sh}(hc:c=41\/c=125) (ih:ko r us):ko (c::r) ((8,[c])::us):=by
 have h:cB dZ c T0=[34]:=by rcases hc with rfl|rfl<;>decide +kernel
 exact oF (w:=[c]) (by simp) (zF (n:=8) h (by decide +kernel) (by decide) (by decide) (wA (by decide +kernel) r)) (by rfl) (by decide) (by decide) ih
def Hd (l:By):Prop:=∃c l',l=c::l'/\(c≠32/\c≠9/\c≠13)
theorem Hd.app (h:Hd l) (x:By):Hd (l++x):=by obtain⟨c,l',rfl,k⟩:=h;exact⟨c,l'++x,rfl,k⟩
theorem kG {us:List Sh}(hr:Hd r) (ih:ko r us):ko (32::r) us:=by
 obtain⟨c,l',rfl,k⟩:=hr;have h:cB dZ 32 T0=[0,2]:=by decide +kernel
 have he:vF [0,2] (fun c=> !(c ==32 ||(c ==9 ||c ==13))) []=true:=by decide +kernel
 exact ko.skip (w:=[32]) (by simp) (zF (n:=0) h (by decide +kernel) (by decide) (by decide) (.inr ⟨c,l',rfl,mz he (by simp[k])⟩)) (by rfl) (by decide) (.inl rfl) ih
def opsL:List By:=[[61,61],[33,61],[60],[60,61],[62],[62,61],[43],[45],[42],[47],[37],[61],[59],[45,62]]
theorem FY {us:List Sh}(hw:w∈opsL) (ih:ko (32::r) us):ko (w++32::r) ((6,w)::us):=by
 have key:∀w∈opsL,bg dZ (ew dZ T0 w)=9/\ew dZ T0 w≠[]/\cB dZ 32 (ew dZ T0 w)=[]/\w≠[]:=by decide +kernel
 obtain⟨h1,h2,h3,h4⟩:=key w hw;exact oF h4 (G2 rfl h1 (by decide) h2 (.inr ⟨_,_,rfl,h3⟩)) (by rfl) (by decide) (by decide) ih
abbrev D1:List Nat:=[9,14,18,21]
abbrev D2:List Nat:=[17]
abbrev D3:List Nat:=[9,14,17]
abbrev D4:List Nat:=[11,12]
abbrev D5:List Nat:=[11]
abbrev D6:List Nat:=[9,11]
theorem db:vF T0 cQ D1=true/\vF D1 cQ D1=true/\vF D1 (fun c=>c ==46) D2=true/\vF D2 cQ D3=true/\vF D3 cQ D3=true:=by decide +kernel
theorem KM:vF D1 (fun c=>c ==101 ||c ==69) D4=true/\vF D3 (fun c=>c ==101 ||c ==69) D4=true/\vF D4 (fun c=>c ==43 ||c ==45) D5=true/\vF D4 cQ D6=true/\vF D5 cQ D6=true/\vF D6 cQ D6=true:=by decide +kernel
theorem jW (s:By):∃d,s=d++dm s/\d.all cQ=true:=by
 refine⟨s.takeWhile cQ,(List.takeWhile_append_dropWhile).symm,?_⟩;rw[List.all_eq_true];intro c hc;exact(List.all_eq_true.1 (List.all_takeWhile (p:=cQ) (l:=s))) c hc
theorem lE (h:s=d++dm s) (hb:dK s=true):∃c d',d=c::d':=by
 cases d with
 |nil =>
  unfold dK at hb;rw[decide_eq_true_eq] at hb;rw[List.nil_append] at h;rw[<-h] at hb;omega
 |cons c d=>exact⟨c,d,rfl⟩
theorem qK (h1:vF T cQ U=true) (h2:vF U cQ U=true) (hd:d.all cQ=true) (h0:∃c d',d=c::d'):ew dZ T d=U:=by
 obtain⟨c,d',rfl⟩:=h0;rw[List.all_cons,Bool.and_eq_true] at hd;rw[ew,mz h1 hd.1];exact y8 h2 d' hd.2
theorem DK (h1:vF T (fun c=>c ==101 ||c ==69) D4=true) (h:lC s true=true):ew dZ T s=T/\s=[]\/ew dZ T s=D6:=by
 cases s with
 |nil=>exact .inl ⟨rfl,rfl⟩
 |cons c r =>
  right
  unfold lC at h;simp only at h;split at h
  · rename_i hc;rw[ew,mz h1 (by rcases hc.2 with q|q<;>subst q<;>decide)];cases r with
    |nil=>cases h
    |cons d r' =>
     simp only at h;split at h
     · rename_i hd;rw[Bool.and_eq_true,decide_eq_true_eq] at h;obtain⟨ds,e1,e2⟩:=jW r';have:=lE e1 h.1;rw[h.2,List.append_nil] at e1;subst e1;rw[ew,mz KM.2.2.1 (by rcases hd with q|q<;>subst q<;>decide)];exact qK KM.2.2.2.2.1 KM.2.2.2.2.2 e2 this
     · rw[Bool.and_eq_true,decide_eq_true_eq] at h;obtain⟨ds,e1,e2⟩:=jW (d::r');have:=lE e1 h.1;rw[h.2,List.append_nil] at e1;rw[e1];exact qK KM.2.2.2.1 KM.2.2.2.2.2 e2 this
  · cases h
theorem qh:lC s false=false:=by
 cases s with
 |nil=>rfl
 |cons c r=>unfold lC;simp
theorem Iw (h:mh w=true):(ew dZ T0 w=D1\/ew dZ T0 w=D3\/ew dZ T0 w=D6)/\w≠[]:=by
 obtain⟨d,e1,e2⟩:=jW w
 have hb:dK w=true:=by
  unfold mh at h;cases q:dK w
  · exfalso;rw[q] at h;split at h
    · rename_i c r hc;rw[if_neg (by simp),qh] at h;cases h
    · cases h
  · rfl
 have hd:=lE e1 hb;have r1:=qK db.1 db.2.1 e2 hd;have hne:w≠[]:=by rintro rfl;obtain⟨c,d',rfl⟩:=hd;cases e1
 refine⟨?_,hne⟩;rw[e1,uR,r1];unfold mh at h;split at h
 · rename_i c r hc;rw[hc];split at h
   · rename_i hq;obtain⟨_,rfl⟩:=hq;rw[ew,mz db.2.2.1 (by decide)];obtain⟨f,f1,f2⟩:=jW r
     have fb:dK r=true:=by
      cases q:dK r
      · rw[q,qh] at h;cases h
      · rfl
     rw[fb] at h;rw[f1,uR,qK db.2.2.2.1 db.2.2.2.2 f2 (lE f1 fb)]
     rcases DK KM.2.1 h with ⟨k,_⟩|k
     · exact .inr (.inl k)
     · exact .inr (.inr k)
   · rw[hb] at h
     rcases DK KM.1 h with ⟨k,_⟩|k
     · exact .inl k
     · exact .inr (.inr k)
 · rename_i hc;rw[hc];exact .inl rfl
theorem K9 {us:List Sh}(h:mh w=true) (hr:lO r) (ih:ko r us):ko (w++r) ((5,w)::us):=by
 obtain⟨k,h0⟩:=Iw h
 have key:∀U,(U=D1\/U=D3\/U=D6)->bg dZ U=3/\U≠[]/\vF U (fun c=>c ==32 ||(c ==41 ||(c ==40 ||c ==59))) []=true:=by
  rintro U (rfl|rfl|rfl)<;>decide +kernel
 obtain⟨k1,k2,k3⟩:=key _ k;exact oF h0 (G2 rfl k1 (by decide) k2 (hr.ends k3)) (by rfl) (by decide) (by decide) ih
def ord (c:UInt8):Bool:=cH c ==[c]
def xq (T:List Nat) (p:UInt8->Bool) (U:List Nat):Bool:=(List.range 256).all fun n=> !p (UInt8.ofNat n) ||decide (cB fm (UInt8.ofNat n) T=U)
theorem ri (h:xq T p U=true) (hc:p c=true):cB fm c T=U:=by
 have:=HQ (p:=fun c=> !p c ||decide (cB fm c T=U)) h c;simpa [hc] using this
noncomputable abbrev S1:List Nat:=cB fm 97 T1
theorem KY:xq T1 ord S1=true/\xq S1 ord S1=true/\xq S1 (fun c=>c ==34 ||c ==92) []=true/\bg fm S1=0/\S1≠[]:=by decide +kernel
theorem D7 (c:UInt8):ord c=true\/∃e,cH c=[92,e]/\C6 e=c/\bg fm (ew fm T1 [92,e])=1/\ew fm T1 [92,e]≠[]/\xq (ew fm T1 [92,e]) (fun _=>true) []=true:=by
 have key:(List.range 256).all (fun n=>ord (UInt8.ofNat n) ||(match cH (UInt8.ofNat n) with
  | [a,e]=>decide (a=92) && (decide (C6 e=UInt8.ofNat n) && (decide (bg fm (ew fm T1 [92,e])=1) && (decide (ew fm T1 [92,e]≠[]) && xq (ew fm T1 [92,e]) (fun _=>true) [])))
  |_=>false))=true:=by decide +kernel
 have h:=HQ (p:=fun c=>ord c ||(match cH c with
  | [a,e]=>decide (a=92) && (decide (C6 e=c) && (decide (bg fm (ew fm T1 [92,e])=1) && (decide (ew fm T1 [92,e]≠[]) && xq (ew fm T1 [92,e]) (fun _=>true) [])))
  |_=>false)) key c
 rw[Bool.or_eq_true] at h;refine h.imp id fun h=>?_
 split at h
 · rename_i a e hq;simp only[Bool.and_eq_true,decide_eq_true_eq] at h;obtain⟨rfl,h2,h3,h4,h5⟩:=h;exact⟨e,hq,h2,h3,h4,h5⟩
 · cases h
theorem Gn:bg fm (ew fm T1 [34])=2/\ew fm T1 [34]≠[]/\xq (ew fm T1 [34]) (fun _=>true) []=true:=by decide +kernel
theorem yF (h:xq U (fun _=>true) []=true) (r:By):Ends fm U r:=by
 cases r with
 |nil=>exact .inl rfl
 |cons c r=>exact .inr ⟨c,r,rfl,ri h rfl⟩
theorem FT (h:cV s (9,f,t)=[34]):fk s out true (9,f,t)= .go out false:=by
 unfold fk;rw[if_neg (show ¬(9:Int)=0 by decide),if_pos rfl,if_pos ⟨rfl,h⟩]
theorem FQ (h:cV s (9,f,t)=w) (hw:w≠[34]):fk s out true (9,f,t)= .go (iQ w out) true:=by
 unfold fk;rw[if_neg (show ¬(9:Int)=0 by decide),if_pos rfl,if_neg (fun q=>hw (h.symm.trans q.2)),if_neg (show ¬(9:Int)=10 by decide),h]
theorem FR (h:cV s (10,f,t)=w):fk s out true (10,f,t)= .go (iQ [oL w] out) true:=by
 unfold fk;rw[if_neg (show ¬(10:Int)=0 by decide),if_pos rfl,if_neg (fun q=>absurd (show (10:Int)=9 from q.1) (by decide)),if_pos rfl,h]
theorem Ex (s:By) (out:List Un) (f t:Int):fk s out false (9,f,t)=if out.length=500 then .er f 3 else .go (out++[(9,[],f)]) true:=by
 unfold fk;rw[if_neg (show ¬(9:Int)=0 by decide),if_neg (by decide:¬false=true),if_neg (show ¬((9:Int)=1\/(9:Int)=2\/(9:Int)=11) by decide)];rfl
theorem A5 {T:List Nat}{p:UInt8->Bool}(h:xq T p T=true):∀w:By,w.all p=true->ew fm T w=T
 | [],_=>rfl
 |c::w,k=>by
  rw[List.all_cons,Bool.and_eq_true] at k;rw[ew,ri h k.1];exact A5 h w k.2
theorem GB {p:By}(h:p.all ord=true):p.flatMap cH=p:=by
 induction p with
 |nil=>rfl
 |cons c p ih =>
  rw[List.all_cons,Bool.and_eq_true] at h;have h1:cH c=[c]:=by simpa [ord] using h.1
  rw[List.flatMap_cons,ih h.2,h1];rfl
theorem ko.KA {us:List Sh}(ih:ko r us):∀(k:Nat) (t:By),t.length<=k->∀(s:By) (a n:Nat),s.drop a=t.flatMap cH++34::r->a<=s.length->(t.flatMap cH++34::r).length<=n ->
 (fO n (t.flatMap cH++34::r) a (1,0)).2.1=0/\(∀x∈(fO n (t.flatMap cH++34::r) a (1,0)).1,zQ s x=true)/\∀(out:List Un) (x:By) (p:Int),
  (∃vs:List Un,vs.map uV=us/\eo s (fO n (t.flatMap cH++34::r) a (1,0)).1 (out++[(9,x,p)]) true= .go (out++[(9,x++t,p)]++vs) false)\/∃q,eo s (fO n (t.flatMap cH++34::r) a (1,0)).1 (out++[(9,x,p)]) true= .er q 3:=by
 intro k
 induction k with
 |zero =>
  intro t ht s a n hs hal hn;obtain rfl:t=[]:=List.length_eq_zero_iff.1 (Nat.le_zero.1 ht);rw[List.flatMap_nil,List.nil_append] at *;have h0:([34]:By)≠[]:=by simp
  have hl:dR 1 ([34]++r)=(((([34]:By).length:Nat):Int),2):=Kw rfl Gn.1 (by decide) Gn.2.1 (yF Gn.2.2 r);obtain⟨h1,h2,h3⟩:=oq (st:=(1,0)) h0 hl;obtain⟨hd,hlen⟩:=jJ (w:=[34]) h0 hs;rw[show (34::r:By)=[34]++r from rfl] at *;rw[iP (by simp) hn,h1,h2,h3,List.drop_left,show fG (1,0) 2=(0,0) from rfl];obtain⟨i1,i2,i3⟩:=ih s (a+1) n hd hlen (by rw[List.length_append] at hn;simp at hn;omega);refine⟨i1,fun y hy=>?_,fun out x p=>?_⟩
  · rcases List.mem_cons.1 hy with rfl|hy
    · exact rP _ hlen
    · exact i2 y hy
  have hk:(if fu (1,(0:Int)).1 2=3/\bQ [34]=true then 4 else fu (1,(0:Int)).1 2)=9:=rfl;rw[eo,hk,FT (qC 9 hs),List.append_nil];exact i3 _
 |succ k ihk =>
  intro t ht s a n hs hal hn;cases t with
  |nil=>exact(ihk [] (Nat.zero_le _)) s a n hs hal hn
  |cons c t =>
   rcases D7 c with hc|⟨e,he,hec,ha1,ha2,ha3⟩
   · -- a run
     obtain⟨p,t2,hpt,hp,tS⟩:∃p t2,t=p++t2/\p.all ord=true/\(t2=[]\/∃c r',t2=c::r'/\ord c=false):=by
      refine⟨t.takeWhile ord,t.dropWhile ord,(List.takeWhile_append_dropWhile).symm,List.all_takeWhile,?_⟩;cases q:t.dropWhile ord with
      |nil=>exact .inl rfl
      |cons d r' =>
       refine .inr ⟨d,r',rfl,?_⟩;have:=List.head?_dropWhile_not ord t;rw[q] at this;simpa using this
     subst hpt;have hw:(c::p:By).all ord=true:=by rw[List.all_cons,hc,hp];rfl
     have h0:(c::p:By)≠[]:=by simp
     have htx:(c::(p++t2)).flatMap cH++34::r=(c::p)++(t2.flatMap cH++34::r):=by
      rw[show c::(p++t2)=(c::p)++t2 from rfl,List.flatMap_append,GB hw,List.append_assoc]
     rw[htx] at hs hn ⊢
     have hend:Ends fm S1 (t2.flatMap cH++34::r):=by
      rcases tS with rfl|⟨d,r',rfl,hd⟩
      · exact .inr ⟨34,r,rfl,ri KY.2.2.1 (by decide)⟩
      · rcases D7 d with q|⟨e',he',_⟩
        · rw[hd] at q;cases q
        · exact .inr ⟨92,_,by rw[List.flatMap_cons,he'];rfl,ri KY.2.2.1 (by decide)⟩
     have hl:dR 1 ((c::p)++(t2.flatMap cH++34::r))=((((c::p:By).length:Nat):Int),0):=Kw (by rw[ew,ri KY.1 hc];exact A5 KY.2.1 p hp) KY.2.2.2.1 (by decide) KY.2.2.2.2 hend;obtain⟨h1,h2,h3⟩:=oq (st:=(1,0)) h0 hl;obtain⟨hd,hlen⟩:=jJ h0 hs;rw[iP (by simp) hn,h1,h2,h3,List.drop_left,show fG (1,0) 0=(1,0) from rfl];obtain⟨i1,i2,i3⟩:=ihk t2 (by simp at ht;omega) s (a+(c::p).length) n hd hlen (by rw[List.length_append] at hn;omega);refine⟨i1,fun y hy=>?_,fun out x q=>?_⟩
     · rcases List.mem_cons.1 hy with rfl|hy
       · exact rP _ hlen
       · exact i2 y hy
     have hk:(if fu (1,(0:Int)).1 0=3/\bQ (c::p)=true then 4 else fu (1,(0:Int)).1 0)=9:=rfl
     have h34:c::p≠[34]:=by
      intro q;cases q
      revert hc;decide
     rw[eo,hk,FQ (qC 9 hs) h34,lJ];have:=i3 out (x++(c::p)) q
     rwa [show x++(c::p)++t2=x++(c::(p++t2)) by simp] at this
   · have htx:(c::t).flatMap cH++34::r=[92,e]++(t.flatMap cH++34::r):=by rw[List.flatMap_cons,he,List.append_assoc]
     rw[htx] at hs hn ⊢;have h0:([92,e]:By)≠[]:=by simp
     have hl:dR 1 ([92,e]++(t.flatMap cH++34::r))=(((([92,e]:By).length:Nat):Int),1):=Kw rfl ha1 (by decide) ha2 (yF ha3 _);obtain⟨h1,h2,h3⟩:=oq (st:=(1,0)) h0 hl;obtain⟨hd,hlen⟩:=jJ h0 hs;rw[iP (by simp) hn,h1,h2,h3,List.drop_left,show fG (1,0) 1=(1,0) from rfl];obtain⟨i1,i2,i3⟩:=ihk t (by simp at ht;omega) s (a+([92,e]:By).length) n hd hlen (by rw[List.length_append] at hn;omega);refine⟨i1,fun y hy=>?_,fun out x q=>?_⟩
     · rcases List.mem_cons.1 hy with rfl|hy
       · exact rP _ hlen
       · exact i2 y hy
     have hk:(if fu (1,(0:Int)).1 1=3/\bQ [92,e]=true then 4 else fu (1,(0:Int)).1 1)=10:=rfl;rw[eo,hk,FR (qC 10 hs),lJ];have:=i3 out (x++[c]) q;rw[show oL [92,e]=c from hec]
     rwa [show x++[c]++t=x++(c::t) by simp] at this
theorem K8 {t:By}{us:List Sh}(ih:ko r us):ko (ny t++r) ((9,t)::us):=by
 intro s a n hs hal hn;have htx:ny t++r=[34]++(t.flatMap cH++34::r):=by unfold ny;simp
 rw[htx] at hs hn ⊢;have h0:([34]:By)≠[]:=by simp
 have key:bg dZ (ew dZ T0 [34])=6/\ew dZ T0 [34]≠[]/\vF (ew dZ T0 [34]) (fun _=>true) []=true:=by decide +kernel
 have hl:dR 0 ([34]++(t.flatMap cH++34::r))=(((([34]:By).length:Nat):Int),6):=G2 rfl key.1 (by decide) key.2.1 (wA key.2.2 _);obtain⟨h1,h2,h3⟩:=oq (st:=(0,0)) h0 hl;obtain⟨hd,hlen⟩:=jJ h0 hs;rw[iP (by simp) hn,h1,h2,h3,List.drop_left,show fG (0,0) 6=(1,0) from rfl];obtain⟨i1,i2,i3⟩:=ko.KA ih t.length t (Nat.le_refl _) s (a+([34]:By).length) n hd hlen (by rw[List.length_append] at hn;omega);refine⟨i1,fun y hy=>?_,fun out=>?_⟩
 · rcases List.mem_cons.1 hy with rfl|hy
   · exact rP _ hlen
   · exact i2 y hy
 have hk:(if fu (0,(0:Int)).1 6=3/\bQ [34]=true then 4 else fu (0,(0:Int)).1 6)=9:=rfl;rw[eo,hk,Ex]
 by_cases h5:out.length=500
 · rw[if_pos h5];exact .inr ⟨_,rfl⟩
 · rw[if_neg h5]
   rcases i3 out [] (a:Int) with ⟨vs,q1,q2⟩|q
   · refine .inl ⟨(9,t,(a:Int))::vs,by rw[List.map_cons,q1];rfl,?_⟩
     show eo s _ (out++[(9,[],(a:Int))]) true=_
     rw[q2];simp
   · exact .inr q
theorem jy (l:By) (h:c≠32/\c≠9/\c≠13):Hd (c::l):=⟨c,l,rfl,h⟩
theorem Kx (c:UInt8):isLet c=true->c≠32/\c≠9/\c≠13:=by
 have:=HQ (p:=fun c=> !isLet c ||(decide (c≠32) && (decide (c≠9) && decide (c≠13)))) (by decide +kernel) c;intro h;rw[h] at this;simpa using this
theorem KK (c:UInt8):cQ c=true->c≠32/\c≠9/\c≠13:=by
 have:=HQ (p:=fun c=> !cQ c ||(decide (c≠32) && (decide (c≠9) && decide (c≠13)))) (by decide +kernel) c;intro h;rw[h] at this;simpa using this
theorem DX (h:mR w=true):Hd w:=by
 cases w with
 |nil=>cases h
 |cons c w =>
  unfold mR at h;rw[Bool.and_eq_true] at h;exact jy w (Kx c h.1)
theorem qR (h:eE bQ w=true):Hd w:=by
 rw[ox,Bool.and_eq_true] at h;exact DX h.1
theorem Kp (h:mh w=true):Hd w:=by
 obtain⟨d,e1,e2⟩:=jW w
 have hb:dK w=true:=by
  unfold mh at h;cases q:dK w
  · exfalso;rw[q] at h;split at h
    · rw[if_neg (by simp),qh] at h;cases h
    · cases h
  · rfl
 obtain⟨c,d',rfl⟩:=lE e1 hb;rw[e1];rw[List.all_cons,Bool.and_eq_true] at e2;exact jy _ (KK c e2.1)
theorem uz:∀w∈[gE,sQ,kR,dD,mW,sP,iY,gD,gU,gk],mR w=true/\bQ w=true:=by decide +kernel
theorem Js {us:List Sh}(hw:w∈[gE,sQ,kR,dD,mW,sP,iY,gD,gU,gk]) (hr:lO r) (ih:ko r us):ko (w++r) ((4,w)::us) :=
 J9 (uz w hw).1 (uz w hw).2 hr ih
theorem J7 (hw:w∈[gE,sQ,kR,dD,mW,sP,iY,gD,gU,gk]):Hd w:=DX (uz w hw).1
theorem Jt {t:By}{us:List Sh}(ht:t∈fV\/t∈qA) (ih:ko (32::r) us):ko (t++32::r) ((ie t,t)::us):=by
 have key:∀t∈fV++qA,(ie t=4/\t∈[gE,sQ,kR,dD,mW,sP,iY,gD,gU,gk])\/(ie t=6/\t∈opsL):=by decide +kernel
 rcases key t (List.mem_append.2 ht) with ⟨h1,h2⟩|⟨h1,h2⟩
 · rw[h1];exact Js h2 (gQ r) ih
 · rw[h1];exact FY h2 ih
theorem Kk {t:By}(ht:t∈fV\/t∈qA):Hd t:=by
 have key:∀t∈fV++qA,(match t with|c::_=>decide (c≠32) && (decide (c≠9) && decide (c≠13))| []=>false)=true:=by decide +kernel
 have:=key t (List.mem_append.2 ht);split at this
 · rename_i c l;simp only[Bool.and_eq_true,decide_eq_true_eq] at this;exact jy l this
 · cases this
structure NL (b:Bool) (t:Tr):Prop where
 hd:Hd (aV b t)
 un:∀(r:By) (us:List Sh),lO r->ko r us->ko (aV b t++r) (dN b t++us)
theorem xS:∀(l:List Tr) (i:Nat),l≠[]->(∀x∈l,NL false x)->Hd (eR (dG false i l))/\∀(r:By) (us:List Sh),lO r->ko r us->ko (eR (dG false i l)++r) (jK 10 i l++us)
 | [],_,h,_=>absurd rfl h
 | [x],i,_,hs=>by
  have e1:eR (dG false i [x])=aV false x:=by simp[dG,eR]
  have e2:jK 10 i [x]=dN false x:=by simp[jK]
  rw[e1,e2];exact⟨(hs x (by simp)).hd,(hs x (by simp)).un⟩
 |x::y::l,i,_,hs=>by
  obtain⟨h1,h2⟩:=xS (y::l) (i+1) (by simp) (fun z hz=>hs z (List.mem_cons_of_mem _ hz));have hx:=hs x (by simp);have e1:eR (dG false i (x::y::l))=aV false x++([59]++32::eR (dG false (i+1) (y::l))):=by simp[dG,eR]
  have e2:jK 10 i (x::y::l)=dN false x++((6,[59])::jK 10 (i+1) (y::l)):=by
   rw[jK,if_neg (by decide),if_neg (by decide),if_neg (by decide),if_neg (by decide),if_neg (by simp)]
  rw[e1,e2];refine⟨hx.hd.app _,fun r us hr ih=>?_⟩;simp only[List.append_assoc,List.cons_append,List.nil_append];refine hx.un _ _ (KW _) ?_;exact FY (w:=[59]) (by decide) (kG (h1.app _) (h2 r us hr ih))
theorem Im:∀(n:Nat) (t:Tr),t.dep<=n->bY bQ t=true->∀b:Bool,NL b t:=by
 intro n
 induction n with
 |zero=>intro t ht;cases t with|mk k t l=>exact absurd ht (by show ¬Tr.dep.depL l+1<=0;omega)
 |succ n ih =>
  intro t ht hv b;obtain⟨k,t,l⟩:=t;obtain⟨hl1,hl2,hk0,hk1,htx,hq⟩:=qy hv;have kid:∀x∈l,bY bQ x=true->∀b,NL b x:=fun x hx hvx=>ih x (Ec ht hx) hvx
  have K:k=0\/k=1\/k=2\/k=3\/k=4\/k=5\/k=6\/k=7\/k=8\/k=9\/k=10:=by omega
  rcases K with rfl|rfl|rfl|rfl|rfl|rfl|rfl|rfl|rfl|rfl|rfl
  · obtain rfl:l=[]:=List.length_eq_zero_iff.1 (Nat.le_zero.1 hl2);have e1:aV b (.mk 0 t [])=t:=by simp[aV,ia]
    have e2:dN b (.mk 0 t [])=[(5,t)]:=by simp[dN]
    have hn:mh t=true:=htx;exact⟨by rw[e1];exact Kp hn,fun r us hr h=>by rw[e1,e2];exact K9 hn hr h⟩
  · obtain rfl:l=[]:=List.length_eq_zero_iff.1 (Nat.le_zero.1 hl2);have e1:aV b (.mk 1 t [])=ny t:=by simp[aV,ia]
    have e2:dN b (.mk 1 t [])=[(9,t)]:=by simp[dN]
    exact⟨by rw[e1];exact jy _ (by decide),fun r us _ h=>by rw[e1,e2];exact K8 h⟩
  · obtain rfl:l=[]:=List.length_eq_zero_iff.1 (Nat.le_zero.1 hl2)
    have hb:t=gU\/t=gk:=by
     unfold dn at htx;rw[if_neg (by decide),if_neg (by decide),if_pos rfl,Bool.or_eq_true,decide_eq_true_eq,decide_eq_true_eq] at htx;exact htx
    have hm:t∈[gE,sQ,kR,dD,mW,sP,iY,gD,gU,gk]:=by rcases hb with rfl|rfl<;>decide
    have e1:aV b (.mk 2 t [])=t:=by simp[aV,ia]
    have e2:dN b (.mk 2 t [])=[(4,t)]:=by simp[dN]
    exact⟨by rw[e1];exact J7 hm,fun r us hr h=>by rw[e1,e2];exact Js hm hr h⟩
  · obtain rfl:l=[]:=List.length_eq_zero_iff.1 (Nat.le_zero.1 hl2);have e1:aV b (.mk 3 t [])=t:=by simp[aV,ia]
    have e2:dN b (.mk 3 t [])=[(3,t)]:=by simp[dN]
    have hn:eE bQ t=true:=htx;exact⟨by rw[e1];exact qR hn,fun r us hr h=>by rw[e1,e2];exact yS hn hr h⟩
  · obtain⟨x,rfl⟩:∃x,l=[x]:=List.length_eq_one_iff.1 (Nat.le_antisymm hl2 hl1);obtain⟨vx,_,_⟩:=bR hq;have hx:=kid x (by simp) vx false
    have ho:t∈qA:=by
     unfold dn at htx;rw[if_neg (by decide),if_neg (by decide),if_neg (by decide),if_neg (by decide),if_pos rfl,decide_eq_true_eq] at htx;exact htx
    have e1:∀r,aV b (.mk 4 t [x])++r=40::(t++32::(aV false x++41::r)):=fun r=>by simp[aV,dG,ia]
    have e2:∀us,dN b (.mk 4 t [x])++us=(7,[40])::(ie t,t)::(dN false x++(8,[41])::us):=fun us=>by simp[dN,jK]
    refine⟨?_,fun r us hr h=>?_⟩
    · have:=e1 [];rw[List.append_nil] at this;rw[this];exact jy _ (by decide)
    · rw[e1,e2];exact pL (.inl rfl) (Jt (.inr ho) (kG (hx.hd.app _) (hx.un _ _ (lO.cl _) (lU (.inl rfl) h))))
  · obtain⟨x,y,rfl⟩:∃x y,l=[x,y]:=oz (Nat.le_antisymm hl2 hl1);obtain⟨vx,_,hq⟩:=bR hq;obtain⟨vy,_,_⟩:=bR hq;have hx:=kid x (by simp) vx false;have hy:=kid y (by simp) vy false
    have ho:t∈fV:=by
     unfold dn at htx;rw[if_neg (by decide),if_neg (by decide),if_neg (by decide),if_neg (by decide),if_neg (by decide),if_pos rfl,decide_eq_true_eq] at htx;exact htx
    have e1:∀r,aV b (.mk 5 t [x,y])++r=40::(aV false x++32::(t++32::(aV false y++41::r))):=fun r=>by simp[aV,dG,ia]
    have e2:∀us,dN b (.mk 5 t [x,y])++us=(7,[40])::(dN false x++(ie t,t)::(dN false y++(8,[41])::us)):=fun us=>by simp[dN,jK]
    refine⟨?_,fun r us hr h=>?_⟩
    · have:=e1 [];rw[List.append_nil] at this;rw[this];exact jy _ (by decide)
    · rw[e1,e2];exact pL (.inl rfl) (hx.un _ _ (gQ _) (kG ((Kk (.inl ho)).app _) (Jt (.inl ho) (kG (hy.hd.app _) (hy.un _ _ (lO.cl _) (lU (.inl rfl) h))))))
  · obtain⟨a,c,d,rfl⟩:∃a b c,l=[a,b,c]:=ym (Nat.le_antisymm hl2 hl1);obtain⟨va,_,hq⟩:=bR hq;obtain⟨vc,_,hq⟩:=bR hq;obtain⟨vd,_,_⟩:=bR hq;have ha:=kid a (by simp) va false;have hc:=kid c (by simp) vc false;have hd:=kid d (by simp) vd true
    have bare:∀r us,lO r->ko r us->ko (kR++32::(aV false a++32::(aV false c++32::(dD++32::(aV true d++r))))) ((4,kR)::(dN false a++(dN false c++(4,dD)::(dN true d++us)))):=fun r us hr h =>
     Js (by decide) (gQ _) (kG (ha.hd.app _) (ha.un _ _ (gQ _) (kG (hc.hd.app _) (hc.un _ _ (gQ _) (kG ((J7 (w:=dD) (by decide)).app _) (Js (by decide) (gQ _) (kG (hd.hd.app _) (hd.un r us hr h))))))))
    cases b with
    |true =>
     have e1:∀r,aV true (.mk 6 t [a,c,d])++r=kR++32::(aV false a++32::(aV false c++32::(dD++32::(aV true d++r)))):=fun r=>by simp[aV,dG,pF]
     have e2:∀us,dN true (.mk 6 t [a,c,d])++us=(4,kR)::(dN false a++(dN false c++(4,dD)::(dN true d++us))):=fun us=>by simp[dN,jK]
     refine⟨?_,fun r us hr h=>?_⟩
     · have:=e1 [];rw[List.append_nil] at this;rw[this];exact jy _ (by decide)
     · rw[e1,e2];exact bare r us hr h
    |false =>
     have e1:∀r,aV false (.mk 6 t [a,c,d])++r=40::(kR++32::(aV false a++32::(aV false c++32::(dD++32::(aV true d++41::r))))):=fun r=>by simp[aV,dG,pF,ia]
     have e2:∀us,dN false (.mk 6 t [a,c,d])++us=(7,[40])::(4,kR)::(dN false a++(dN false c++(4,dD)::(dN true d++(8,[41])::us))):=fun us=>by simp[dN,jK]
     refine⟨?_,fun r us hr h=>?_⟩
     · have:=e1 [];rw[List.append_nil] at this;rw[this];exact jy _ (by decide)
     · rw[e1,e2];exact pL (.inl rfl) (bare _ _ (lO.cl r) (lU (.inl rfl) h))
  · have hn:eE bQ t=true:=htx
    have hl:l.length=1\/l.length=2:=by
     have e1:cW 7=(1,2):=by decide
     rw[e1] at hl1 hl2;simp only at hl1 hl2;omega
    rcases hl with hl|hl
    · obtain⟨x,rfl⟩:∃x,l=[x]:=List.length_eq_one_iff.1 hl;obtain⟨vx,_,_⟩:=bR hq;have hx:=kid x (by simp) vx false;have e1:∀r,aV b (.mk 7 t [x])++r=gE++32::(t++32::([61]++32::(aV false x++r))):=fun r=>by simp[aV,dG,ia]
      have e2:∀us,dN b (.mk 7 t [x])++us=(4,gE)::(3,t)::(6,[61])::(dN false x++us):=fun us=>by simp[dN,jK]
      refine⟨?_,fun r us hr h=>?_⟩
      · have:=e1 [];rw[List.append_nil] at this;rw[this];exact jy _ (by decide)
      · rw[e1,e2];exact Js (by decide) (gQ _) (kG ((qR hn).app _) (yS hn (gQ _) (kG (jy _ (by decide)) (FY (by decide) (kG (hx.hd.app _) (hx.un r us hr h))))))
    · obtain⟨x,y,rfl⟩:∃x y,l=[x,y]:=oz hl;obtain⟨vx,_,hq⟩:=bR hq;obtain⟨vy,_,_⟩:=bR hq;have hx:=kid x (by simp) vx false;have hy:=kid y (by simp) vy false;have e1:∀r,aV b (.mk 7 t [x,y])++r=40::(gE++32::(t++32::([61]++32::(aV false x++32::(sQ++32::(aV false y++41::r)))))):=fun r=>by simp[aV,dG,ia]
      have e2:∀us,dN b (.mk 7 t [x,y])++us=(7,[40])::(4,gE)::(3,t)::(6,[61])::(dN false x++(4,sQ)::(dN false y++(8,[41])::us)):=fun us=>by simp[dN,jK]
      refine⟨?_,fun r us hr h=>?_⟩
      · have:=e1 [];rw[List.append_nil] at this;rw[this];exact jy _ (by decide)
      · rw[e1,e2]
        exact pL (.inl rfl) (Js (by decide) (gQ _) (kG ((qR hn).app _) (yS hn (gQ _) (kG (jy _ (by decide)) (FY (by decide) (kG (hx.hd.app _) (hx.un _ _ (gQ _)
         (kG ((J7 (w:=sQ) (by decide)).app _) (Js (by decide) (gQ _) (kG (hy.hd.app _) (hy.un _ _ (lO.cl r) (lU (.inl rfl) h))))))))))))
  · obtain⟨x,rfl⟩:∃x,l=[x]:=List.length_eq_one_iff.1 (Nat.le_antisymm hl2 hl1);obtain⟨vx,_,_⟩:=bR hq;have hx:=kid x (by simp) vx false;have hn:eE bQ t=true:=htx;have e1:∀r,aV b (.mk 8 t [x])++r=40::(mW++32::(t++32::([45,62]++32::(aV false x++41::r)))):=fun r=>by simp[aV,dG,ia]
    have e2:∀us,dN b (.mk 8 t [x])++us=(7,[40])::(4,mW)::(3,t)::(6,[45,62])::(dN false x++(8,[41])::us):=fun us=>by simp[dN,jK]
    refine⟨?_,fun r us hr h=>?_⟩
    · have:=e1 [];rw[List.append_nil] at this;rw[this];exact jy _ (by decide)
    · rw[e1,e2];exact pL (.inl rfl) (Js (by decide) (gQ _) (kG ((qR hn).app _) (yS hn (gQ _) (kG (jy _ (by decide)) (FY (by decide) (kG (hx.hd.app _) (hx.un _ _ (lO.cl r) (lU (.inl rfl) h))))))))
  · obtain⟨x,y,rfl⟩:∃x y,l=[x,y]:=oz (Nat.le_antisymm hl2 hl1);obtain⟨vx,_,hq⟩:=bR hq;obtain⟨vy,_,_⟩:=bR hq;have hx:=kid x (by simp) vx false;have hy:=kid y (by simp) vy false;have e1:∀r,aV b (.mk 9 t [x,y])++r=aV false x++40::(aV false y++41::r):=fun r=>by simp[aV,dG,ia]
    have e2:∀us,dN b (.mk 9 t [x,y])++us=dN false x++(7,[40])::(dN false y++(8,[41])::us):=fun us=>by simp[dN,jK]
    refine⟨?_,fun r us hr h=>?_⟩
    · have:=e1 [];rw[List.append_nil] at this;rw[this];exact hx.hd.app _
    · rw[e1,e2];exact hx.un _ _ (lO.op _) (pL (.inl rfl) (hy.un _ _ (lO.cl r) (lU (.inl rfl) h)))
  · have hne:l≠[]:=by rintro rfl;exact absurd hl1 (by decide)
    have hall:∀x∈l,bY bQ x=true:=by
     have:∀(l:List Tr) (i:Nat),fe bQ 10 i l=true->∀x∈l,bY bQ x=true:=by
      intro l
      induction l with
      |nil=>intro _ _ x hx;cases hx
      |cons y l ihl =>
       intro i hv x hx;obtain⟨v1,_,v2⟩:=bR hv
       rcases List.mem_cons.1 hx with rfl|hx
       · exact v1
       · exact ihl _ v2 x hx
     exact this l 0 hq
    obtain⟨j1,j2⟩:=xS l 0 hne (fun x hx=>kid x hx (hall x hx) false);have e1:∀r,aV b (.mk 10 t l)++r=123::32::(eR (dG false 0 l)++32::125::r):=fun r=>by simp[aV,ia]
    have e2:∀us,dN b (.mk 10 t l)++us=(7,[123])::(jK 10 0 l++(8,[125])::us):=fun us=>by simp[dN]
    refine⟨?_,fun r us hr h=>?_⟩
    · have:=e1 [];rw[List.append_nil] at this;rw[this];exact jy _ (by decide)
    · rw[e1,e2];exact pL (.inr rfl) (kG (j1.app _) (j2 _ _ (gQ _) (kG (jy _ (by decide)) (lU (.inr rfl) h))))
theorem Be {t:Tr}(hv:bY bQ t=true):aV false t≠[]/\∀k a e,cT (aV false t) (fN (aV false t)).1 (fN (aV false t)).2.1 k a e->e=3\/(k=[t]/\e=0):=by
 have hs:=Im t.dep t (Nat.le_refl _) hv false;have hn:aV false t≠[]:=by obtain⟨c,l,e,_⟩:=hs.hd;rw[e];simp
 refine⟨hn,fun k a e hp=>?_⟩;have hu:=hs.un [] [] (.inl rfl) ko.nil;rw[List.append_nil,List.append_nil] at hu;obtain⟨s,hs'⟩:∃s,s=aV false t:=⟨_,rfl⟩
 rw[<-hs'] at hu hp hn;obtain⟨h1,h2,h3⟩:=hu s 0 s.length rfl (Nat.zero_le _) (Nat.le_refl _);have hall:(fN s).1.all (zQ s)=true:=List.all_eq_true.2 h2;have hm:(fN s).2.1=0:=h1
 rcases h3 [] with ⟨vs,q1,q2⟩|⟨p,q⟩
 · rw[List.nil_append] at q2
   have hup:fP s (fN s).1 (fN s).2.1= .inr vs:=by
    unfold fP;rw[if_pos hall]
    show (match eo s (fO s.length s 0 (0,0)).1 [] false with|.er a e=>_|.go out op=>_)=_
    rw[q2];simp only;rw[if_neg (by rw[hm];simp)]
   have hst:=(Ej (W:=bQ) s.length t.dep t (Nat.le_refl _) hv).st (r:=[]) q1 (.inl rfl);rw[List.append_nil] at hst;obtain⟨n,hst⟩:=hst
   have hne:vs≠[]:=by
    have hsh:=Ej (W:=bQ) s.length t.dep t (Nat.le_refl _) hv
    by_cases hi:H6 t
    · obtain⟨u,s',e,_⟩:=hsh.hd hi vs q1;rw[e];simp
    · rintro rfl;obtain⟨k,x,l⟩:=t;have hk:k=7:=Classical.byContradiction fun q=>hi fun e=>absurd e q
      subst hk
      have hl:l.length=1:=by
       have:=qy hv;have h1:(cW 7)=(1,2):=by decide
       rw[h1] at this;have h2:¬l.length=2:=fun e=>hi fun _=>e
       simp only at this;omega
      rw[dN,if_neg (by decide),if_neg (by decide),if_neg (by decide),if_neg (by decide),if_neg (by decide),if_neg (by decide),if_neg (by decide),if_pos rfl,if_pos hl] at q1;cases q1
   have hpl:cR s.length (n+2) [] (.ok vs)=some ([t],.ok []):=by
    rw[cR,if_neg (by show ¬vs.length=0;exact fun q=>hne (List.length_eq_zero_iff.1 q)),zq hst (Nat.le_succ n)];simp only[Option.bind_some];rw[IS]
    show cR s.length (n+1) ([]++[t]) (if PS.len (.ok [])=0 then .ok [] else cY s.length (.ok []))=_
    rw[if_pos (show PS.len (.ok [])=0 from rfl),cR,if_pos (show PS.len (.ok [])=0 from rfl)];rfl
   right
   have:=cT.one hp (cT.ok hup hpl);exact⟨this.1,this.2.2⟩
 · left
   have hup:fP s (fN s).1 (fN s).2.1= .inl (p,3):=by
    unfold fP;rw[if_pos hall]
    show (match eo s (fO s.length s 0 (0,0)).1 [] false with|.er a e=>_|.go out op=>_)=_
    rw[q]
   have:=cT.one hp (cT.units hup);exact this.2.2
end
end Go.Proofs.YtmehdcdbeafljaaGreatDoor
namespace Go.Proofs.YtmehdcdbeafljaaGreatDoor
open Go
section
variable {W:By->Bool}
def ML (W:By->Bool) (a:Nat) (u:Un):Prop:=(u.1=3->eE W u.2.1=true)/\(u.1=5->mh u.2.1=true)/\(u.1=9->u.2.1.length<=a)
theorem ML.le {a b:Nat}{u:Un}(h:ML W a u) (hab:a<=b):ML W b u:=⟨h.1,h.2.1,fun q=>Nat.le_trans (h.2.2 q) hab⟩
def As (W:By->Bool) (a:Nat) (out:List Un) (op:Bool):Prop:=(∀u∈out,ML W a u)/\(op=true->∃pre u,out=pre++[u]/\u.1=9)/\out.length<=500
theorem B6 {a n:Nat}{x:By}{out:List Un}(h:As W a out true) (hx:x.length<=n):As W (a+n) (iQ x out) true:=by
 obtain⟨h1,h2,h3⟩:=h;obtain⟨pre,u,rfl,hu⟩:=h2 rfl;rw[lJ];refine⟨fun v hv=>?_,fun _=>⟨_,_,rfl,hu⟩,by simpa using h3⟩
 rcases List.mem_append.1 hv with hv|hv
 · exact(h1 v (by simp[hv])).le (Nat.le_add_right _ _)
 · simp only[List.mem_singleton] at hv;subst hv;have hk:=(h1 u (by simp)).2.2 hu;exact⟨(fun q=>by rw[hu] at q;cases q),(fun q=>by rw[hu] at q;cases q),fun _=>by rw[List.length_append];omega⟩
def Aq (W:By->Bool) (s:By):Prop:=∀i n,eE bQ ((s.drop i).take n)=true->eE W ((s.drop i).take n)=true
theorem xL {W:By->Bool}(s:By) (hW:Aq W s):∀(n:Nat) (l:By) (a:Nat) (st:ur) (out:List Un) (op:Bool),s.drop a=l->a<=s.length->As W a out op->∀out' op',eo s (fO n l a st).1 out op= .go out' op'->As W s.length out' op'
 | 0,l,a,st,out,op,_,ha,hi,out',op',h=>by
  rw[fO] at h;cases h;exact⟨fun u hu=>(hi.1 u hu).le ha,hi.2⟩
 |n+1,l,a,st,out,op,hl,ha,hi,out',op',h=>by
  rw[fO] at h;split at h
  · cases h;exact⟨fun u hu=>(hi.1 u hu).le ha,hi.2⟩
  · rename_i h0;have hlen:=nL h0 st.1;have hll:l.length=s.length-a:=by rw[<-hl,List.length_drop]
    have ht:cV s ((mY l st.1,(a:Int),((a+ef l st.1:Nat):Int)):Tk)=l.take (ef l st.1):=by
     unfold cV;simp only[Int.toNat_natCast];rw[hl,show a+ef l st.1-a=ef l st.1 by omega]
    have htl:(l.take (ef l st.1)).length<=ef l st.1:=by rw[List.length_take];omega
    have hd:s.drop (a+ef l st.1)=l.drop (ef l st.1):=by rw[<-List.drop_drop,hl]
    have more:As W (a+ef l st.1) out false->True:=fun _=>trivial
    dsimp only at h;rw[eo] at h;have up:∀{o},As W a out o->As W (a+ef l st.1) out o:=fun q=>⟨fun u hu=>(q.1 u hu).le (Nat.le_add_right _ _),q.2⟩
    have go:∀{o:List Un}{p:Bool},As W (a+ef l st.1) o p->eo s (fO n (l.drop (ef l st.1)) (a+ef l st.1) (nD l st)).1 o p= .go out' op'->As W s.length out' op':=fun {o p} q k =>
     xL s hW n _ _ _ o p hd (by omega) q _ _ k
    unfold fk at h;rw[ht] at h;dsimp only at h;split at h
    · cases h
    · rename_i o1 p1 hq;split at hq
      · cases hq
      · split at hq
        · rename_i hop;subst hop;split at hq
          · cases hq;exact go ⟨(up hi).1,(fun q=>by cases q),hi.2.2⟩ h
          · split at hq
            · cases hq;exact go (B6 hi (by simp only[List.length_singleton];omega)) h
            · cases hq;exact go (B6 hi htl) h
        · split at hq
          · cases hq;exact go ⟨(up hi).1,(fun q=>by cases q),hi.2.2⟩ h
          · split at hq
            · cases hq
            · rename_i h500;cases hq;refine go ⟨fun u hu=>?_,fun q=>⟨_,_,rfl,of_decide_eq_true q⟩,by have:=hi.2.2;rw[List.length_append];simp only[List.length_cons,List.length_nil];omega⟩ h
              rcases List.mem_append.1 hu with hu|hu
              · exact(up hi).1 u hu
              · simp only[List.mem_singleton] at hu;subst hu;refine⟨fun q=>?_,fun q=>?_,fun q=>?_⟩
                · have q:mY l st.1=3:=q;rw[if_neg (by rw[q];decide),<-hl];exact hW a _ (by rw[hl];exact E5 q)
                · have q:mY l st.1=5:=q;rw[if_neg (by rw[q];decide)];exact IF q
                · have q:mY l st.1=9:=q;rw[if_pos q];exact Nat.zero_le _
theorem me {W:By->Bool}{e:Int}:∀(n:Nat) (l:List Tr) (s:PS) (K:List Tr) (F:PS),cR e n l s=some (K,F)->F.cn=false->zx W s->s.len<=500->(∀x∈l,V W x)->∀x∈K,V W x
 | 0,_,_,_,_,h,_,_,_,_=>by cases h
 |n+1,l,s,K,F,h,hg,hs,hl,hv=>by
  rw[cR] at h;split at h
  · cases h;exact hv
  · cases h1:pM e n .stmt s with
    |none=>rw[h1] at h;cases h
    |some p =>
     obtain⟨t,s1⟩:=p;rw[h1] at h;simp only[Option.bind_some] at h
     rcases h2:bP 6 [[59]] s1 with ⟨o,s2⟩
     rw[h2] at h;have l1:=iK h1
     have l2:s2.len<=s1.len:=by
      cases o with
      |some x=>have:=cS h2;omega
      |none=>have:=aW h2;rw[this];exact Nat.le_refl _
     have pg:∀{n l s K F},cR e n l s=some (K,F)->F.cn=false->s.cn=false:=fun {n l s K F} h g=>by
      cases s with
      |ok r=>rfl
      |bad m =>
       cases n with
       |zero=>cases h
       |succ n=>rw[cR,if_pos (show (PS.bad m).len=0 from rfl)] at h;cases h;cases g
     have good:s2.cn=false->zx W s2/\∀x∈l++[t],V W x:=fun g=>by
      have q:=Gv e n _ _ _ _ h1 (bz h2 g) hs hl;refine⟨eF h2 q.2,fun x hx=>?_⟩
      rcases List.mem_append.1 hx with hx|hx
      · exact hv x hx
      · simp at hx;rw[hx];exact q.1
     cases o with
     |some x =>
      simp only at h;have g:=good (pg h hg);exact me n _ _ _ _ h hg g.1 (by omega) g.2
     |none =>
      simp only at h;split at h
      · have g:=good (pg h hg);exact me n _ _ _ _ h hg g.1 (by omega) g.2
      · have:=pg h hg;rw[dM] at this;cases this
theorem zj {s:By}{m:Int}{k:List Tr}{a e:Int}(hW:Aq W s) (hs:s.length<=16384) (h:cT s (fN s).1 m k a e):∀x∈k,V W x:=by
 cases h with
 |units _=>intro x hx;cases hx
 |bad _ _=>intro x hx;cases hx
 |ok h h2 =>
  rename_i u n r;unfold fP at h;split at h
  · split at h
    · cases h
    · rename_i q;split at h
      · cases h
      · cases h;have inv:=xL s hW s.length s 0 (0,0) [] false rfl (Nat.zero_le _) ⟨fun u hu=>by (cases hu),(fun q=>by cases q),Nat.zero_le _⟩ _ _ q;exact me _ _ _ _ _ h2 rfl (fun u hu=>⟨(inv.1 u hu).1,(inv.1 u hu).2.1,fun q=>Nat.le_trans ((inv.1 u hu).2.2 q) hs⟩) inv.2.2 (fun x hx=>by cases hx)
  · cases h
end
end Go.Proofs.YtmehdcdbeafljaaGreatDoor
namespace Go.Proofs.YtmehdcdbeafljaaGreatDoor
open Go.Proofs.Tryz
open Go Go.Lw
set_option maxRecDepth 20000
theorem CO (s:By):Aq bQ s:=fun _ _ h=>h
theorem Dj {h:az}(hg:Dz h){v:Value}{l:List Pt}(hv:bX NF h (fun _=>False) v l) (hl:∀x∈l,(-128<=x.1/\x.1<=127)/\0<=x.2.2/\x.2.2<=255) (s:By) :
 ah Tryz.prog 3 #[v,.string (bs s)] h (dh fun r h'=>r= .bool true/\aD h h'):=by
 have wl:=Fv l;have hbz:=bD s;generalize hrl:mG l=rl at *;obtain⟨x,okx⟩:=rl;dsimp only at wl;have hbl:=BY hv hl;rw[hrl] at hbl;refine ah.of func3 rfl rfl ?_;refine aZ func3 1 [0,1,4] rfl ?_;refine bq func3 1 rfl ?_;refine xo rfl (aq (vs:=[_]) func8 rfl H.Oa rfl (ah.bw (hbl))) ?_;rintro _ h1 ⟨e1,nx,rfl,hx⟩;dsimp only at hx;obtain⟨xk,xt,xa,xn,xc,rfl,rx⟩:=hx.get;refine bh 3 rfl ?_;refine xo rfl (aA.aY H.fc) ?_;rintro _ h2 ⟨rfl,k2,e2,z2⟩;refine RW.cu rfl rfl rfl (aA.aB H.aU rfl rfl k2 (by first|rfl|(simp;done)|(simp;omega)) (by first|decide|exact of_decide_eq_true rfl|(simp;done)|(simp;omega)) (jD)) ?_;rintro _ h3 ⟨rfl,k3,x3,z3⟩;have k3:bp h3 h1.size 25 [.int .i64 xk,.string (bs xt),.slice xa xn xc]:=k3;have e13:aD h1 h3:=aD.only e2 x3 (Nat.le_refl _);have e03:=e1.trans e13;have rx3:eN.R h3 (fun b=>b<h.size) [.int .i64 xk,.string (bs xt),.slice xa xn xc] x:=eN.mv rx (Mv.ax e13);have z13:=e13.size;refine aS 1 [0,1,4,5,6] rfl ?_;refine av rfl ?_;refine av rfl ?_;refine G.bF [(27,.bool (!okx ||decide (400<s.length)))] [(0,_),(1,_),(4,_),(5,_),(6,_)] ⟨rfl,rfl,rfl,rfl,rfl,trivial⟩ func3 rfl ?_ ?_
 · refine bh 3 rfl ?_;refine aP (d:=23) rfl (fun p=>?_) (fun p=>?_)
   · have p:okx=false:=by simpa using p
     refine bh 4 rfl ?_;refine aE rfl ?_;exact⟨rfl,aF rfl (by rw[p];rfl),rfl,rfl,rfl,rfl,rfl,trivial⟩
   · have p:okx=true:=by simpa using p
     refine cD 1 rfl rfl (aj.bM underlying9 rfl) ?_;refine bh 2 rfl ?_;refine aE rfl ?_;exact⟨rfl,aF rfl (by rw[p,Bool.not_true,Bool.false_or,decide_eq_decide];omega),rfl,rfl,rfl,rfl,rfl,trivial⟩
 · refine aI rfl rfl (fun hb=>?_) (fun hb=>?_)
   · refine xr func3 rfl ?_;refine xo rfl (aq (vs:=[]) func9 rfl H.NQ rfl (ah.bw (qO (hg.ax e03)))) ?_;rintro _ h4 ⟨rfl,e4⟩;refine aS 1 [0,1,4,5,6,27] rfl ?_;refine G.ret func3 rfl rfl ?_;exact⟨_,rfl,rfl,e03.trans e4⟩
   · rw[Bool.or_eq_false_iff,decide_eq_false_iff_not] at hb;have hsl:s.length<=400:=by omega
     have g3:=hg.ax e03;obtain⟨lim,hl1,hl2⟩:=g3.lx.sg;obtain⟨K,pa,pe,hP⟩:=pI s (fN s).1 (fN s).2.1;have hKv:=zj (CO s) (by omega) hP;have hKw:=hP.wt;have hKl:ji K<=336800:=Nat.le_trans hKw (Nat.le_trans (Nat.mul_le_mul (Nat.le_trans (wC _ _ _ _) hsl) (show 2*s.length+42<=842 by omega)) (by decide));have hKn:2*K.length<=ji K:=Nat.le_trans (Nat.le_add_left _ _) (nj K false 0);refine aC rfl ?_;refine xr func3 rfl ?_;refine xo rfl (aq (vs:=[]) func10 rfl H.L6 rfl (ah.bw (yd hl2 hl1 g3.lx.tens g3.lx.rules))) ?_;rintro px h4 ⟨kx,e4⟩;have g4:=g3.ax e4;refine aS 1 [0,1,4,5,6,7,27] rfl ?_;refine bq func3 2 rfl ?_;refine xo rfl (aq (vs:=[_,_]) func11 rfl H.CL rfl (ah.bw (Ba g4 kx s (by omega) hP))) ?_;rintro _ h5 ⟨e5,v5,rfl,ho5⟩;have z4:=e4.size;have z5:=e5.size;have e35:=e4.trans e5;have ho5:dH eN (fun _=>False) h5 h4.size 25 v5 K:=ho5.pV (Ext.refl (fun _=>False) _) (fun _ _ q=>q) (fun _ _ q=>q.elim) (fun _ _ q=>q.elim);obtain⟨css,hc1,hc2,hc3⟩:=id ho5;refine aS 7 [0,1,4,5,6,7,8,27] rfl ?_;refine bq func3 1 rfl ?_;refine xp rfl (aj.aH H.bO H.aU rfl (k3.ax e35).row (by first|rfl|(simp;done)|(simp;omega))) ?_;refine xo rfl (aA.cE (cs:=[_,_,_]) underlying23 H.ir rfl rfl (by decide)) ?_;rintro _ _ ⟨rfl,rfl⟩;refine xo rfl (aA.bS underlying23 H.ir rfl rfl (hc2) rfl rfl (by first|decide|simp[Value.oneCell']) (by omega) (by decide) (by omega)) ?_;rintro v6 h6 ⟨ho6,hx6,hx6',hv6⟩;have hown:∀b,v5.ownBlock=some b->h4.size<=b/\b<h5.size:=fun b q=>hc2.lt q
     have hr5:eN.R h5 (fun b=>dB v5.ownBlock b\/False) [.int .i64 xk,.string (bs xt),.slice xa xn xc] x:=bW rx3 e35 (fun b hb q=>⟨fun k=>k,fun q2=>q2.elim (fun q2=>by have:=hown _ q2.symm;omega) (fun q2=>q2)⟩);have ho6x:dH eN (fun _=>False) h6 h4.size 25 v6 (K++[x]):=dH.gF hc1 hc3 ho6 hx6 hv6 hr5;have e56:aD h4 h6:=⟨by have:=hx6.size;omega,fun b hb _=>(hx6.block b (by omega) (fun q=>by have:=hown b q.symm;omega)).trans (e5.block b hb (fun q=>q))⟩
     have s6:bX eN h6 (fun _=>False) v6 (K++[x]):=ho6x.read (fun _ _ q=>q) (fun _ _ q=>q);have e36:=e4.trans e56;have e06:=e03.trans e36;have g6:=hg.ax e06;have kx6:=kx.ax e56;obtain⟨ka,kn,kc,rfl,hks⟩:=s6.open;have hkn:K.length+1=kn:=by have:=hks.len;rwa [List.length_append] at this
     have hkm:=hks.cap;have hkc:=hks.le;unfold maxLen at hkm
     have hall:∀(i:Nat) (y:Tr),(K++[x])[i]? =some y->y.wt<=400000/\(i<K.length->bY bQ y=true):=fun i y hy=>by
      rcases Nat.lt_or_ge i K.length with hi|hi
      · rw[List.getElem?_append_left hi] at hy;have hm:=List.mem_of_getElem? hy;have:=yN hm;exact⟨by omega,fun _=>hKv y hm⟩
      · rw[List.getElem?_append_right hi] at hy
        have:y=x:=by
         cases hj:i-K.length with
         |zero=>rw[hj] at hy;cases hy;rfl
         |succ j=>rw[hj] at hy;cases hy
        subst this;exact⟨by omega,fun q=>by omega⟩
     refine aS 1 [0,1,4,5,6,7,8,27] rfl ?_;refine av rfl ?_;refine aZ func3 1 [0,1,4,5,6,7,8,11,27] rfl ?_;refine G.block rfl rfl ?_;refine bG (σ:=Nat) (fun i=>[(7,px),(8,.slice ka kn kc),(11,.int .i64 (i:Nat))]) (fun i h'=>aD h6 h'/\i<=kn) (fun i=>kn-i) (0) rfl ⟨rfl,rfl,rfl,trivial⟩ ⟨Ext.refl _ _,Nat.zero_le _⟩ ?_;rintro i h7 ⟨e7,hi⟩ ih;have e07:=e06.trans e7;have g7:=hg.ax e07;refine av rfl ?_;refine bq func3 2 rfl ?_;refine xp rfl (aj.aJ underlying23 rfl) ?_;refine aS 1 [7,8,11,44] rfl ?_;refine aO rfl rfl (fun hlt=>?_) (fun hlt=>?_)
     · obtain⟨b,o,y,yk,yt,ya,yn,yc,ha,hy,hr,hR,_,_⟩:=nN hks (i:=i) (by omega);obtain⟨hyw,hyv⟩:=hall i y hy;refine aC rfl ?_;refine av rfl ?_;refine G.block rfl rfl ?_;refine bq func3 2 rfl ?_;refine xp rfl (aj.ay underlying23 H.aU rfl rfl i rfl ha (by omega)) ?_;refine xp rfl (aj.aH H.bO H.aU rfl (e7.rowAt (fun k=>k) hr) (by first|rfl|(simp;done)|(simp;omega))) ?_;refine xo rfl (aq (vs:=[_]) func12 rfl H.Kt rfl (ah.bw (qq (x:=y) (by omega) g7 (hR.mv (Mv.ax e7))))) ?_;rintro _ h8 ⟨rfl,e8⟩;have e78:=e7.trans e8;refine aS 1 [7,8,11,12,44] rfl ?_;refine av rfl ?_;refine bq func3 2 rfl ?_;refine xp rfl (aj.ay underlying23 H.aU rfl rfl i rfl ha (by omega)) ?_;refine xp rfl (aj.aH H.bO H.aU rfl (e78.rowAt (fun k=>k) hr) (by first|rfl|(simp;done)|(simp;omega))) ?_;refine xo rfl (aq (vs:=[_]) func13 rfl H.LW rfl (ah.bw (sM (x:=y) (by omega) (g7.ax e8) (hR.mv (Mv.ax e78))))) ?_;rintro _ h9 ⟨rfl,e9⟩;have e79:=e78.trans e9;refine aS 1 [7,8,11,12,44,57] rfl ?_;refine aI rfl rfl (fun hvy=>?_) (fun hvy=>?_)
       · have hvy:bY bQ y=false:=by simpa using hvy
         have hik:i=K.length:=by
          rcases Nat.lt_or_ge i K.length with q|q
          · rw[hyv q] at hvy;cases hvy
          · omega
         have hsh:lY y=[]:=by unfold lY;rw[hvy];rfl
         rw[hsh];refine av rfl ?_;refine av rfl ?_;refine G.bF [(66,.bool false)] [(7,_),(8,_),(11,_),(12,_),(44,_),(57,_)] ⟨rfl,rfl,rfl,rfl,rfl,rfl,trivial⟩ func3 rfl ?_ ?_
         · refine cD 1 rfl rfl (aj.pU rfl rfl) ?_;refine bh 1 rfl ?_;refine RW.dw (d:=60) (b':=false) rfl (decide_eq_false (by exact fun q=>q rfl)) ?_;refine cD 1 rfl rfl (aj.bE rfl rfl ⟨by omega,by omega⟩) ?_;refine cD 1 rfl rfl (aj.aJ underlying23 rfl) ?_;refine bh 2 rfl ?_;refine aE rfl ?_;exact⟨rfl,aF rfl (by rw[decide_eq_false (by omega)]),rfl,rfl,rfl,rfl,rfl,rfl,trivial⟩
         · refine aI rfl rfl (fun hc=>absurd hc (by simp)) (fun _=>?_);refine aC rfl ?_;refine bA rfl rfl ?_;refine G.cz func3 rfl ?_;refine cD 1 rfl rfl (aj.bE rfl rfl ⟨by omega,by omega⟩) ?_;refine aS 1 [7,8,11,12,44,57,66] rfl ?_;exact ih (i+1) _ _ ⟨rfl,rfl,rfl,trivial⟩ ⟨e79,by omega⟩ (by omega)
       · have hvy:bY bQ y=true:=by simpa using hvy
         have hsh:lY y=aV false y:=by unfold lY;rw[if_pos hvy]
         rw[hsh];obtain⟨hne,hback⟩:=Be hvy;have hsl:=iZ y false;obtain⟨K2,a2,c2,hP2⟩:=pI (aV false y) (fN (aV false y)).1 (fN (aV false y)).2.1;have hb2:=hback _ _ _ hP2;have g9:=g6.ax e79;refine aC rfl ?_;refine bq func3 2 rfl ?_;refine xo rfl (aq (vs:=[_,_]) func11 rfl H.CL rfl (ah.bw (iJ g9 (kx6.ax e79) (aV false y) (by omega) hP2))) ?_;rintro _ h10 ⟨e10,v10,rfl,s10⟩;have e710:=e79.trans e10;refine aS 7 [7,8,11,12,13,15,44,57] rfl ?_;refine av rfl ?_;refine G.zW (fun(u:Unit) (h':az)=>aD h10 h') (fun(u:Unit)=>[(99,.bool false)]) [(7,_),(8,_),(11,_),(12,_),(13,_),(15,_),(44,_),(57,_)] ⟨rfl,rfl,rfl,rfl,rfl,rfl,rfl,rfl,trivial⟩ (fun b=>Array.size h10<=b) (fun i=>Nat.blt i 26) (sz:=26) (listed:= #[false,false,false,false,false,false,false,false,false,false,false,false,false,false,false,false,false,false,false,false,false,false,false,false,false,false]) func3 H.mixed rfl rfl rfl ?_ ?_
         · refine cg 0 1 (by kernel_rfl) rfl ?_;refine bL 1 3 (by kernel_rfl) rfl (fun h' e=>aj.dX rfl rfl) ?_;refine cg 2 7 (by kernel_rfl) rfl ?_;refine RD.dw (d:=76) (b':=false) rfl (decide_eq_false (by intro q;exact hne (eT q))) ?_
           rcases hb2 with rfl|⟨rfl,rfl⟩
           · refine cg 3 15 (by kernel_rfl) rfl ?_;refine cg 4 31 (by kernel_rfl) rfl ?_;refine cg 5 63 (by kernel_rfl) rfl ?_;refine RD.dw (d:=79) (b':=false) rfl (decide_eq_false (by exact fun q=>q rfl)) ?_;refine oH 6 127 (by kernel_rfl) rfl ?_;refine oH 7 255 (by kernel_rfl) rfl ?_;refine oH 8 511 (by kernel_rfl) rfl ?_;refine oH 9 1023 (by kernel_rfl) rfl ?_;refine oH 10 2047 (by kernel_rfl) rfl ?_;refine oH 11 4095 (by kernel_rfl) rfl ?_;refine oH 12 8191 (by kernel_rfl) rfl ?_;refine oH 13 16383 (by kernel_rfl) rfl ?_;refine oH 14 32767 (by kernel_rfl) rfl ?_;refine oH 15 65535 (by kernel_rfl) rfl ?_;refine oH 16 131071 (by kernel_rfl) rfl ?_;refine oH 17 262143 (by kernel_rfl) rfl ?_;refine oH 18 524287 (by kernel_rfl) rfl ?_;refine oH 19 1048575 (by kernel_rfl) rfl ?_;refine oH 20 2097151 (by kernel_rfl) rfl ?_;refine oH 21 4194303 (by kernel_rfl) rfl ?_;refine oH 22 8388607 (by kernel_rfl) rfl ?_;refine oH 23 16777215 (by kernel_rfl) rfl ?_;refine cg 24 33554431 (by kernel_rfl) rfl ?_;refine cg 25 67108863 (by kernel_rfl) rfl ?_;refine br (by kernel_rfl) ?_;exact⟨(),(Ext.refl _ _),rfl,rfl,rfl,rfl,rfl,rfl,rfl,rfl,rfl,trivial⟩
           · obtain⟨b2,o2,cs2,cc2,rfl,r2,R2⟩:=nC s10
             obtain⟨zk,zt,za,zn,zc,rfl⟩:∃k w a n c,cs2=[.int .i64 k,.string (bs w),.slice a n c]:=by
              cases y with
              |mk k t m =>
               obtain⟨v,rfl,hs⟩:=jE R2;obtain⟨xa,xn,xc,rfl,_⟩:=id hs.open;exact⟨k,t,xa,xn,xc,rfl⟩
             refine cg 3 15 (by kernel_rfl) rfl ?_;refine cg 4 31 (by kernel_rfl) rfl ?_;refine cg 5 63 (by kernel_rfl) rfl ?_;refine RD.dw (d:=79) (b':=true) rfl (decide_eq_true (by decide)) ?_;refine cg 6 127 (by kernel_rfl) rfl ?_;refine cg 7 255 (by kernel_rfl) rfl ?_;refine cg 8 511 (by kernel_rfl) rfl ?_;refine RD.dw (d:=82) (b':=false) rfl (decide_eq_false (by decide)) ?_;refine cg 9 1023 (by kernel_rfl) rfl ?_;refine bL 10 2047 (by kernel_rfl) rfl (fun h' e=>aj.aJ underlying23 rfl) ?_;refine cg 11 4095 (by kernel_rfl) rfl ?_;refine cg 12 8191 (by kernel_rfl) rfl ?_;refine cg 13 16383 (by kernel_rfl) rfl ?_;refine RD.dw (d:=87) (b':=false) rfl (decide_eq_false (by decide)) ?_;refine cg 14 32767 (by kernel_rfl) rfl ?_;refine bL 15 65535 (by kernel_rfl) rfl (fun h' e=>aj.ay underlying23 H.aU rfl rfl 0 rfl rfl (by decide)) ?_;refine bL 16 131071 (by kernel_rfl) rfl (fun h' e=>aj.aH H.bO H.aU rfl (e.zw (by rw[Nat.zero_mul,Nat.add_zero];exact r2)) (by first|rfl|(simp;done)|(simp;omega))) ?_;refine cg 17 262143 (by kernel_rfl) rfl ?_;refine cg 18 524287 (by kernel_rfl) rfl ?_;refine bL 19 1048575 (by kernel_rfl) rfl (fun h' e=>aj.ay underlying23 H.aU rfl rfl i rfl ha (by omega)) ?_;refine bL 20 2097151 (by kernel_rfl) rfl (fun h' e=>aj.aH H.bO H.aU rfl (e.zw (e710.rowAt (fun k=>k) hr)) (by first|rfl|(simp;done)|(simp;omega))) ?_;refine eM 21 4194303 (by kernel_rfl) rfl (aq (vs:=[_,_]) func14 rfl H.Ny rfl (ah.bw (Dn (fZ.of R2) (hR.mv (Mv.ax e710))))) ?_;rintro _ h11 ⟨rfl,e11⟩;refine⟨fun _=>e11.of,?_⟩;refine cg 22 8388607 (by kernel_rfl) rfl ?_;refine cg 23 16777215 (by kernel_rfl) rfl ?_;refine cg 24 33554431 (by kernel_rfl) rfl ?_;refine cg 25 67108863 (by kernel_rfl) rfl ?_;refine br (by kernel_rfl) ?_;exact⟨(),e11,aF rfl (by rw[(xU y y).2 rfl];rfl),rfl,rfl,rfl,rfl,rfl,rfl,rfl,rfl,trivial⟩
         · rintro u h11 e11;refine aI rfl rfl (fun hc=>absurd hc (by simp)) (fun _=>?_);refine aC rfl ?_;refine G.aR ?_;refine G.cz func3 rfl ?_;refine cD 1 rfl rfl (aj.bE rfl rfl ⟨by omega,by omega⟩) ?_;refine aS 1 [7,8,11,12,13,15,44,57,99] rfl ?_;exact ih (i+1) _ _ ⟨rfl,rfl,rfl,trivial⟩ ⟨e710.trans e11,by omega⟩ (by omega)
     · refine bA rfl rfl ?_;refine xr func3 rfl ?_;refine xo rfl (aq (vs:=[]) func9 rfl H.NQ rfl (ah.bw (qO g7))) ?_;rintro _ h8 ⟨rfl,e8⟩;refine aS 1 [4,7,8,11,44] rfl ?_;refine G.ret func3 rfl rfl ?_;exact⟨_,rfl,rfl,e07.trans e8⟩
end Go.Proofs.YtmehdcdbeafljaaGreatDoor

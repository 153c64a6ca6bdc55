/- Part 26. -/
import Derived.Lib.LaidU8
import Derived.Deep.Fields
import Derived.Test.YtnjahnbpnpkmhaaGreatDoorQy

namespace Go.Proofs.YtnjahnbpnpkmhaaGreatDoor
open Go.Proofs.Tryz
open Go Go.Lw Go.ChangeShapes Go.WideShapes Go.ChangeAt Go.RowKit
set_option maxRecDepth 100000
section
variable {W:World}
theorem JI:Go.Pinned.utf8First=Lib.firstData:=by kernel_rfl
theorem Ek:(Rows.laid_limner_rules_table:DataW Unit)= .agg [.slice ((qQ 0).map je) [],.slice ((qQ 1).map je) [],.slice ((qQ 2).map je) []]:=by kernel_rfl
theorem DW:(Rows.laid_unicode_utf8_acceptRanges:DataW Unit)=Lib.acceptData:=by kernel_rfl
theorem Ic (h3:Lib.VarReads prog W "unicode/utf8.first" Lib.firstData) (h4:Lib.VarReads prog W "unicode/utf8.acceptRanges" Lib.acceptData):Mh W.heap:=by
  refine⟨λc hc=>?_,λi hi=>?_⟩
  · obtain⟨g,t,cs,fuel,p,Z,Y,I,hd⟩:=h3;obtain rfl:=Option.some.inj ((show prog.globalNamed "unicode/utf8.first" =some 5 by kernel_rfl).symm.trans Z);obtain rfl:=Option.some.inj ((show (prog.globals[5]?).map (·.type)=some 235 by kernel_rfl).symm.trans Y);have U:=Lib.cells_of_tab underlying235 underlying5 (by kernel_rfl) (by kernel_rfl) hd;have:=World.var?_cell Z I c;rw[<-dX,this,<-Array.getElem?_toList,U];simp[Lib.firstTab,hc]
  · obtain⟨g,t,cs,fuel,p,Z,Y,I,hd⟩:=h4;obtain rfl:=Option.some.inj ((show prog.globalNamed "unicode/utf8.acceptRanges" =some 6 by kernel_rfl).symm.trans Z);obtain rfl:=Option.some.inj ((show (prog.globals[6]?).map (·.type)=some 239 by kernel_rfl).symm.trans Y);obtain⟨fuel',d,q,aa,he⟩:=Lib.array_elem underlying239 hd i hi;simp only[List.getElem?_map,List.getElem?_range hi,Option.map_some,Option.some.injEq] at aa;subst aa;have c2:prog.cellsOf 238=2:=by kernel_rfl
    have c1:prog.cellsOf 5=1:=by kernel_rfl
    rw[c2] at he
    have U:=Lib.ints_of_struct underlying238 (λj f J=>by
      match j,J with
      | 0,J=>simp at J;subst J;exact⟨underlying5,rfl,c1⟩
      | 1,J=>simp at J;subst J;exact⟨underlying5,rfl,c1⟩
      |j+2,J=>simp at J) (by rw[c2];rfl) he
    have e0:=congrArg (·[0]?) U;have e1:=congrArg (·[1]?) U;simp only[List.getElem?_take,List.getElem?_drop] at e0 e1;constructor
    · rw[<-dX,World.var?_cell Z I (2*i),<-Array.getElem?_toList];simpa [Nat.mul_comm] using e0
    · rw[<-dX,World.var?_cell Z I (2*i+1),<-Array.getElem?_toList];simpa [Nat.mul_comm] using e1
theorem IL (h:Lib.VarReads prog W "limner/rules.table" (.agg [.slice ((qQ 0).map je) [],.slice ((qQ 1).map je) [],.slice ((qQ 2).map je) []])):n5 W.heap:=by
  intro m hm;obtain⟨g,t,cs,fuel,p,Z,U,J,hd⟩:=h;obtain rfl:=Option.some.inj ((show prog.globalNamed "limner/rules.table" =some 0 by kernel_rfl).symm.trans Z);obtain rfl:=Option.some.inj ((show (prog.globals[0]?).map (·.type)=some 118 by kernel_rfl).symm.trans U);obtain⟨fuel',d,q,I,he⟩:=Lib.array_elem underlying118 hd m hm
  have Y:d= .slice ((qQ m).map je) []:=by
    match m,hm with
    | 0,_=>exact(Option.some.inj I).symm
    | 1,_=>exact(Option.some.inj I).symm
    | 2,_=>exact(Option.some.inj I).symm
  subst Y;have c1:prog.cellsOf 115=1:=by kernel_rfl
  rw[c1] at he;obtain⟨v,hv,hs⟩:=Hh underlying115 underlying117 (by kernel_rfl) rfl rfl rfl underlying9 underlying3 underlying3 (by kernel_rfl) (by kernel_rfl) (by kernel_rfl) he;refine⟨v,?_,hs⟩;have e0:=congrArg (·[0]?) hv;simp only[List.getElem?_take,List.getElem?_drop] at e0;rw[<-dX,World.var?_cell Z J m,<-Array.getElem?_toList];simpa using e0
theorem Dj (I:laidMetH prog Rows.exprsParseRow.laid W) (hS:W.ShapedOpen prog):D9 W.heap:=by
  rw[MakeChecks.laidMetH_plain _ _ _ (by kernel_rfl)] at I;obtain⟨g2,t2,cs2,f2,p2,aa,qu,U,ac⟩:=Lib.laidMet.reads I (n:= "internal/strconv.uint64pow10") (.tail _ (.tail _ (.head _)));have h3:=Lib.laidMet.reads I (n:= "unicode/utf8.acceptRanges") (.tail _ (.tail _ (.tail _ (.head _))));obtain⟨g4,t4,cs4,f4,p4,Z,Y,J,ab⟩:=Lib.laidMet.reads I (n:= "limner/regs.signs") (.tail _ (.tail _ (.tail _ (.tail _ (.head _)))));have h5:=Lib.laidMet.reads I (n:= "limner/rules.table") (.tail _ (.tail _ (.tail _ (.tail _ (.tail _ (.head _))))));have h6:=Lib.laidMet.reads I (n:= "unicode/utf8.first") (.tail _ (.tail _ (.tail _ (.tail _ (.tail _ (.tail _ (.tail _ (.tail _ (.tail _ (.head _))))))))));have ad:Lib.VarReads prog W "unicode/utf8.first" Lib.firstData:=by rw[<-JI];exact h6
  rw[DW] at h3;rw[Ek] at h5
  exact⟨⟨_,Nat.le_refl _,Iz Z Y J ab⟩,KF aa qu U ac,IL h5,Ic ad h3,
    BC (t:=3) (k:=.i64) (zero:= #[.int .i64 0]) hS (by decide +kernel) (by kernel_rfl) rfl (by kernel_rfl) (by kernel_rfl) underlying3⟩
noncomputable def Jk (os:Os):World:=(World.doorLaid prog 4000 os).layVars prog (Rows.exprsParseRow.laid.filter λx=>["unicode/utf8.first"].contains x.1)
theorem KV (os:Os):(Jk os).os=os:=by unfold Jk;rw[World.layVars_os];rfl
noncomputable def lexB (os:Os):List Nat:=(List.range (World.doorLaid prog 4000 os).heap.size).filter λx=>x !=5
theorem KU (os:Os) (args:Array Value):laidMetH prog Rows.exprsParseRow.laid ((Jk os).forCall (λ_ _=>0) ⟨#[],args,[]⟩).memory:=by
  rw[MakeChecks.laidMetH_plain _ _ _ (by kernel_rfl)]
  have h:laidMet prog Rows.exprsParseRow.laid (Jk os) :=
    laidMet_layVars (w0:=World.doorLaid prog 4000 os) ["unicode/utf8.first"] (lexB os) rfl (by kernel_rfl) (by kernel_rfl)
      (LaidIn.of_run (lexB os) 8 (by kernel_rfl) (by kernel_rfl) (by kernel_rfl) (by kernel_rfl))
  exact h.of_heap (by simp[World.memory,World.forCall,Input.heap])
end
end Go.Proofs.YtnjahnbpnpkmhaaGreatDoor
namespace Go.Lw
open Go.ChangeShapes Go.WideShapes Go.ChangeAt Go.RowKit
section
variable {P:Program}{H:Type}{enc:TypeId×Value->H}
theorem Hg {W:World}{fuel:Nat}{sp:Nat->Bool}{held:Bool}{t e:TypeId}{cs:List Value}{L:List (List UInt8)}{rest:List (DataW H)}{pl:List MemPlace}
 (ht:P.underlying t=some (.slice e)) (he:P.underlying e=some .string) (hC:P.cellsOf e=1)
 (h:DataW.trod enc P W 0 sp held fuel t cs=some (.slice (L.map λs=>.lit (.string s)) rest,pl)):∃v,cs=[v]/\aL (.flat (λs=>Value.string ⟨s.toArray⟩) λ_=>rfl) W.heap (λ_=>False) v L:=by
 rcases Deep.open_slice ht h with ⟨_,Y⟩|⟨a,len,cap,m,n,D,Pl,rfl,_,hle,hm,ag,Y,ab⟩
 · simp at Y
 · simp only[Prod.mk.injEq,DataW.slice.injEq] at Y;have hlen:L.length=len:=by have:=congrArg List.length Y.1.1;simpa using this
   have hlm:len<=m:=by rw[ag];split<;>omega
   have hD:∀(i:Nat) (r:List UInt8),L[i]? =some r->D i= .lit (.string r):=λi r hr=>by
    have aa:i<len:=by rw[<-hlen];exact(List.getElem?_eq_some_iff.1 hr).1
    have:=congrArg (λz=>z[i]?) Y.1.1;simp only[List.getElem?_map,hr,Option.map_some,List.getElem?_range aa,Option.some.injEq] at this;exact this.symm
   refine⟨_,rfl,some a,len,cap,rfl,hlen,hle,hm,λi r hr=>?_⟩;have aa:i<len:=by rw[<-hlen];exact(List.getElem?_eq_some_iff.1 hr).1
   obtain⟨cs',ad,ac⟩:=ab i (by omega);rw[hC] at ad;rw[hD i r hr] at ac;obtain⟨_,hcl,U⟩:=World.cells?_some ad;obtain rfl:=rW he ac;obtain⟨cs0,ae,_⟩:=ab 0 (by omega);rw[hC] at ae;obtain⟨_,hcl0,J⟩:=World.cells?_some ae;have Z:=J 0 (by omega);rw[List.getElem?_eq_getElem (by omega)] at Z;have I:a.spot=none:=by simpa [Addr.add] using World.cell?_spot Z
   obtain⟨b,o,spot⟩:=a;have I:spot=none:=I;subst I;refine⟨b,o,[.string ⟨r.toArray⟩],rfl,λk=>k,λj u hj=>?_,rfl⟩;have ak:j=0:=by cases j with|zero=>rfl|succ j=>simp at hj
   subst ak;have:=U 0 (by omega);rw[Deep.add_add,Addr.add_mid,dX] at this
   show cellAt W.heap ⟨b,o+i*1+0,none⟩=some u
   rw[Nat.add_assoc,this];exact hj
end
end Go.Lw
namespace Go.Proofs.YtnjahnbpnpkmhaaGreatDoor
open Go.Proofs.Tryz
open Go Go.Lw Go.ChangeShapes Go.WideShapes Go.ChangeAt Go.RowKit
set_option maxRecDepth 100000
section
variable {W:World}
theorem JL:(Rows.laid_limner_exprs_escapes:DataW Unit)= .agg (jv.map λp=>.agg [.lit (.int .u8 p.1.toNat),.lit (.int .u8 p.2.toNat)]):=by kernel_rfl
theorem Ih:(Rows.laid_limner_exprs_unaries:DataW Unit)= .slice (Ig.map λs=>.lit (.string s)) []:=by kernel_rfl
theorem JZ:(Rows.laid_limner_exprs_binaries:DataW Unit)= .slice (JY.map λs=>.lit (.string s)) []:=by kernel_rfl
theorem MP (h:Lib.VarReads prog W "limner/exprs.escapes" (.agg (jv.map λp=>.agg [.lit (.int .u8 p.1.toNat),.lit (.int .u8 p.2.toNat)]))):qN W.heap:=by
  obtain⟨g,t,cs,fuel,p,hg,aa,Y,hd⟩:=h;obtain rfl:=Option.some.inj ((show prog.globalNamed "limner/exprs.escapes" =some 1 by kernel_rfl).symm.trans hg);obtain rfl:=Option.some.inj ((show (prog.globals[1]?).map (·.type)=some 149 by kernel_rfl).symm.trans aa);have c2:prog.cellsOf 148=2:=by kernel_rfl
  have c1:prog.cellsOf 5=1:=by kernel_rfl
  have key:∀i j,i<6->j<2->cs.toList[i*2+j]? =MR[i*2+j]? :=by
    intro i j hi hj;obtain⟨f1,d,q,J,he⟩:=Lib.array_elem underlying149 hd i hi;rw[List.getElem?_map,List.getElem?_eq_getElem (show i<jv.length from hi)] at J;have J:d= .agg [.lit (.int .u8 jv[i].1.toNat),.lit (.int .u8 jv[i].2.toNat)]:=(Option.some.inj J).symm;subst J;rw[c2] at he;obtain⟨f2,d2,q2,I,U⟩:=Lib.array_elem underlying148 he j hj;rw[c1,Nat.mul_one] at U
    have Z:((((cs.toList.drop (i*2)).take 2).drop j).take 1)=[if j=0 then .int .u8 jv[i].1.toNat else .int .u8 jv[i].2.toNat]:=by
      match j,hj with
      | 0,_=>have I:=Option.some.inj I;subst I;exact jL underlying5 (k':=.u8) U
      | 1,_=>have I:=Option.some.inj I;subst I;exact jL underlying5 (k':=.u8) U
    have e0:=congrArg (·[0]?) Z;simp only[List.getElem?_take,List.getElem?_drop] at e0
    have e1:cs.toList[i*2+j]? =some (if j=0 then .int .u8 jv[i].1.toNat else .int .u8 jv[i].2.toNat):=by
      match j,hj with
      | 0,_=>simpa using e0
      | 1,_=>simpa using e0
    rw[e1];have:=iU (sz:=2) (enc:=mO) (λ_=>rfl) jv i jv[i] j (if j=0 then .int .u8 jv[i].1.toNat else .int .u8 jv[i].2.toNat) (List.getElem?_eq_getElem hi) (by match j,hj with| 0,_=>rfl| 1,_=>rfl);exact this.symm
  intro n v Z;have hn:n<12:=(List.getElem?_eq_some_iff.1 Z).1;have hk:=key (n / 2) (n%2) (by omega) (by omega);rw[show n / 2*2+n%2=n by omega,Z] at hk;rw[Nat.zero_add,<-dX,World.var?_cell hg Y n,<-Array.getElem?_toList,hk]
theorem FA {n:String}{g:Nat}{L:List By}(hn:prog.globalNamed n=some g) (Z:(prog.globals[g]?).map (·.type)=some 73) (h:Lib.VarReads prog W n (.slice (L.map λs=>.lit (.string s)) [])):∃v,cellAt W.heap ⟨g,0,none⟩=some v/\aL oA W.heap (λ_=>False) v L:=by
  obtain⟨g',t,cs,fuel,p,U,J,I,hd⟩:=h;obtain rfl:=Option.some.inj (hn.symm.trans U);obtain rfl:=Option.some.inj (Z.symm.trans J);have c1:prog.cellsOf 9=1:=by kernel_rfl
  obtain⟨v,Y,hs⟩:=Hg underlying73 underlying9 c1 hd;refine⟨v,?_,hs⟩;rw[<-dX,World.var?_cell U I 0,<-Array.getElem?_toList,Y];rfl
theorem K2 (I:laidMetH prog Rows.exprsParseRow.laid W) (Z:W.ShapedOpen prog):Gl W.heap:=by
  have hG:=Dj I Z;rw[MakeChecks.laidMetH_plain _ _ _ (by kernel_rfl)] at I;have Y:=Lib.laidMet.reads I (n:= "limner/exprs.escapes") (.tail _ (.tail _ (.tail _ (.tail _ (.tail _ (.tail _ (.head _)))))));have U:=Lib.laidMet.reads I (n:= "limner/exprs.unaries") (.tail _ (.tail _ (.tail _ (.tail _ (.tail _ (.tail _ (.tail _ (.head _))))))));have J:=Lib.laidMet.reads I (n:= "limner/exprs.binaries") (.tail _ (.tail _ (.tail _ (.tail _ (.tail _ (.tail _ (.tail _ (.tail _ (.head _)))))))));rw[JL] at Y;rw[Ih] at U;rw[JZ] at J;exact⟨hG,MP Y,FA (by kernel_rfl) (by kernel_rfl) U,FA (by kernel_rfl) (by kernel_rfl) J⟩
end
end Go.Proofs.YtnjahnbpnpkmhaaGreatDoor
namespace Go.Proofs.YtnjahnbpnpkmhaaGreatDoor
open Go.Proofs.Tryz
open Go Go.Lw
set_option maxRecDepth 20000 set_option maxHeartbeats 4000000
theorem Dq {h:aq}{p:Value}(O:Nat->Prop) (hO:∀y,O y->y<h.size) (hg:D9 h) (k:qM h p) (s:By) (hs:s.length<=1000000) :
 au prog 27 #[p,.string (bs s)] h (bK λr h'=>(∃v,r= .tuple #[v,.agg (aG (fD s).2).toArray]/\aL Hx h' O v (fD s).1)/\aj h h'):=by
 have hbs:=aJ s;generalize hres:fD s=res;refine bJ ?_;refine af ?_;refine xo rfl (cL) ?_;rintro _ h1 ⟨rfl,k5,e1,z1⟩;have k5:aC h1 h.size 25 (aG (0,0)):=k5;have y1:=e1.size;refine af ?_;refine fK (σ:=Nat×kY×Value×List Tk) (λq=>[(4,q.2.2.1),(6,.int .i64 (q.1:Nat))]) (λq h'=>(q.1<=s.length/\q.2.2.2.length<=q.1/\Fs q.2.1.2)/\aj h h'/\h1.size<=h'.size/\aC h' h.size 25 (aG q.2.1)/\fG 3 cR h' h1.size 83 q.2.2.1 q.2.2.2/\(q.2.2.2++(jm s.length (s.drop q.1) q.1 q.2.1).1,(jm s.length (s.drop q.1) q.1 q.2.1).2)=res) (λq=>s.length+1-q.1) ((0,(0,0),.slice none 0 0,[])) ⟨⟨Nat.zero_le _,by simp,by show Fs 0;unfold Fs;omega⟩,e1,Nat.le_refl _,k5,fG.nil _ _ _ _ _,hres⟩ rfl ?_;rintro⟨i,st,vt,toks⟩ g ⟨⟨hi,htl,hst⟩,eg,hz,kS,ho,hcon⟩ ih
 try dsimp only
 dsimp only at hi htl hst kS ho hcon;have hho:aB g h1.size 83 3 vt toks.length (toks.flatMap cR):=ho;obtain⟨ta,tc,rfl,_⟩:=hho.open;have tge:∀b,(Value.slice ta toks.length tc).ownBlock=some b->h1.size<=b/\b<g.size:=λb hb=>hho.lt hb
 rcases Nat.lt_or_ge i s.length with hlt|hge
 · have hne:s.drop i≠[]:=λe=>by have:=congrArg List.length e;rw[List.length_drop] at this;simp at this;omega
   have hkl:=kG hne st.1;rw[List.length_drop] at hkl;rw[As hne (by rw[List.length_drop];omega)] at hcon;have hone:=GX (hg.ah eg) (k.ah eg) s i hlt hs st hst;unfold ME at hone;have hnI:=FV hst (s.drop i);rw[List.drop_drop] at hcon;generalize fJ (s.drop i) st.1=L at *;generalize rq (s.drop i) st.1=kd at *;generalize jN (s.drop i) st=nx at *;generalize EI st.1 (s.drop i)=sp at *;refine af ?_;refine xp rfl (cj rfl kS.row) ?_;refine xo rfl (aE rfl hone) ?_;rintro _ g1 ⟨rfl,f1⟩;refine af ?_;refine xo rfl (cL) ?_;rintro _ g2 ⟨rfl,c7,f2,y2⟩;refine xo rfl (cL) ?_;rintro _ g3 ⟨rfl,c8,f3,y3⟩;refine aO rfl (aZ rfl rfl ((c7.ah f3)) (jW _)) ?_;rintro _ g4 ⟨rfl,d7,x4,y4⟩;have d7:aC g4 g1.size 83 (cR (kd,(i:Int),((i+L:Nat):Int))):=d7;have yz1:=f1.size;have yz2:=f2.size;have yz4:=x4.size;refine aO rfl (aZ rfl rfl (((c8.ext x4 (show ¬g2.size=g1.size by omega)))) (cF nx)) ?_;rintro _ g5 ⟨rfl,d8,x5,y5⟩;have d8:aC g5 g2.size 25 (aG nx):=d8;have d7:=d7.ext x5 (show ¬g1.size=g2.size by omega);have yz5:=x5.size;have eg5:aj g g5:=aj.only (aj.only ((f1.trans f2).trans f3) x4 (by omega)) x5 (by omega);have hho5:=hho.gR eg5;refine af ?_;refine xp rfl (aA rfl (d7.cell (i:=2) rfl)) ?_;refine af ?_;refine dB rfl (by simp;omega) ?_;refine af ?_;refine xp rfl (cj rfl d7.row) ?_;refine xo rfl (lg) ?_;rintro _ _ ⟨rfl,rfl⟩;refine xo rfl (aV.dA underlying23 H.JO rfl rfl (hho5) rfl rfl (jW _) (by omega) (by decide) (by omega)) ?_;rintro vt2 g6 ⟨ho6,hx6,hx6',hv6⟩;have yz6:=hx6.size;have d7:=d7.ext hx6 (λk=>by have:=tge _ k.symm;omega);have d8:=d8.ext hx6 (λk=>by have:=tge _ k.symm;omega);have kS6:=(kS.ah eg5).ext hx6 (λk=>by have:=tge _ k.symm;omega);have e06:aj h g6:=Ext.own (eg.trans eg5) hho5 (by omega) hx6;have ho6:fG 3 cR g6 h1.size 83 vt2 (toks++[(kd,(i:Int),((i+L:Nat):Int))]):=fG.of ho6 rfl rfl;have hMa:¬(g1.size=h.size\/Array.size g6<=g1.size):=by omega
   have hMb:¬(g2.size=h.size\/Array.size g6<=g2.size):=by omega
   refine af ?_;refine jK 5 (λb=>b=Array.size h\/Array.size g6<=b) (λi=>Nat.blt i 6) ?_;refine aF 0 ?_;refine bq 1 rfl (λh' e=>aA rfl (e.cell hMa (d7.cell (i:=2) rfl))) ?_;refine bq 2 rfl (λh' e=>cj rfl (e.rowAt hMb d8.row)) ?_;refine aF 3 ?_;refine gU 4 rfl (aZ rfl rfl kS6 (cF nx)) ?_;rintro _ g7 ⟨rfl,kS7,x7,y7⟩;refine⟨λ_=>x7.mono (λ_ _ k=>.inl k),?_⟩;have kS7:aC g7 h.size 25 (aG nx):=kS7;have ho7:fG 3 cR g7 h1.size 83 vt2 (toks++[(kd,(i:Int),((i+L:Nat):Int))]):=aB.ext x7 ho6 (λb hb (k:b=h.size)=>by have:=(aB.lt ho6 hb).1;omega);refine fV ?_;refine af ?_;exact ih (i+L,nx,vt2,toks++[(kd,(i:Int),((i+L:Nat):Int))]) ⟨⟨by show i+L<=s.length;omega,by simp;omega,hnI⟩,aj.only e06 x7 (by omega),by have:=x7.size;show h1.size<=g7.size;omega,kS7,ho7,by simpa using hcon⟩
 · obtain rfl:i=s.length:=by omega
   have hone:=KO (h:=g) (p:=p) (b:=false) (λg' eg'=>Di (k.ah (eg.trans eg'))) s (s.length:Nat) hs st (.inr (.inr (by omega)));rw[List.drop_length,DV] at hcon;refine af ?_;refine xp rfl (cj rfl kS.row) ?_;refine xo rfl (aE rfl hone) ?_;rintro _ g1 ⟨rfl,f1⟩;refine af ?_;refine xo rfl (cL) ?_;rintro _ g2 ⟨rfl,c7,f2,y2⟩;refine xo rfl (cL) ?_;rintro _ g3 ⟨rfl,c8,f3,y3⟩;refine aO rfl (aZ rfl rfl ((c7.ah f3)) (jW _)) ?_;rintro _ g4 ⟨rfl,d7,x4,y4⟩;have d7:aC g4 g1.size 83 (cR (0,0,0)):=d7;have yz1:=f1.size;have yz2:=f2.size;have yz4:=x4.size;refine aO rfl (aZ rfl rfl (((c8.ext x4 (show ¬g2.size=g1.size by omega)))) (cF st)) ?_;rintro _ g5 ⟨rfl,d8,x5,y5⟩;have d7:=d7.ext x5 (show ¬g1.size=g2.size by omega);have yz5:=x5.size;have eg5:aj g g5:=aj.only (aj.only ((f1.trans f2).trans f3) x4 (by omega)) x5 (by omega);have hho5:=ho.ah eg5;have kS5:=kS.ah eg5;refine af ?_;refine xp rfl (aA rfl (d7.cell (i:=2) rfl)) ?_;refine af ?_;refine dc rfl (by simp) ?_;have hMa:¬(h.size=h.size/\Array.size g5<=h.size):=by omega
   refine af ?_;refine jK 4 (λb=>Array.size g5<=b) (λi=>Nat.blt i 5) ?_;refine aF 0 ?_;refine bq 1 rfl (λh' e=>cj rfl (e.rowAt (by omega) kS5.row)) ?_;refine aF 2 ?_;refine gU 3 rfl (aZ rfl rfl kS5 (cF st)) ?_;rintro _ g7 ⟨rfl,kS7,x7,y7⟩;refine⟨λ_=>(mB kS5 kS7 x7).mono (λ_ _ k=>k.elim),?_⟩;have kS7:aC g7 h.size 25 (aG st):=kS7;have e7:=mB kS5 kS7 x7;refine fV ?_;refine cE (rO (cz rfl kS7.row cD)) ?_;rw[<-hcon];exact⟨_,rfl,⟨_,rfl,by show aL Hx g7 _ _ (toks++[]);rw[List.append_nil];exact fG.read (hho5.ah e7) (λb hb k=>by have:=hO b k;omega)⟩,(eg.trans eg5).trans e7⟩
theorem EM {h:aq}{p:Value}(I:D9 h) (k:qM h p) (s:By) (hs:s.length<=1000000) :
 au prog 27 #[p,.string (bs s)] h (bK λr h'=>(∃v,r= .tuple #[v,.agg (aG (fD s).2).toArray]/\aL Hx h' (λ_=>False) v (fD s).1)/\aj h h'):=Dq _ (λ_ k=>k.elim) I k s hs
end Go.Proofs.YtnjahnbpnpkmhaaGreatDoor
namespace Go.Proofs.YtnjahnbpnpkmhaaGreatDoor
open Go.Proofs.Tryz
open Go Go.Lw
set_option maxRecDepth 100000 set_option maxHeartbeats 4000000
section
variable {h:aq}
theorem kq {p:Value}(hg:Gl h) (kx:qM h p) (s:By) (hs:s.length<=500000){k:List Tr}{a e:Int}(hP:eJ s (fD s).1 (fD s).2.1 k a e) :
 au prog 10 #[p,.string (bs s)] h (bK λr h'=>aj h h'/\∃lv,r=packed [lv,.int .i64 a,.int .i64 e]/\aL eN h' (λb=>b<h.size) lv k):=by
 have hlen:(fD s).1.length<=s.length:=s7 _ _ _ _;have hb:(fD s).1.length*(s.length+2)<=1000000000000:=Nat.le_trans (Nat.mul_le_mul hlen (Nat.le_refl _)) (Nat.le_trans (Nat.mul_le_mul hs (show s.length+2<=500002 by omega)) (by decide));refine bJ ?_;refine af ?_;refine xo rfl (aE rfl (EM hg.lx kx s (by omega))) ?_;rintro _ h1 ⟨⟨v,rfl,hv⟩,e1⟩;refine af ?_;refine xo rfl (cL) ?_;rintro _ h2 ⟨rfl,k2,e2,z2⟩;refine af ?_;refine aO rfl (aZ rfl rfl k2 (cF _)) ?_;rintro _ h3 ⟨rfl,Y,x3,z3⟩;have Y:aC h3 h1.size 25 (aG (fD s).2):=Y;have U:aj h1 h3:=aj.only e2 x3 (Nat.le_refl _);have J:=e1.trans U;have I:=rQ ((hg.ah J).esc) (hv.ah U) s (fD s).2 hb (by omega) hP;refine af ?_;refine xp rfl (cj rfl Y.row) (xo rfl (aE rfl I) ?_);rintro _ h4 ⟨e4,lv,rfl,Z⟩;refine af ?_;refine aP ?_;exact⟨_,rfl,J.trans e4,_,rfl,Z.mv (Mv.bY (Ext.refl (λ_=>False) _) λb _ ho=>⟨λk=>k,λq=>ho (by have:=J.size;omega)⟩)⟩
abbrev Pk:By:=[49,32,43,32,50,32,42,32,120]
abbrev Pj:By:=[102,40,97,44,32,98,41]
abbrev Ph:By:=[108,101,116,32,121,32,61,32,34,97,92,110,34]
abbrev Pg:By:=[49,32,43]
abbrev Pf:By:=[97,32,98]
abbrev PA:Tr:=.mk 5 [43] [.mk 0 [49] [],.mk 5 [42] [.mk 0 [50] [],.mk 3 [120] []]]
abbrev Pz:Tr:=.mk 9 [] [.mk 9 [] [.mk 3 [102] [],.mk 3 [97] []],.mk 3 [98] []]
abbrev Q1:Tr:=.mk 7 [121] [.mk 1 [97,10] []]
theorem Q9:eJ Pk (fD Pk).1 (fD Pk).2.1 [PA] 0 0:=.ok (u:=[(5,[49],0),(6,[43],2),(5,[50],4),(6,[42],6),(3,[120],8)]) (n:=40) (r:=[]) (by decide +kernel) (by kernel_rfl)
theorem Q8:eJ Pj (fD Pj).1 (fD Pj).2.1 [Pz] 0 0:=.ok (u:=[(3,[102],0),(7,[40],1),(3,[97],2),(6,[44],3),(3,[98],5),(8,[41],6)]) (n:=40) (r:=[]) (by decide +kernel) (by kernel_rfl)
theorem Q7:eJ Ph (fD Ph).1 (fD Ph).2.1 [Q1] 0 0:=.ok (u:=[(4,[108,101,116],0),(3,[121],4),(6,[61],6),(9,[97,10],8)]) (n:=40) (r:=[]) (by decide +kernel) (by kernel_rfl)
theorem Q6:eJ Pg (fD Pg).1 (fD Pg).2.1 [] 3 10:=.bad (u:=[(5,[49],0),(6,[43],2)]) (n:=40) (k:=[.mk 5 [43] [.mk 0 [49] [],.mk 0 [] []]]) (by decide +kernel) (by kernel_rfl)
theorem Q5:eJ Pf (fD Pf).1 (fD Pf).2.1 [] 2 10:=.bad (u:=[(3,[97],0),(3,[98],2)]) (n:=40) (k:=[.mk 3 [97] []]) (by decide +kernel) (by kernel_rfl)
theorem Q4:wv PA=[40,49,32,43,32,40,50,32,42,32,120,41,41]:=by decide +kernel
theorem Q3:wv Pz=[102,40,97,41,40,98,41]:=by decide +kernel
theorem sB {O:Nat->Prop}{v:Value}{x:Tr}(k:aL eN h O v [x]):∃b o cs c,v= .slice (some ⟨b,o,none⟩) 1 c/\Lw.rowAt h b o cs/\eN.R h O cs x:=by
 obtain⟨a,n,c,rfl,hw⟩:=k.open;have J:1=n:=hw.len;subst J;obtain⟨b,o,x',cs,U,_,I,hr,Y⟩:=Sl.nd hw (show 0<1 by decide);cases I;rw[Nat.zero_mul,Nat.add_zero] at hr;exact⟨b,o,cs,c,by rw[U],hr,Y⟩
theorem sw (hg:Gl h):au prog 4 #[] h (bK λr h'=>r= .bool true/\aj h h'):=by
 obtain⟨lim,hl1,hl2⟩:=hg.lx.sg;refine bJ ?_;refine af ?_;refine xo rfl (aE rfl (G2 hl2 hl1 hg.lx.tens hg.lx.rules)) ?_;rintro p h1 ⟨kx,e1⟩;have g1:=hg.ah e1;refine af ?_;refine xo rfl (aE rfl (kq g1 kx Pk (by decide) Q9)) ?_;rintro _ h2 ⟨e2,v2,rfl,s2⟩;refine af ?_;refine xo rfl (aE rfl (kq (g1.ah e2) (kx.ah e2) Pj (by decide) Q8)) ?_;rintro _ h3 ⟨e3,v3,rfl,s3⟩;have e13:=e2.trans e3;refine af ?_;refine xo rfl (aE rfl (kq (g1.ah e13) (kx.ah e13) Ph (by decide) Q7)) ?_;rintro _ h4 ⟨e4,v4,rfl,s4⟩;have e14:=e13.trans e4;refine af ?_;refine xo rfl (aE rfl (kq (g1.ah e14) (kx.ah e14) Pg (by decide) Q6)) ?_;rintro _ h5 ⟨e5,v5,rfl,s5⟩;have e15:=e14.trans e5;refine af ?_;refine xo rfl (aE rfl (kq (g1.ah e15) (kx.ah e15) Pf (by decide) Q5)) ?_;rintro _ h6 ⟨e6,v6,rfl,s6⟩;have e46:=e5.trans e6;have e36:=e4.trans e46;have e26:=e3.trans e36;have g6:=g1.ah (e2.trans e26);obtain⟨b2,o2,cs2,c2,rfl,r2,R2⟩:=sB (s2.ah e26);obtain⟨b3,o3,cs3,c3,rfl,r3,R3⟩:=sB (s3.ah e36);obtain⟨b4,o4,cs4,c4,rfl,r4,R4⟩:=sB (s4.ah e46);obtain⟨w4,rfl,t4⟩:=lJ R4;obtain⟨b7,o7,cs7,c7,rfl,r7,R7⟩:=sB t4;obtain⟨w7,rfl,_⟩:=lJ R7
 iterate 7 refine aR ?_
 refine cO ?_
 iterate 2 refine aQ ?_
 refine dU [(80,.bool false)] rfl ?_ ?_
 · iterate 3 refine aR ?_
   refine RW.bw (d:=50) (b':=false) rfl (decide_eq_false ((by decide))) ?_
   iterate 4 refine aR ?_
   refine RW.bw (d:=54) (b':=false) rfl (decide_eq_false ((by decide))) ?_
   iterate 4 refine aR ?_
   refine RW.bw (d:=58) (b':=false) rfl (decide_eq_false ((by decide))) ?_;refine KA 1 rfl rfl (az.mL underlying28 rfl) ?_;refine B6 3 rfl ?_;refine RW.bw (d:=63) (b':=false) rfl (decide_eq_false ((by decide))) ?_
   iterate 5 refine aR ?_
   refine RW.bw (d:=68) (b':=false) rfl (decide_eq_false ((by decide))) ?_
   iterate 5 refine aR ?_
   refine RW.bw (d:=73) (b':=false) rfl (decide_eq_false ((by decide))) ?_;refine B6 1 rfl ?_;refine xp rfl (bZ rfl rfl 0 rfl rfl (by decide)) ?_;refine af ?_;refine xp rfl (aA rfl (by rw[Nat.zero_mul,Nat.add_zero];exact r4 2 _ rfl)) ?_;refine af ?_;exact aD rfl ⟨ai rfl (rfl),sb rfl⟩
 · refine dB rfl (by simp) ?_;obtain⟨w2,rfl,_⟩:=lJ R2;obtain⟨w3,rfl,_⟩:=lJ R3;have hs1:=yK (x:=PA) (by decide) g6 (dK.of R2)
   iterate 2 refine aQ ?_
   refine H9 (fun(u:Unit) (h':aq)=>aj h6 h') (fun(u:Unit)=>[(0,.bool true)]) rfl ?_ ?_
   · refine aR ?_;refine xp rfl (bZ rfl rfl 0 rfl rfl (by decide)) ?_;refine xp rfl (cj rfl (by rw[Nat.zero_mul,Nat.add_zero];exact r2)) ?_;refine xo rfl (aE rfl hs1) ?_;rintro _ h7 ⟨rfl,e7⟩
     iterate 2 refine aR ?_
     refine RW.bw (d:=86) (b':=true) rfl (decide_eq_true ((by rw[Q4];rfl))) ?_;have hs2:=yK (x:=Pz) (by decide) (g6.ah e7) ((dK.of R3).mv (Mv.ah e7));refine B6 1 rfl ?_;refine xp rfl (bZ rfl rfl 0 rfl rfl (by decide)) ?_;refine xp rfl (cj rfl (by rw[Nat.zero_mul,Nat.add_zero];exact e7.rowAt (λk=>k) r3)) ?_;refine xo rfl (aE rfl hs2) ?_;rintro _ h8 ⟨rfl,e8⟩
     iterate 3 refine aR ?_
     refine RW.bw (d:=93) (b':=true) rfl (decide_eq_true ((by rw[Q3];rfl))) ?_;have e78:=e7.trans e8;have r4':=e78.rowAt (λk=>k) r4;refine B6 1 rfl ?_;refine xp rfl (bZ rfl rfl 0 rfl rfl (by decide)) ?_;refine aR ?_;refine xp rfl (aA rfl (by rw[Nat.zero_mul,Nat.add_zero];exact r4' 0 _ rfl)) ?_
     iterate 3 refine aR ?_
     refine RW.bw (d:=100) (b':=true) rfl (decide_eq_true (rfl)) ?_;refine B6 1 rfl ?_;refine xp rfl (bZ rfl rfl 0 rfl rfl (by decide)) ?_;refine aR ?_;refine xp rfl (aA rfl (by rw[Nat.zero_mul,Nat.add_zero];exact r4' 1 _ rfl)) ?_
     iterate 3 refine aR ?_
     refine RW.bw (d:=107) (b':=true) rfl (decide_eq_true (rfl)) ?_;refine B6 1 rfl ?_;refine xp rfl (bZ rfl rfl 0 rfl rfl (by decide)) ?_;refine af ?_;refine xp rfl (aA rfl (by rw[Nat.zero_mul,Nat.add_zero];exact r4' 2 _ rfl)) ?_;refine xp rfl (bZ rfl rfl 0 rfl rfl (by decide)) ?_;refine af ?_;refine xp rfl (aA rfl (by rw[Nat.zero_mul,Nat.add_zero];exact(e78.rowAt (λk=>k) r7) 1 _ rfl)) ?_;refine af ?_;refine RW.bw (d:=117) (b':=true) rfl (decide_eq_true (rfl)) ?_;refine af ?_;refine RW.bw (d:=121) (b':=true) rfl (decide_eq_true (rfl)) ?_;refine af ?_;refine RW.bw (d:=125) (b':=true) rfl (decide_eq_true (rfl)) ?_;refine af ?_;refine RW.bw (d:=129) (b':=true) rfl (decide_eq_true (rfl)) ?_;refine af ?_;exact lN () e78 ⟨ai rfl (rfl),sb rfl⟩
   · rintro u h7 e7;refine aP ?_;exact⟨_,rfl,rfl,e1.trans ((e2.trans e26).trans e7)⟩
end
end Go.Proofs.YtnjahnbpnpkmhaaGreatDoor
namespace Go.Proofs.YtnjahnbpnpkmhaaGreatDoor
open Go.Proofs.Tryz
open Go Go.Lw
set_option maxRecDepth 20000 set_option maxHeartbeats 4000000
section
variable {k n b3:Nat}{l:List Tr}{x:Tr}{h g:aq}{O:Nat->Prop}{v:Value}{c:PC}{s s' s1:PS}
def Ng (x:Tr):Prop:=∀(h:aq) (O:Nat->Prop) (v:Value),dK h O v x->au prog 22 #[v] h (bK λr h'=>aj h h'/\dK h' (λb=>b<h.size) r x)
theorem MY {k:Int}{t:By}(hw:(Tr.mk k t l).wt<=1000000) (hk:∀x∈l,Ng x):Ng (.mk k t l):=by
 intro h O v hv;obtain⟨w,rfl,hw0⟩:=id hv.open;obtain⟨a,n,c,rfl,hws⟩:=id hw0.open;have hn:l.length=n:=hws.len;subst hn;have hcap:=hws.cap;have hle:=hws.le;simp only[maxLen] at hcap
 have hll:l.length<=1000000:=by
  have h2:=oL l false 0;have h4:(Tr.mk k t l).wt=2*t.length+20+oE l:=by rw[Tr.wt]
  omega
 refine bJ ?_;refine af ?_;refine xo rfl (mh) ?_;rintro _ h1 ⟨rfl,k1,e1,z1⟩;refine xo rfl (cL) ?_;rintro _ h2 ⟨rfl,k2,e2,z2⟩;have k1:aC h2 h.size 41 (rR k t a l.length c):=k1.ah e2;have k2:aC h2 h1.size 62 (rR 0 [] none 0 0):=k2;refine af ?_;refine xp rfl (aA rfl (k1.cell (i:=0) rfl)) ?_;refine af ?_;refine xp rfl (aA rfl (k1.cell (i:=1) rfl)) ?_;refine xp rfl (av (H.J1 _ _) rfl) ?_;refine xo rfl (cL) ?_;rintro _ h3 ⟨rfl,k3,e3,z3⟩;refine aO rfl (aZ rfl rfl k3 eY) ?_;rintro _ h4 ⟨rfl,k4,x4,z4⟩;have k4:aC h4 h2.size 62 (rR k t none 0 0):=k4;have k14:=(k1.ah e3).ext x4 (show ¬h.size=h2.size by omega);have k24:=(k2.ah e3).ext x4 (show ¬h1.size=h2.size by omega);have e04:aj h h4:=aj.only ((e1.trans e2).trans e3) x4 (by omega);refine af ?_;refine fK (σ:=Nat×Value) (λw=>[(4,.int .i64 (w.1:Nat))]) (λw g=>w.1<=l.length/\aj h g/\aC g h.size 41 (rR k t a l.length c)/\aC g h1.size 62 (rR 0 [] none 0 0)/\aC g h2.size 62 [.int .i64 k,.string (bs t),w.2]/\cH eN (λb=>b<=h2.size) g (h2.size+1) 62 w.2 (l.take w.1)) (λw=>l.length-w.1) ((0,.slice none 0 0)) ⟨Nat.zero_le _,e04,k14,k24,k4,cH.nil _ _ _ _ _⟩ rfl ?_;rintro⟨i,ov⟩ g ⟨hi,eg,kg1,kg2,kg3,how⟩ ih
 try dsimp only
 dsimp only at hi kg3 how;have htl:(l.take i).length=i:=by rw[List.length_take];omega
 obtain⟨cells,hown⟩:=how.own;rw[htl] at hown;obtain⟨oa,oc,rfl,_⟩:=hown.open;have hol:∀b,(Value.slice oa i oc).ownBlock=some b->h2.size+1<=b/\b<g.size:=λb q=>hown.lt q
 have kl3:=kg3.lt;refine af ?_;refine xp rfl (aA rfl (kg1.cell (i:=2) rfl)) ?_;refine af ?_;refine aN (λhlt=>?_) (λhlt=>?_)
 · have hil:i<l.length:=by omega
   obtain⟨b,o,x,xk,xt,xa,xn,xc,ha,hx,hrow,hnx,_,_⟩:=nI hws hil;have hb:b<h.size:=eT hrow (by simp);have hrowg:=eg.rowAt (λk=>k) hrow
   have hM:∀y,y<=h2.size->¬(bU (Value.slice oa i oc).ownBlock y\/Array.size g<=y):=λy hy q=>by
    rcases q with q|q
    · have:=hol y q.symm;omega
    · omega
   have hM3:=hM h2.size (Nat.le_refl _);have hM1:=hM h.size (by omega);have hcall:=hk x (List.mem_of_getElem? hx) g O _ (hnx.mv (Mv.ah eg));refine af ?_;refine jK 12 (λb=>bU (Value.slice oa i oc).ownBlock b\/Array.size g<=b) (λi=>Nat.blt i 11) ?_;refine aF 0 ?_;refine bq 1 rfl (λh' e=>aA rfl (e.cell hM3 (kg3.cell (i:=2) rfl))) ?_;refine aF 2 ?_;refine bq 3 rfl (λh' e=>aA rfl (e.cell hM1 (kg1.cell (i:=2) rfl))) ?_;refine aF 4 ?_;refine bq 5 rfl (λh' e=>bZ rfl rfl i rfl ha) ?_;refine bq 6 rfl (λh' e=>cj rfl (e.rowAt (hM _ (by omega)) hrowg)) ?_;refine cV 7 rfl (aE rfl hcall) ?_;rintro r5 h5 ⟨e5,hn5⟩;refine⟨λ_=>e5.of,?_⟩;obtain⟨mk,mt,ma,mn,mc,rfl,hr5⟩:=hn5.get;have how5:=how.ah e5;obtain⟨css,hc1,hc2,hc3⟩:=id how5;have hc2':aB h5 (h2.size+1) 62 3 (.slice oa i oc) i css.flatten:=by rw[htl] at hc2;exact hc2
   refine cV 8 rfl (lg) ?_;rintro _ _ ⟨rfl,rfl⟩;refine⟨λ_=>by first|exact Ext.push _ _ _|assumption,?_⟩;refine cV 9 rfl (vL rfl rfl hc2' rfl rfl (by omega) (by have:=e5.size;omega)) ?_;rintro v6 h6 ⟨ho6,hx6,hx6',hv6⟩;refine⟨λ_=>hx6'.mono (λb _ q=>.inl q),?_⟩;have z5:=e5.size;have z6:=hx6.size;obtain⟨va,vc,rfl,_⟩:=ho6.open;have hne:∀y,y<=h2.size->¬bU (Value.slice oa i oc).ownBlock y:=λy hy q=>by have:=hol y q.symm;omega
   refine aF 10 ?_;refine gU 11 rfl (iG rfl rfl (((kg3.ah e5).ext hx6 (hne _ (Nat.le_refl _))))) ?_;rintro _ h7 ⟨rfl,k7,x7,z7⟩;refine⟨nofun,?_⟩
   have hr5':eN.R h5 (λb=>bU (Value.slice oa i oc).ownBlock b\/b<=h2.size) [.int .i64 mk,.string (bs mt),.slice ma mn mc] x:=aK hr5 (Ext.refl (λ_=>False) _) (λy hy q=>⟨λk=>k,λq2=>by
    rcases q2 with q2|q2
    · have:=hol _ q2.symm;omega
    · omega⟩)
   have ho7:cH eN (λb=>b<=h2.size) h6 (h2.size+1) 62 (.slice va (i+1) vc) (l.take i++[x]):=cH.eC (v:=.slice oa i oc) hc1 hc3 (by rw[htl];exact ho6) hx6 hv6 hr5';have hv7:∀y,(Value.slice va (i+1) vc).ownBlock=some y->h2.size+1<=y:=λy q=>(ho6.lt q).1
   have ho8:=ho7.kU x7 (λy q q2=>by have:=hv7 y q;omega) (λy hy q=>by omega) (λ_ _ q=>q);have e6:aj h h6:=HW (eg.trans e5) (hx6.mono λy _ q=>by have:=hol y q.symm;omega)
   refine fV ?_;refine af ?_;exact ih (i+1,.slice va (i+1) vc) ⟨hil,aj.only e6 x7 (by omega),((kg1.ah e5).ext hx6 (hne _ (by omega))).ext x7 (show ¬h.size=h2.size by omega),((kg2.ah e5).ext hx6 (hne _ (by omega))).ext x7 (show ¬h1.size=h2.size by omega),k7,by rw[List.take_add_one,hx];exact ho8⟩
 · obtain rfl:i=l.length:=by omega
   rw[List.take_length] at how;refine af ?_;refine xp rfl (cj rfl kg3.row) ?_;refine aO rfl (aZ rfl rfl kg2 eY) ?_;rintro _ h5 ⟨rfl,k5,x5,z5⟩;refine af ?_;refine cE (cz rfl k5.row cD) ?_;have how5:=how.kU x5 (λy q q2=>by have:=hol y q;omega) (λy hy q=>by omega) (λ_ _ q=>q);exact⟨_,rfl,aj.only eg x5 (by omega),dK.shut (how5.read (λy hy q=>by omega) (λy hy q=>by omega))⟩
theorem Lb:∀(d:Nat) (x:Tr),x.dep<=d->x.wt<=1000000->Ng x:=by
 intro d
 induction d with
 |zero=>intro x U;cases x with|mk k t l=>simp[Tr.dep] at U
 |succ d J =>
 intro x hd hw;cases x with
 |mk k t l=>exact MY hw λy I=>J y (by have:=vW (k:=k) (t:=t) I;omega) (by have:=qO (k:=k) (t:=t) I;omega)
theorem HA (hw:x.wt<=1000000) (I:dK h O v x):au prog 22 #[v] h (bK λr h'=>aj h h'/\dK h' (λb=>b<h.size) r x):=Lb _ x (Nat.le_refl _) hw h O v I
def O7 (x:Tr):Prop:=∀(y:Tr) (h:aq) (O O':Nat->Prop) (v v':Value),dK h O v x->dK h O' v' y->au prog 21 #[v,v'] h (bK λr h'=>r= .bool (sj x y)/\aj h h')
theorem GM:∀(d:Nat) (x:Tr),x.dep<=d->O7 x:=by
 intro d
 induction d with
 |zero=>intro x hx;cases x with|mk k t l=>simp[Tr.dep] at hx
 |succ d ihd =>
 intro x hd y h O O' v v' hv hv';cases x with
 |mk k t l =>
 cases y with
 |mk k' t' l' =>
  obtain⟨w,rfl,hw⟩:=id hv.open;obtain⟨a,n,c,rfl,hws⟩:=id hw.open;obtain⟨w',rfl,hw'⟩:=id hv'.open;obtain⟨a',n',c',rfl,hws'⟩:=id hw'.open;have hn:l.length=n:=hws.len;have hn':l'.length=n':=hws'.len;subst hn hn';have hcap:=hws.cap;have hle:=hws.le;simp only[maxLen] at hcap;rw[sj];refine bJ ?_;refine af ?_;refine xo rfl (mh) ?_;rintro _ h1 ⟨rfl,k1,e1,z1⟩;refine xo rfl (mh) ?_;rintro _ h2 ⟨rfl,k2,e2,z2⟩;have k1:aC h2 h.size 62 (rR k t a l.length c):=k1.ah e2;have k2:aC h2 h1.size 62 (rR k' t' a' l'.length c'):=k2;have e02:=e1.trans e2;refine aR ?_;refine cO ?_
  iterate 2 refine aQ ?_
  refine dU [(26,.bool (!(decide (k=k') && (decide (t=t') && decide (l.length=l'.length)))))] rfl ?_ ?_
  · refine af ?_;refine xp rfl (aA rfl (k1.cell (i:=0) rfl)) ?_;refine af ?_;refine xp rfl (aA rfl (k2.cell (i:=0) rfl)) ?_;refine af ?_;refine cX 11 (λp=>?_) (λp=>?_)
    · have p:¬k=k':=by simpa using p
      refine af ?_;exact aD rfl ⟨ai rfl (by rw[decide_eq_false p];rfl),sb rfl⟩
    · have p:k=k':=by simpa using p
      refine af ?_;refine xp rfl (aA rfl (k1.cell (i:=1) rfl)) ?_;refine af ?_;refine xp rfl (aA rfl (k2.cell (i:=1) rfl)) ?_;refine af ?_;refine cX 18 (λq=>?_) (λq=>?_)
      · have q:¬t=t':=λr=>by simp[r] at q
        refine af ?_;exact aD rfl ⟨ai rfl (by rw[decide_eq_false q,decide_eq_true p];rfl),sb rfl⟩
      · have q:t=t':=dF (by simpa using q);refine af ?_;refine xp rfl (aA rfl (k1.cell (i:=2) rfl)) ?_;refine af ?_;refine xp rfl (aA rfl (k2.cell (i:=2) rfl)) ?_;refine af ?_;exact aD rfl ⟨ai rfl (by rw[decide_eq_true p,decide_eq_true q,Bool.true_and,Bool.true_and,<-decide_not,decide_eq_decide];omega),sb rfl⟩
  · refine jS (λhb=>?_) (λhb=>?_)
    · have hb:(decide (k=k') && (decide (t=t') && decide (l.length=l'.length)))=false:=by rw[Bool.not_eq_true'] at hb;exact hb
      refine af ?_;refine aP ?_;refine⟨_,rfl,?_,e02⟩
      have:(decide (k=k') && (decide (t=t') && om l l'))=false:=by
       rw[Bool.and_eq_false_iff,Bool.and_eq_false_iff] at hb ⊢;exact hb.imp id (λq=>q.imp id (λq=>IE (of_decide_eq_false q)))
      rw[this];rfl
    · have hb:(decide (k=k') && (decide (t=t') && decide (l.length=l'.length)))=true:=by rw[Bool.not_eq_false'] at hb;exact hb
      rw[Bool.and_eq_true,Bool.and_eq_true] at hb;rw[hb.1,hb.2.1,Bool.true_and,Bool.true_and];have hll:l.length=l'.length:=of_decide_eq_true hb.2.2;refine af ?_;refine fK (σ:=Nat) (λi=>[(5,.int .i64 (i:Nat))]) (λi g=>i<=l.length/\aj h2 g/\om (l.drop i) (l'.drop i)=om l l') (λi=>l.length-i) (0) ⟨Nat.zero_le _,Ext.refl _ _,rfl⟩ rfl ?_;rintro i g ⟨hi,eg,hq⟩ ih;have kg1:=k1.ah eg;have kg2:=k2.ah eg;have e0g:=e02.trans eg;refine af ?_;refine xp rfl (aA rfl (kg1.cell (i:=2) rfl)) ?_;refine af ?_;refine aN (λhlt=>?_) (λhlt=>?_)
      · have hil:i<l.length:=by omega
        obtain⟨b,o,x,xk,xt,xa,xn,xc,ha,hx,hrow,hnx,_,_⟩:=nI (hws.mv (Mv.ah e0g)) hil;obtain⟨b',o',y,yk,yt,ya,yn,yc,ha',hy,hrow',hny,_,_⟩:=nI (hws'.mv (Mv.ah e0g)) (show i<l'.length by omega);rw[drop_cons hx,drop_cons hy,om] at hq;have hcall:=ihd x (by have:=vW (k:=k) (t:=t) (List.mem_of_getElem? hx);omega) y g O O' _ _ hnx hny;refine af ?_;refine Gn 12 12 ?_;refine aF 0 ?_;refine bq 1 rfl (λh' e=>aA rfl (e.old (kg1.cell (i:=2) rfl))) ?_;refine aF 2 ?_;refine bq 3 rfl (λh' e=>bZ rfl rfl i rfl ha) ?_;refine bq 4 rfl (λh' e=>cj rfl (e.Bk hrow)) ?_;refine aF 5 ?_;refine bq 6 rfl (λh' e=>aA rfl (e.old (kg2.cell (i:=2) rfl))) ?_;refine aF 7 ?_;refine bq 8 rfl (λh' e=>bZ rfl rfl i rfl ha') ?_;refine bq 9 rfl (λh' e=>cj rfl (e.Bk hrow')) ?_;refine cV 10 rfl (aE rfl hcall) ?_;rintro _ g5 ⟨rfl,e5⟩;refine⟨λ_=>e5.of,?_⟩;refine aF 11 ?_;refine fV ?_;refine jS (λhb=>?_) (λhb=>?_)
        · have hb:sj x y=false:=by simpa using hb
          refine af ?_;refine aP ?_;exact⟨_,rfl,by rw[<-hq,hb];rfl,e0g.trans e5⟩
        · have hb:sj x y=true:=by simpa using hb
          rw[hb,Bool.true_and] at hq;refine af ?_;exact ih (i+1) ⟨hil,eg.trans e5,hq⟩
      · obtain rfl:i=l.length:=by omega
        rw[List.drop_length,hll,List.drop_length] at hq;refine af ?_;refine aP ?_;exact⟨_,rfl,by rw[<-hq];rfl,e0g⟩
theorem CM {y:Tr}{O':Nat->Prop}{v':Value}(J:dK h O v x) (I:dK h O' v' y):au prog 21 #[v,v'] h (bK λr h'=>r= .bool (sj x y)/\aj h h'):=GM _ x (Nat.le_refl _) y h O O' v v' J I
def vw (u:Un):List Value:=[.int .i64 u.1,.int .i64 u.2.2,.string (bs u.2.1)]
theorem AP (u:Un):∀v∈vw u,v.oneCell'=true:=λv I=>by simp[vw] at I;rcases I with rfl|rfl|rfl<;>rfl
abbrev QE:gW Un:=.record 3 (by decide) vw (λ_=>rfl) AP
abbrev uq:=B1 60 QE
def zm (k:Int) (t:By) (s:PS):Bool:=(bM k [t] s).1.isSome
theorem vZ (hp:uq c h s) (k:Int) (t:By) :
 au prog 40 #[ptr c.pb,.int .i64 k,.string (bs t)] h (bK λr h'=>r= .bool (zm k t s)/\h'=h):=by
 obtain⟨pb,lv,n0,us,e⟩:=c;obtain⟨i,b,m,hk,hl,hi,hs,hpn,hn0⟩:=id hp;dsimp only at hk hl hi hs hpn hn0 ⊢;obtain⟨la,ln,lc,rfl,hls⟩:=hl.open;have hln:us.length=ln:=hls.len;subst hln;have hlm:=hls.cap;have hlc:=hls.le;simp only[maxLen] at hlm;cases s with
 |bad q =>
  obtain⟨rfl,rfl⟩:=hs;refine bJ ?_;refine aQ ?_;refine cI ?_;refine aR ?_;refine cO ?_;refine aQ ?_;refine rP ?_
  iterate 3 refine jD ?_
  refine bF rfl (aA rfl (hk.cell (i:=3) rfl)) ?_
  iterate 2 refine jD ?_
  refine RQ.bw (d:=12) (b':=false) rfl (rfl) ?_;refine af ?_;refine aP ?_;exact⟨_,rfl,rfl,rfl⟩
  |ok r =>
  obtain⟨rfl,hr⟩:=hs;cases r with
  |nil =>
   have hie:=qP hr hi;refine bJ ?_;refine aQ ?_;refine cI ?_;refine aR ?_;refine cO ?_;refine aQ ?_;refine rP ?_
   iterate 3 refine jD ?_
   refine bF rfl (aA rfl (hk.cell (i:=3) rfl)) ?_;refine af ?_;refine RQ.bw (d:=12) (b':=true) rfl (rfl) ?_;refine af ?_;refine bF rfl (aA rfl (hk.cell (i:=1) rfl)) ?_;refine af ?_;refine bF rfl (aA rfl (hk.cell (i:=0) rfl)) ?_;refine af ?_;refine RQ.bw (d:=24) (b':=false) rfl (decide_eq_false ((by omega))) ?_;refine af ?_;refine aP ?_;exact⟨_,rfl,rfl,rfl⟩
   |cons u r =>
   obtain⟨hu,hil,hr'⟩:=rV hls hr;obtain⟨b1,o1,u',hua,hub,hu',hrow⟩:=hls.nA hil;rw[hu] at hu';cases hu';have c0:=hrow 0 _ rfl;have c1:=hrow 2 _ rfl;refine bJ ?_;refine aQ ?_;refine cI ?_;refine aR ?_;refine cO ?_;refine aQ ?_;refine rP ?_
   iterate 3 refine jD ?_
   refine bF rfl (aA rfl (hk.cell (i:=3) rfl)) ?_;refine af ?_;refine RQ.bw (d:=12) (b':=true) rfl (rfl) ?_;refine af ?_;refine bF rfl (aA rfl (hk.cell (i:=1) rfl)) ?_;refine af ?_;refine bF rfl (aA rfl (hk.cell (i:=0) rfl)) ?_;refine af ?_;refine RQ.bw (d:=24) (b':=true) rfl (decide_eq_true ((by omega))) ?_;refine af ?_;refine bF rfl (aA rfl (hk.cell (i:=0) rfl)) ?_;refine af ?_;refine bF rfl (aA rfl (hk.cell (i:=1) rfl)) ?_;refine bF rfl (bZ rfl rfl i rfl hua) ?_;refine af ?_;refine bF rfl (aA rfl c0) ?_;refine af ?_;refine Pc 39 (λhkk=>?_) (λhkk=>?_)
   · have hkk:=of_decide_eq_true hkk;have hkk:u.1=k:=by simpa using hkk
     refine af ?_;refine bF rfl (aA rfl (hk.cell (i:=0) rfl)) ?_;refine af ?_;refine bF rfl (aA rfl (hk.cell (i:=1) rfl)) ?_;refine bF rfl (bZ rfl rfl i rfl hua) ?_;refine af ?_;refine bF rfl (aA rfl c1) ?_;refine af ?_;refine aP ?_;refine⟨_,rfl,?_,rfl⟩
     have hno:zm k t (.ok (u::r))=decide (u.2.1=t):=by
      unfold zm;rw[cm]
      by_cases q:u.2.1=t
      · rw[if_pos ⟨hkk,by simp[q]⟩];simp[q]
      · rw[if_neg (λk=>q (by simpa using k.2))];simp[q]
     rw[hno];exact congrArg Value.bool (decide_eq_decide.2 ⟨λq=>dF q,λq=>congrArg bs q⟩)
   · have hkk:=of_decide_eq_false hkk;have hkk:¬u.1=k:=by simpa using hkk
     refine af ?_;refine aP ?_;have hno:zm k t (.ok (u::r))=false:=by unfold zm;rw[cm,if_neg (λq=>hkk q.1)];rfl
     exact⟨_,rfl,by rw[hno];rfl,rfl⟩
theorem b9 (hp:uq c h s) (k:Int) (t:By) :
 au prog 19 #[ptr c.pb,.int .i64 k,.string (bs t)] h (bK λr h'=>r= .bool (bM k [t] s).1.isSome/\uq c h' (bM k [t] s).2/\Ext (λb=>b=c.pb) h h'):=by
 have I:=vZ hp k t;obtain⟨pb,lv,n0,us,e⟩:=c;obtain⟨i,b,m,hk,hl,hi,hs,U,ac⟩:=id hp;dsimp only at hk hl hi hs U ac ⊢;obtain⟨la,ln,lc,rfl,J⟩:=hl.open;have ad:us.length=ln:=J.len;subst ad;have ae:=J.cap;have hlc:=J.le;simp only[maxLen] at ae;dsimp only at I
 rcases hq:bM k [t] s with ⟨o,s'⟩
 have aa:zm k t s=o.isSome:=by unfold zm;rw[hq]
 rw[aa] at I;cases o with
 |none =>
  have:=aM hq;subst this;refine bJ ?_;refine af ?_;refine xo rfl (aE rfl I) ?_;rintro _ h ⟨rfl,rfl⟩;refine af ?_;refine dc rfl (by simp) ?_;refine af ?_;refine aP ?_;exact⟨_,rfl,rfl,hp,Ext.refl _ _⟩
  |some x =>
  obtain⟨u,r,rfl,rfl,_⟩:=oZ hq;obtain⟨rfl,hr⟩:=hs;obtain⟨hu,ag,ab⟩:=rV J hr;refine bJ ?_;refine af ?_;refine xo rfl (aE rfl I) ?_;rintro _ h ⟨rfl,rfl⟩;refine af ?_;refine dB rfl (by simp) ?_;refine af ?_;refine xp rfl (aA rfl (hk.cell (i:=1) rfl)) ?_;refine af ?_;refine aO rfl (iG rfl rfl hk) ?_;rintro _ h1 ⟨rfl,k1,Z,z1⟩;refine af ?_;refine aP ?_;have Y:=J.mv (Mv.bY Z λb _ ho=>⟨λq=>ho (.inl q),ho⟩);exact⟨_,rfl,rfl,⟨i+1,false,m,k1,Y.shut,ag,⟨rfl,ab⟩,U,by have:=Z.size;dsimp only;omega⟩,Z⟩
theorem gN (hp:uq c h s) :
 au prog 20 #[ptr c.pb] h (bK λ_ h'=>uq c h' (cu c.e s)/\Ext (λb=>b=c.pb) h h'):=by
 obtain⟨pb,lv,n0,us,e⟩:=c;obtain⟨i,b,m,hk,hl,hi,hs,hpn,hn0⟩:=id hp;dsimp only at hk hl hi hs hpn hn0 ⊢;obtain⟨la,ln,lc,rfl,hls⟩:=hl.open;have hln:us.length=ln:=hls.len;subst hln;have hlm:=hls.cap;have hlc:=hls.le;simp only[maxLen] at hlm;cases s with
 |bad q =>
  obtain⟨rfl,rfl⟩:=hs;refine bJ ?_;refine af ?_;refine xp rfl (aA rfl (hk.cell (i:=3) rfl)) ?_;refine af ?_;refine dc rfl (by simp) ?_;refine aP ?_;exact⟨_,rfl,hp,Ext.refl _ _⟩
  |ok r =>
  obtain⟨rfl,hr⟩:=hs;refine bJ ?_;refine af ?_;refine xp rfl (aA rfl (hk.cell (i:=3) rfl)) ?_;refine af ?_;refine dB rfl (by simp) ?_;refine af ?_;refine xp rfl (aA rfl (hk.cell (i:=2) rfl)) ?_;refine af ?_;refine aO rfl (iG rfl rfl hk) ?_;rintro _ h2 ⟨rfl,k2,x2,z2⟩;refine af ?_;refine aO rfl (iG rfl rfl k2) ?_;rintro _ h3 ⟨rfl,k3,x3,z3⟩;refine af ?_;have x13:=x2.trans x3;have hls3:=hls.mv (Mv.bY x13 λb _ ho=>⟨λq=>ho (.inl q),ho⟩);refine bF rfl (aA rfl (k3.cell (i:=1) rfl)) ?_;refine af ?_;refine bF rfl (aA rfl (k3.cell (i:=0) rfl)) ?_;refine af ?_;have zz:=x13.size;refine aN (λhlt=>?_) (λhlt=>?_)
  · have hil:i<us.length:=by omega
    obtain⟨b1,o1,u,hua,hub,hu,hrow⟩:=hls3.nA hil;refine Gn 15 14 ?_;refine aF 0 ?_;refine aF 1 ?_;refine aF 2 ?_;refine aF 3 ?_;refine bq 4 rfl (λh' e=>aA rfl (e.old (k3.cell (i:=0) rfl))) ?_;refine aF 5 ?_;refine aF 6 ?_;refine aF 7 ?_;refine bq 8 rfl (λh' e=>aA rfl (e.old (k3.cell (i:=1) rfl))) ?_;refine bq 9 rfl (λh' e=>bZ rfl rfl i rfl hua) ?_;refine aF 10 ?_;refine bq 11 rfl (λh' e=>aA rfl (e.old (hrow 1 _ rfl))) ?_;refine H8 12 ?_;refine aF 13 ?_;refine gU 14 rfl (iG rfl rfl k3) ?_;rintro _ h4 ⟨rfl,k4,x4,z4⟩;refine⟨nofun,?_⟩;refine fV ?_;refine D4 ?_;have hr2:r=u::us.drop (i+1):=by rw[hr,List.drop_eq_getElem_cons hil];congr 1;rw[List.getElem?_eq_getElem hil] at hu;exact Option.some.inj hu
    subst hr2;have hls4:=hls3.mv (Mv.bY x4 λb _ ho=>⟨λq=>ho (.inl q),ho⟩);have:=x4.size;refine⟨_,rfl,⟨i,true,u.2.2,k4,hls4.shut,hi,⟨rfl,rfl⟩,hpn,by dsimp only;omega⟩,x13.trans x4⟩
  · refine af ?_;refine D4 ?_;have hil:i=us.length:=by omega
    have hr2:r=[]:=by rw[hr,hil,List.drop_length]
    subst hr2;refine⟨_,rfl,⟨i,true,e,k3,hls3.shut,hi,⟨rfl,rfl⟩,hpn,by dsimp only;omega⟩,x13⟩
theorem gO (Z:uq c h s) (k:Int) (t:By) :
 au prog 73 #[ptr c.pb,.int .i64 k,.string (bs t)] h (bK λ_ h'=>uq c h' (bV c.e k t s)/\Ext (λb=>b=c.pb) h h'):=by
 have hpl:=Z.lt;refine bJ ?_;refine af ?_;refine xo rfl (aE rfl (b9 Z k t)) ?_;rintro _ h2 ⟨rfl,I,Y⟩
 rcases J:bM k [t] s with ⟨o,s1⟩
 rw[J] at I
 rcases o with _|x
 · have hm:bV c.e k t s=cu c.e s1:=by unfold bV;rw[J]
   refine af ?_;refine dc rfl (by simp) ?_;refine af ?_;refine xo rfl (aE rfl (gN I)) ?_;rintro _ h3 ⟨U,x3⟩;refine af ?_;refine D4 ?_;exact⟨_,rfl,by rw[hm];exact U,Y.trans x3⟩
 · have hm:bV c.e k t s=s1:=by unfold bV;rw[J]
   refine af ?_;refine dB rfl (by simp) ?_;refine af ?_;refine D4 ?_;exact⟨_,rfl,by rw[hm];exact I,Y⟩
theorem uy (hp:uq c h s) :
 au prog 72 #[ptr c.pb] h (bK λr h'=>r= .string (bs (cg c.e s).1)/\uq c h' (cg c.e s).2/\Ext (λb=>b=c.pb) h h'):=by
 have hf:=gN hp;obtain⟨pb,lv,n0,us,e⟩:=c;obtain⟨i,b,m,hk,hl,hi,hs,hpn,hn0⟩:=id hp;dsimp only at hk hl hi hs hpn hn0 ⊢;obtain⟨la,ln,lc,rfl,hls⟩:=hl.open;have hln:us.length=ln:=hls.len;subst hln;have hlm:=hls.cap;have hlc:=hls.le;simp only[maxLen] at hlm;dsimp only at hf;cases s with
 |bad q =>
  obtain⟨rfl,rfl⟩:=hs;refine bJ ?_;refine aQ ?_;refine cI ?_;refine aR ?_;refine cO ?_
  iterate 2 refine aQ ?_
  refine rP ?_
  iterate 3 refine jD ?_
  refine bF rfl (aA rfl (hk.cell (i:=3) rfl)) ?_;refine jD ?_;refine RQ.bw (d:=7) (b':=true) rfl (rfl) ?_;refine af ?_;refine dc rfl (by simp) ?_;refine af ?_;refine xo rfl (aE rfl hf) ?_;rintro _ h2 ⟨hp2,x2⟩;refine af ?_;refine aP ?_;exact⟨_,rfl,rfl,hp2,x2⟩
  |ok r =>
  obtain⟨rfl,hr⟩:=hs;cases r with
  |nil =>
   have hie:=qP hr hi;refine bJ ?_;refine aQ ?_;refine cI ?_;refine aR ?_;refine cO ?_
   iterate 2 refine aQ ?_
   refine rP ?_
   iterate 3 refine jD ?_
   refine bF rfl (aA rfl (hk.cell (i:=3) rfl)) ?_;refine af ?_;refine RQ.bw (d:=7) (b':=false) rfl (rfl) ?_;refine af ?_;refine bF rfl (aA rfl (hk.cell (i:=1) rfl)) ?_;refine af ?_;refine bF rfl (aA rfl (hk.cell (i:=0) rfl)) ?_;refine af ?_;refine RQ.bw (d:=19) (b':=true) rfl (decide_eq_true ((by omega))) ?_;refine af ?_;refine dc rfl (by simp) ?_;refine af ?_;refine xo rfl (aE rfl hf) ?_;rintro _ h2 ⟨hp2,x2⟩;refine af ?_;refine aP ?_;exact⟨_,rfl,rfl,hp2,x2⟩
   |cons u r =>
   obtain⟨hu,hil,hr'⟩:=rV hls hr;obtain⟨b1,o1,u',hua,hub,hu',hrow⟩:=hls.nA hil;rw[hu] at hu';cases hu';have c0:=hrow 0 _ rfl;refine bJ ?_;refine aQ ?_;refine cI ?_;refine aR ?_;refine cO ?_
   iterate 2 refine aQ ?_
   refine rP ?_
   iterate 3 refine jD ?_
   refine bF rfl (aA rfl (hk.cell (i:=3) rfl)) ?_;refine af ?_;refine RQ.bw (d:=7) (b':=false) rfl (rfl) ?_;refine af ?_;refine bF rfl (aA rfl (hk.cell (i:=1) rfl)) ?_;refine af ?_;refine bF rfl (aA rfl (hk.cell (i:=0) rfl)) ?_;refine af ?_;refine RQ.bw (d:=19) (b':=false) rfl (decide_eq_false ((by omega))) ?_;refine af ?_;refine bF rfl (aA rfl (hk.cell (i:=0) rfl)) ?_;refine af ?_;refine bF rfl (aA rfl (hk.cell (i:=1) rfl)) ?_;refine bF rfl (bZ rfl rfl i rfl hua) ?_;refine af ?_;refine bF rfl (aA rfl c0) ?_;refine af ?_;refine jS (λhkk=>?_) (λhkk=>?_)
   · have hkk:¬u.1=3:=by simpa using hkk
     refine af ?_;refine xo rfl (aE rfl hf) ?_;rintro _ h2 ⟨hp2,x2⟩;refine af ?_;refine aP ?_;have hno:cg e (.ok (u::r))=([],cu e (.ok (u::r))):=by rw[iR,if_neg hkk]
     rw[hno];exact⟨_,rfl,rfl,hp2,x2⟩
   · have hkk:u.1=3:=by simpa using hkk
     refine af ?_;refine xp rfl (aA rfl (hk.cell (i:=1) rfl)) ?_;refine af ?_;refine aO rfl (iG rfl rfl hk) ?_;rintro _ h1 ⟨rfl,k1,x1,z1⟩;refine af ?_;have hls1:=hls.mv (Mv.bY x1 λb _ ho=>⟨λq=>ho (.inl q),ho⟩);obtain⟨b2,o2,u2,hua2,hub2,hu2,hrow2⟩:=hls1.nA hil;rw[hu] at hu2;cases hu2;refine bF rfl (aA rfl (k1.cell (i:=0) rfl)) ?_;refine af ?_;refine bF rfl (aA rfl (k1.cell (i:=1) rfl)) ?_;refine jD ?_;refine bF rfl (bZ rfl rfl i (by omega) hua2) ?_;refine af ?_;refine bF rfl (aA rfl (hrow2 2 _ rfl)) ?_;refine af ?_;refine aP ?_;have hyes:cg e (.ok (u::r))=(u.2.1,.ok r):=by rw[iR,if_pos hkk]
     rw[hyes];exact⟨_,rfl,rfl,⟨i+1,false,m,k1,hls1.shut,hil,⟨rfl,hr'⟩,hpn,by have:=x1.size;dsimp only;omega⟩,x1⟩
def qW (k:Nat) (d:Int) (w:By):By :=
 if d=4/\(k=0/\w=tA\/k=1/\w=iL) then w else if d≠6 then [] else if w=oe then (if k=0 then tA else []) else if w=og then (if k=1 then iL else [])
 else if w∈mq then (if k=3 then w else []) else if w∈qo then (if k=4 then w else []) else if w∈jh then (if k=5 then w else []) else []
theorem MC (hk:k=0\/k=1\/k=3\/k=4\/k=5) (u:Un) (r:List Un):(yX k (.ok (u::r))).1.getD []=qW k u.1 u.2.1:=by
 obtain⟨d,w,a⟩:=u;have one:∀ts:List By,(bM 6 ts (.ok ((d,w,a)::r))).1.getD []=if d=6/\w∈ts then w else []:=λts=>by rw[cm];split<;>rfl
 have Y:∀x∈mq,x≠oe/\x≠og/\x∉qo/\x∉jh:=by decide
 have U:∀x∈qo,x≠oe/\x≠og/\x∉mq/\x∉jh:=by decide
 have dl:∀x∈jh,x≠oe/\x≠og/\x∉qo/\x∉mq:=by decide
 unfold qW;dsimp only
 rcases hk with rfl|rfl|rfl|rfl|rfl
 · rw[I6]
   by_cases J:d=4/\w=tA
   · rw[cm,if_pos ⟨J.1,by simp[J.2]⟩,if_pos ⟨J.1,.inl ⟨rfl,J.2⟩⟩];exact J.2.symm
   · rw[cm,if_neg (λk=>J ⟨k.1,by simpa using k.2⟩),if_neg (by simpa using J)];dsimp only
     by_cases I:d=6
     · by_cases q:w=oe
       · rw[cm,if_pos ⟨I,by simp[q]⟩];simp[I,q]
       · rw[cm,if_neg (λk=>q (by simpa using k.2))];simp[I,q]
     · rw[cm,if_neg (λk=>I k.1)];simp[I]
 · rw[I5]
   by_cases J:d=4/\w=iL
   · rw[cm,if_pos ⟨J.1,by simp[J.2]⟩,if_pos ⟨J.1,.inr ⟨rfl,J.2⟩⟩];exact J.2.symm
   · rw[cm,if_neg (λk=>J ⟨k.1,by simpa using k.2⟩),if_neg (by simpa using J)];dsimp only
     by_cases I:d=6
     · by_cases q:w=og
       · rw[cm,if_pos ⟨I,by simp[q]⟩];simp[I,q]
       · rw[cm,if_neg (λk=>q (by simpa using k.2))];simp[I,q]
     · rw[cm,if_neg (λk=>I k.1)];simp[I]
 · rw[I4,one,if_neg (show ¬(d=4/\(3=0/\w=tA\/3=1/\w=iL)) by simp)]
   by_cases h:d=6/\w∈mq
   · obtain⟨g1,g2,_⟩:=Y _ h.2;rw[if_pos h,if_neg (Classical.not_not.2 h.1),if_neg g1,if_neg g2,if_pos h.2,if_pos rfl]
   · rw[if_neg h]
     by_cases I:d=6
     · rw[if_neg (Classical.not_not.2 I),if_neg (show ¬w∈mq from λq=>h ⟨I,q⟩)];simp
     · rw[if_pos I]
 · rw[I3,one,if_neg (show ¬(d=4/\(4=0/\w=tA\/4=1/\w=iL)) by simp)]
   by_cases h:d=6/\w∈qo
   · obtain⟨g1,g2,g3,_⟩:=U _ h.2;rw[if_pos h,if_neg (Classical.not_not.2 h.1),if_neg g1,if_neg g2,if_neg g3,if_pos h.2,if_pos rfl]
   · rw[if_neg h]
     by_cases I:d=6
     · rw[if_neg (Classical.not_not.2 I),if_neg (show ¬w∈qo from λq=>h ⟨I,q⟩)];simp
     · rw[if_pos I]
 · rw[I2,one,if_neg (show ¬(d=4/\(5=0/\w=tA\/5=1/\w=iL)) by simp)]
   by_cases h:d=6/\w∈jh
   · obtain⟨g1,g2,g3,g4⟩:=dl _ h.2;rw[if_pos h,if_neg (Classical.not_not.2 h.1),if_neg g1,if_neg g2,if_neg g4,if_neg g3,if_pos h.2,if_pos rfl]
   · rw[if_neg h]
     by_cases I:d=6
     · rw[if_neg (Classical.not_not.2 I),if_neg (show ¬w∈jh from λq=>h ⟨I,q⟩)];simp
     · rw[if_pos I]
theorem FM (hk:k=0\/k=1\/k=3\/k=4\/k=5) (s:PS) (h:s= .ok []\/∃m,s= .bad m):(yX k s).1.getD []=[]:=by
 rcases h with rfl|⟨m,rfl⟩<;>rcases hk with rfl|rfl|rfl|rfl|rfl<;>rfl
theorem MD {t:By}(hk:k=0\/k=1\/k=3\/k=4\/k=5) (h:yX k s=(some t,s')):t≠[]:=by
 intro e;subst e;obtain⟨u,r,rfl,_⟩:=sA h
 have key:∀ts:List By,[]∉ts->(bM 6 ts (.ok (u::r))).1≠some []:=λts J q=>by
  rw[cm] at q;split at q
  · rename_i I;exact J (Option.some.inj q▸I.2)
  · cases q
 rcases hk with rfl|rfl|rfl|rfl|rfl
 · rw[I6] at h;split at h
   · cases h
   · split at h<;>cases h
 · rw[I5] at h;split at h
   · cases h
   · split at h<;>cases h
 · rw[I4] at h;exact key mq (by decide) (by rw[h])
 · rw[I3] at h;exact key qo (by decide) (by rw[h])
 · rw[I2] at h;exact key jh (by decide) (by rw[h])
theorem lB {w x:By}(h:bs w=bs x):w=x:=dF h
theorem lA {w x:By}(h:¬bs w=bs x):¬w=x:=λq=>h (congrArg bs q)
theorem Gr (hp:uq c h s) (hk5:k=0\/k=1\/k=3\/k=4\/k=5) :
 au prog 113 #[ptr c.pb,.int .i64 (k:Nat)] h (bK λr h'=>r= .string (bs ((yX k s).1.getD []))/\h'=h):=by
 obtain⟨pb,lv,n0,us,e⟩:=c;obtain⟨i,b,m,hk,hl,hi,hs,hpn,hn0⟩:=id hp;dsimp only at hk hl hi hs hpn hn0 ⊢;obtain⟨la,ln,lc,rfl,hls⟩:=hl.open;have hln:us.length=ln:=hls.len;subst hln;have hlm:=hls.cap;have hlc:=hls.le;simp only[maxLen] at hlm;cases s with
 |bad q =>
  obtain⟨rfl,rfl⟩:=hs;refine bJ ?_;refine aQ ?_;refine cI ?_;refine aR ?_;refine cO ?_
  iterate 2 refine aQ ?_
  refine rP ?_
  iterate 3 refine jD ?_
  refine bF rfl (aA rfl (hk.cell (i:=3) rfl)) ?_;refine jD ?_;refine RQ.bw (d:=11) (b':=true) rfl (rfl) ?_;refine af ?_;refine dc rfl (by simp) ?_;refine af ?_;refine aP ?_;exact⟨_,rfl,by rw[FM hk5 _ (.inr ⟨_,rfl⟩)];rfl,rfl⟩
  |ok r =>
  obtain⟨rfl,hr⟩:=hs;cases r with
  |nil =>
   have hie:=qP hr hi;refine bJ ?_;refine aQ ?_;refine cI ?_;refine aR ?_;refine cO ?_
   iterate 2 refine aQ ?_
   refine rP ?_
   iterate 3 refine jD ?_
   refine bF rfl (aA rfl (hk.cell (i:=3) rfl)) ?_;refine af ?_;refine RQ.bw (d:=11) (b':=false) rfl (rfl) ?_;refine af ?_;refine bF rfl (aA rfl (hk.cell (i:=1) rfl)) ?_;refine af ?_;refine bF rfl (aA rfl (hk.cell (i:=0) rfl)) ?_;refine af ?_;refine dc rfl (by simp[hie]) ?_;refine af ?_;refine aP ?_;exact⟨_,rfl,by rw[FM hk5 _ (.inl rfl)];rfl,rfl⟩
   |cons u r =>
   obtain⟨hu,hil,hr'⟩:=rV hls hr;obtain⟨b1,o1,u',hua,hub,hu',hrow⟩:=hls.nA hil;rw[hu] at hu';cases hu';have c0:=hrow 0 _ rfl;have c1:=hrow 2 _ rfl;have hres:=MC hk5 u r;obtain⟨d,w,a⟩:=u;dsimp only at hres c0 c1;refine bJ ?_;refine aQ ?_;refine cI ?_;refine aR ?_;refine cO ?_
   iterate 2 refine aQ ?_
   refine rP ?_
   iterate 3 refine jD ?_
   refine bF rfl (aA rfl (hk.cell (i:=3) rfl)) ?_;refine af ?_;refine RQ.bw (d:=11) (b':=false) rfl (rfl) ?_;refine af ?_;refine bF rfl (aA rfl (hk.cell (i:=1) rfl)) ?_;refine af ?_;refine bF rfl (aA rfl (hk.cell (i:=0) rfl)) ?_;refine af ?_;refine dB rfl (by simp;omega) ?_;refine af ?_;refine bF rfl (aA rfl (hk.cell (i:=0) rfl)) ?_;refine af ?_;refine bF rfl (aA rfl (hk.cell (i:=1) rfl)) ?_;refine bF rfl (bZ rfl rfl i rfl hua) ?_;refine af ?_;refine bF rfl (aA rfl c0) ?_;refine af ?_;refine bF rfl (aA rfl (hk.cell (i:=0) rfl)) ?_;refine af ?_;refine bF rfl (aA rfl (hk.cell (i:=1) rfl)) ?_;refine bF rfl (bZ rfl rfl i rfl hua) ?_;refine af ?_;refine bF rfl (aA rfl c1) ?_
   iterate 2 refine jD ?_
   refine Qw ?_
   iterate 2 refine aQ ?_
   refine dU [(62,.bool (decide (d=4/\(k=0/\w=tA\/k=1/\w=iL))))] rfl ?_ ?_
   · refine af ?_;refine cX 47 (λa=>?_) (λa=>?_)
     · have a:=of_decide_eq_true a;refine af ?_;refine cX 50 (λb=>?_) (λb=>?_)
       · have b:=of_decide_eq_true b;refine af ?_;refine cX 54 (λg=>?_) (λg=>?_)
         · have g:w=tA:=lB (of_decide_eq_true g);refine af ?_;exact aD rfl ⟨ai rfl (by simp[a,g];omega),sb rfl⟩
         · have g:¬w=tA:=lA (of_decide_eq_false g);refine af ?_;refine RW.bw (d:=57) (b':=false) rfl (decide_eq_false ((by omega))) ?_
           iterate 2 refine Ks ?_
           iterate 3 refine aR ?_
           exact aD rfl ⟨ai rfl (by simp[g];omega),sb rfl⟩
       · have b:=of_decide_eq_false b
         iterate 2 refine Ks ?_
         iterate 5 refine aR ?_
         refine pR (d:=57) rfl (λg=>?_) (λg=>?_)
         · have g:=of_decide_eq_true g;refine af ?_;exact aD rfl ⟨ai rfl (by have hk1:k=1:=(by omega);subst hk1;rw[show decide (d=4/\(1=0/\w=tA\/1=1/\w=iL))=decide (w=iL) by simp[a]];exact JX w iL),sb rfl⟩
         · have g:=of_decide_eq_false g;refine af ?_;exact aD rfl ⟨ai rfl (by simp;omega),sb rfl⟩
     · have a:=of_decide_eq_false a;refine af ?_;exact aD rfl ⟨ai rfl (by simp[a]),sb rfl⟩
   · refine aN (λc62=>?_) (λc62=>?_)
     · refine af ?_;refine aP ?_;exact⟨_,rfl,by rw[hres];unfold qW;rw[if_pos c62];rfl,rfl⟩
     · refine af ?_;refine aN (λc6=>?_) (λc6=>?_)
       · refine af ?_;refine aP ?_;exact⟨_,rfl,by rw[hres];unfold qW;rw[if_neg c62,if_pos c6];rfl,rfl⟩
       · refine af ?_;refine aN (λs1=>?_) (λs1=>?_)
         · have s1:=lB s1;refine af ?_;refine aN (λlv=>?_) (λlv=>?_)
           · refine af ?_;refine aP ?_;exact⟨_,rfl,by rw[hres];unfold qW;rw[if_neg c62,if_neg c6,if_pos s1,if_pos (by omega)];rfl,rfl⟩
           · refine af ?_;refine aP ?_;exact⟨_,rfl,by rw[hres];unfold qW;rw[if_neg c62,if_neg c6,if_pos s1,if_neg (by omega)];rfl,rfl⟩
         · have s1:=lA s1;refine af ?_;refine aN (λs2=>?_) (λs2=>?_)
           · have s2:=lB s2;refine af ?_;refine aN (λlv=>?_) (λlv=>?_)
             · refine af ?_;refine aP ?_;exact⟨_,rfl,by rw[hres];unfold qW;rw[if_neg c62,if_neg c6,if_neg s1,if_pos s2,if_pos (by omega)];rfl,rfl⟩
             · refine af ?_;refine aP ?_;exact⟨_,rfl,by rw[hres];unfold qW;rw[if_neg c62,if_neg c6,if_neg s1,if_pos s2,if_neg (by omega)];rfl,rfl⟩
           · have s2:=lA s2;refine af ?_;refine aN (λva0=>?_) (λva0=>?_)
             · have mm:w∈mq:=by rw[lB va0];decide
               refine af ?_;refine dc rfl (by simp[va0]) ?_;refine af ?_;refine aN (λlv=>?_) (λlv=>?_)
               · refine af ?_;refine aP ?_;exact⟨_,rfl,by rw[hres];unfold qW;rw[if_neg c62,if_neg c6,if_neg s1,if_neg s2,if_pos mm,if_pos (by omega)];rfl,rfl⟩
               · refine af ?_;refine aP ?_;exact⟨_,rfl,by rw[hres];unfold qW;rw[if_neg c62,if_neg c6,if_neg s1,if_neg s2,if_pos mm,if_neg (by omega)];rfl,rfl⟩
             · refine af ?_;refine aN (λva1=>?_) (λva1=>?_)
               · have mm:w∈mq:=by rw[lB va1];decide
                 refine af ?_;refine dc rfl (by simp[va1]) ?_;refine af ?_;refine aN (λlv=>?_) (λlv=>?_)
                 · refine af ?_;refine aP ?_;exact⟨_,rfl,by rw[hres];unfold qW;rw[if_neg c62,if_neg c6,if_neg s1,if_neg s2,if_pos mm,if_pos (by omega)];rfl,rfl⟩
                 · refine af ?_;refine aP ?_;exact⟨_,rfl,by rw[hres];unfold qW;rw[if_neg c62,if_neg c6,if_neg s1,if_neg s2,if_pos mm,if_neg (by omega)];rfl,rfl⟩
               · refine af ?_;refine aN (λva2=>?_) (λva2=>?_)
                 · have mm:w∈mq:=by rw[lB va2];decide
                   refine af ?_;refine dc rfl (by simp[va2]) ?_;refine af ?_;refine aN (λlv=>?_) (λlv=>?_)
                   · refine af ?_;refine aP ?_;exact⟨_,rfl,by rw[hres];unfold qW;rw[if_neg c62,if_neg c6,if_neg s1,if_neg s2,if_pos mm,if_pos (by omega)];rfl,rfl⟩
                   · refine af ?_;refine aP ?_;exact⟨_,rfl,by rw[hres];unfold qW;rw[if_neg c62,if_neg c6,if_neg s1,if_neg s2,if_pos mm,if_neg (by omega)];rfl,rfl⟩
                 · refine af ?_;refine aN (λva3=>?_) (λva3=>?_)
                   · have mm:w∈mq:=by rw[lB va3];decide
                     refine af ?_;refine dc rfl (by simp[va3]) ?_;refine af ?_;refine aN (λlv=>?_) (λlv=>?_)
                     · refine af ?_;refine aP ?_;exact⟨_,rfl,by rw[hres];unfold qW;rw[if_neg c62,if_neg c6,if_neg s1,if_neg s2,if_pos mm,if_pos (by omega)];rfl,rfl⟩
                     · refine af ?_;refine aP ?_;exact⟨_,rfl,by rw[hres];unfold qW;rw[if_neg c62,if_neg c6,if_neg s1,if_neg s2,if_pos mm,if_neg (by omega)];rfl,rfl⟩
                   · refine af ?_;refine aN (λva4=>?_) (λva4=>?_)
                     · have mm:w∈mq:=by rw[lB va4];decide
                       refine af ?_;refine dc rfl (by simp[va4]) ?_;refine af ?_;refine aN (λlv=>?_) (λlv=>?_)
                       · refine af ?_;refine aP ?_;exact⟨_,rfl,by rw[hres];unfold qW;rw[if_neg c62,if_neg c6,if_neg s1,if_neg s2,if_pos mm,if_pos (by omega)];rfl,rfl⟩
                       · refine af ?_;refine aP ?_;exact⟨_,rfl,by rw[hres];unfold qW;rw[if_neg c62,if_neg c6,if_neg s1,if_neg s2,if_pos mm,if_neg (by omega)];rfl,rfl⟩
                     · refine af ?_;refine aN (λva5=>?_) (λva5=>?_)
                       · have mm:w∈mq:=by rw[lB va5];decide
                         refine af ?_;refine aN (λlv=>?_) (λlv=>?_)
                         · refine af ?_;refine aP ?_;exact⟨_,rfl,by rw[hres];unfold qW;rw[if_neg c62,if_neg c6,if_neg s1,if_neg s2,if_pos mm,if_pos (by omega)];rfl,rfl⟩
                         · refine af ?_;refine aP ?_;exact⟨_,rfl,by rw[hres];unfold qW;rw[if_neg c62,if_neg c6,if_neg s1,if_neg s2,if_pos mm,if_neg (by omega)];rfl,rfl⟩
                       · have ncmp:w∉mq:=by simp[mq,(lA va0),(lA va1),(lA va2),(lA va3),(lA va4),(lA va5)]
                         refine af ?_;refine aN (λsa0=>?_) (λsa0=>?_)
                         · have mm:w∈qo:=by rw[lB sa0];decide
                           refine af ?_;refine dc rfl (by simp[sa0]) ?_;refine af ?_;refine aN (λlv=>?_) (λlv=>?_)
                           · refine af ?_;refine aP ?_;exact⟨_,rfl,by rw[hres];unfold qW;rw[if_neg c62,if_neg c6,if_neg s1,if_neg s2,if_neg ncmp,if_pos mm,if_pos (by omega)];rfl,rfl⟩
                           · refine af ?_;refine aP ?_;exact⟨_,rfl,by rw[hres];unfold qW;rw[if_neg c62,if_neg c6,if_neg s1,if_neg s2,if_neg ncmp,if_pos mm,if_neg (by omega)];rfl,rfl⟩
                         · refine af ?_;refine aN (λsa1=>?_) (λsa1=>?_)
                           · have mm:w∈qo:=by rw[lB sa1];decide
                             refine af ?_;refine aN (λlv=>?_) (λlv=>?_)
                             · refine af ?_;refine aP ?_;exact⟨_,rfl,by rw[hres];unfold qW;rw[if_neg c62,if_neg c6,if_neg s1,if_neg s2,if_neg ncmp,if_pos mm,if_pos (by omega)];rfl,rfl⟩
                             · refine af ?_;refine aP ?_;exact⟨_,rfl,by rw[hres];unfold qW;rw[if_neg c62,if_neg c6,if_neg s1,if_neg s2,if_neg ncmp,if_pos mm,if_neg (by omega)];rfl,rfl⟩
                           · have nsum:w∉qo:=by simp[qo,(lA sa0),(lA sa1)]
                             refine af ?_;refine aN (λta0=>?_) (λta0=>?_)
                             · have mm:w∈jh:=by rw[lB ta0];decide
                               refine af ?_;refine dc rfl (by simp[ta0]) ?_;refine af ?_;refine aN (λlv=>?_) (λlv=>?_)
                               · refine af ?_;refine aP ?_;exact⟨_,rfl,by rw[hres];unfold qW;rw[if_neg c62,if_neg c6,if_neg s1,if_neg s2,if_neg ncmp,if_neg nsum,if_pos mm,if_pos (by omega)];rfl,rfl⟩
                               · refine af ?_;refine aP ?_;exact⟨_,rfl,by rw[hres];unfold qW;rw[if_neg c62,if_neg c6,if_neg s1,if_neg s2,if_neg ncmp,if_neg nsum,if_pos mm,if_neg (by omega)];rfl,rfl⟩
                             · refine af ?_;refine aN (λta1=>?_) (λta1=>?_)
                               · have mm:w∈jh:=by rw[lB ta1];decide
                                 refine af ?_;refine dc rfl (by simp[ta1]) ?_;refine af ?_;refine aN (λlv=>?_) (λlv=>?_)
                                 · refine af ?_;refine aP ?_;exact⟨_,rfl,by rw[hres];unfold qW;rw[if_neg c62,if_neg c6,if_neg s1,if_neg s2,if_neg ncmp,if_neg nsum,if_pos mm,if_pos (by omega)];rfl,rfl⟩
                                 · refine af ?_;refine aP ?_;exact⟨_,rfl,by rw[hres];unfold qW;rw[if_neg c62,if_neg c6,if_neg s1,if_neg s2,if_neg ncmp,if_neg nsum,if_pos mm,if_neg (by omega)];rfl,rfl⟩
                               · refine af ?_;refine aN (λta2=>?_) (λta2=>?_)
                                 · have mm:w∈jh:=by rw[lB ta2];decide
                                   refine af ?_;refine aN (λlv=>?_) (λlv=>?_)
                                   · refine af ?_;refine aP ?_;exact⟨_,rfl,by rw[hres];unfold qW;rw[if_neg c62,if_neg c6,if_neg s1,if_neg s2,if_neg ncmp,if_neg nsum,if_pos mm,if_pos (by omega)];rfl,rfl⟩
                                   · refine af ?_;refine aP ?_;exact⟨_,rfl,by rw[hres];unfold qW;rw[if_neg c62,if_neg c6,if_neg s1,if_neg s2,if_neg ncmp,if_neg nsum,if_pos mm,if_neg (by omega)];rfl,rfl⟩
                                 · have nterm:w∉jh:=by simp[jh,(lA ta0),(lA ta1),(lA ta2)]
                                   refine af ?_;refine aP ?_;exact⟨_,rfl,by rw[hres];unfold qW;rw[if_neg c62,if_neg c6,if_neg s1,if_neg s2,if_neg ncmp,if_neg nsum,if_neg nterm];rfl,rfl⟩
def fh (c:PC) (h h':aq) (s':PS) (t:Tr) (r:Value):Prop :=
 Ext (λb=>b=c.pb) h h'/\uq c h' s'/\∃t',dK h' (λb=>b<h.size) r t'/\(s'.bB=false->t'=t)
def Cq (f:FuncId) (ex:List Value) (j:H6) (n:Nat):Prop :=
 ∀(c:PC) (h:aq) (s:PS) (t:Tr) (s':PS),uq c h s->pM c.e n j s=some (t,s')->au prog f (ptr c.pb::ex).toArray h (bK λr h'=>fh c h h' s' t r)
structure Gh (n:Nat):Prop where
 stmt:Cq 18 [] .stmt n
 expr:Cq 39 [] .expr n
 lt:∀a,Cq 38 [.bool a] (.lt a) n
 choice:Cq 74 [] .choice n
 fn:Cq 75 [] .fn n
 block:Cq 111 [] .block n
 part:∀k:Nat,k<=7->Cq 76 [.int .i64 k] (.part k) n
 atom:Cq 134 [] .atom n
theorem fh.ret {g2 g3:aq}{J:Nat}{Y:PS}{t:Tr}{r:Value}(k:fh c g g2 s' t r) (hp:uq c h Y) (x:Ext (λb=>b=c.pb) h g) (I:Ext (λb=>b=J) g2 g3) (h1:h.size<=J) (h2:J<g.size):fh c h g3 s' t r:=by
 obtain⟨U,k1,t',k2,k3⟩:=k;obtain⟨o1,o2⟩:=hp.old;have:=x.size;have:=U.size;exact⟨(x.trans U).cZ I (λi hi q=>by omega),k1.ext I (λb hb q=>by omega),t',k2.ext I (λb hb q=>⟨λZ=>q (by omega),λZ=>q (by omega)⟩),k3⟩
theorem cq {g3:aq}{J:PS}{t t':Tr}(Z:uq c h J) (x:Ext (λb=>b=c.pb) h g) (k:uq c g s') (hn:dK g (λb=>b<=h.size) v t') (Y:s'.bB=false->t'=t) (I:Ext (λb=>b=h.size) g g3):fh c h g3 s' t v:=by
 obtain⟨o1,o2⟩:=Z.old;have:=x.size;exact⟨x.cZ I (λi hi q=>by omega),k.ext I (λb hb q=>by omega),t',hn.ext I (λb hb q=>⟨λU=>q (by omega),λU=>q (by omega)⟩),Y⟩
theorem Ca (ih:∀m,m<=n->Gh m):Cq 18 [] .stmt (n+1):=by
 intro c h s t s' hp hm;have hpl:=hp.lt;rw[pM] at hm;refine bJ ?_;refine af ?_;refine xo rfl (cL) ?_;rintro _ h1 ⟨rfl,k1,e1,z1⟩;refine af ?_;refine xo rfl (aE rfl (b9 (hp.ah e1) 4 oy)) ?_;rintro _ h2 ⟨rfl,aa,x2⟩
 rcases ad:bM 4 [oy] s with ⟨o2,s2⟩
 rw[ad] at aa hm;have k2:=k1.ext x2 (show ¬h.size=c.pb by omega);have ab:=e1.of.trans x2
 rcases o2 with _|v2
 · simp only at hm;refine af ?_;refine dB rfl (by simp) ?_;refine af ?_;refine xo rfl (aE rfl ((ih n (Nat.le_refl _)).expr _ _ _ _ _ aa hm)) ?_;rintro r9 g9 ⟨y9,Z,t9,I,Y⟩;have k9:=(k2).ext y9 (show ¬h.size=c.pb by omega);obtain⟨nk,nt,na,nn,nc,rfl,_⟩:=I.get;refine aO rfl (aZ rfl rfl k9) ?_;rintro _ g10 ⟨rfl,U,J,ac⟩;refine af ?_;refine cE (cz rfl U.row cD) ?_;exact⟨_,rfl,fh.ret ⟨y9,Z,t9,I,Y⟩ hp (ab) J (Nat.le_refl _) (k2).lt⟩
 · simp only at hm;refine af ?_;refine dc rfl (by simp) ?_;refine af ?_;refine xo rfl (aE rfl ((ih n (Nat.le_refl _)).lt true _ _ _ _ _ aa hm)) ?_;rintro r9 g9 ⟨y9,Z,t9,I,Y⟩;have k9:=(k2).ext y9 (show ¬h.size=c.pb by omega);obtain⟨nk,nt,na,nn,nc,rfl,_⟩:=I.get;refine aO rfl (aZ rfl rfl k9) ?_;rintro _ g10 ⟨rfl,U,J,ac⟩;refine af ?_;refine cE (cz rfl U.row cD) ?_;exact⟨_,rfl,fh.ret ⟨y9,Z,t9,I,Y⟩ hp (ab) J (Nat.le_refl _) (k2).lt⟩
theorem Cb (ih:∀m,m<=n->Gh m):Cq 39 [] .expr (n+1):=by
 intro c h s t s' hp hm;have hpl:=hp.lt;rw[pM] at hm;refine bJ ?_;refine af ?_;refine xo rfl (cL) ?_;rintro _ h1 ⟨rfl,k1,e1,z1⟩;refine af ?_;refine xo rfl (aE rfl (b9 (hp.ah e1) 4 oy)) ?_;rintro _ h2 ⟨rfl,ad,x2⟩
 rcases an:bM 4 [oy] s with ⟨o2,s2⟩
 rw[an] at ad hm;have k2:=k1.ext x2 (show ¬h.size=c.pb by omega);have ak:=e1.of.trans x2
 rcases o2 with _|v2
 · simp only at hm;refine af ?_;refine dB rfl (by simp) ?_;refine af ?_;refine xo rfl (aE rfl (b9 ad 4 zJ)) ?_;rintro _ h3 ⟨rfl,ac,x3⟩
   rcases am:bM 4 [zJ] s2 with ⟨o3,s3⟩
   rw[am] at ac hm;have k3:=k2.ext x3 (show ¬h.size=c.pb by omega);have ag:=ak.trans x3
   rcases o3 with _|v3
   · simp only at hm;refine af ?_;refine dB rfl (by simp) ?_;refine af ?_;refine xo rfl (aE rfl (b9 ac 4 AR)) ?_;rintro _ h4 ⟨rfl,ab,x4⟩
     rcases al:bM 4 [AR] s3 with ⟨o4,s4⟩
     rw[al] at ab hm;have k4:=k3.ext x4 (show ¬h.size=c.pb by omega);have ae:=ag.trans x4
     rcases o4 with _|v4
     · simp only at hm;refine af ?_;refine dB rfl (by simp) ?_;refine af ?_;refine xo rfl (aE rfl ((ih n (Nat.le_refl _)).part 0 (by omega) _ _ _ _ _ ab hm)) ?_;rintro r9 g9 ⟨y9,Z,t9,I,Y⟩;have k9:=(k4).ext y9 (show ¬h.size=c.pb by omega);obtain⟨nk,nt,na,nn,nc,rfl,_⟩:=I.get;refine aO rfl (aZ rfl rfl k9) ?_;rintro _ g10 ⟨rfl,U,J,aa⟩;refine af ?_;refine cE (cz rfl U.row cD) ?_;exact⟨_,rfl,fh.ret ⟨y9,Z,t9,I,Y⟩ hp (ae) J (Nat.le_refl _) (k4).lt⟩
     · simp only at hm;refine af ?_;refine dc rfl (by simp) ?_;refine af ?_;refine xo rfl (aE rfl ((ih n (Nat.le_refl _)).fn _ _ _ _ _ ab hm)) ?_;rintro r9 g9 ⟨y9,Z,t9,I,Y⟩;have k9:=(k4).ext y9 (show ¬h.size=c.pb by omega);obtain⟨nk,nt,na,nn,nc,rfl,_⟩:=I.get;refine aO rfl (aZ rfl rfl k9) ?_;rintro _ g10 ⟨rfl,U,J,aa⟩;refine af ?_;refine cE (cz rfl U.row cD) ?_;exact⟨_,rfl,fh.ret ⟨y9,Z,t9,I,Y⟩ hp (ae) J (Nat.le_refl _) (k4).lt⟩
   · simp only at hm;refine af ?_;refine dc rfl (by simp) ?_;refine af ?_;refine xo rfl (aE rfl ((ih n (Nat.le_refl _)).choice _ _ _ _ _ ac hm)) ?_;rintro r9 g9 ⟨y9,Z,t9,I,Y⟩;have k9:=(k3).ext y9 (show ¬h.size=c.pb by omega);obtain⟨nk,nt,na,nn,nc,rfl,_⟩:=I.get;refine aO rfl (aZ rfl rfl k9) ?_;rintro _ g10 ⟨rfl,U,J,aa⟩;refine af ?_;refine cE (cz rfl U.row cD) ?_;exact⟨_,rfl,fh.ret ⟨y9,Z,t9,I,Y⟩ hp (ag) J (Nat.le_refl _) (k3).lt⟩
 · simp only at hm;refine af ?_;refine dc rfl (by simp) ?_;refine af ?_;refine xo rfl (aE rfl ((ih n (Nat.le_refl _)).lt false _ _ _ _ _ ad hm)) ?_;rintro r9 g9 ⟨y9,Z,t9,I,Y⟩;have k9:=(k2).ext y9 (show ¬h.size=c.pb by omega);obtain⟨nk,nt,na,nn,nc,rfl,_⟩:=I.get;refine aO rfl (aZ rfl rfl k9) ?_;rintro _ g10 ⟨rfl,U,J,aa⟩;refine af ?_;refine cE (cz rfl U.row cD) ?_;exact⟨_,rfl,fh.ret ⟨y9,Z,t9,I,Y⟩ hp (ak) J (Nat.le_refl _) (k2).lt⟩
theorem Eb (ih:∀m,m<=n->Gh m):Cq 75 [] .fn (n+1):=by
 intro c h s t s' hp hm;have hpl:=hp.lt;obtain⟨o1,o2⟩:=hp.old;rw[pM] at hm;refine bJ ?_;refine af ?_;refine xo rfl (cL) ?_;rintro _ h1 ⟨rfl,k1,e1,z1⟩;refine af ?_;refine xo rfl (aE rfl (uy (hp.ah e1))) ?_;rintro _ h2 ⟨rfl,al,x2⟩;have z2:=x2.size;have ae:Ext (λb=>b=c.pb) h h2:=e1.of.trans x2;have J:=k1.ext x2 (show ¬h.size=c.pb by omega);refine af ?_;refine xo rfl (aE rfl (b9 al 6 [44])) ?_;rintro _ h5 ⟨rfl,ab,x5⟩
 rcases ag:bM 6 [[44]] (cg c.e s).2 with ⟨o5,s5⟩
 rw[ag] at ab hm;have z5:=x5.size;have q5:=J.ext x5 (show ¬h.size=c.pb by omega);have ad:=ae.trans x5
 rcases o5 with _|v5
 · simp only at hm;obtain⟨v,s1,hv,hm⟩:=ay hm;obtain⟨rfl,rfl⟩:Tr.mk 8 (cg c.e s).1 [v]=t/\s1=s':=by cases hm;exact⟨rfl,rfl⟩
   refine af ?_;refine dB rfl (by simp) ?_;refine af ?_;refine xo rfl (aE rfl (gO ab 6 [45,62])) ?_;rintro _ hb ⟨ak,xb⟩;have zb:=xb.size;refine af ?_;refine xo rfl (aE rfl ((ih n (Nat.le_refl _)).expr _ _ _ _ _ ak hv)) ?_;rintro r6 h6 ⟨y6,aa,t6,ac,U⟩;have z6:=y6.size;obtain⟨nk,nt,na,nn,nc,rfl,Z⟩:=ac.get;refine xo rfl (lg) ?_;rintro _ h7 ⟨rfl,I⟩;have e7:aj h6 h7:=by rw[I];exact Ext.push _ _ _
   have z7:h7.size=h6.size+1:=by rw[I];simp
   have Y:aL eN h7 (λb=>b<Array.size hb) (.slice (some ⟨h6.size,0,none⟩) 1 1) [t6]:=by rw[I];exact ij Z (by omega)
   have zk:=(q5.ext xb (show ¬h.size=c.pb by omega)).lt;refine xp rfl (av (H.cM _ _ _ _ _) rfl) (aO rfl (aZ rfl rfl ((((q5.ext xb (show ¬h.size=c.pb by omega)).ext y6 (show ¬h.size=c.pb by omega)).ah e7)) eY) ?_);rintro _ hz ⟨rfl,kz,xz,zz⟩;refine af ?_;refine cE (cz rfl kz.row cD) ?_;exact⟨_,rfl,cq hp (((ad.trans xb).trans y6).trans e7.of) (aa.ah e7) (dK.shut (Y.mv (Mv.bY (Ext.refl (λ_=>False) _) λb hb q=>⟨λJ=>J,λJ=>q (by omega)⟩))) (λq=>by rw[U q]) xz⟩
 · simp only at hm;obtain⟨v,s1,hv,hm⟩:=ay hm;obtain⟨rfl,rfl⟩:Tr.mk 8 (cg c.e s).1 [v]=t/\s1=s':=by cases hm;exact⟨rfl,rfl⟩
   refine af ?_;refine dc rfl (by simp) ?_;refine af ?_;refine xo rfl (aE rfl ((ih n (Nat.le_refl _)).fn _ _ _ _ _ ab hv)) ?_;rintro r6 h6 ⟨y6,aa,t6,ac,U⟩;have z6:=y6.size;obtain⟨nk,nt,na,nn,nc,rfl,Z⟩:=ac.get;refine xo rfl (lg) ?_;rintro _ h7 ⟨rfl,I⟩;have e7:aj h6 h7:=by rw[I];exact Ext.push _ _ _
   have z7:h7.size=h6.size+1:=by rw[I];simp
   have Y:aL eN h7 (λb=>b<Array.size h5) (.slice (some ⟨h6.size,0,none⟩) 1 1) [t6]:=by rw[I];exact ij Z (by omega)
   have zk:=(q5).lt;refine xp rfl (av (H.cM _ _ _ _ _) rfl) (aO rfl (aZ rfl rfl (((q5.ext y6 (show ¬h.size=c.pb by omega)).ah e7)) eY) ?_);rintro _ hz ⟨rfl,kz,xz,zz⟩;refine af ?_;refine cE (cz rfl kz.row cD) ?_;exact⟨_,rfl,cq hp (((ad).trans y6).trans e7.of) (aa.ah e7) (dK.shut (Y.mv (Mv.bY (Ext.refl (λ_=>False) _) λb hb q=>⟨λJ=>J,λJ=>q (by omega)⟩))) (λq=>by rw[U q]) xz⟩
theorem Ea (ih:∀m,m<=n->Gh m) (al:Bool):Cq 38 [.bool al] (.lt al) (n+1):=by
 intro c h s t s' hp hm;have hpl:=hp.lt;obtain⟨o1,o2⟩:=hp.old;rw[pM] at hm;obtain⟨v,s1,hv,hm⟩:=ay hm;refine bJ ?_;refine af ?_;refine xo rfl (cL) ?_;rintro _ h1 ⟨rfl,k1,e1,z1⟩;refine af ?_;refine xo rfl (aE rfl (uy (hp.ah e1))) ?_;rintro _ h2 ⟨rfl,hp2,x2⟩;have z2:=x2.size;refine af ?_;refine xo rfl (aE rfl (gO hp2 6 [61])) ?_;rintro _ h5 ⟨hp5,x5⟩;have z5:=x5.size;refine af ?_;refine xo rfl (aE rfl ((ih n (Nat.le_refl _)).expr _ _ _ _ _ hp5 hv)) ?_;rintro r6 h6 ⟨y6,hp6,t6,hn6,ht6⟩;have z6:=y6.size;obtain⟨nk,nt,na,nn,nc,rfl,hr6⟩:=hn6.get;refine xo rfl (lg) ?_;rintro _ h7 ⟨rfl,hh7⟩;have e7:aj h6 h7:=by rw[hh7];exact Ext.push _ _ _
 have z7:h7.size=h6.size+1:=by rw[hh7];simp
 have ho7:cH eN (λb=>b<h5.size\/b=h7.size) h7 h6.size 62 (.slice (some ⟨h6.size,0,none⟩) 1 1) [t6]:=by rw[hh7];exact cH.kC (aK hr6 (Ext.refl (λ_=>False) _) (λb hb q=>⟨λk=>k,λq2=>q (by rw[<-hh7] at q2;omega)⟩)) (Nat.le_refl _)
 refine xp rfl (av (H.cM _ _ _ _ _) rfl) ?_;refine xo rfl (cL) ?_;rintro _ h3 ⟨rfl,k3,e3,z3⟩;refine aO rfl (aZ rfl rfl k3 eY) ?_;rintro _ h8 ⟨rfl,k8,x8,z8⟩;have k8:aC h8 h7.size 62 [.int .i64 7,.string (bs (cg c.e s).1),.slice (some ⟨h6.size,0,none⟩) 1 1]:=k8;have x78:Ext (λb=>b=h7.size) h7 h8:=e3.of.trans x8;have ho8:cH eN (λb=>b<h5.size\/b=h7.size) h8 h6.size 62 (.slice (some ⟨h6.size,0,none⟩) 1 1) [t6]:=ho7.kU x78 (λb q q2=>by have:=eD q;omega) (λb hb q=>.inr q) (λ_ _ q=>q);have hp8:=(hp6.ah e7).ext x78 (λb hb q=>by omega);have x08:Ext (λb=>b=c.pb) h h8:=((((e1.of.trans x2).trans x5).trans y6).trans e7.of).cZ x78 (λi hi q=>by omega);have q8:=((((k1.ext x2 (show ¬h.size=c.pb by omega)).ext x5 (show ¬h.size=c.pb by omega)).ext y6 (show ¬h.size=c.pb by omega)).ah e7).ext x78 (show ¬h.size=h7.size by omega);refine af ?_;refine xo rfl (aE rfl (b9 hp8 4 Kv)) ?_;rintro _ h9 ⟨rfl,hp9,x9⟩
 rcases hq9:bM 4 [Kv] s1 with ⟨o9,s9⟩
 rw[hq9] at hp9 hm;have z9:=x9.size;have k9:=k8.ext x9 (show ¬h7.size=c.pb by omega);have q9:=q8.ext x9 (show ¬h.size=c.pb by omega);have x09:=x08.trans x9;have ho9:cH eN (λb=>b<h5.size\/b=h7.size) h9 h6.size 62 (.slice (some ⟨h6.size,0,none⟩) 1 1) [t6]:=ho8.kU x9 (λb q q2=>by have:=eD q;omega) (λb hb q=>by omega) (λ_ _ q=>q)
 rcases o9 with _|v9
 · simp only at hm;have e9:=aM hq9;have hs9:aL eN h9 (λb=>b<=h.size) _ [t6]:=ho9.wO (λb q q2=>by have:=eD q;omega) (λb hb q=>by omega);refine af ?_;refine dB rfl (by simp) ?_;refine af ?_;refine jS (λha=>?_) (λha=>?_)
   · have ha:al=false:=by simpa using ha
     subst ha;simp only[Bool.false_eq_true,if_false] at hm;obtain⟨rfl,rfl⟩:Tr.mk 7 (cg c.e s).1 [v]=t/\cu c.e s9=s':=by cases hm;exact⟨rfl,rfl⟩
     refine af ?_;refine xo rfl (aE rfl (gN hp9)) ?_;rintro _ h10 ⟨hp10,x10⟩;refine af ?_;refine xp rfl (cj rfl (k9.ext x10 (show ¬h7.size=c.pb by omega)).row) ?_;refine aO rfl (aZ rfl rfl ((q9.ext x10 (show ¬h.size=c.pb by omega))) eY) ?_;rintro _ hz ⟨rfl,kz,xz,zz⟩;refine af ?_;refine cE (cz rfl kz.row cD) ?_;exact⟨_,rfl,cq hp (x09.trans x10) hp10 (dK.shut (hs9.mv (Mv.bY x10 λb hb q=>⟨λq2=>q (by omega),q⟩))) (λq=>by rw[dQ] at q;cases q) xz⟩
   · have ha:al=true:=by simpa using ha
     subst ha;simp only[if_true] at hm;obtain⟨rfl,rfl⟩:Tr.mk 7 (cg c.e s).1 [v]=t/\s9=s':=by cases hm;exact⟨rfl,rfl⟩
     refine af ?_;refine xp rfl (cj rfl k9.row) ?_;refine aO rfl (aZ rfl rfl q9 eY) ?_;rintro _ hz ⟨rfl,kz,xz,zz⟩;refine af ?_;refine cE (cz rfl kz.row cD) ?_;exact⟨_,rfl,cq hp x09 hp9 (dK.shut hs9) (λq=>by rw[ht6 (aS hq9 q)]) xz⟩
 · simp only at hm;obtain⟨w,s3,hw,hm⟩:=ay hm;obtain⟨rfl,rfl⟩:Tr.mk 7 (cg c.e s).1 [v,w]=t/\s3=s':=by cases hm;exact⟨rfl,rfl⟩
   refine af ?_;refine dc rfl (by simp) ?_;refine jK 8 (λb=>b=c.pb\/b=h6.size\/Array.size h9<=b) (λi=>Nat.blt i 7) ?_;refine aF 0 ?_;refine bq 1 rfl (λh' e=>aA rfl (e.cell (by dsimp only;omega) (k9.cell (i:=2) rfl))) ?_;refine aF 2 ?_;refine cV 3 rfl (aE rfl ((ih n (Nat.le_refl _)).expr _ _ _ _ _ hp9 hw)) ?_;rintro r10 h10 ⟨y10,hp10,t10,hn10,ht10⟩;refine⟨λ_=>y10.mono (λ_ _ q=>.inl q),?_⟩;have z10:=y10.size;obtain⟨mk,mt,ma,mn,mc,rfl,hr10⟩:=hn10.get;have ho10:cH eN (λb=>b<h5.size\/b=h7.size) h10 h6.size 62 (.slice (some ⟨h6.size,0,none⟩) 1 1) [t6]:=ho9.kU y10 (λb q q2=>by have:=eD q;omega) (λb hb q=>by omega) (λ_ _ q=>q);obtain⟨css,hc1,hc2,hc3⟩:=id ho10;have hc2:aB h10 h6.size 62 3 (.slice (some ⟨h6.size,0,none⟩) 1 1) 1 css.flatten:=hc2;refine cV 4 rfl (lg) ?_;rintro _ _ ⟨rfl,rfl⟩;refine⟨λ_=>by first|exact Ext.push _ _ _|assumption,?_⟩;refine cV 5 rfl (vL rfl rfl hc2 rfl rfl) ?_;rintro v12 h12 ⟨ho12,hx12,hx12',hv12⟩;refine⟨λ_=>hx12'.mono (λb _ q=>.inr (.inl (Option.some.inj q))),?_⟩;have k12:=(k9.ext y10 (show ¬h7.size=c.pb by omega)).ext hx12 (λq=>by have:=eD (Eq.symm q);omega);obtain⟨va,vm,vc,rfl⟩:=pZ ho12;refine aF 6 ?_;refine gU 7 rfl (iG rfl rfl k12) ?_;rintro _ h13 ⟨rfl,k13,x13,z13⟩;refine⟨nofun,?_⟩;refine fV ?_;refine af ?_;have k13:aC h13 h7.size 62 [.int .i64 7,.string (bs (cg c.e s).1),.slice va vm vc]:=k13;have z12:=hx12.size
   have hr10':eN.R h10 (λb=>bU (Value.slice (some ⟨h6.size,0,none⟩) 1 1).ownBlock b\/(b<h5.size\/b=h7.size)) [.int .i64 mk,.string (bs mt),.slice ma mn mc] t10:=aK hr10 (Ext.refl (λ_=>False) _) (λb hb q=>⟨λk=>k,λq2=>by
    rcases q2 with q2|q2
    · have:=eD (Eq.symm q2);omega
    · omega⟩)
   have ho12x:cH eN (λb=>b<h5.size\/b=h7.size) h12 h6.size 62 (.slice va vm vc) [t6,t10]:=cH.eC hc1 hc3 ho12 hx12 hv12 hr10';have q13:=((q9.ext y10 (show ¬h.size=c.pb by omega)).ext hx12 (λq=>by have:=eD (Eq.symm q);omega)).ext x13 (show ¬h.size=h7.size by omega)
   have hnot:∀b,(Value.slice va vm vc).ownBlock=some b->b≠h7.size:=λb q=>by
    rcases hv12 b q with q2|q2
    · have:=eD q2;omega
    · omega
   have hs13:aL eN h13 (λb=>b<=h.size) (.slice va vm vc) [t6,t10]:=(ho12x.kU x13 (λb q q2=>hnot b q q2) (λb hb q=>.inr q) (λ_ _ q=>q)).read (λb hb q=>by omega) (λb hb q=>by omega);have x013:Ext (λb=>b=c.pb) h h13:=((x09.trans y10).cZ hx12 (λi hi q=>by have:=eD (Eq.symm q);omega)).cZ x13 (λi hi q=>by omega);have hp13:uq c h13 s3:=(hp10.ext hx12 (λb hb q=>by have:=eD (Eq.symm q);omega)).ext x13 (λb hb q=>by omega);refine xp rfl (cj rfl k13.row) ?_;refine aO rfl (aZ rfl rfl q13 eY) ?_;rintro _ hz ⟨rfl,kz,xz,zz⟩;refine af ?_;refine cE (cz rfl kz.row cD) ?_;exact⟨_,rfl,cq hp x013 hp13 (dK.shut hs13) (λq=>by rw[ht6 (aS hq9 (bE hw q)),ht10 q]) xz⟩
theorem B1.next {T:TypeId}{eU:gW Un}{u:Un}{r:List Un}(hp:B1 T eU c h (.ok (u::r))):∃(i:Nat) (m:Int),aC h c.pb T [c.lv,.int .i64 (i:Nat),.int .i64 c.e,.bool false,.int .i64 m]/\i<1000 /\
 ∀h',aC h' c.pb T [c.lv,.int .i64 ((i+1:Nat):Int),.int .i64 c.e,.bool false,.int .i64 m]->Ext (λb=>b=c.pb) h h'->B1 T eU c h' (.ok r):=by
 obtain⟨i,b,m,hk,hl,hi,hs,J,U,hn⟩:=hp;obtain⟨rfl,hr⟩:=hs;obtain⟨la,ln,lc,_,Y⟩:=hl.open;obtain⟨hu,Z,I⟩:=rV Y hr;exact⟨i,m,hk,by omega,λh' k x=>⟨i+1,false,m,k,hl.mv (Mv.bY x λb hb q=>⟨λq2=>q (.inl q2),q⟩),Z,⟨rfl,I⟩,J,Nat.le_trans U x.size,hn⟩⟩
structure Fl (c:PC) (h g:aq) (b3:Nat) (t1:Tr) (s1:PS):Prop where
 st:uq c g s1
 ext:Ext (λb=>b=c.pb) h g
 res:aC g h.size 62 [.int .i64 0,.string (bs []),.slice none 0 0]
 lt:h.size<b3
 nd:∃k x a n cc u,aC g b3 62 [.int .i64 k,.string (bs x),.slice a n cc]/\eN.R g (λb=>b<=h.size\/b=b3) [.int .i64 k,.string (bs x),.slice a n cc] u/\(s1.bB=false->u=t1)
theorem Fl.mv {I:aq}{t1:Tr}{s2:PS}(k:Fl c h g b3 t1 s1) (hp:c.pb<h.size) (x:Ext (λb=>b=c.pb) g I) (hs:uq c I s2) (hg:s2.bB=false->s1.bB=false):Fl c h I b3 t1 s2:=by
 obtain⟨k1,k2,Z,k4,kk,J,a,n,cc,u,Y,k6,U⟩:=k;exact⟨hs,k2.trans x,Z.ext x (by omega),k4,kk,J,a,n,cc,u,Y.ext x (by omega),aK k6 x (λb hb q=>⟨λq2=>q (by omega),q⟩),λq=>U (hg q)⟩
theorem zc (ih:∀m,m<=n->Gh m):Cq 112 [] (.part 7) (n+1):=by
 intro c h s t s' hp hm;have am:=hp.lt;obtain⟨o1,o2⟩:=hp.old;rw[pM,if_pos rfl] at hm;obtain⟨v,s1,hv,hm⟩:=ay hm;refine bJ ?_;refine af ?_;refine xo rfl (cL) ?_;rintro _ h1 ⟨rfl,k1,e1,z1⟩;refine af ?_;refine xo rfl (aE rfl ((ih n (Nat.le_refl _)).atom _ _ _ _ _ (hp.ah e1) hv)) ?_;rintro r2 J ⟨y2,bi,t2,bj,qu⟩;obtain⟨nk,nt,na,nn,nc,rfl,bh⟩:=bj.get;refine xo rfl (cL) ?_;rintro _ h3 ⟨rfl,k3,e3,z3⟩;refine aO rfl (aZ rfl rfl k3 eY) ?_;rintro _ h4 ⟨rfl,k4,x4,z4⟩;have z2:=y2.size;have a8:Ext (λb=>b=J.size) J h4:=e3.of.trans x4;have hI:Fl c h h4 J.size v s1:=⟨(bi.ah e3).ext x4 (λb Y q=>by omega),((e1.of.trans y2).trans e3.of).cZ x4 (λb Y q=>by omega),((k1.ext y2 (by omega)).ah e3).ext x4 (show ¬h.size=J.size by omega),by omega,nk,nt,na,nn,nc,t2,k4,aK bh a8 (λb Y q=>⟨λU=>by omega,λU=>q (by omega)⟩),qu⟩
 refine af ?_;refine fK (σ:=Nat×Tr×PS) (λ_=>[]) (λw g=>w.1<=n/\pM c.e w.1 (.callL w.2.1) w.2.2=some (t,s')/\Fl c h g J.size w.2.1 w.2.2) (λw=>w.1) ((n,v,s1)) ⟨Nat.le_refl _,hm,hI⟩ rfl ?_;rintro⟨m,u,sI⟩ g ⟨hmn,hm,hI⟩ bd
 try dsimp only
 obtain⟨m,rfl⟩:∃m',m=m'+1:=by cases m with|zero=>cases hm|succ m=>exact⟨m,rfl⟩
 rw[pM] at hm;refine af ?_;refine xo rfl (aE rfl (b9 hI.st 7 [40])) ?_;rintro _ h5 ⟨rfl,aw,x5⟩
 rcases ar:bM 7 [[40]] sI with ⟨o5,s5⟩
 rw[ar] at aw hm;have a7:=hI.mv am x5 aw (λq=>aS ar q)
 rcases o5 with _|v5
 · simp only at hm;obtain⟨rfl,rfl⟩:u=t/\s5=s':=by cases hm;exact⟨rfl,rfl⟩
   refine af ?_;refine dB rfl (by simp) ?_;obtain⟨j1,j2,j3,j4,jk,jx,ja,jn,jc,ju,j5,j6,j7⟩:=a7;refine af ?_;refine xp rfl (cj rfl j5.row) (aO rfl (aZ rfl rfl j3 eY) ?_);rintro _ hz ⟨rfl,kz,xz,zz⟩;refine af ?_;refine cE (cz rfl kz.row cD) ?_;exact⟨_,rfl,cq hp j2 j1 (dK.of (aK j6 (Ext.refl (λ_=>False) _) (λb Y q=>⟨λU=>U,λU=>q (.inl U)⟩))) j7 xz⟩
 · simp only at hm;refine af ?_;refine dc rfl (by simp) ?_;obtain⟨m2,rfl⟩:∃m',m=m'+1:=by cases m with|zero=>cases hm|succ m=>exact⟨m,rfl⟩
   rw[pM] at hm;obtain⟨v2,s3,aa,hm⟩:=ay hm;obtain⟨j1,j2,j3,j4,jk,jx,ja,jn,jc,ju,j5,j6,j7⟩:=id a7;have bb:=j5.lt;have bc:=j2.size;refine af ?_;refine jK 6 (λb=>b=c.pb\/Array.size h5<=b) (λi=>Nat.blt i 5) (bq 0 rfl (λh' e=>cj rfl (e.rowAt (by omega) j5.row)) (aF 1 (cV 2 rfl (aE rfl ((ih m2 (by omega)).expr _ _ _ _ _ j1 aa)) ?_)));rintro r6 Z ⟨y6,an,t6,ao,ag⟩;refine⟨λ_=>y6.mono (λ_ _ q=>.inl q),?_⟩;have z6:=y6.size;obtain⟨mk,mt,ma,mn,mc,rfl,al⟩:=ao.get;refine cV 3 rfl (aV.gS underlying32 H.Hw ([[.int .i64 jk,.string (bs jx),.slice ja jn jc],[.int .i64 mk,.string (bs mt),.slice ma mn mc]]) rfl rfl (by decide) (by simp<;>repeat' (first|rfl|constructor))) ?_;rintro _ h8 ⟨rfl,I⟩;refine⟨λ_=>(by rw[I];exact Ext.push _ _ _),?_⟩;have e8:aj Z h8:=by rw[I];exact Ext.push _ _ _
   have z8:h8.size=Z.size+1:=by rw[I];simp
   have ak:cH eN (λb=>b<=h.size\/b=J.size) h8 Z.size 62 (.slice (some ⟨Z.size,0,none⟩) 2 2) [ju,t6]:=by
    rw[I];exact mG (aK j6 y6 (λb Y q=>⟨λU=>q (by omega),q⟩)) (aK al (Ext.refl (λ_=>False) _) (λb Y q=>⟨λU=>U,λU=>q (by omega)⟩)) (Nat.le_refl _)
   have ab:aL eN h8 (λb=>b<=h.size\/b=J.size) (.slice (some ⟨Z.size,0,none⟩) 2 2) [ju,t6]:=ak.read (λb Y q=>by omega) (λb Y q=>q);refine bq 4 rfl (λh' e=>av (H.cM _ _ _ _ _) rfl) (gU 5 rfl (aZ rfl rfl (((j5.ext y6 (show ¬J.size=c.pb by omega)).ah e8)) eY) ?_);rintro _ h9 ⟨rfl,k9,x9,z9⟩;refine⟨nofun,?_⟩;have k9:aC h9 J.size 62 [.int .i64 9,.string (bs []),.slice (some ⟨Z.size,0,none⟩) 2 2]:=k9;have ap:Fl c h h9 J.size (.mk 9 [] [u,v2]) s3:=⟨(an.ah e8).ext x9 (λb Y q=>by omega),((j2.trans y6).trans e8.of).cZ x9 (λb Y q=>by omega),((j3.ext y6 (show ¬h.size=c.pb by omega)).ah e8).ext x9 (show ¬h.size=J.size by omega),j4,_,_,_,_,_,_,k9,sO (ab.mv (Mv.bY x9 λb Y q=>⟨λU=>q (.inr U),q⟩)),λq=>by rw[j7 (bE aa q),ag q]⟩
   refine fV ?_;refine af ?_;refine fK (σ:=Nat×Tr×PS) (λ_=>[]) (λw g=>w.1<=m2/\((match bM 6 [[44]] w.2.2 with|(some _,s)=>pM c.e w.1 (.argL w.2.1) s|(none,s)=>pM c.e w.1 (.callL w.2.1) (bV c.e 8 [41] s)):vJ)=some (t,s')/\Fl c h g J.size w.2.1 w.2.2) (λw=>w.1) ((m2,.mk 9 [] [u,v2],s3)) ⟨Nat.le_refl _,hm,ap⟩ rfl ?_;rintro⟨m3,u2,sJ⟩ g2 ⟨hmn2,hm,hJ⟩ be
   try dsimp only
   dsimp only at hm;refine af ?_;refine xo rfl (aE rfl (b9 hJ.st 6 [44])) ?_;rintro _ bk ⟨rfl,ac,a'⟩
   rcases ad:bM 6 [[44]] sJ with ⟨ba,s10⟩
   rw[ad] at ac hm;have ae:=hJ.mv am a' ac (λq=>aS ad q)
   rcases ba with _|v10
   · simp only at hm;refine af ?_;refine dB rfl (by simp) ?_;refine af ?_;refine xo rfl (aE rfl (gO ac 8 [41])) ?_;rintro _ h11 ⟨a1,a_⟩;have a6:=ae.mv am a_ a1 (λq=>dM q);refine af ?_;exact bd (m3,u2,_) ⟨by omega,hm,a6⟩
   · simp only at hm;refine af ?_;refine dc rfl (by simp) ?_;obtain⟨m4,rfl⟩:∃m',m3=m'+1:=by cases m3 with|zero=>cases hm|succ m=>exact⟨m,rfl⟩
     rw[pM] at hm;obtain⟨v2,s3,aa,hm⟩:=ay hm;obtain⟨j1,j2,j3,j4,jk,jx,ja,jn,jc,ju,j5,j6,j7⟩:=id ae;have bb:=j5.lt;have bc:=j2.size;refine af ?_;refine jK 6 (λb=>b=c.pb\/Array.size bk<=b) (λi=>Nat.blt i 5) (bq 0 rfl (λh' e=>cj rfl (e.rowAt (by omega) j5.row)) (aF 1 (cV 2 rfl (aE rfl ((ih m4 (by omega)).expr _ _ _ _ _ j1 aa)) ?_)));rintro r6 Z ⟨y6,an,t6,ao,ag⟩;refine⟨λ_=>y6.mono (λ_ _ q=>.inl q),?_⟩;have z6:=y6.size;obtain⟨mk,mt,ma,mn,mc,rfl,al⟩:=ao.get;refine cV 3 rfl (aV.gS underlying32 H.Hw ([[.int .i64 jk,.string (bs jx),.slice ja jn jc],[.int .i64 mk,.string (bs mt),.slice ma mn mc]]) rfl rfl (by decide) (by simp<;>repeat' (first|rfl|constructor))) ?_;rintro _ h8 ⟨rfl,I⟩;refine⟨λ_=>(by rw[I];exact Ext.push _ _ _),?_⟩;have e8:aj Z h8:=by rw[I];exact Ext.push _ _ _
     have z8:h8.size=Z.size+1:=by rw[I];simp
     have ak:cH eN (λb=>b<=h.size\/b=J.size) h8 Z.size 62 (.slice (some ⟨Z.size,0,none⟩) 2 2) [ju,t6]:=by
      rw[I];exact mG (aK j6 y6 (λb Y q=>⟨λU=>q (by omega),q⟩)) (aK al (Ext.refl (λ_=>False) _) (λb Y q=>⟨λU=>U,λU=>q (by omega)⟩)) (Nat.le_refl _)
     have ab:aL eN h8 (λb=>b<=h.size\/b=J.size) (.slice (some ⟨Z.size,0,none⟩) 2 2) [ju,t6]:=ak.read (λb Y q=>by omega) (λb Y q=>q);refine bq 4 rfl (λh' e=>av (H.cM _ _ _ _ _) rfl) (gU 5 rfl (aZ rfl rfl (((j5.ext y6 (show ¬J.size=c.pb by omega)).ah e8)) eY) ?_);rintro _ h9 ⟨rfl,k9,x9,z9⟩;refine⟨nofun,?_⟩;have k9:aC h9 J.size 62 [.int .i64 9,.string (bs []),.slice (some ⟨Z.size,0,none⟩) 2 2]:=k9;have ap:Fl c h h9 J.size (.mk 9 [] [u2,v2]) s3:=⟨(an.ah e8).ext x9 (λb Y q=>by omega),((j2.trans y6).trans e8.of).cZ x9 (λb Y q=>by omega),((j3.ext y6 (show ¬h.size=c.pb by omega)).ah e8).ext x9 (show ¬h.size=J.size by omega),j4,_,_,_,_,_,_,k9,sO (ab.mv (Mv.bY x9 λb Y q=>⟨λU=>q (.inr U),q⟩)),λq=>by rw[j7 (bE aa q),ag q]⟩
     refine fV ?_;refine af ?_;exact be (m4,.mk 9 [] [u2,v2],s3) ⟨by omega,hm,ap⟩
theorem gX (ih:∀m,m<=n->Gh m) (hk5:k=0\/k=1\/k=3\/k=4\/k=5):Cq 76 [.int .i64 (k:Nat)] (.part k) (n+1):=by
 intro c h s t s' hp hm;have hpl:=hp.lt;obtain⟨o1,o2⟩:=hp.old;rw[pM,if_neg (by omega),if_neg (by omega),if_neg (by omega)] at hm;obtain⟨v,s1,hv,hm⟩:=ay hm;refine bJ ?_;refine af ?_;refine xo rfl (cL) ?_;rintro _ h1 ⟨rfl,k1,e1,z1⟩;refine af ?_;refine dB rfl (by simp;omega) ?_
 iterate 3 refine aQ ?_
 refine dU [(20,.bool false)] rfl ?_ ?_
 · refine af ?_;refine RW.bw (d:=13) (b':=false) rfl (decide_eq_false ((by omega))) ?_;refine af ?_;exact aD rfl ⟨ai rfl (rfl),sb rfl⟩
 · refine dB rfl (by simp) ?_
   iterate 3 refine aQ ?_
   refine dU [(30,.bool false)] rfl ?_ ?_
   · refine af ?_;refine RW.bw (d:=27) (b':=false) rfl (decide_eq_false ((by omega))) ?_;refine af ?_;exact aD rfl ⟨ai rfl (rfl),sb rfl⟩
   · refine dB rfl (by simp) ?_;refine af ?_;refine xo rfl (aE rfl ((ih n (Nat.le_refl _)).part (k+1) (by omega) _ _ _ _ _ (hp.ah e1) hv)) ?_;rintro r2 h2 ⟨y2,hp2,t2,hn2,qu⟩;obtain⟨nk,nt,na,nn,nc,rfl,hr2⟩:=hn2.get;refine xo rfl (cL) ?_;rintro _ h3 ⟨rfl,k3,e3,z3⟩;refine aO rfl (aZ rfl rfl k3 eY) ?_;rintro _ h4 ⟨rfl,k4,x4,z4⟩;have z2:=y2.size;have z0:=(show Ext (λb=>b=c.pb) h _ from e1.of).size;have zr:=(k1).lt;have x24:Ext (λb=>b=h2.size) h2 h4:=e3.of.trans x4;have hI:Fl c h h4 h2.size v s1:=⟨(hp2.ah e3).ext x4 (λb hb q=>by omega),(((show Ext (λb=>b=c.pb) h _ from e1.of).trans y2).trans e3.of).cZ x4 (λb hb q=>by omega),(((k1).ext y2 (by omega)).ah e3).ext x4 (show ¬h.size=h2.size by omega),by omega,nk,nt,na,nn,nc,t2,k4,aK hr2 x24 (λb hb q=>⟨λq2=>by omega,λq2=>q (by omega)⟩),qu⟩
     refine af ?_;refine fK (σ:=Nat×Tr×PS) (λ_=>[]) (λw g=>w.1<=n/\pM c.e w.1 (.opL k w.2.1) w.2.2=some (t,s')/\Fl c h g h2.size w.2.1 w.2.2) (λw=>w.1) ((n,v,s1)) ⟨Nat.le_refl _,hm,hI⟩ rfl ?_;rintro⟨m,u,sI⟩ g ⟨hmn,hm,hI⟩ ihL
     try dsimp only
     obtain⟨m,rfl⟩:∃m',m=m'+1:=by cases m with|zero=>cases hm|succ m=>exact⟨m,rfl⟩
     rw[pM] at hm
     iterate 2 refine aQ ?_
     refine dU [(44,.bool true)] rfl ?_ ?_
     · refine af ?_;refine RW.bw (d:=41) (b':=true) rfl (decide_eq_true ((by omega))) ?_;refine af ?_;exact aD rfl ⟨ai rfl (by simp;omega),sb rfl⟩
     · refine dc rfl (by simp) ?_;have hop:=Gr hI.st hk5
       rcases hq:yX k sI with ⟨o5,s5⟩
       rw[hq] at hm hop;refine af ?_;refine xo rfl (aE rfl hop) ?_;rintro _ g ⟨rfl,rfl⟩
       rcases o5 with _|v5
       · simp only at hm;obtain rfl:=wQ hq;obtain⟨rfl,rfl⟩:u=t/\s5=s':=by cases hm;exact⟨rfl,rfl⟩
         refine af ?_;refine dc rfl (by simp[bs]) ?_;obtain⟨j1,j2,j3,j4,jk,jx,ja,jn,jc,ju,j5,j6,j7⟩:=hI;refine af ?_;refine xp rfl (cj rfl j5.row) ?_;refine aO rfl (aZ rfl rfl j3 eY) ?_;rintro _ hz ⟨rfl,kz,xz,zz⟩;refine af ?_;refine cE (cz rfl kz.row cD) ?_;exact⟨_,rfl,cq hp j2 j1 (dK.of (aK j6 (Ext.refl (λ_=>False) _) (λb hb q=>⟨λq2=>q2,λq2=>q (.inl q2)⟩))) j7 xz⟩
       · simp only at hm;have hne:=MD hk5 hq;obtain⟨u0,r0,rfl,rfl⟩:=sA hq;obtain⟨v2,s3,hv2,hm⟩:=ay hm;refine af ?_;refine dB rfl (λq=>hne (dF (l:=v5) (m:=[]) (of_decide_eq_true q))) ?_;obtain⟨bi,bm,hbk,hb1,hnx⟩:=hI.st.next
         refine af ?_;refine xp rfl (aA rfl (hbk.cell (i:=1) rfl)) ?_;refine af ?_;refine aO rfl (iG rfl rfl hbk) ?_;rintro _ h5 ⟨rfl,k5,x5,z5⟩;have hI5:=hI.mv hpl x5 (hnx _ k5 x5) (λ_=>rfl);obtain⟨j1,j2,j3,j4,jk,jx,ja,jn,jc,ju,j5,j6,j7⟩:=id hI5;have j5l:=j5.lt;have j2z:=j2.size;refine af ?_;refine jK 9 (λb=>b=c.pb\/Array.size h5<=b) (λi=>Nat.blt i 8) ?_;refine aF 0 ?_;refine bq 1 rfl (λh' e=>cj rfl (e.rowAt (by omega) j5.row)) ?_;refine aF 2 ?_;refine aF 3 ?_;refine aF 4 ?_;refine cV 5 rfl (aE rfl ((ih m (by omega)).part (k+1) (by omega) _ _ _ _ _ j1 hv2)) ?_;rintro r6 h6 ⟨y6,hp6,t6,hn6,ht6⟩;refine⟨λ_=>y6.mono (λ_ _ q=>.inl q),?_⟩;have z6:=y6.size;obtain⟨mk,mt,ma,mn,mc,rfl,hr6⟩:=hn6.get;refine cV 6 rfl (aV.gS underlying32 H.Hw ([[.int .i64 jk,.string (bs jx),.slice ja jn jc],[.int .i64 mk,.string (bs mt),.slice ma mn mc]]) rfl rfl (by decide) (by simp<;>repeat' (first|rfl|constructor))) ?_;rintro _ h8 ⟨rfl,hh8⟩;refine⟨λ_=>(by rw[hh8];exact Ext.push _ _ _),?_⟩;have e8:aj h6 h8:=by rw[hh8];exact Ext.push _ _ _
         have z8:h8.size=h6.size+1:=by rw[hh8];simp
         have hs8:cH eN (λb=>b<=h.size\/b=h2.size) h8 h6.size 62 (.slice (some ⟨h6.size,0,none⟩) 2 2) [ju,t6]:=by
          rw[hh8];exact mG (aK j6 y6 (λb hb q=>⟨λq2=>q (by omega),q⟩)) (aK hr6 (Ext.refl (λ_=>False) _) (λb hb q=>⟨λq2=>q2,λq2=>q (by omega)⟩)) (Nat.le_refl _)
         have hs8':aL eN h8 (λb=>b<=h.size\/b=h2.size) (.slice (some ⟨h6.size,0,none⟩) 2 2) [ju,t6]:=hs8.read (λb hb q=>by omega) (λb hb q=>q);refine bq 7 rfl (λh' e=>av (H.cM _ _ _ _ _) rfl) ?_;refine gU 8 rfl (aZ rfl rfl (((j5.ext y6 (show ¬h2.size=c.pb by omega)).ah e8)) eY) ?_;rintro _ h9 ⟨rfl,k9,x9,z9⟩;refine⟨nofun,?_⟩;have k9:aC h9 h2.size 62 [.int .i64 5,.string (bs v5),.slice (some ⟨h6.size,0,none⟩) 2 2]:=k9;have hI9:Fl c h h9 h2.size (.mk 5 v5 [u,v2]) s3:=⟨(hp6.ah e8).ext x9 (λb hb q=>by omega),((j2.trans y6).trans e8.of).cZ x9 (λb hb q=>by omega),((j3.ext y6 (show ¬h.size=c.pb by omega)).ah e8).ext x9 (show ¬h.size=h2.size by omega),j4,_,_,_,_,_,_,k9,sO (hs8'.mv (Mv.bY x9 λb hb q=>⟨λq2=>q (.inr q2),q⟩)),λq=>by rw[j7 (bE hv2 q),ht6 q]⟩
         refine fV ?_;refine af ?_;refine aN (λc3=>?_) (λc3=>?_)
         · have c3:k=3:=by omega
           rw[if_pos c3] at hm;obtain⟨rfl,rfl⟩:Tr.mk 5 v5 [u,v2]=t/\s3=s':=by cases hm;exact⟨rfl,rfl⟩
           obtain⟨j1,j2,j3,j4,jk,jx,ja,jn,jc,ju,j5,j6,j7⟩:=hI9;refine af ?_;refine xp rfl (cj rfl j5.row) ?_;refine aO rfl (aZ rfl rfl j3 eY) ?_;rintro _ hz ⟨rfl,kz,xz,zz⟩;refine af ?_;refine cE (cz rfl kz.row cD) ?_;exact⟨_,rfl,cq hp j2 j1 (dK.of (aK j6 (Ext.refl (λ_=>False) _) (λb hb q=>⟨λq2=>q2,λq2=>q (.inl q2)⟩))) j7 xz⟩
         · have c3:k≠3:=by omega
           rw[if_neg c3] at hm;refine af ?_;exact ihL (m,.mk 5 v5 [u,v2],s3) ⟨by omega,hm,hI9⟩ (Nat.lt_succ_self _)
def notM (s:PS):Bool×PS:=match bM 4 [kW] s with|(some _,s)=>(true,s)|(none,s)=>match bM 6 [oG] s with|(some _,s)=>(true,s)|(none,s)=>(false,s)
theorem P0 (e:Int) (n:Nat) (s:PS):pM e (n+1) (.part 2) s=if (notM s).1 then dZ (pM e n (.part 2) (notM s).2) λt s=>some (.mk 4 kW [t],s) else pM e n (.part 3) (notM s).2:=by
 rw[pM,if_neg (by decide),if_pos rfl];unfold notM;obtain⟨o,s1,U⟩:∃o s1,bM 4 [kW] s=(o,s1):=⟨_,_,rfl⟩
 obtain⟨J,s2,I⟩:∃o s2,bM 6 [oG] s1=(o,s2):=⟨_,_,rfl⟩
 cases o<;>cases J<;>simp[U,I]
theorem AF (ih:∀m,m<=n->Gh m):Cq 76 [.int .i64 (2:Nat)] (.part 2) (n+1):=by
 intro c h s t s' hp hm;have hpl:=hp.lt;obtain⟨o1,o2⟩:=hp.old;rw[P0] at hm;refine bJ ?_;refine af ?_;refine xo rfl (cL) ?_;rintro _ h1 ⟨rfl,k1,e1,z1⟩;refine af ?_;refine dB rfl (by decide) ?_
 iterate 3 refine aQ ?_
 refine H9 (fun(u:Unit) (h':aq)=>uq c h' (notM s).2/\Ext (λb=>b=c.pb) h1 h') (fun(u:Unit)=>[(20,.bool (notM s).1)]) rfl ?_ ?_
 · refine af ?_;refine RW.bw (d:=13) (b':=true) rfl (decide_eq_true ((by omega))) ?_;refine af ?_;refine xo rfl (aE rfl (b9 (hp.ah e1) 4 kW)) ?_;rintro _ Y ⟨rfl,I,x2⟩
   rcases aa:bM 4 [kW] s with ⟨o2,s2⟩
   rw[aa] at I
   rcases o2 with _|v2
   · refine af ?_;refine RW.bw (d:=16) (b':=false) rfl (rfl) ?_;refine af ?_;refine xo rfl (aE rfl (b9 I 6 oG)) ?_;rintro _ h3 ⟨rfl,ad,x3⟩
     rcases ac:bM 6 [oG] s2 with ⟨o3,s3⟩
     rw[ac] at ad;have U:notM s=(o3.isSome,s3):=by unfold notM;rw[aa];dsimp only;rw[ac];cases o3<;>rfl
     refine af ?_;exact lN () ⟨by rw[U];exact ad,x2.trans x3⟩ ⟨ai rfl (by rw[U]),sb rfl⟩
   · have U:notM s=(true,s2):=by unfold notM;rw[aa]
     refine af ?_;refine RW.bw (d:=16) (b':=true) rfl (rfl) ?_;refine af ?_;exact lN () ⟨by rw[U];exact I,x2⟩ ⟨ai rfl (by rw[U]),sb rfl⟩
 · rintro u Y ⟨I,x2⟩;have Z:=e1.of.trans x2;have J:=k1.ext x2 (show ¬h.size=c.pb by omega);refine jS (λU=>?_) (λU=>?_)
   · rw[if_pos U] at hm;obtain⟨v,s1,hv,hm⟩:=ay hm;obtain⟨rfl,rfl⟩:Tr.mk 4 kW [v]=t/\s1=s':=by cases hm;exact⟨rfl,rfl⟩
     refine af ?_;refine xo rfl (aE rfl ((ih n (Nat.le_refl _)).part 2 (by omega) _ _ _ _ _ I hv)) ?_;rintro r6 h6 ⟨y6,an,t6,ao,ag⟩;have z6:=y6.size;obtain⟨nk,nt,na,nn,nc,rfl,al⟩:=ao.get;refine xo rfl (lg) ?_;rintro _ h7 ⟨rfl,ab⟩;have e7:aj h6 h7:=by rw[ab];exact Ext.push _ _ _
     have z7:h7.size=h6.size+1:=by rw[ab];simp
     have ak:aL eN h7 (λb=>b<Array.size Y) (.slice (some ⟨h6.size,0,none⟩) 1 1) [t6]:=by rw[ab];exact ij al (by omega)
     have zk:=(J).lt;refine xp rfl (av (H.cM _ _ _ _ _) rfl) (aO rfl (aZ rfl rfl (((J.ext y6 (show ¬h.size=c.pb by omega)).ah e7)) eY) ?_);rintro _ hz ⟨rfl,kz,xz,zz⟩;refine af ?_;refine cE (cz rfl kz.row cD) ?_;exact⟨_,rfl,cq hp (((Z).trans y6).trans e7.of) (an.ah e7) (dK.shut (ak.mv (Mv.bY (Ext.refl (λ_=>False) _) λb hb q=>⟨λJ=>J,λJ=>q (by omega)⟩))) (λq=>by rw[ag q]) xz⟩
   · have U:¬(notM s).1=true:=by simpa using U
     rw[if_neg U] at hm
     iterate 3 refine aQ ?_
     refine dU [(30,.bool false)] rfl ?_ ?_
     · refine af ?_;refine RW.bw (d:=27) (b':=false) rfl (decide_eq_false ((by omega))) ?_;refine af ?_;exact aD rfl ⟨ai rfl (rfl),sb rfl⟩
     · refine dB rfl (by simp) ?_;refine af ?_;refine xo rfl (aE rfl ((ih n (Nat.le_refl _)).part 3 (by omega) _ _ _ _ _ I hm)) ?_;rintro r2 Y ⟨y2,I,t2,ap,qu⟩;obtain⟨nk,nt,na,nn,nc,rfl,am⟩:=ap.get;refine xo rfl (cL) ?_;rintro _ h3 ⟨rfl,k3,e3,z3⟩;refine aO rfl (aZ rfl rfl k3 eY) ?_;rintro _ h4 ⟨rfl,k4,x4,z4⟩;have z2:=y2.size;have z0:=(show Ext (λb=>b=c.pb) h _ from Z).size;have zr:=(J).lt;have ae:Ext (λb=>b=Y.size) Y h4:=e3.of.trans x4;have hI:Fl c h h4 Y.size t s':=⟨(I.ah e3).ext x4 (λb hb q=>by omega),(((show Ext (λb=>b=c.pb) h _ from Z).trans y2).trans e3.of).cZ x4 (λb hb q=>by omega),(((J).ext y2 (by omega)).ah e3).ext x4 (show ¬h.size=Y.size by omega),by omega,nk,nt,na,nn,nc,t2,k4,aK am ae (λb hb q=>⟨λJ=>by omega,λJ=>q (by omega)⟩),qu⟩
       refine af ?_;refine fK (σ:=Unit) (λ_=>[]) (λw g=>Fl c h g Y.size t s') (λw=>0) (()) hI rfl ?_;rintro w g hI ihL
       iterate 2 refine aQ ?_
       refine dU [(44,.bool false)] rfl ?_ ?_
       · refine af ?_;refine RW.bw (d:=41) (b':=false) rfl (decide_eq_false ((by omega))) ?_;refine af ?_;exact aD rfl ⟨ai rfl (rfl),sb rfl⟩
       · refine dB rfl (by simp) ?_;obtain⟨j1,j2,j3,j4,jk,jx,ja,jn,jc,ju,j5,j6,j7⟩:=hI;refine af ?_;refine xp rfl (cj rfl j5.row) (aO rfl (aZ rfl rfl j3 eY) ?_);rintro _ hz ⟨rfl,kz,xz,zz⟩;refine af ?_;refine cE (cz rfl kz.row cD) ?_;exact⟨_,rfl,cq hp j2 j1 (dK.of (aK j6 (Ext.refl (λ_=>False) _) (λb hb q=>⟨λJ=>J,λJ=>q (.inl J)⟩))) j7 xz⟩
theorem AE (ih:∀m,m<=n->Gh m):Cq 76 [.int .i64 (6:Nat)] (.part 6) (n+1):=by
 intro c h s t s' hp hm;have hpl:=hp.lt;obtain⟨o1,o2⟩:=hp.old;rw[pM,if_neg (by decide),if_neg (by decide),if_pos rfl] at hm;refine bJ ?_;refine af ?_;refine xo rfl (cL) ?_;rintro _ h1 ⟨rfl,k1,e1,z1⟩;refine af ?_;refine dB rfl (by decide) ?_
 iterate 3 refine aQ ?_
 refine dU [(20,.bool false)] rfl ?_ ?_
 · refine af ?_;refine RW.bw (d:=13) (b':=false) rfl (decide_eq_false ((by omega))) ?_;refine af ?_;exact aD rfl ⟨ai rfl (rfl),sb rfl⟩
 · refine dB rfl (by simp) ?_
   rcases Z:bM 6 [ia] s with ⟨o2,s2⟩
   rw[Z] at hm
   iterate 3 refine aQ ?_
   refine H9 (fun(u:Unit) (h':aq)=>uq c h' s2/\Ext (λb=>b=c.pb) h1 h') (fun(u:Unit)=>[(30,.bool o2.isSome)]) rfl ?_ ?_
   · refine af ?_;refine RW.bw (d:=27) (b':=true) rfl (decide_eq_true ((by omega))) ?_;refine af ?_;refine xo rfl (aE rfl (b9 (hp.ah e1) 6 ia)) ?_;rintro _ U ⟨rfl,I,x2⟩;rw[Z] at I;refine af ?_;exact lN () ⟨I,x2⟩ ⟨ai rfl (by rw[Z]),sb rfl⟩
   · rintro u U ⟨I,x2⟩;have Y:=e1.of.trans x2;have J:=k1.ext x2 (show ¬h.size=c.pb by omega)
     rcases o2 with _|v2
     · simp only at hm;refine dB rfl (by simp) ?_;refine af ?_;refine xo rfl (aE rfl ((ih n (Nat.le_refl _)).part 7 (by omega) _ _ _ _ _ I hm)) ?_;rintro r2 U ⟨y2,I,t2,am,qu⟩;obtain⟨nk,nt,na,nn,nc,rfl,ag⟩:=am.get;refine xo rfl (cL) ?_;rintro _ h3 ⟨rfl,k3,e3,z3⟩;refine aO rfl (aZ rfl rfl k3 eY) ?_;rintro _ h4 ⟨rfl,k4,x4,z4⟩;have z2:=y2.size;have z0:=(show Ext (λb=>b=c.pb) h _ from Y).size;have zr:=(J).lt;have ab:Ext (λb=>b=U.size) U h4:=e3.of.trans x4;have hI:Fl c h h4 U.size t s':=⟨(I.ah e3).ext x4 (λb hb q=>by omega),(((show Ext (λb=>b=c.pb) h _ from Y).trans y2).trans e3.of).cZ x4 (λb hb q=>by omega),(((J).ext y2 (by omega)).ah e3).ext x4 (show ¬h.size=U.size by omega),by omega,nk,nt,na,nn,nc,t2,k4,aK ag ab (λb hb q=>⟨λJ=>by omega,λJ=>q (by omega)⟩),qu⟩
       refine af ?_;refine fK (σ:=Unit) (λ_=>[]) (λw g=>Fl c h g U.size t s') (λw=>0) (()) hI rfl ?_;rintro w g hI ihL
       iterate 2 refine aQ ?_
       refine dU [(44,.bool false)] rfl ?_ ?_
       · refine af ?_;refine RW.bw (d:=41) (b':=true) rfl (decide_eq_true ((by omega))) ?_;refine af ?_;exact aD rfl ⟨ai rfl (by simp),sb rfl⟩
       · refine dB rfl (by simp) ?_;obtain⟨j1,j2,j3,j4,jk,jx,ja,jn,jc,ju,j5,j6,j7⟩:=hI;refine af ?_;refine xp rfl (cj rfl j5.row) (aO rfl (aZ rfl rfl j3 eY) ?_);rintro _ hz ⟨rfl,kz,xz,zz⟩;refine af ?_;refine cE (cz rfl kz.row cD) ?_;exact⟨_,rfl,cq hp j2 j1 (dK.of (aK j6 (Ext.refl (λ_=>False) _) (λb hb q=>⟨λJ=>J,λJ=>q (.inl J)⟩))) j7 xz⟩
     · simp only at hm;obtain⟨v,s1,hv,hm⟩:=ay hm;obtain⟨rfl,rfl⟩:Tr.mk 4 ia [v]=t/\s1=s':=by cases hm;exact⟨rfl,rfl⟩
       refine dc rfl (by simp) ?_;refine af ?_;refine xo rfl (aE rfl ((ih n (Nat.le_refl _)).part 6 (by omega) _ _ _ _ _ I hv)) ?_;rintro r6 h6 ⟨y6,ak,t6,al,ac⟩;have z6:=y6.size;obtain⟨nk,nt,na,nn,nc,rfl,ae⟩:=al.get;refine xo rfl (lg) ?_;rintro _ h7 ⟨rfl,aa⟩;have e7:aj h6 h7:=by rw[aa];exact Ext.push _ _ _
       have z7:h7.size=h6.size+1:=by rw[aa];simp
       have ad:aL eN h7 (λb=>b<Array.size U) (.slice (some ⟨h6.size,0,none⟩) 1 1) [t6]:=by rw[aa];exact ij ae (by omega)
       have zk:=(J).lt;refine xp rfl (av (H.cM _ _ _ _ _) rfl) (aO rfl (aZ rfl rfl (((J.ext y6 (show ¬h.size=c.pb by omega)).ah e7)) eY) ?_);rintro _ hz ⟨rfl,kz,xz,zz⟩;refine af ?_;refine cE (cz rfl kz.row cD) ?_;exact⟨_,rfl,cq hp (((Y).trans y6).trans e7.of) (ak.ah e7) (dK.shut (ad.mv (Mv.bY (Ext.refl (λ_=>False) _) λb hb q=>⟨λJ=>J,λJ=>q (by omega)⟩))) (λq=>by rw[ac q]) xz⟩
theorem AD (ih:∀m,m<=n->Gh m):Cq 76 [.int .i64 (7:Nat)] (.part 7) (n+1):=by
 intro c h s t s' J hm;have hpl:=J.lt;obtain⟨o1,o2⟩:=J.old;refine bJ ?_;refine af ?_;refine xo rfl (cL) ?_;rintro _ h1 ⟨rfl,k1,e1,z1⟩;refine af ?_;refine dc rfl (by decide) ?_;refine af ?_;refine xo rfl (aE rfl (zc ih _ _ _ _ _ (J.ah e1) hm)) ?_;rintro r9 g9 ⟨y9,aa,t9,I,Z⟩;have k9:=(k1).ext y9 (show ¬h.size=c.pb by omega);obtain⟨nk,nt,na,nn,nc,rfl,_⟩:=I.get;refine aO rfl (aZ rfl rfl k9) ?_;rintro _ g10 ⟨rfl,Y,U,z10⟩;refine af ?_;refine cE (cz rfl Y.row cD) ?_;exact⟨_,rfl,fh.ret ⟨y9,aa,t9,I,Z⟩ J (e1.of) U (Nat.le_refl _) (k1).lt⟩
structure Kx (c:PC) (h g:aq) (b3:Nat) (K:Int) (l:List Tr) (kv:Value) (s1:PS):Prop where
 st:uq c g s1
 ext:Ext (λb=>b=c.pb) h g
 res:aC g h.size 62 [.int .i64 0,.string (bs []),.slice none 0 0]
 lt:h.size<b3
 nd:aC g b3 62 [.int .i64 K,.string (bs []),kv]
 row:cH eN (λb=>b<=h.size\/b=b3) g (h.size+1) 62 kv l
 own:∀b,kv.ownBlock=some b->h.size<b/\b≠b3/\b<g.size
 sl:∃a m d,kv= .slice a m d
theorem Kx.mv {I:aq}{K:Int}{kv:Value}{s2:PS}(k:Kx c h g b3 K l kv s1) (hp:c.pb<h.size) (x:Ext (λb=>b=c.pb) g I) (hs:uq c I s2):Kx c h I b3 K l kv s2:=by
 obtain⟨k1,k2,Z,k4,Y,k6,J,U⟩:=k;have:=x.size;exact⟨hs,k2.trans x,Z.ext x (by omega),k4,Y.ext x (by omega),k6.kU x (λb q q2=>by have:=J b q;omega) (λb hb q=>by omega) (λ_ _ q=>q),λb q=>by have:=J b q;omega,U⟩
theorem Kx.tell {K:Int}{kv:Value}(k:Kx c h g b3 K l kv s1):dK g (λb=>b<=h.size) (.agg #[.int .i64 K,.string (bs []),kv]) (.mk K [] l) :=
 dK.shut (k.row.read (λb I q=>by omega) (λb I q=>.inl q))
theorem AH (ih:∀m,m<=n->Gh m):Cq 111 [] .block (n+1):=by
 intro c h s t s' hp hm;have hpl:=hp.lt;obtain⟨o1,o2⟩:=hp.old;rw[pM] at hm;refine bJ ?_;refine af ?_;refine xo rfl (cL) ?_;rintro _ h1 ⟨rfl,k1,e1,z1⟩;refine af ?_;refine xo rfl (aE rfl (gO (hp.ah e1) 7 [123])) ?_;rintro _ h2 ⟨hp2,x2⟩;have z2:=x2.size;refine af ?_;refine xp rfl (av (H.M1 _) rfl) ?_;refine xo rfl (cL) ?_;rintro _ h3 ⟨rfl,k3,e3,z3⟩;refine aO rfl (aZ rfl rfl k3) ?_;rintro _ h4 ⟨rfl,k4,x4,z4⟩
 have hsl:(bV c.e 7 [123] s).bB=false->(bV c.e 7 [123] s).len+1<=c.us.length:=λq=>by
  have:=hp.short;unfold bV at q ⊢
  rcases hq:bM 7 [[123]] s with ⟨o,s1⟩
  rw[hq] at q;cases o with
  |none=>rw[dQ] at q;cases q
  |some x=>have:=cW hq;simp only;omega
 have hK4:Kx c h h4 h2.size 10 [] (.slice none 0 0) (bV c.e 7 [123] s):=⟨(hp2.ah e3).ext x4 (λb hb q=>by omega),((e1.of.trans x2).trans e3.of).cZ x4 (λi hi q=>by omega),((k1.ext x2 (show ¬h.size=c.pb by omega)).ah e3).ext x4 (show ¬h.size=h2.size by omega),by omega,k4,cH.nil _ _ _ _ _,λb q=>(by cases q),⟨_,_,_,rfl⟩⟩
 refine af ?_;refine fK (σ:=Nat×List Tr×Value×PS) (λ_=>[]) (λw g=>Kx c h g h2.size 10 w.2.1 w.2.2.1 w.2.2.2/\w.1<=n/\pM c.e w.1 (.blockL w.2.1) w.2.2.2=some (t,s')/\w.2.1.length<=c.us.length/\(w.2.2.2.bB=false->w.2.1.length+w.2.2.2.len+1<=c.us.length)) (λw=>w.1) ((n,[],.slice none 0 0,bV c.e 7 [123] s)) ⟨hK4,Nat.le_refl _,hm,Nat.zero_le _,λq=>by have:=hsl q;simp only[List.length_nil];omega⟩ rfl ?_;rintro⟨m,l,kv,sI⟩ g ⟨hI,hmn,hm,hll,hlen⟩ ihL
 try dsimp only
 obtain⟨m,rfl⟩:∃m',m=m'+1:=by cases m with|zero=>cases hm|succ m=>exact⟨m,rfl⟩
 have hI:Kx c h g h2.size 10 l kv sI:=hI;dsimp only at hm hll hlen;rw[pM] at hm;obtain⟨v,s2,hv,hm⟩:=ay hm;have hsh:=hI.st.short;obtain⟨i1,i2,i3,i4,i5,i6,i7,_⟩:=id hI;have i5l:=i5.lt;have i2z:=i2.size
 have hM:¬(h2.size=c.pb\/bU (kv).ownBlock h2.size\/Array.size g<=h2.size):=λq=>by
  rcases q with q|q|q
  · omega
  · have:=i7 _ q.symm;omega
  · omega
 refine af ?_;refine jK 8 (λb=>b=c.pb\/bU (kv).ownBlock b\/Array.size g<=b) (λi=>Nat.blt i 7) ?_;refine aF 0 ?_;refine bq 1 rfl (λh' e=>aA rfl (e.cell hM (i5.cell (i:=2) rfl))) ?_;refine aF 2 ?_;refine cV 3 rfl (aE rfl ((ih m (by omega)).stmt _ _ _ _ _ i1 hv)) ?_;rintro r6 h6 ⟨y6,hp6,t6,hn6,ht6⟩;refine⟨λ_=>y6.mono (λ_ _ q=>.inl q),?_⟩;have z6:=y6.size;obtain⟨mk,mt,ma,mn,mc,rfl,hr6⟩:=hn6.get;have ho6:=i6.kU y6 (λb q q2=>by have:=i7 b q;omega) (λb hb q=>by omega) (λ_ _ q=>q);obtain⟨css,hc1,hc2,hc3⟩:=id ho6;refine cV 4 rfl (lg) ?_;rintro _ _ ⟨rfl,rfl⟩;refine⟨λ_=>by first|exact Ext.push _ _ _|assumption,?_⟩;refine cV 5 rfl (vL rfl rfl hc2 rfl rfl) ?_;rintro v7 h7 ⟨ho7,hx7,hx7',hv7⟩;refine⟨λ_=>hx7'.mono (λb _ q=>.inr (.inl q)),?_⟩;have z7:=hx7.size;obtain⟨va,vm,vc,rfl⟩:=pZ ho7;refine aF 6 ?_;refine gU 7 rfl (iG rfl rfl (((i5.ext y6 (show ¬h2.size=c.pb by omega)).ext hx7 (λq=>by have:=i7 _ q.symm;omega)))) ?_;rintro _ h8 ⟨rfl,k8,x8,z8⟩;refine⟨nofun,?_⟩
 have hr6':eN.R h6 (λb=>bU (kv).ownBlock b\/(b<=h.size\/b=h2.size)) [.int .i64 mk,.string (bs mt),.slice ma mn mc] t6:=aK hr6 (Ext.refl (λ_=>False) _) (λb hb q=>⟨λk=>k,λq2=>by
  rcases q2 with q2|q2
  · have:=i7 _ q2.symm;omega
  · omega⟩)
 have ho7x:cH eN (λb=>b<=h.size\/b=h2.size) h7 (h.size+1) 62 (.slice va vm vc) (l++[t6]):=cH.eC hc1 hc3 ho7 hx7 hv7 hr6'
 have hown7:∀b,(Value.slice va vm vc).ownBlock=some b->h.size<b/\b≠h2.size/\b<h7.size:=λb q=>by
  have hl:=(ho7.lt q).2
  rcases hv7 b q with q2|q2
  · have:=i7 b q2;omega
  · omega
 have hK:Kx c h h8 h2.size 10 (l++[t6]) (.slice va vm vc) s2:=Kx.mk ((hp6.ext hx7 (λb hb q=>by have:=i7 _ q.symm;omega)).ext x8 (λb hb q=>by omega)) (((i2.trans y6).cZ hx7 (λi hi q=>by have:=i7 _ q.symm;omega)).cZ x8 (λi hi q=>by omega)) (((i3.ext y6 (show ¬h.size=c.pb by omega)).ext hx7 (λq=>by have:=i7 _ q.symm;omega)).ext x8 (show ¬h.size=h2.size by omega)) i4 k8 (ho7x.kU x8 (λb q q2=>by have:=hown7 b q;omega) (λb hb q=>.inr q) (λ_ _ q=>q)) (λb q=>by have:=hown7 b q;omega) ⟨_,_,_,rfl⟩;have hvl:=tL hv;refine fV ?_;refine af ?_;refine xo rfl (aE rfl (b9 hK.st 6 [59])) ?_;rintro _ h9 ⟨rfl,hp9,x9⟩
 rcases hq9:bM 6 [[59]] s2 with ⟨o9,s9⟩
 rw[hq9] at hp9 hm;have hK9:=hK.mv hpl x9 hp9;simp only at hm
 rcases hq10:bM 8 [[125]] s9 with ⟨o10,s10⟩
 rw[hq10] at hm;refine aR ?_;refine cO ?_
 iterate 2 refine aQ ?_
 refine H9 (fun(u:Unit) (h':aq)=>uq c h' s10/\Ext (λb=>b=c.pb) h9 h') (fun(u:Unit)=>[(24,.bool (s9.bB ||o10.isSome))]) rfl ?_ ?_
 · obtain⟨pi,pbb,pm,pk,_,_,ps,_⟩:=id hp9;refine af ?_;refine xp rfl (aA rfl (pk.cell (i:=3) rfl)) ?_;refine af ?_
   rcases s9 with r|q
   · obtain⟨rfl,_⟩:=ps;refine RW.bw (d:=21) (b':=false) rfl (rfl) ?_;refine af ?_;refine xo rfl (aE rfl (b9 hp9 8 [125])) ?_;rintro _ h10 ⟨rfl,hp10,x10⟩;rw[hq10] at hp10;refine af ?_;exact lN () ⟨hp10,x10⟩ ⟨ai rfl (by rw[hq10];rfl),sb rfl⟩
   · obtain⟨rfl,_⟩:=ps;refine RW.bw (d:=21) (b':=true) rfl (rfl) ?_;have hq10':(none,PS.bad q)=(o10,s10):=hq10;cases hq10';refine af ?_;exact lN () ⟨hp9,Ext.refl _ _⟩ ⟨ai rfl (rfl),sb rfl⟩
 · rintro u h10 ⟨hp10,x10⟩;have hK10:=hK9.mv hpl x10 hp10;refine jS (λhd=>?_) (λhd=>?_)
   · have hfin:Tr.mk 10 [] (l++[v])=t/\s10=s':=by
      cases o10 with
      |some x=>simp only at hm;cases hm;exact⟨rfl,rfl⟩
      |none =>
       have hbad:s9.bB=true:=by simpa using hd
       obtain rfl:=aM hq10;simp only[hbad,Bool.not_true,Bool.and_false,Bool.false_eq_true,if_false,(nU hbad).2] at hm;cases hm;exact⟨rfl,rfl⟩
     obtain⟨rfl,rfl⟩:=hfin;refine af ?_;refine xp rfl (cj rfl hK10.nd.row) ?_;refine aO rfl (aZ rfl rfl hK10.res eY) ?_;rintro _ hz ⟨rfl,kz,xz,zz⟩;refine af ?_;refine cE (cz rfl kz.row cD) ?_;exact⟨_,rfl,cq hp hK10.ext hK10.st hK10.tell (λq=>by rw[ht6 (aS hq9 (aS hq10 q))]) xz⟩
   · have hd:s9.bB=false/\o10=none:=by cases o10<;>simp_all
     obtain⟨hd1,rfl⟩:=hd;obtain rfl:=aM hq10
     rcases o9 with _|v9
     · simp only[Option.isSome_none,Bool.false_and,Bool.false_eq_true,if_false] at hm;obtain⟨rfl,rfl⟩:Tr.mk 10 [] (l++[v])=t/\cu c.e s10=s':=by cases hm;exact⟨rfl,rfl⟩
       refine af ?_;refine dc rfl (by simp) ?_;refine af ?_;refine xo rfl (aE rfl (gN hK10.st)) ?_;rintro _ h11 ⟨hp11,x11⟩;have hK11:=hK10.mv hpl x11 hp11;refine af ?_;refine xp rfl (cj rfl hK11.nd.row) ?_;refine aO rfl (aZ rfl rfl hK11.res eY) ?_;rintro _ hz ⟨rfl,kz,xz,zz⟩;refine af ?_;refine cE (cz rfl kz.row cD) ?_;exact⟨_,rfl,cq hp hK11.ext hK11.st hK11.tell (λq=>by rw[dQ] at q;cases q) xz⟩
     · simp only[Option.isSome_some,hd1,Bool.not_false,Bool.and_true,if_true] at hm;have hg2:=aS hq9 hd1;have hl9:=cW hq9;have hl1:=hlen (bE hv hg2);refine af ?_;refine dB rfl (by simp) ?_;refine af ?_;exact ihL (m,l++[t6],_,_) ⟨hK10,by show m<=n;omega,by rw[ht6 hg2];exact hm,by simp only[List.length_append,List.length_singleton];omega,λ_=>by simp only[List.length_append,List.length_singleton];omega⟩
theorem C1 {U J c3:List Value}{y z:Tr}{T:TypeId}(q1:eN.R h O U x) (Z:eN.R h O J y) (Y:eN.R h O c3 z){base:Nat}(hb:base<=h.size):cH eN O (h.push (.cells (U++(J++c3)).toArray T)) base T (.slice (some ⟨h.size,0,none⟩) 3 3) [x,y,z]:=by
 have:=cH.LZ (e:=eN) (O:=O) (h:=h) (css:=[U,J,c3]) (xs:=[x,y,z]) (t:=T) (base:=base) (n:=3) rfl (λi cs z h1 I=>by
  match i with
  | 0=>simp at h1 I;subst h1 I;exact q1
  | 1=>simp at h1 I;subst h1 I;exact Z
  | 2=>simp at h1 I;subst h1 I;exact Y
  |i+3=>simp at h1) hb rfl (by decide)
 simpa using this
theorem za (ih:∀m,m<=n->Gh m):Cq 74 [] .choice (n+1):=by
 intro c h s t s' hp hm;have hpl:=hp.lt;obtain⟨o1,o2⟩:=hp.old;rw[pM] at hm;obtain⟨a6,s1,bi,hm⟩:=ay hm;obtain⟨a1,s2,bb,hm⟩:=ay hm;refine bJ ?_;refine af ?_;refine xo rfl (cL) ?_;rintro _ h1 ⟨rfl,k1,e1,z1⟩;refine af ?_;refine xo rfl (aE rfl ((ih n (Nat.le_refl _)).expr _ _ _ _ _ (hp.ah e1) bi)) ?_;rintro r2 h2 ⟨y2,bx,t2,b1,qu⟩;obtain⟨ak,at_,aa,an,ac,rfl,bm⟩:=b1.get;have z2:=y2.size;refine xo rfl (cL) ?_;rintro _ h3 ⟨rfl,k3,e3,z3⟩;refine aO rfl (aZ rfl rfl k3 eY) ?_;rintro _ h4 ⟨rfl,k4,x4,z4⟩;have ar:Ext (λb=>b=h2.size) h2 h4:=e3.of.trans x4;refine af ?_;refine xo rfl (aE rfl ((ih n (Nat.le_refl _)).block _ _ _ _ _ ((bx.ah e3).ext x4 (λb J q=>by omega)) bb)) ?_;rintro r5 h5 ⟨y5,bv,t5,b0,bj⟩;obtain⟨bk,bt,ba,bn,bc,rfl,bl⟩:=b0.get;have z5:=y5.size;refine xo rfl (cL) ?_;rintro _ h6 ⟨rfl,k6,e6,z6⟩;refine aO rfl (aZ rfl rfl k6 eY) ?_;rintro _ h7 ⟨rfl,k7,x7,z7⟩;have a_:Ext (λb=>b=h5.size) h5 h7:=e6.of.trans x7;refine af ?_;refine xo rfl (aE rfl (gO ((bv.ah e6).ext x7 (λb J q=>by omega)) 4 mo)) ?_;rintro _ h8 ⟨bo,x8⟩;refine af ?_;refine xo rfl (aE rfl (b9 bo 4 zJ)) ?_;rintro _ h9 ⟨rfl,a8,x9⟩
 rcases bd:bM 4 [zJ] (bV c.e 4 mo s2) with ⟨o9,s9⟩
 rw[bd] at a8 hm;have ao:Ext (λb=>b=c.pb) h7 h9:=x8.trans x9;have ap:Ext (λb=>b=c.pb) h4 h9:=(y5.cZ a_ (λi hi q=>by omega)).trans ao;have a':Ext (λb=>b=c.pb) h h9:=((e1.of.trans y2).cZ ar (λi hi q=>by omega)).trans ap;have z9:=ao.size;have kA:=k4.ext ap (show ¬h2.size=c.pb by omega);have kB:=k7.ext ao (show ¬h5.size=c.pb by omega);have q9:=((k1.ext y2 (show ¬h.size=c.pb by omega)).ext ar (show ¬h.size=h2.size by omega)).ext ap (show ¬h.size=c.pb by omega);have hA:eN.R h9 (λb=>b<=h.size) [.int .i64 ak,.string (bs at_),.slice aa an ac] t2:=aK (aK (O':=λb=>b<=h.size) bm ar (λb J q=>⟨λY=>by omega,λY=>q (by omega)⟩)) ap (λb J q=>⟨λY=>q (by omega),q⟩);have hB:eN.R h9 (λb=>b<=h.size) [.int .i64 bk,.string (bs bt),.slice ba bn bc] t5:=aK (aK (O':=λb=>b<=h.size) bl a_ (λb J q=>⟨λY=>by omega,λY=>q (by omega)⟩)) ao (λb J q=>⟨λY=>q (by omega),q⟩)
 have U:s9.bB=false->t2=a6/\t5=a1:=λq=>by
  have Y:=dM (aS bd q);exact⟨qu (bE bb Y),bj Y⟩
 rcases o9 with _|v9
 · simp only at hm;obtain⟨aw,s3,Z,hm⟩:=ay hm;obtain⟨rfl,rfl⟩:Tr.mk 6 [] [a6,a1,aw]=t/\s3=s':=by cases hm;exact⟨rfl,rfl⟩
   refine af ?_;refine dB rfl (by simp) ?_;refine af ?_;refine jK 7 (λb=>b=c.pb\/Array.size h9<=b) (λi=>Nat.blt i 6) (bq 0 rfl (λh' e=>cj rfl (e.rowAt (by omega) kA.row)) (bq 1 rfl (λh' e=>cj rfl (e.rowAt (by omega) kB.row)) (aF 2 (cV 3 rfl (aE rfl ((ih n (Nat.le_refl _)).block _ _ _ _ _ a8 Z)) ?_))));rintro bh ha ⟨I,al,t10,am,ad⟩;refine⟨λ_=>I.mono (λ_ _ q=>.inl q),?_⟩;have be:=I.size;obtain⟨mk,mt,ma,mn,mc,rfl,ag⟩:=am.get;refine cV 4 rfl (aV.gS underlying32 H.Hw ([[.int .i64 ak,.string (bs at_),.slice aa an ac],[.int .i64 bk,.string (bs bt),.slice ba bn bc],[.int .i64 mk,.string (bs mt),.slice ma mn mc]]) rfl rfl (by decide) (by simp<;>repeat' (first|rfl|constructor))) ?_;rintro _ J ⟨rfl,ab⟩;refine⟨λ_=>(by rw[ab];exact Ext.push _ _ _),?_⟩;have eb:aj ha J:=by rw[ab];exact Ext.push _ _ _
   have a7:cH eN (λb=>b<=h.size) J ha.size 62 (.slice (some ⟨ha.size,0,none⟩) 3 3) [t2,t5,t10]:=by
    rw[ab];exact C1 (aK hA I (λb J q=>⟨λY=>q (by omega),q⟩)) (aK hB I (λb J q=>⟨λY=>q (by omega),q⟩)) (aK ag (Ext.refl (λ_=>False) _) (λb J q=>⟨λY=>Y,λY=>q (by omega)⟩)) (Nat.le_refl _)
   have ae:aL eN J (λb=>b<=h.size) (.slice (some ⟨ha.size,0,none⟩) 3 3) [t2,t5,t10]:=a7.read (λb J q=>by omega) (λb J q=>q);refine bq 5 rfl (λh' e=>av (H.cM _ _ _ _ _) rfl) (gU 6 rfl (aZ rfl rfl (((q9.ext I (show ¬h.size=c.pb by omega)).ah eb)) eY) ?_);rintro _ hz ⟨rfl,kz,xz,zz⟩;refine⟨nofun,?_⟩;refine fV (cE (cz rfl kz.row cD) ?_);exact⟨_,rfl,cq hp ((a'.trans I).trans eb.of) (al.ah eb) (dK.shut ae) (λq=>by rw[ad q,(U (bE Z q)).1,(U (bE Z q)).2]) xz⟩
 · simp only at hm;obtain⟨aw,s3,Z,hm⟩:=ay hm;obtain⟨rfl,rfl⟩:Tr.mk 6 [] [a6,a1,aw]=t/\s3=s':=by cases hm;exact⟨rfl,rfl⟩
   refine af ?_;refine dc rfl (by simp) ?_;refine af ?_;refine jK 7 (λb=>b=c.pb\/Array.size h9<=b) (λi=>Nat.blt i 6) (bq 0 rfl (λh' e=>cj rfl (e.rowAt (by omega) kA.row)) (bq 1 rfl (λh' e=>cj rfl (e.rowAt (by omega) kB.row)) (aF 2 (cV 3 rfl (aE rfl ((ih n (Nat.le_refl _)).choice _ _ _ _ _ a8 Z)) ?_))));rintro bh ha ⟨I,al,t10,am,ad⟩;refine⟨λ_=>I.mono (λ_ _ q=>.inl q),?_⟩;have be:=I.size;obtain⟨mk,mt,ma,mn,mc,rfl,ag⟩:=am.get;refine cV 4 rfl (aV.gS underlying32 H.Hw ([[.int .i64 ak,.string (bs at_),.slice aa an ac],[.int .i64 bk,.string (bs bt),.slice ba bn bc],[.int .i64 mk,.string (bs mt),.slice ma mn mc]]) rfl rfl (by decide) (by simp<;>repeat' (first|rfl|constructor))) ?_;rintro _ J ⟨rfl,ab⟩;refine⟨λ_=>(by rw[ab];exact Ext.push _ _ _),?_⟩;have eb:aj ha J:=by rw[ab];exact Ext.push _ _ _
   have a7:cH eN (λb=>b<=h.size) J ha.size 62 (.slice (some ⟨ha.size,0,none⟩) 3 3) [t2,t5,t10]:=by
    rw[ab];exact C1 (aK hA I (λb J q=>⟨λY=>q (by omega),q⟩)) (aK hB I (λb J q=>⟨λY=>q (by omega),q⟩)) (aK ag (Ext.refl (λ_=>False) _) (λb J q=>⟨λY=>Y,λY=>q (by omega)⟩)) (Nat.le_refl _)
   have ae:aL eN J (λb=>b<=h.size) (.slice (some ⟨ha.size,0,none⟩) 3 3) [t2,t5,t10]:=a7.read (λb J q=>by omega) (λb J q=>q);refine bq 5 rfl (λh' e=>av (H.cM _ _ _ _ _) rfl) (gU 6 rfl (aZ rfl rfl (((q9.ext I (show ¬h.size=c.pb by omega)).ah eb)) eY) ?_);rintro _ hz ⟨rfl,kz,xz,zz⟩;refine⟨nofun,?_⟩;refine fV (cE (cz rfl kz.row cD) ?_);exact⟨_,rfl,cq hp ((a'.trans I).trans eb.of) (al.ah eb) (dK.shut ae) (λq=>by rw[ad q,(U (bE Z q)).1,(U (bE Z q)).2]) xz⟩
def xG (e:Int):PS->Tr×PS
 |.ok (u::r)=>if u.1=5 then (.mk 0 u.2.1 [],.ok r) else if u.1=9 then (.mk 1 u.2.1 [],.ok r) else if u.1=3 then (.mk 3 u.2.1 [],.ok r) else (B7,cu e (.ok (u::r)))
 |.ok []=>(B7,cu e (.ok []))
 |.bad m=>(B7,.bad m)
theorem KM (e:Int) (n:Nat) (s:PS):pM e (n+1) .atom s=if zm 7 [123] s then pM e n .block s else match bM 7 [[40]] s with
 |(some _,s)=>dZ (pM e n .expr s) λt s=>some (t,bV e 8 [41] s)
 |(none,s)=>match bM 4 [gZ] s with
  |(some _,s)=>some (.mk 2 gZ [],s)
  |(none,s)=>match bM 4 [gC] s with
   |(some _,s)=>some (.mk 2 gC [],s)
   |(none,s)=>some (xG e s):=by
 cases s with
 |bad m=>rfl
 |ok r =>
  cases r with
  |nil=>rfl
  |cons u r =>
   rw[pM];unfold zm
   by_cases h7:u.1=7
   · rw[yC (by omega) (by omega) (by omega) (λq=>by omega)];simp only[cm,xG,h7]
     by_cases h1:u.2.1=[123]
     · simp[h1]
     · by_cases h2:u.2.1=[40]<;>simp[h1,h2,cm,h7]
   · by_cases J:u.1=4/\(u.2.1=gZ\/u.2.1=gC)
     · obtain⟨J,I⟩:=J;rw[Gb J I];simp only[cm,J]
       rcases I with I|I<;>simp[I,cm,J]
     · have Y:∀x,x=gZ\/x=gC->¬(u.1=4/\u.2.1∈[x]):=λx hx q=>J ⟨q.1,by rw[show u.2.1=x by simpa using q.2];exact hx⟩
       simp only[cm,h7,false_and,if_false,if_neg (Y gZ (.inl rfl)),if_neg (Y gC (.inr rfl)),xG,Option.isSome_none,Bool.false_eq_true]
       by_cases I:u.1=5
       · rw[Ga I,if_pos I]
       · by_cases U:u.1=9
         · rw[F9 U,if_neg I,if_pos U]
         · by_cases Z:u.1=3
           · rw[Gc Z,if_neg I,if_neg U,if_pos Z]
           · rw[yC I U Z J,if_neg I,if_neg U,if_neg Z]
theorem Cc (ih:∀m,m<=n->Gh m):Cq 134 [] .atom (n+1):=by
 intro c h s t s' hp hm;have hpl:=hp.lt;obtain⟨o1,o2⟩:=hp.old;rw[KM] at hm;refine bJ ?_;refine af ?_;refine xo rfl (cL) ?_;rintro _ h1 ⟨rfl,k1,e1,z1⟩;have hsee:=vZ (hp.ah e1) 7 [123];refine af ?_;refine xo rfl (aE rfl hsee) ?_;rintro _ h1 ⟨rfl,rfl⟩;refine af ?_;refine jS (λhb=>?_) (λhb=>?_)
 · rw[if_pos hb] at hm;refine af ?_;refine xo rfl (aE rfl ((ih n (Nat.le_refl _)).block _ _ _ _ _ (hp.ah e1) hm)) ?_;rintro r9 g9 ⟨y9,hp9,t9,hn9,ht9⟩;have k9:=(k1).ext y9 (show ¬h.size=c.pb by omega);obtain⟨nk,nt,na,nn,nc,rfl,_⟩:=hn9.get;refine aO rfl (aZ rfl rfl k9) ?_;rintro _ g10 ⟨rfl,k10,x10,z10⟩;refine af ?_;refine cE (cz rfl k10.row cD) ?_;exact⟨_,rfl,fh.ret ⟨y9,hp9,t9,hn9,ht9⟩ hp (e1.of) x10 (Nat.le_refl _) (k1).lt⟩
 · have hb:¬zm 7 [123] s=true:=by simpa using hb
   rw[if_neg hb] at hm;refine af ?_;refine xo rfl (aE rfl (b9 (hp.ah e1) 7 [40])) ?_;rintro _ h2 ⟨rfl,hp2,x2⟩
   rcases hq2:bM 7 [[40]] s with ⟨o2,s2⟩
   rw[hq2] at hp2 hm;have x02:=e1.of.trans x2;have q2:=k1.ext x2 (show ¬h.size=c.pb by omega)
   rcases o2 with _|v2
   · simp only at hm;refine af ?_;refine dB rfl (by simp) ?_;refine af ?_;refine xo rfl (aE rfl (b9 hp2 4 gZ)) ?_;rintro _ h3 ⟨rfl,hp3,x3⟩
     rcases hq3:bM 4 [gZ] s2 with ⟨o3,s3⟩
     rw[hq3] at hp3 hm;have x03:=x02.trans x3;have q3:=q2.ext x3 (show ¬h.size=c.pb by omega)
     rcases o3 with _|v3
     · simp only at hm;refine af ?_;refine dB rfl (by simp) ?_;refine af ?_;refine xo rfl (aE rfl (b9 hp3 4 gC)) ?_;rintro _ h4 ⟨rfl,hp4,x4⟩
       rcases hq4:bM 4 [gC] s3 with ⟨o4,s4⟩
       rw[hq4] at hp4 hm;have x04:=x03.trans x4;have q4:=q3.ext x4 (show ¬h.size=c.pb by omega)
       rcases o4 with _|v4
       · simp only at hm;refine af ?_;refine dB rfl (by simp) ?_;have zq:=q4.lt;have xz4:=x04.size
         rcases s4 with r|q
         · rcases r with _|⟨u,r⟩
           · obtain⟨rfl,rfl⟩:B7=t/\cu c.e (.ok [])=s':=by cases hm;exact⟨rfl,rfl⟩
             obtain⟨i,b,m,hk,hl,hi,⟨rfl,hr⟩,_⟩:=id hp4;have hie:=qP hr hi;obtain⟨la,ln,lc,hlv,hls⟩:=hl.open;have hln:c.us.length=ln:=hls.len;subst hln;rw[hlv] at hk
             iterate 3 refine aQ ?_
             refine rP ?_
             iterate 3 refine jD ?_
             refine bF rfl (aA rfl (hk.cell (i:=3) rfl)) ?_;refine af ?_;refine RQ.bw (d:=28) (b':=true) rfl (rfl) ?_;refine af ?_;refine bF rfl (aA rfl (hk.cell (i:=1) rfl)) ?_;refine af ?_;refine bF rfl (aA rfl (hk.cell (i:=0) rfl)) ?_;refine af ?_;refine dB rfl (by simp[hie]) ?_;refine af ?_;refine xo rfl (aE rfl (gN hp4)) ?_;rintro _ hy ⟨hpy,xy⟩;refine af ?_;refine xp rfl (av (H.J2 ) rfl) ?_;refine aO rfl (aZ rfl rfl ((q4.ext xy (show ¬h.size=c.pb by omega))) eY) ?_;rintro _ hz ⟨rfl,kz,xz,zz⟩;refine af ?_;refine cE (cz rfl kz.row cD) ?_;exact⟨_,rfl,cq hp ((x04).trans xy) hpy (mH _ _) (λ_=>rfl) xz⟩
           · obtain⟨i,b,m,hk,hl,hi,⟨rfl,hr⟩,_⟩:=id hp4;obtain⟨la,ln,lc,hlv,hls⟩:=hl.open;have hln:c.us.length=ln:=hls.len;subst hln;obtain⟨hu,hil,hr'⟩:=rV hls hr;have hlm:=hls.cap;have hlc:=hls.le;simp only[maxLen] at hlm;obtain⟨b1,p1,u',hua,hub,hu',hrow⟩:=hls.nA hil;rw[hu] at hu';cases hu';rw[hlv] at hk
             iterate 3 refine aQ ?_
             refine rP ?_
             iterate 3 refine jD ?_
             refine bF rfl (aA rfl (hk.cell (i:=3) rfl)) ?_;refine af ?_;refine RQ.bw (d:=28) (b':=true) rfl (rfl) ?_;refine af ?_;refine bF rfl (aA rfl (hk.cell (i:=1) rfl)) ?_;refine af ?_;refine bF rfl (aA rfl (hk.cell (i:=0) rfl)) ?_;refine af ?_;refine dc rfl (by simp;omega) ?_;refine af ?_;refine Gn 12 11 ?_;refine aF 0 ?_;refine aF 1 ?_;refine aF 2 ?_;refine bq 3 rfl (λh' e=>aA rfl (e.old (hk.cell (i:=0) rfl))) ?_;refine aF 4 ?_;refine aF 5 ?_;refine aF 6 ?_;refine bq 7 rfl (λh' e=>aA rfl (e.old (hk.cell (i:=1) rfl))) ?_;refine bq 8 rfl (λh' e=>bZ rfl rfl i rfl hua) ?_;refine bq 9 rfl (λh' e=>cj rfl (e.Bk hrow)) ?_;refine cV 10 rfl (cL) ?_;rintro _ h6 ⟨rfl,k6,e6,z6⟩;refine⟨λ_=>e6.of,?_⟩;refine gU 11 rfl (aZ rfl rfl k6 (by simpa using AP u)) ?_;rintro _ h8 ⟨rfl,hku,x8,z8⟩;refine⟨nofun,?_⟩;have x48:Ext (λb=>b=h4.size) h4 h8:=e6.of.trans x8;have x08:Ext (λb=>b=c.pb) h h8:=x04.cZ x48 (λi hi q=>by omega);have hku:aC h8 h4.size 94 (vw u):=hku;have hp8:=hp4.ext x48 (λb hb q=>by omega);obtain⟨i8,m8,hk8,hi8,hnx⟩:=hp8.next
             have hkr:=q4.ext x48 (show ¬h.size=h4.size by omega);refine fV ?_;refine af ?_;refine xp rfl (aA rfl (hku.cell (i:=0) rfl)) ?_;refine af ?_;refine aN (λc5=>?_) (λc5=>?_)
             · refine af ?_;refine dc rfl (by decide) ?_;refine af ?_;refine xp rfl (aA rfl (hk8.cell (i:=1) rfl)) ?_;refine af ?_;refine aO rfl (iG rfl rfl hk8) ?_;rintro _ h9 ⟨rfl,k9,x9,z9⟩;have hu9:=hku.ext x9 (show ¬h4.size=c.pb by omega);refine af ?_;refine xp rfl (aA rfl (hu9.cell (i:=2) rfl)) ?_;refine xp rfl (av (H.cM _ _ _ _ _) rfl) ?_;refine aO rfl (aZ rfl rfl ((hkr.ext x9 (show ¬h.size=c.pb by omega))) eY) ?_;rintro _ hz ⟨rfl,kz,xz,zz⟩;refine af ?_;refine cE (cz rfl kz.row cD) ?_;rw[xG,if_pos c5] at hm;obtain⟨rfl,rfl⟩:Tr.mk 0 u.2.1 []=t/\PS.ok r=s':=by cases hm;exact⟨rfl,rfl⟩
               exact⟨_,rfl,cq hp (x08.trans x9) (hnx _ k9 x9) (dK.shut (aL.nil _ _ _)) (λ_=>rfl) xz⟩
             · refine af ?_;refine aN (λc9=>?_) (λc9=>?_)
               · refine af ?_;refine dc rfl (by decide) ?_;refine af ?_;refine xp rfl (aA rfl (hk8.cell (i:=1) rfl)) ?_;refine af ?_;refine aO rfl (iG rfl rfl hk8) ?_;rintro _ h9 ⟨rfl,k9,x9,z9⟩;have hu9:=hku.ext x9 (show ¬h4.size=c.pb by omega);refine af ?_;refine xp rfl (aA rfl (hu9.cell (i:=2) rfl)) ?_;refine xp rfl (av (H.cM _ _ _ _ _) rfl) ?_;refine aO rfl (aZ rfl rfl ((hkr.ext x9 (show ¬h.size=c.pb by omega))) eY) ?_;rintro _ hz ⟨rfl,kz,xz,zz⟩;refine af ?_;refine cE (cz rfl kz.row cD) ?_;rw[xG,if_neg c5,if_pos c9] at hm;obtain⟨rfl,rfl⟩:Tr.mk 1 u.2.1 []=t/\PS.ok r=s':=by cases hm;exact⟨rfl,rfl⟩
                 exact⟨_,rfl,cq hp (x08.trans x9) (hnx _ k9 x9) (dK.shut (aL.nil _ _ _)) (λ_=>rfl) xz⟩
               · refine af ?_;refine aN (λc3=>?_) (λc3=>?_)
                 · refine af ?_;refine dc rfl (by decide) ?_;refine af ?_;refine xp rfl (aA rfl (hk8.cell (i:=1) rfl)) ?_;refine af ?_;refine aO rfl (iG rfl rfl hk8) ?_;rintro _ h9 ⟨rfl,k9,x9,z9⟩;have hu9:=hku.ext x9 (show ¬h4.size=c.pb by omega);refine af ?_;refine xp rfl (aA rfl (hu9.cell (i:=2) rfl)) ?_;refine xp rfl (av (H.cM _ _ _ _ _) rfl) ?_;refine aO rfl (aZ rfl rfl ((hkr.ext x9 (show ¬h.size=c.pb by omega))) eY) ?_;rintro _ hz ⟨rfl,kz,xz,zz⟩;refine af ?_;refine cE (cz rfl kz.row cD) ?_;rw[xG,if_neg c5,if_neg c9,if_pos c3] at hm;obtain⟨rfl,rfl⟩:Tr.mk 3 u.2.1 []=t/\PS.ok r=s':=by cases hm;exact⟨rfl,rfl⟩
                   exact⟨_,rfl,cq hp (x08.trans x9) (hnx _ k9 x9) (dK.shut (aL.nil _ _ _)) (λ_=>rfl) xz⟩
                 · refine af ?_;refine dB rfl (by decide) ?_;rw[xG,if_neg c5,if_neg c9,if_neg c3] at hm;obtain⟨rfl,rfl⟩:B7=t/\cu c.e (.ok (u::r))=s':=by cases hm;exact⟨rfl,rfl⟩
                   refine af ?_;refine xo rfl (aE rfl (gN hp8)) ?_;rintro _ hy ⟨hpy,xy⟩;refine af ?_;refine xp rfl (av (H.J2 ) rfl) ?_;refine aO rfl (aZ rfl rfl ((hkr.ext xy (show ¬h.size=c.pb by omega))) eY) ?_;rintro _ hz ⟨rfl,kz,xz,zz⟩;refine af ?_;refine cE (cz rfl kz.row cD) ?_;exact⟨_,rfl,cq hp ((x08).trans xy) hpy (mH _ _) (λ_=>rfl) xz⟩
         · obtain⟨rfl,rfl⟩:B7=t/\PS.bad q=s':=by cases hm;exact⟨rfl,rfl⟩
           obtain⟨i,b,m,hk,hl,hi,⟨rfl,rfl⟩,_⟩:=id hp4
           iterate 3 refine aQ ?_
           refine rP ?_
           iterate 3 refine jD ?_
           refine bF rfl (aA rfl (hk.cell (i:=3) rfl)) ?_
           iterate 2 refine jD ?_
           refine RQ.bw (d:=28) (b':=false) rfl (rfl) ?_;refine af ?_;refine dB rfl (by simp) ?_;refine af ?_;refine xo rfl (aE rfl (gN hp4)) ?_;rintro _ hy ⟨hpy,xy⟩;refine af ?_;refine xp rfl (av (H.J2 ) rfl) ?_;refine aO rfl (aZ rfl rfl ((q4.ext xy (show ¬h.size=c.pb by omega))) eY) ?_;rintro _ hz ⟨rfl,kz,xz,zz⟩;refine af ?_;refine cE (cz rfl kz.row cD) ?_;exact⟨_,rfl,cq hp ((x04).trans xy) hpy (mH _ _) (λ_=>rfl) xz⟩
       · simp only at hm;obtain⟨rfl,rfl⟩:Tr.mk 2 gC []=t/\s4=s':=by cases hm;exact⟨rfl,rfl⟩
         refine af ?_;refine dc rfl (by simp) ?_;refine af ?_;refine xp rfl (av (H.cM _ _ _ _ _) rfl) ?_;refine aO rfl (aZ rfl rfl q4 eY) ?_;rintro _ hz ⟨rfl,kz,xz,zz⟩;refine af ?_;refine cE (cz rfl kz.row cD) ?_;exact⟨_,rfl,cq hp x04 hp4 (dK.shut (aL.nil _ _ _)) (λ_=>rfl) xz⟩
     · simp only at hm;obtain⟨rfl,rfl⟩:Tr.mk 2 gZ []=t/\s3=s':=by cases hm;exact⟨rfl,rfl⟩
       refine af ?_;refine dc rfl (by simp) ?_;refine af ?_;refine xp rfl (av (H.cM _ _ _ _ _) rfl) ?_;refine aO rfl (aZ rfl rfl q3 eY) ?_;rintro _ hz ⟨rfl,kz,xz,zz⟩;refine af ?_;refine cE (cz rfl kz.row cD) ?_;exact⟨_,rfl,cq hp x03 hp3 (dK.shut (aL.nil _ _ _)) (λ_=>rfl) xz⟩
   · simp only at hm;obtain⟨v,s1,hv,hm⟩:=ay hm;obtain⟨rfl,rfl⟩:v=t/\bV c.e 8 [41] s1=s':=by cases hm;exact⟨rfl,rfl⟩
     refine af ?_;refine dc rfl (by simp) ?_;refine af ?_;refine xo rfl (aE rfl ((ih n (Nat.le_refl _)).expr _ _ _ _ _ hp2 hv)) ?_;rintro r6 h6 ⟨y6,hp6,t6,hn6,ht6⟩;obtain⟨nk,nt,na,nn,nc,rfl,hr6⟩:=hn6.get;have z6:=y6.size;have z2:=q2.lt;refine xo rfl (cL) ?_;rintro _ h7 ⟨rfl,k7,e7,z7⟩;refine aO rfl (aZ rfl rfl k7 eY) ?_;rintro _ h8 ⟨rfl,k8,x8,z8⟩;have x68:Ext (λb=>b=h6.size) h6 h8:=e7.of.trans x8;have hp8:=hp6.ext x68 (λb hb q=>by omega);refine af ?_;refine xo rfl (aE rfl (gO hp8 8 [41])) ?_;rintro _ h9 ⟨hp9,x9⟩;refine af ?_;refine xp rfl (cj rfl (k8.ext x9 (show ¬h6.size=c.pb by omega)).row) ?_;refine aO rfl (aZ rfl rfl ((((q2.ext y6 (show ¬h.size=c.pb by omega)).ext x68 (show ¬h.size=h6.size by omega)).ext x9 (show ¬h.size=c.pb by omega))) eY) ?_;rintro _ hz ⟨rfl,kz,xz,zz⟩;refine af ?_;refine cE (cz rfl kz.row cD) ?_;have x09:Ext (λb=>b=c.pb) h h9:=((x02.trans y6).cZ x68 (λi hi q=>by omega)).trans x9;exact⟨_,rfl,cq hp x09 hp9 (dK.of (aK (aK (O':=λb=>b<=h.size) hr6 x68 (λb hb q=>⟨λq2=>by omega,λq2=>q (by omega)⟩)) x9 (λb hb q=>⟨λq2=>q (by omega),q⟩))) (λq=>by rw[ht6 (dM q)]) xz⟩
theorem KL:∀n,Gh n:=by
 intro n
 induction n using Nat.strongRecOn with
 |_ n I =>
  cases n with
  |zero =>
   have z:∀f ex j,Cq f ex j 0:=λf ex j c h s t s' hp hm=>by cases hm
   exact⟨z _ _ _,z _ _ _,λ_=>z _ _ _,z _ _ _,z _ _ _,z _ _ _,λ_ _=>z _ _ _,z _ _ _⟩
  |succ n =>
   have I:∀m,m<=n->Gh m:=λm hm=>I m (Nat.lt_succ_of_le hm)
   exact⟨Ca I,Cb I,Ea I,za I,Eb I,AH I,λk hk=>by
    match k,hk with
    | 0,_=>exact gX I (by decide)
    | 1,_=>exact gX I (by decide)
    | 2,_=>exact AF I
    | 3,_=>exact gX I (by decide)
    | 4,_=>exact gX I (by decide)
    | 5,_=>exact gX I (by decide)
    | 6,_=>exact AE I
    | 7,_=>exact AD I,Cc I⟩
theorem K3 (c:UInt8):DD c=if c=110 then 10 else if c=114 then 13 else if c=116 then 9 else if c=48 then 0 else c:=by
 have key:∀n,n<256->DD (UInt8.ofNat n)=if UInt8.ofNat n=110 then 10 else if UInt8.ofNat n=114 then 13 else if UInt8.ofNat n=116 then 9 else if UInt8.ofNat n=48 then 0 else UInt8.ofNat n:=by decide +kernel
 have:=key c.toNat c.toNat_lt
 rwa [UInt8.ofNat_toNat] at this
theorem wM (c:UInt8):au prog 37 #[.int .u8 c.toNat] h (bK λr h'=>r= .int .u8 (DD c).toNat/\h'=h):=by
 rw[K3];refine bJ ?_;refine af ?_;refine aN (λa=>?_) (λa=>?_)
 · refine af ?_;refine aP ?_;exact⟨_,rfl,by rw[if_pos ((bz (d:=110) rfl).1 a)];rfl,rfl⟩
 · refine af ?_;refine aN (λb=>?_) (λb=>?_)
   · refine af ?_;refine aP ?_;exact⟨_,rfl,by rw[if_neg (λq=>a ((bz (d:=110) rfl).2 q)),if_pos ((bz (d:=114) rfl).1 b)];rfl,rfl⟩
   · refine af ?_;refine aN (λd=>?_) (λd=>?_)
     · refine af ?_;refine aP ?_;exact⟨_,rfl,by rw[if_neg (λq=>a ((bz (d:=110) rfl).2 q)),if_neg (λq=>b ((bz (d:=114) rfl).2 q)),if_pos ((bz (d:=116) rfl).1 d)];rfl,rfl⟩
     · refine af ?_;refine aN (λf=>?_) (λf=>?_)
       · refine af ?_;refine aP ?_;exact⟨_,rfl,by rw[if_neg (λq=>a ((bz (d:=110) rfl).2 q)),if_neg (λq=>b ((bz (d:=114) rfl).2 q)),if_neg (λq=>d ((bz (d:=116) rfl).2 q)),if_pos ((bz (d:=48) rfl).1 f)];rfl,rfl⟩
       · refine af ?_;refine aP ?_;exact⟨_,rfl,by rw[if_neg (λq=>a ((bz (d:=110) rfl).2 q)),if_neg (λq=>b ((bz (d:=114) rfl).2 q)),if_neg (λq=>d ((bz (d:=116) rfl).2 q)),if_neg (λq=>f ((bz (d:=48) rfl).2 q))];rfl,rfl⟩
def Rj (h':aq) (r:Value):(Int×Int) ⊕ List Un->Prop
 |.inl p=>r=packed [.slice none 0 0,.int .i64 p.1,.int .i64 p.2]
 |.inr us=>us.length<=500/\∃uv,r=packed [uv,.int .i64 0,.int .i64 0]/\aL QE h' (λ_=>False) uv us
theorem K4 (w:By):∃c,(w++[32,32])[1]? =some c/\DD c=kJ w:=by
 match w with
 | []=>exact⟨32,rfl,rfl⟩
 | [a]=>exact⟨32,rfl,rfl⟩
 |a::b::l=>exact⟨b,rfl,rfl⟩
theorem AB {ts:List Tok}(hv:aL Hx h (λ_=>False) v ts) (s:By) (st:kY) (hb:ts.length*(s.length+2)<=1000000000000) (hsl:s.length<=1000000000000) :
 au prog 17 #[.string (bs s),v,.agg (aG st).toArray] h (bK λr h'=>aj h h'/\Rj h' r (eX s ts st.1)):=by
 obtain⟨va,vn,vc,rfl,hvs⟩:=id hv.open;have hvl:ts.length=vn:=hvs.len;subst hvl;have hvm:=hvs.cap;have hvc:=hvs.le;simp only[maxLen] at hvm;have hbz:=aJ s;refine bJ ?_;refine af ?_;refine xo rfl (mh) ?_;rintro _ h1 ⟨rfl,k1,e1,z1⟩;have k1:aC h1 h.size 25 (aG st):=k1;have hv1:=hvs.mv (Mv.ah e1);refine af ?_;refine fK (σ:=Nat) (λi=>[(9,.int .i64 (i:Nat))]) (λi g=>g=h1/\i<=ts.length/\∀t∈ts.take i,vT s t=true) (λi=>ts.length-i) (0) ⟨rfl,Nat.zero_le _,by simp⟩ rfl ?_;rintro i g ⟨rfl,hi,hin⟩ ih;refine af ?_;refine aN (λhlt=>?_) (λhlt=>?_)
 · have hil:i<ts.length:=by omega
   obtain⟨b,o,t,ha,_,ht,hrow⟩:=hv1.nA hil
   iterate 4 refine aQ ?_
   refine rP ?_
   iterate 2 refine jD ?_
   refine bF rfl (bZ rfl rfl i rfl ha) ?_;refine af ?_;refine bF rfl (aA rfl (hrow 1 _ rfl)) ?_;refine af ?_;refine Pc 28 (λg1=>?_) (λg1=>?_)
   · have g1:=of_decide_eq_true g1;refine af ?_;refine dc rfl (by simp[g1]) ?_;refine af ?_;refine aP ?_;refine⟨_,rfl,e1,?_⟩
     have hno:ts.all (vT s)=false:=by
      rw[<-Bool.not_eq_true,List.all_eq_true];intro hall;have:=hall t (List.mem_of_getElem? ht);unfold vT at this;simp only[Bool.and_eq_true,decide_eq_true_eq] at this;omega
     unfold eX;rw[if_neg (by rw[hno];simp)];rfl
   · have g1:=of_decide_eq_false g1
     iterate 2 refine jD ?_
     refine bF rfl (bZ rfl rfl i rfl ha) ?_;refine af ?_;refine bF rfl (aA rfl (hrow 1 _ rfl)) ?_
     iterate 2 refine jD ?_
     refine bF rfl (bZ rfl rfl i rfl ha) ?_;refine af ?_;refine bF rfl (aA rfl (hrow 2 _ rfl)) ?_;refine af ?_;refine Pc 41 (λg2=>?_) (λg2=>?_)
     · have g2:=of_decide_eq_true g2;refine af ?_;refine dc rfl (by simp[g2]) ?_;refine af ?_;refine aP ?_;refine⟨_,rfl,e1,?_⟩
       have hno:ts.all (vT s)=false:=by
        rw[<-Bool.not_eq_true,List.all_eq_true];intro hall;have:=hall t (List.mem_of_getElem? ht);unfold vT at this;simp only[Bool.and_eq_true,decide_eq_true_eq] at this;omega
       unfold eX;rw[if_neg (by rw[hno];simp)];rfl
     · have g2:=of_decide_eq_false g2
       iterate 2 refine jD ?_
       refine bF rfl (bZ rfl rfl i rfl ha) ?_;refine af ?_;refine bF rfl (aA rfl (hrow 2 _ rfl)) ?_;refine af ?_;refine aN (λg3=>?_) (λg3=>?_)
       · refine af ?_;refine aP ?_;refine⟨_,rfl,e1,?_⟩
         have hno:ts.all (vT s)=false:=by
          rw[<-Bool.not_eq_true,List.all_eq_true];intro hall;have:=hall t (List.mem_of_getElem? ht);unfold vT at this;simp only[Bool.and_eq_true,decide_eq_true_eq] at this;omega
         unfold eX;rw[if_neg (by rw[hno];simp)];rfl
       · refine af ?_;exact ih (i+1) ⟨rfl,by omega,λx hx=>by rw[List.take_add_one,ht,List.mem_append] at hx;rcases hx with hx|hx;exact hin x hx;simp only[Option.toList_some,List.mem_singleton] at hx;subst hx;unfold vT;simp only[Bool.and_eq_true,decide_eq_true_eq];omega⟩
 · obtain rfl:i=ts.length:=by omega
   rw[List.take_length] at hin;have hw:ts.all (vT s)=true:=List.all_eq_true.2 hin
   have hU:eX s ts st.1=match lz s ts [] false with|.er a e=>.inl (a,e)|.go out op=>if op=true\/st.1≠0 then .inl (s.length,10) else .inr out:=by
    unfold eX;rw[if_pos hw];rfl
   rw[hU];generalize htg0:lz s ts [] false=tgt;refine af ?_;refine fK (σ:=Nat×List Un×Bool×Value) (λw=>[(10,w.2.2.2),(11,.bool w.2.2.1),(12,.int .i64 (w.1:Nat))]) (λw x=>w.1<=ts.length/\aj g x/\g.size<=x.size/\fG 3 vw x g.size 94 w.2.2.2 w.2.1/\lz s (ts.drop w.1) w.2.1 w.2.2.1=tgt/\w.2.1.length<=500/\(w.2.2.1=true->w.2.1≠[])/\(∀u∈w.2.1,u.2.1.length<=w.1*(s.length+2))) (λw=>ts.length-w.1) ((0,[],false,.slice none 0 0)) ⟨Nat.zero_le _,Ext.refl _ _,Nat.le_refl _,fG.nil _ _ _ _ _,htg0,by simp,(λk=>by cases k),by simp⟩ rfl ?_;rintro⟨i,out,op,ov⟩ x ⟨hi,eg,hz,how,htg,hol,hop,hut⟩ ih
   try dsimp only
   dsimp only at hi how htg hol hop hut;have hho:aB x g.size 94 3 ov out.length (out.flatMap vw):=how;obtain⟨oa,oc,rfl,_⟩:=hho.open;refine af ?_;refine aN (λhlt=>?_) (λhlt=>?_)
   · have hil:i<ts.length:=by omega
     have hmul:(i+1)*(s.length+2)<=ts.length*(s.length+2):=Nat.mul_le_mul_right _ hil;have hsuc:(i+1)*(s.length+2)=i*(s.length+2)+(s.length+2):=Nat.succ_mul _ _;have hbig:∀n,n<=i*(s.length+2)->n<=(i+1)*(s.length+2):=λn hn=>by omega
     obtain⟨b,o,t,ha,_,ht,hrow⟩:=(hv1.mv (Mv.ah eg)).nA hil;have hint:vT s t=true:=List.all_eq_true.1 hw t (List.mem_of_getElem? ht);obtain⟨f,q,hf,hq,hfq,hqs,htx⟩:=Dv hint;have htl:=zI s t;have hstep:=wj (s:=s) ht out op
     iterate 4 refine aQ ?_
     refine rP ?_
     iterate 2 refine jD ?_
     refine bF rfl (bZ rfl rfl i rfl ha) ?_;refine af ?_;refine bF rfl (aA rfl (hrow 0 _ rfl)) ?_
     iterate 3 refine jD ?_
     refine bF rfl (bZ rfl rfl i rfl ha) ?_;refine af ?_;refine bF rfl (aA rfl (hrow 1 _ rfl)) ?_
     iterate 2 refine jD ?_
     refine bF rfl (bZ rfl rfl i rfl ha) ?_;refine af ?_;refine bF rfl (aA rfl (hrow 2 _ rfl)) ?_;refine bF rfl (az.oK underlying9 rfl rfl f hf rfl q hq hfq (by omega)) ?_;rw[sW _ _ _ hfq,<-htx];refine af ?_;refine aN (λh0=>?_) (λh0=>?_)
     · have hu:fW s out op t= .er t.2.1 10:=by unfold fW;rw[if_pos h0]
       rw[hstep,hu] at htg;refine aQ ?_;refine rP ?_
       iterate 2 refine jD ?_
       refine bF rfl (bZ rfl rfl i rfl ha) ?_;refine af ?_;refine bF rfl (aA rfl (hrow 1 _ rfl)) ?_;refine af ?_;refine aP ?_;exact⟨_,rfl,e1.trans eg,by rw[<-htg];rfl⟩
     · refine af ?_
       rcases op with _|_
       · refine dB rfl (by simp) ?_
         have hu0:fW s out false t=(if t.1=1\/t.1=2\/t.1=11 then .go out false else if out.length=500 then .er t.2.1 3 else .go (out++[(t.1,if t.1=9 then [] else bD s t,t.2.1)]) (decide (t.1=9))):=by
          unfold fW;rw[if_neg h0];rfl
         iterate 3 refine aQ ?_
         refine dU [(129,.bool (decide (t.1=1\/t.1=2\/t.1=11)))] rfl ?_ ?_
         · refine af ?_;refine cX 122 (λc1=>?_) (λc1=>?_)
           · have c1:=of_decide_eq_true c1;refine af ?_;exact aD rfl ⟨ai rfl (by simp[c1]),sb rfl⟩
           · have c1:=of_decide_eq_false c1;refine af ?_;refine cX 126 (λc2=>?_) (λc2=>?_)
             · have c2:=of_decide_eq_true c2;refine af ?_;exact aD rfl ⟨ai rfl (by simp[c2]),sb rfl⟩
             · have c2:=of_decide_eq_false c2;refine af ?_;exact aD rfl ⟨ai rfl (by simp[c1,c2]),sb rfl⟩
         · refine aN (λcs=>?_) (λcs=>?_)
           · refine af ?_;exact ih (i+1,out,false,(.slice oa out.length oc)) ⟨by show i+1<=ts.length;omega,eg,by have:=(eg).size;omega,how,by rw[hstep,(hu0.trans (if_pos cs))] at htg;exact htg,hol,(λk=>by cases k),(λu hu=>hbig _ (hut u hu))⟩
           · rw[if_neg cs] at hu0;refine af ?_;refine aN (λc500=>?_) (λc500=>?_)
             · have c500:out.length=500:=by omega
               rw[if_pos c500] at hu0;rw[hstep,hu0] at htg;refine aQ ?_;refine rP ?_
               iterate 2 refine jD ?_
               refine bF rfl (bZ rfl rfl i rfl ha) ?_;refine af ?_;refine bF rfl (aA rfl (hrow 1 _ rfl)) ?_;refine af ?_;refine aP ?_;exact⟨_,rfl,e1.trans eg,by rw[<-htg];rfl⟩
             · have c500:¬out.length=500:=by omega
               rw[if_neg c500] at hu0;refine af ?_;refine aN (λc9=>?_) (λc9=>?_)
               · refine cI ?_
                 iterate 2 refine aR ?_
                 refine cO ?_;refine cI ?_
                 iterate 4 refine aR ?_
                 refine xp rfl (bZ rfl rfl i rfl ha) ?_;refine af ?_;refine xp rfl (aA rfl (hrow 1 _ rfl)) ?_;refine af ?_;refine xp rfl (av (H.yy _ _ _) rfl) ?_;refine xo rfl (lg) ?_;rintro _ _ ⟨rfl,rfl⟩;refine xo rfl (aV.dA underlying55 H.MU rfl rfl (hho) rfl rfl (AP (t.1,([]:By),t.2.1)) (by omega) (by decide) (by omega)) ?_;rintro v2 g4 ⟨ho4,hx4,hx4',hv4⟩;have ho5:fG 3 vw g4 g.size 94 v2 (out++[(t.1,([]:By),t.2.1)]):=fG.of ho4 rfl rfl;have e24:aj g g4:=Ext.own eg hho (Nat.le_refl _) hx4;have hu1:fW s out false t= .go (out++[(t.1,([]:By),t.2.1)]) true:=hu0.trans (by simp[c9]);refine af ?_;exact ih (i+1,(out++[(t.1,([]:By),t.2.1)]),true,v2) ⟨by show i+1<=ts.length;omega,e24,by have:=(e24).size;omega,ho5,by rw[hstep,hu1] at htg;exact htg,(by rw[List.length_append];simp only[List.length_singleton];omega),(λ_=>by simp),(λu hu=>(List.mem_append.1 hu).elim (λhu=>hbig _ (hut u hu)) (λhu=>by simp only[List.mem_singleton] at hu;subst hu;show List.length (([]:By))<=(i+1)*(s.length+2);have hz0:List.length ([]:By)=0:=rfl;omega))⟩
               · refine aQ ?_;refine cI ?_
                 iterate 4 refine aR ?_
                 refine xp rfl (bZ rfl rfl i rfl ha) ?_;refine af ?_;refine xp rfl (aA rfl (hrow 1 _ rfl)) ?_;refine af ?_;refine xp rfl (av (H.yy _ _ _) rfl) ?_;refine xo rfl (lg) ?_;rintro _ _ ⟨rfl,rfl⟩;refine xo rfl (aV.dA underlying55 H.MU rfl rfl (hho) rfl rfl (AP (t.1,(bD s t),t.2.1)) (by omega) (by decide) (by omega)) ?_;rintro v2 g4 ⟨ho4,hx4,hx4',hv4⟩;have ho5:fG 3 vw g4 g.size 94 v2 (out++[(t.1,(bD s t),t.2.1)]):=fG.of ho4 rfl rfl;have e24:aj g g4:=Ext.own eg hho (Nat.le_refl _) hx4;have hu1:fW s out false t= .go (out++[(t.1,(bD s t),t.2.1)]) false:=hu0.trans (by simp[c9]);refine af ?_;exact ih (i+1,(out++[(t.1,(bD s t),t.2.1)]),false,v2) ⟨by show i+1<=ts.length;omega,e24,by have:=(e24).size;omega,ho5,by rw[hstep,hu1] at htg;exact htg,(by rw[List.length_append];simp only[List.length_singleton];omega),(λ_=>by simp),(λu hu=>(List.mem_append.1 hu).elim (λhu=>hbig _ (hut u hu)) (λhu=>by simp only[List.mem_singleton] at hu;subst hu;show List.length ((bD s t))<=(i+1)*(s.length+2);have hz0:List.length ([]:By)=0:=rfl;omega))⟩
       · have hne:=hop rfl
         obtain⟨pre,u,hpre⟩:∃pre u,out=pre++[u]:=by
          rcases List.eq_nil_or_concat out with q|⟨p,u,q⟩
          · exact absurd q hne
          · exact⟨p,u,by simpa using q⟩
         have hlen:out.length=pre.length+1:=by rw[hpre];simp
         have hgu:out[pre.length]? =some u:=by rw[hpre];simp
         have hul:=hut u (by rw[hpre];simp);obtain⟨gb,gc,hgv,hgb,hgl,hgr,hgf,hgs⟩:=fG.put (enc:=vw) (λ_=>rfl) how hgu;have hga:oa=some ⟨gb,0,none⟩:=by cases hgv;rfl
         have hu0:fW s out true t=(if t.1=9/\bD s t=[34] then .go out false else if t.1=10 then .go (fE [kJ (bD s t)] out) true else .go (fE (bD s t) out) true):=by
          unfold fW;rw[if_neg h0];rfl
         have hadd:∀x,fE x out=pre++[(u.1,u.2.1++x,u.2.2)]:=λx=>by rw[hpre];exact uo x pre u
         have hset:∀x,out.set pre.length (u.1,u.2.1++x,u.2.2)=fE x out:=λx=>by rw[hadd,hpre];exact CJ _ _ _
         have hadl:∀x,x.length<=s.length+1->∀u∈fE x out,u.2.1.length<=(i+1)*(s.length+2):=λx hx u' hu'=>by
          rw[hadd,List.mem_append] at hu'
          rcases hu' with hu'|hu'
          · exact hbig _ (hut u' (by rw[hpre];simp[hu']))
          · simp only[List.mem_singleton] at hu';subst hu';simp only[List.length_append];omega
         have hown:∀y x',x'=dx x ⟨gb,0+pre.length*3+2,none⟩ y->aj g x':=λy x' hx'=>by rw[hx'];exact aj.set eg hgb y
         refine dc rfl (by simp) ?_;refine aQ ?_;refine cI ?_
         iterate 4 refine aR ?_
         refine cO ?_
         iterate 2 refine aQ ?_
         refine dU [(90,.bool (decide (t.1=9/\bD s t=[34])))] rfl ?_ ?_
         · refine af ?_;refine cX 87 (λg9=>?_) (λg9=>?_)
           · have g9:=of_decide_eq_true g9;refine af ?_;exact aD rfl ⟨ai rfl (by rw[Bool.eq_iff_iff,decide_eq_true_iff,decide_eq_true_iff];exact⟨λq=>⟨g9,dF q⟩,λq=>congrArg bs q.2⟩),sb rfl⟩
           · have g9:=of_decide_eq_false g9;refine af ?_;exact aD rfl ⟨ai rfl (by rw[decide_eq_false (λq=>g9 q.1)]),sb rfl⟩
         · refine aN (λc9=>?_) (λc9=>?_)
           · rw[if_pos c9] at hu0;refine af ?_;exact ih (i+1,out,false,(.slice oa out.length oc)) ⟨by show i+1<=ts.length;omega,eg,by have:=(eg).size;omega,how,by rw[hstep,hu0] at htg;exact htg,hol,(λk=>by cases k),(λu hu=>hbig _ (hut u hu))⟩
           · rw[if_neg c9] at hu0;have hbu:=aJ u.2.1;have hbt:=aJ (bD s t);refine af ?_;refine aN (λc10=>?_) (λc10=>?_)
             · rw[if_pos c10] at hu0;obtain⟨ec,hec1,hec2⟩:=K4 (bD s t);have hec3:(bs (bD s t)++bs [32,32]).data[1]? =some ec:=by rw[cG];exact eH hec1
               have hecs:(bs (bD s t)++bs [32,32]).size=(bD s t).length+2:=by rw[cG,aJ];simp
               refine jK 17 (λ_=>False) (λi=>Nat.blt i 16) ?_;refine aF 0 ?_;refine aF 1 ?_;refine aF 2 ?_;refine aF 3 ?_;refine bq 4 rfl (λh' e=>bZ rfl rfl pre.length (by omega) hga) ?_;refine aF 5 ?_;refine bq 6 rfl (λh' e=>aA rfl (e.cell (λk=>k) (hgr 2 _ rfl))) ?_;refine aF 7 ?_;refine bq 8 rfl (λh' e=>az.bS rfl rfl (by show (bs (bD s t)).size+2<=_;omega)) ?_;refine bq 9 rfl (λh' e=>tq rfl rfl 1 rfl hec3) ?_;refine cV 10 rfl (aE rfl (wM ec)) ?_;rintro _ x ⟨rfl,rfl⟩;refine⟨λ_=>Ext.refl _ _,?_⟩;refine cV 11 rfl (iD [_]) ?_;rintro _ g4 ⟨rfl,hg4⟩;refine⟨λ_=>(by rw[hg4];exact Ext.push _ _ _),?_⟩;rw[hec2] at hg4;have e24:aj x g4:=by rw[hg4];exact Ext.push _ _ _
               have hby:aL .byte g4 (λ_=>False) (.slice (some ⟨x.size,0,none⟩) 1 1) [kJ (bD s t)]:=by rw[hg4];exact Ao _
               obtain⟨gb',gc',hgv',hgb',hgl',hgr',hgf',hgs'⟩:=fG.put (enc:=vw) (λ_=>rfl) (how.ah e24) hgu;obtain rfl:gb=gb':=by rw[hga] at hgv';cases hgv';rfl
               refine bq 12 rfl (λh' e=>Ml rfl (hby.ah e)) ?_;refine bq 13 rfl (λh' e=>az.bS rfl rfl (by show (bs u.2.1).size+1<=_;omega)) ?_;refine Nu 14 rfl (bZ rfl rfl pre.length (by omega) hga) ?_;refine aF 15 ?_;refine gU 16 rfl (bf H.D6 rfl rfl rfl (hgr' 2 _ rfl) (hgf' _)) ?_;rintro _ g5 ⟨rfl,hg5⟩;refine⟨nofun,?_⟩
               have hfin:fG 3 vw g5 g.size 94 (.slice oa out.length oc) (fE [kJ (bD s t)] out):=by
                rw[hg5,<-hset];exact hgs' 2 _ _ (by decide) (by show [Value.int .i64 u.1,Value.int .i64 u.2.2,Value.string (bs u.2.1++⟨[kJ (bD s t)].toArray⟩)]=_;rw[show (⟨[kJ (bD s t)].toArray⟩:ByteArray)=bs [kJ (bD s t)] from rfl,cG];rfl)
               have e25:aj g g5:=by rw[hg5];exact aj.set (eg.trans e24) hgb _
               have hlena:(fE [kJ (bD s t)] out).length=out.length:=pP _ _;refine fV ?_;refine af ?_;exact ih (i+1,fE [kJ (bD s t)] out,true,.slice oa out.length oc) ⟨by show i+1<=ts.length;omega,e25,by have:=e25.size;omega,hfin,by rw[hstep,hu0] at htg;exact htg,by show (fE _ out).length<=500;omega,λ_ q=>hne (List.eq_nil_of_length_eq_zero (hlena.symm.trans (congrArg List.length q))),hadl _ (by simp)⟩
             · rw[if_neg c10] at hu0;refine cI ?_
               iterate 4 refine aR ?_
               refine xp rfl (bZ rfl rfl pre.length (by omega) hga) ?_;refine af ?_;refine xp rfl (aA rfl (hgr 2 _ rfl)) ?_
               iterate 2 refine aR ?_
               refine xp rfl (bZ rfl rfl pre.length (by omega) hga) ?_;refine af ?_;refine aO rfl (bf H.D6 rfl rfl rfl (hgr 2 _ rfl) (hgf _)) ?_;rintro _ g5 ⟨rfl,hg5⟩
               have hfin:fG 3 vw g5 g.size 94 (.slice oa out.length oc) (fE (bD s t) out):=by
                rw[hg5,<-hset];exact hgs 2 _ _ (by decide) (by show [Value.int .i64 u.1,Value.int .i64 u.2.2,Value.string (bs u.2.1++bs (bD s t))]=_;rw[cG];rfl)
               have e25:aj g g5:=hown _ _ hg5;have hlena:(fE (bD s t) out).length=out.length:=pP _ _;refine af ?_;exact ih (i+1,fE (bD s t) out,true,.slice oa out.length oc) ⟨by show i+1<=ts.length;omega,e25,by have:=e25.size;omega,hfin,by rw[hstep,hu0] at htg;exact htg,by show (fE _ out).length<=500;omega,λ_ q=>hne (List.eq_nil_of_length_eq_zero (hlena.symm.trans (congrArg List.length q))),hadl (bD s t) (by omega)⟩
   · obtain rfl:i=ts.length:=by omega
     rw[List.drop_length] at htg;have htg:UR.go out op=tgt:=htg;rw[<-htg];dsimp only
     iterate 3 refine aQ ?_
     refine dU [(156,.bool (decide (op=true\/st.1≠0)))] rfl ?_ ?_
     · rcases op with _|_
       · refine af ?_;refine RW.bw (d:=152) (b':=false) rfl (rfl) ?_;refine af ?_;refine xp rfl (aA rfl ((k1.ah eg).cell (i:=0) rfl)) ?_;refine af ?_;exact aD rfl ⟨ai rfl (by simp),sb rfl⟩
       · refine af ?_;refine RW.bw (d:=152) (b':=true) rfl (rfl) ?_;refine af ?_;exact aD rfl ⟨ai rfl (by simp),sb rfl⟩
     · refine aN (λco=>?_) (λco=>?_)
       · rw[if_pos co];refine af ?_;refine aP ?_;exact⟨_,rfl,e1.trans eg,by rw[<-hbz];rfl⟩
       · rw[if_neg co];refine af ?_;refine aP ?_;exact⟨_,rfl,e1.trans eg,hol,_,rfl,fG.read how (λ_ _ k=>k)⟩
def QI (c:PC) (hb g:aq) (kv:Value) (l:List Tr) (s:PS):Prop :=
 uq c g s/\Ext (λb=>b=c.pb) hb g/\cH eN (λb=>b<hb.size) g hb.size 62 kv l
def QL (c:PC) (h:aq) (s:PS) (i:Nat):Prop:=uq c h s/\∃b m,aC h c.pb 60 [c.lv,.int .i64 (i:Nat),.int .i64 c.e,.bool b,.int .i64 m]/\i<=c.us.length/\Qt c.us i b m s
theorem AG {ts:List Tok}(hv:aL Hx h (λ_=>False) v ts) (s:By) (st:kY) (hb:ts.length*(s.length+2)<=1000000000000) (hsl:s.length<=1000000000000)
 {k:List Tr}{a e:Int}(hP:eJ s ts st.1 k a e) :
 au prog 7 #[.string (bs s),v,.agg (aG st).toArray] h (bK λr h'=>aj h h'/\∃lv,r=packed [lv,.int .i64 a,.int .i64 e]/\aL eN h' (λb=>b<h.size) lv k):=by
 have hbz:=aJ s;refine bJ ?_;refine af ?_;refine xo rfl (mh) ?_;rintro _ h1 ⟨rfl,k1,e1,z1⟩;have k1:aC h1 h.size 25 (aG st):=k1;have hun:=AB (hv.ah e1) s st hb hsl
 rcases hU:eX s ts st.1 with ⟨a1,c1⟩|us
 · rw[hU] at hun;have hce:=zH hU
   obtain⟨rfl,rfl,rfl⟩:k=[]/\a=a1/\e=c1:=by
    cases hP with
    |units h=>rw[hU] at h;cases h;exact⟨rfl,rfl,rfl⟩
    |bad h _=>rw[hU] at h;cases h
    |ok h _=>rw[hU] at h;cases h
   refine af ?_;refine xp rfl (cj rfl k1.row) ?_;refine xo rfl (aE rfl hun) ?_;rintro _ h2 ⟨e2,rfl⟩;refine af ?_;refine dc rfl (by simpa using hce) ?_;refine af ?_;refine aP ?_;exact⟨_,rfl,e1.trans e2,_,rfl,aL.nil _ _ _⟩
 · rw[hU] at hun
   obtain⟨n,K,F,hm,hend⟩:∃n K F,dV s.length n [] (.ok us)=some (K,F)/\(∀m,F= .bad m->k=[]/\a=m/\e=10)/\(F.bB=false->k=K/\a=0/\e=0):=by
    cases hP with
    |units h=>rw[hU] at h;cases h
    |bad h h2=>rw[hU] at h;cases h;exact⟨_,_,_,h2,λm q=>by cases q;exact⟨rfl,rfl,rfl⟩,λq=>by cases q⟩
    |ok h h2=>rw[hU] at h;cases h;exact⟨_,_,_,h2,λm q=>(by cases q),λ_=>⟨rfl,rfl,rfl⟩⟩
   refine af ?_;refine xp rfl (cj rfl k1.row) ?_;refine xo rfl (aE rfl hun) ?_;rintro _ h2 ⟨e2,hu500,uv,rfl,huv⟩;refine af ?_;refine dB rfl (by simp) ?_;obtain⟨ua,un,uc,rfl,huvs⟩:=huv.open;refine af ?_;refine xp rfl (av (H.J3 _ _ _ _) rfl) ?_;refine xo rfl (mh) ?_;rintro _ h3 ⟨rfl,kp,e3,z3⟩;have kp:aC h3 h2.size 60 [.slice ua un uc,.int .i64 (0:Nat),.int .i64 (s.length:Nat),.bool false,.int .i64 0]:=by rw[hbz] at kp;exact kp
   have e13:aj h h3:=(e1.trans e2).trans e3;obtain⟨c,hc⟩:∃c:PC,c=⟨h2.size,.slice ua un uc,h3.size,us,s.length⟩:=⟨_,rfl⟩
   have hz13:=e13.size;have hz2:=e2.size;have hz1:=e1.size;have hpb:c.pb=h2.size:=by rw[hc]
   have hce:c.e=s.length:=by rw[hc]
   have hcu:c.us=us:=by rw[hc]
   have hst3:uq c h3 (.ok us):=by
    rw[hc];exact⟨0,false,0,kp,huv.mv (Mv.bY e3 λb hb _=>⟨λk=>k,λq=>by have:=e3.size;dsimp only at q;omega⟩),Nat.zero_le _,⟨rfl,rfl⟩,by show h2.size<h3.size;omega,Nat.le_refl _,by show us.length<=1000;omega⟩
   rw[<-hce] at hm;have hI3:QI c h3 h3 (.slice none 0 0) [] (.ok us):=⟨hst3,Ext.refl _ _,cH.nil _ _ _ _ _⟩
   rw[<-hpb];refine af ?_;refine fK (σ:=Nat×List Tr×Value×PS) (λw=>[(13,w.2.2.1)]) (λw g=>QI c h3 g w.2.2.1 w.2.1 w.2.2.2/\(w.2.2.2.bB=true->w.2.2.2=F)/\(w.2.2.2.bB=false->dV c.e w.1 w.2.1 w.2.2.2=some (K,F)/\w.2.1.length+w.2.2.2.len<=us.length)) (λw=>w.1) ((n,[],.slice none 0 0,.ok us)) ⟨hI3,λq=>(by cases q),λ_=>⟨hm,by simp[PS.len]⟩⟩ rfl ?_;rintro⟨m,l,kv,sI⟩ g ⟨⟨hst,xg,how⟩,hbad,hok⟩ ih
   try dsimp only
   dsimp only at hst how hbad hok;obtain⟨pi,pbb,pm,pk,psl,pil,ps,_⟩:=id hst;obtain⟨pl1,pl2,pl3⟩:=Bb ps;rw[hcu] at pl1;have hpil:pi<=us.length:=by rw[<-hcu];exact pil
   have hlv:c.lv= .slice ua us.length uc:=by rw[hc];have:=huvs.len;subst this;rfl
   rw[hlv] at pk;have hsize:c.pb<h3.size:=by rw[hpb];omega
   have how0:aB g h3.size 62 3 kv l.length _:=(how.own).choose_spec;obtain⟨ka,kc,rfl,_⟩:=how0.open;have kown:∀b,(Value.slice ka l.length kc).ownBlock=some b->h3.size<=b/\b<g.size:=λb q=>how0.lt q
   iterate 2 refine aQ ?_
   refine Ky 17 (λb=>Array.size g<=b) (λi=>Nat.blt i 17) [(47,.bool (decide (sI.len≠0)))] rfl ?_ ?_
   · refine aF 0 ?_;refine aF 1 ?_;refine aF 2 ?_;refine bq 3 rfl (λh' e=>aA rfl (e.old (pk.cell (i:=3) rfl))) ?_;refine aF 4 ?_;refine aF 5 ?_
     rcases pbb with _|_
     · refine RD.bw (d:=36) (b':=true) rfl (rfl) ?_;refine aF 6 ?_;refine aF 7 ?_;refine aF 8 ?_;refine bq 9 rfl (λh' e=>aA rfl (e.old (pk.cell (i:=1) rfl))) ?_;refine aF 10 ?_;refine aF 11 ?_;refine aF 12 ?_;refine bq 13 rfl (λh' e=>aA rfl (e.old (pk.cell (i:=0) rfl))) ?_;refine aF 14 ?_;refine aF 15 ?_;refine aF 16 ?_;exact Gq rfl ⟨ai rfl (by rw[pl1 rfl,decide_eq_decide];omega),sb rfl⟩
     · refine RD.bw (d:=36) (b':=false) rfl (rfl) ?_;refine ox 6 ?_;refine ox 7 ?_;refine ox 8 ?_;refine ox 9 ?_;refine ox 10 ?_;refine ox 11 ?_;refine ox 12 ?_;refine ox 13 ?_;refine ox 14 ?_;refine ox 15 ?_;refine aF 16 ?_;exact Gq rfl ⟨ai rfl (by rw[pl2 rfl];rfl),sb rfl⟩
   · refine aN (λhgo=>?_) (λhgo=>?_)
     · obtain⟨r,hr⟩:∃r,sI= .ok r:=by cases sI with|ok r=>exact⟨r,rfl⟩|bad q=>exact absurd rfl hgo
       obtain⟨hm,hll⟩:=hok (by rw[hr];rfl);obtain⟨m,rfl⟩:∃m',m=m'+1:=by cases m with|zero=>cases hm|succ m=>exact⟨m,rfl⟩
       rw[dV,if_neg hgo] at hm
       rcases hv1:pM c.e m .stmt sI with _|⟨tv,s2⟩
       rw[hv1] at hm;cases hm;rw[hv1] at hm;simp only[Option.bind_some] at hm;have hvl:=tL hv1;refine af ?_;refine xo rfl (aE rfl ((KL m).stmt _ _ _ _ _ hst hv1)) ?_;rintro r6 h6 ⟨y6,hp6,t6,hn6,ht6⟩;have z6:=y6.size;obtain⟨mk,mt,ma,mn,mc,rfl,hr6⟩:=hn6.get;have ho6:=how.kU y6 (λb q q2=>by have:=kown b q;omega) (λb hb q=>by omega) (λ_ _ q=>q);obtain⟨css,hc1,hc2,hc3⟩:=id ho6;refine xo rfl (lg) ?_;rintro _ _ ⟨rfl,rfl⟩;refine xo rfl (vL rfl rfl hc2 rfl rfl) ?_;rintro v7 h7 ⟨ho7,hx7,hx7',hv7⟩;have z7:=hx7.size
       have hr6':eN.R h6 (λb=>bU (Value.slice ka l.length kc).ownBlock b\/b<h3.size) [.int .i64 mk,.string (bs mt),.slice ma mn mc] t6:=aK hr6 (Ext.refl (λ_=>False) _) (λb hb q=>⟨λk=>k,λq2=>by
        rcases q2 with q2|q2
        · have:=kown _ q2.symm;omega
        · have:=xg.size;omega⟩)
       have ho7x:cH eN (λb=>b<h3.size) h7 h3.size 62 v7 (l++[t6]):=cH.eC hc1 hc3 ho7 hx7 hv7 hr6';have hst7:uq c h7 s2:=hp6.ext hx7 (λb hb q=>by have:=kown _ q.symm;rw[hc] at hb;dsimp only at hb;omega);have x7:Ext (λb=>b=c.pb) h3 h7:=(xg.trans y6).cZ hx7 (λi hi q=>by have:=kown _ q.symm;omega)
       rcases hq9:bM 6 [[59]] s2 with ⟨o9,s9⟩
       rw[hq9] at hm;have hfinB:∀sN:PS,dV c.e m (l++[tv]) sN=some (K,F)->sN.bB=true->sN=F:=λsN q1 q2=>by have:=lE q1 (nU q2).1;cases this;rfl
       refine aR ?_;refine cO ?_;refine aQ ?_;refine Nw 15 (λ_=>False) (λi=> !Nat.beq i 1) (fun(u:Nat) (h':aq)=>QL c h' s9 u/\Ext (λb=>b=c.pb) h7 h') (fun(u:Nat)=>[(67,.bool (!o9.isSome && decide (u<us.length)))]) rfl ?_ ?_
       · refine aF 0 ?_;refine cV 1 rfl (aE rfl (b9 hst7 6 [59])) ?_;rintro _ h9 ⟨rfl,hp9,x9⟩;refine⟨nofun,?_⟩;rw[hq9] at hp9;obtain⟨qi,qbb,qm,qk,qsl,qil,qs,_⟩:=id hp9;have hat:QL c h9 s9 qi:=⟨hp9,_,_,qk,qil,qs⟩
         rw[hlv] at qk;rw[hq9];refine aF 2 ?_;refine aF 3 ?_
         rcases o9 with _|w9
         · refine RD.bw (d:=56) (b':=true) rfl (rfl) ?_;refine aF 4 ?_;refine aF 5 ?_;refine aF 6 ?_;refine bq 7 rfl (λh' e=>aA rfl (e.cell (λk=>k) (qk.cell (i:=1) rfl))) ?_;refine aF 8 ?_;refine aF 9 ?_;refine aF 10 ?_;refine bq 11 rfl (λh' e=>aA rfl (e.cell (λk=>k) (qk.cell (i:=0) rfl))) ?_;refine aF 12 ?_;refine aF 13 ?_;refine aF 14 ?_;exact H7 qi ⟨hat,x9⟩ ⟨ai rfl (by rw[Option.isSome_none,Bool.not_false,Bool.true_and,decide_eq_decide];omega),sb rfl⟩
         · refine RD.bw (d:=56) (b':=false) rfl (rfl) ?_;refine ox 4 ?_;refine ox 5 ?_;refine ox 6 ?_;refine ox 7 ?_;refine ox 8 ?_;refine ox 9 ?_;refine ox 10 ?_;refine ox 11 ?_;refine ox 12 ?_;refine ox 13 ?_;refine aF 14 ?_;exact H7 qi ⟨hat,x9⟩ ⟨ai rfl (rfl),sb rfl⟩
       · rintro qi h9 ⟨⟨hp9,qbb,qm,qk,qil,qs⟩,x9⟩;obtain⟨ql1,ql2,ql3⟩:=Bb qs;rw[hcu] at ql1;have how9:=ho7x.kU x9 (λb q q2=>by have:=ho7.lt q;omega) (λb hb q=>by omega) (λ_ _ q=>q);have x39:=x7.trans x9;have hgood:∀sN:PS,(sN.bB=false->s9.bB=false)->sN.bB=false->t6=tv:=λsN q1 q2=>ht6 (aS hq9 (q1 q2))
         rcases o9 with _|w9
         · simp only at hm;have e9:=aM hq9;refine jS (λhgo2=>?_) (λhgo2=>?_)
           · have hgo2:qi<us.length:=by simpa using hgo2
             have hsN:(if s9.len=0 then s9 else cu c.e s9)=cu c.e s9:=by
              split
              · rename_i q;cases qbb with
                |true=>exact((nU ql3).2 _).symm
                |false=>have:=ql1 rfl;omega
              · rfl
             rw[hsN] at hm;have hfb:(cu c.e s9).bB=true:=by obtain⟨q,hq⟩:=tV c.e s9;rw[hq];rfl
             refine af ?_;refine xo rfl (aE rfl (gN hp9)) ?_;rintro _ h10 ⟨hp10,x10⟩;have how10:=how9.kU x10 (λb q q2=>by have:=ho7.lt q;omega) (λb hb q=>by omega) (λ_ _ q=>q);refine af ?_;exact ih (m,l++[t6],v7,cu c.e s9) ⟨⟨hp10,x39.trans x10,how10⟩,λq=>hfinB _ hm q,λq=>(by have q:(cu c.e s9).bB=false:=q;rw[hfb] at q;cases q)⟩ (Nat.lt_succ_self _)
           · have hgo2:¬qi<us.length:=by simpa using hgo2
             have hs0:s9.len=0:=by
              cases qbb with
              |true=>exact(nU ql3).1
              |false=>have:=ql1 rfl;omega
             rw[if_pos hs0] at hm;refine af ?_;exact ih (m,l++[t6],v7,s9) ⟨⟨hp9,x39,how9⟩,λq=>hfinB _ hm q,λq=>⟨by dsimp only;rw[hgood s9 id q];exact hm,by dsimp only;rw[List.length_append,List.length_singleton,hs0];omega⟩⟩ (Nat.lt_succ_self _)
         · simp only at hm;have hl9:=cW hq9;refine dB rfl (by simp) ?_;refine af ?_;exact ih (m,l++[t6],v7,s9) ⟨⟨hp9,x39,how9⟩,λq=>hfinB _ hm q,λq=>⟨by dsimp only;rw[hgood s9 id q];exact hm,by dsimp only;rw[List.length_append,List.length_singleton];omega⟩⟩ (Nat.lt_succ_self _)
     · have h0:sI.len=0:=by simpa using hgo
       refine af ?_;refine xp rfl (aA rfl (pk.cell (i:=3) rfl)) ?_;refine af ?_
       rcases pbb with _|_
       · refine dB rfl (by simp) ?_;obtain⟨r,hr⟩:∃r,sI= .ok r:=by cases sI with|ok r=>exact⟨r,rfl⟩|bad q=>cases pl3
         obtain⟨hm,hll⟩:=hok (by rw[hr];rfl);have hz:=lE hm h0;obtain⟨rfl,rfl,rfl⟩:=hend.2 (by cases hz;rw[hr];rfl);have hKl:k=l:=by cases hz;rfl
         refine af ?_;refine aP ?_;exact⟨_,rfl,aj.only e13 xg (by omega),_,rfl,by rw[hKl];exact how.read (λb hb q=>by omega) (λb hb q=>by omega)⟩
       · have hF:F= .bad pm:=by rw[<-hbad pl3];exact pl2 rfl
         obtain⟨rfl,rfl,rfl⟩:=hend.1 pm hF;refine dc rfl (by simp) ?_;refine af ?_;refine bF rfl (aA rfl (pk.cell (i:=4) rfl)) ?_;refine af ?_;refine aP ?_;exact⟨_,rfl,aj.only e13 xg (by omega),_,rfl,aL.nil _ _ _⟩
end
end Go.Proofs.YtnjahnbpnpkmhaaGreatDoor
namespace Go.Proofs.YtnjahnbpnpkmhaaGreatDoor
open Go
section
variable {s:PS}{e:Int}{a b:UInt8}{r:Nat}
def vM:List Un->Nat
  | []=>0
  |u::l=>2*u.2.1.length+40+vM l
def wS:PS->Nat|.ok r=>vM r|.bad _=>0
theorem KC (l m:List Un):vM (l++m)=vM l+vM m:=by
  induction l with
  |nil=>simp[vM]
  |cons u l I=>simp only[List.cons_append,vM,I];omega
theorem AM (l m:List Tr):oE (l++m)=oE l+oE m:=by
  induction l with
  |nil=>simp[oE]
  |cons u l I=>simp only[List.cons_append,oE,I];omega
theorem Ai {k:Int}{ts:List By}{s':PS}{x:By}(h:bM k ts s=(some x,s')):wS s=wS s'+(2*x.length+40):=by
  obtain⟨u,r,rfl,rfl,_,I,_⟩:=oZ h;simp only[wS,vM,<-I];omega
theorem qb {k:Int}{t:By}(h:(bV e k t s).bB=false):wS (bV e k t s)+40<=wS s:=by
  unfold bV at h ⊢
  rcases I:bM k [t] s with ⟨o,s1⟩
  rw[I] at h;cases o with
  |none=>rw[dQ] at h;cases h
  |some x=>have:=Ai I;show wS s1+40<=wS s;omega
theorem Bn (h:(cg e s).2.bB=false):wS (cg e s).2+(2*(cg e s).1.length+40)<=wS s:=by
  cases s with
  |bad m=>cases h
  |ok r =>
    cases r with
    |nil=>cases h
    |cons u r =>
      rw[iR] at h ⊢;split at h
      · rename_i q;rw[if_pos q];simp only[wS,vM];omega
      · cases h
theorem N4 {k:Nat}{s':PS}{x:By}(h:yX k s=(some x,s')):wS s'+(2*x.length+20)<=wS s:=by
  have key:∀{k ts}{s s':PS}{x:By},bM k ts s=(some x,s')->wS s'+(2*x.length+20)<=wS s:=λh=>by have:=Ai h;omega
  have two:∀{a b z:By}(_:z.length<=3),((match bM 4 [a] s with|(some _,s)=>(some z,s)|(none,s)=>match bM 6 [b] s with|(some _,s)=>(some z,s)|(none,s)=>(none,s)):Option By×PS)=(some x,s')->wS s'+(2*x.length+20)<=wS s:=λ{a b z} hz h0=>by
    rcases J:bM 4 [a] s with ⟨o,s1⟩
    rw[J] at h0;cases o with
    |some y=>have:=Ai J;cases h0;omega
    |none =>
      have:=aM J;subst this;dsimp only at h0
      rcases I:bM 6 [b] s1 with ⟨o,s2⟩
      rw[I] at h0;cases o with
      |some y=>have:=Ai I;cases h0;omega
      |none=>cases h0
  unfold yX at h;split at h
  · exact two (z:=tA) (by decide) h
  · split at h
    · exact two (z:=iL) (by decide) h
    · split at h
      · exact key h
      · split at h<;>exact key h
def jw:H6->Nat
  |.blockL l=>oE l+20
  |.opL _ t=>t.wt
  |.callL t=>t.wt
  |.argL t=>t.wt+20
  |_=>0
theorem lp (k:Int) (t:By) (l:List Tr):(Tr.mk k t l).wt=2*t.length+20+oE l:=by rw[Tr.wt]
theorem rS (a:Tr):oE [a]=a.wt:=by simp[oE]
theorem Ci (a b:Tr):oE [a,b]=a.wt+b.wt:=by simp[oE]
theorem Nz (a b c:Tr):oE [a,b,c]=a.wt+(b.wt+c.wt):=by simp[oE]
theorem N2 (e:Int):∀(n:Nat) (j:H6) (s:PS) (t:Tr) (s':PS),pM e n j s=some (t,s')->s'.bB=false->t.wt+wS s'<=wS s+jw j:=by
  intro n
  induction n with
  |zero=>intro j s t s' h;cases h
  |succ n U =>
  intro j s t s' h J;have Y:∀{k ts}{s s1:PS}{x:By},bM k ts s=(some x,s1)->wS s1+40<=wS s:=λh=>by have:=Ai h;omega
  cases j with
  |stmt =>
    rw[pM] at h
    rcases I:bM 4 [oy] s with ⟨o,s1⟩
    rw[I] at h;cases o with
    |some x=>have:=Y I;have:=U _ _ _ _ h J;simp only[jw] at *;omega
    |none=>have:=aM I;subst this;simp only at h;have q:=U _ _ _ _ h J;exact q
  |expr =>
    rw[pM] at h
    rcases I:bM 4 [oy] s with ⟨o,s1⟩
    rw[I] at h;cases o with
    |some x=>have:=Y I;have:=U _ _ _ _ h J;simp only[jw] at *;omega
    |none =>
      have:=aM I;subst this;simp only at h
      rcases I:bM 4 [zJ] s1 with ⟨o,s2⟩
      rw[I] at h;cases o with
      |some x=>have:=Y I;have:=U _ _ _ _ h J;simp only[jw] at *;omega
      |none =>
        have:=aM I;subst this;simp only at h
        rcases I:bM 4 [AR] s2 with ⟨o,s3⟩
        rw[I] at h;cases o with
        |some x=>have:=Y I;have:=U _ _ _ _ h J;simp only[jw] at *;omega
        |none=>have:=aM I;subst this;simp only at h;have q:=U _ _ _ _ h J;exact q
  |lt al =>
    rw[pM] at h;obtain⟨v,s1,hv,h⟩:=ay h
    rcases I:bM 4 [Kv] s1 with ⟨o,s2⟩
    rw[I] at h
    have fin:s1.bB=false->v.wt+wS s1+(2*(cg e s).1.length+80)<=wS s:=λg=>by
      have g1:=bE hv g;have h1:=U _ _ _ _ hv g;have h2:=qb g1;have h3:=Bn (dM g1);simp only[jw] at h1;omega
    cases o with
    |some x =>
      obtain⟨w,s3,hw,h⟩:=ay h;cases h;have g1:=aS I (bE hw J);have:=fin g1;have:=Y I;have:=U _ _ _ _ hw J;rw[lp,Ci];simp only[jw] at *;omega
    |none =>
      have:=aM I;subst this;cases al with
      |true=>simp only[if_true] at h;cases h;have:=fin J;rw[lp,rS];simp only[jw];omega
      |false=>simp only[Bool.false_eq_true,if_false] at h;cases h;rw[dQ] at J;cases J
  |choice =>
    rw[pM] at h;obtain⟨a,s1,Z,h⟩:=ay h;obtain⟨b,s2,hb,h⟩:=ay h
    rcases I:bM 4 [zJ] (bV e 4 mo s2) with ⟨o,s3⟩
    rw[I] at h
    have fin:s3.bB=false->∀{c:Tr}{s4:PS},c.wt+wS s4<=wS s3->(Tr.mk 6 [] [a,b,c]).wt+wS s4<=wS s:=λg {c s4} hc=>by
      have g2:=aS I g;have g1:=dM g2;have h1:=qb g2;have h2:=U _ _ _ _ hb g1;have h3:=U _ _ _ _ Z (bE hb g1)
      have h4:wS s3<=wS (bV e 4 mo s2):=by
        cases o with
        |some x=>have:=Y I;omega
        |none=>have:=aM I;rw[this];exact Nat.le_refl _
      rw[lp,Nz];simp only[jw,List.length_nil] at *;omega
    cases o with
    |some x =>
      obtain⟨c,s4,hc,h⟩:=ay h;cases h;exact fin (bE hc J) (U _ _ _ _ hc J)
    |none =>
      obtain⟨c,s4,hc,h⟩:=ay h;cases h;exact fin (bE hc J) (U _ _ _ _ hc J)
  |fn =>
    rw[pM] at h
    rcases I:bM 6 [[44]] (cg e s).2 with ⟨o,s1⟩
    rw[I] at h;cases o with
    |some x =>
      obtain⟨a,s2,Z,h⟩:=ay h;cases h;have g1:=bE Z J;have:=Bn (aS I g1);have:=Y I;have:=U _ _ _ _ Z J;rw[lp,rS];simp only[jw] at *;omega
    |none =>
      have e1:=aM I;obtain⟨a,s2,Z,h⟩:=ay h;cases h;have g1:=bE Z J;have g2:=dM g1;have h1:=qb g1;rw[e1] at g2 h1;have:=Bn g2;have:=U _ _ _ _ Z J;rw[e1] at this;rw[lp,rS];simp only[jw] at *;omega
  |block =>
    rw[pM] at h;have h1:=U _ _ _ _ h J;have h2:=qb (bE h J);simp only[jw,oE] at *;omega
  |blockL l =>
    rw[pM] at h;obtain⟨a,s1,Z,h⟩:=ay h
    rcases I:bM 6 [[59]] s1 with ⟨o,s2⟩
    rw[I] at h;simp only at h
    rcases aa:bM 8 [[125]] s2 with ⟨o2,s3⟩
    rw[aa] at h
    have h4:wS s2<=wS s1:=by
      cases o with
      |some x=>have:=Y I;omega
      |none=>have:=aM I;rw[this];exact Nat.le_refl _
    cases o2 with
    |some x =>
      cases h;have:=Y aa;have:=U _ _ _ _ Z (aS I (aS aa J));rw[lp,AM,rS];simp only[jw,List.length_nil] at *;omega
    |none =>
      have e3:=aM aa;subst e3;simp only at h;split at h
      · have h1:=U _ _ _ _ h J;have h2:=U _ _ _ _ Z (aS I (bE h J));simp only[jw,AM,rS] at *;omega
      · cases h;rw[dQ] at J;cases J
  |part k =>
    rw[pM] at h;split at h
    · obtain⟨a,s1,Z,h⟩:=ay h;have:=U _ _ _ _ h J;have:=U _ _ _ _ Z (bE h J);simp only[jw] at *;omega
    · split at h
      · rcases I:bM 4 [kW] s with ⟨o,s1⟩
        rw[I] at h;cases o with
        |some x =>
          obtain⟨a,s2,Z,h⟩:=ay h;cases h;have:=Y I;have:=U _ _ _ _ Z J;rw[lp,rS];have:kW.length=3:=rfl;simp only[jw] at *;omega
        |none =>
          have:=aM I;subst this;simp only at h
          rcases I:bM 6 [oG] s1 with ⟨o,s2⟩
          rw[I] at h;cases o with
          |some x =>
            obtain⟨a,s2,Z,h⟩:=ay h;cases h;have:=Y I;have:=U _ _ _ _ Z J;rw[lp,rS];have:kW.length=3:=rfl;simp only[jw] at *;omega
          |none=>have:=aM I;subst this;simp only at h;have q:=U _ _ _ _ h J;exact q
      · split at h
        · rcases I:bM 6 [ia] s with ⟨o,s1⟩
          rw[I] at h;cases o with
          |some x =>
            obtain⟨a,s2,Z,h⟩:=ay h;cases h;have:=Y I;have:=U _ _ _ _ Z J;rw[lp,rS];have:ia.length=1:=rfl;simp only[jw] at *;omega
          |none=>have:=aM I;subst this;simp only at h;have q:=U _ _ _ _ h J;exact q
        · obtain⟨a,s1,Z,h⟩:=ay h;have:=U _ _ _ _ h J;have:=U _ _ _ _ Z (bE h J);simp only[jw] at *;omega
  |opL k u =>
    rw[pM] at h
    rcases I:yX k s with ⟨o,s1⟩
    rw[I] at h;cases o with
    |none=>cases h;have:=wQ I;subst this;simp only[jw];omega
    |some x =>
      obtain⟨a,s2,Z,h⟩:=ay h;have h1:=N4 I;split at h
      · cases h;have:=U _ _ _ _ Z J;rw[lp,Ci];simp only[jw] at *;omega
      · have h3:=U _ _ _ _ h J;have:=U _ _ _ _ Z (bE h J);simp only[jw] at *;rw[lp,Ci] at h3;omega
  |callL u =>
    rw[pM] at h
    rcases I:bM 7 [[40]] s with ⟨o,s1⟩
    rw[I] at h;cases o with
    |none=>cases h;have:=aM I;subst this;simp only[jw];omega
    |some x=>have:=Y I;have:=U _ _ _ _ h J;simp only[jw] at *;omega
  |argL u =>
    rw[pM] at h;obtain⟨a,s1,Z,h⟩:=ay h
    rcases I:bM 6 [[44]] s1 with ⟨o,s2⟩
    rw[I] at h;cases o with
    |some x =>
      have h1:=Y I;have h3:=U _ _ _ _ h J;have:=U _ _ _ _ Z (aS I (bE h J));simp only[jw] at *;rw[lp,Ci] at h3;simp only[List.length_nil] at h3;omega
    |none =>
      have:=aM I;subst this;simp only at h;have g1:=bE h J;have h3:=U _ _ _ _ h J;have h2:=qb g1;have:=U _ _ _ _ Z (dM g1);simp only[jw] at *;rw[lp,Ci] at h3;simp only[List.length_nil] at h3;omega
  |atom =>
    have h1:∃u r,s= .ok (u::r):=by
      cases s with
      |bad m=>have h:some (B7,PS.bad m)=some (t,s'):=h;cases h;cases J
      |ok r=>cases r with
        |nil=>have h:some (B7,cu e (.ok []))=some (t,s'):=h;cases h;cases J
        |cons u r=>exact⟨u,r,rfl⟩
    obtain⟨u,r,rfl⟩:=h1;rw[pM] at h;split at h
    · rename_i t' q;cases h;have k:∀k:Int,(Tr.mk k u.2.1 []).wt+vM r<=vM (u::r):=λk=>by rw[lp];simp only[oE,vM];omega
      unfold mR at q;split at q
      · cases q;exact k _
      · split at q
        · cases q;exact k _
        · split at q
          · cases q;exact k _
          · split at q
            · cases q;exact k _
            · cases q
    · split at h
      · have:=U _ _ _ _ h J;simp only[jw] at *;omega
      · split at h
        · obtain⟨a,s1,Z,h⟩:=ay h;cases h;have h1:=U _ _ _ _ Z (dM J);have h2:=qb J;simp only[jw,wS,vM] at *;omega
        · cases h;rw[dQ] at J;cases J
theorem tK {e:Int}:∀(n:Nat) (l:List Tr) (s:PS) (K:List Tr) (F:PS),dV e n l s=some (K,F)->F.bB=false->oE K+wS F<=oE l+wS s
  | 0,_,_,_,_,h,_=>by cases h
  |n+1,l,s,K,F,h,I=>by
    rw[dV] at h;split at h
    · cases h;exact Nat.le_refl _
    · cases h1:pM e n .stmt s with
      |none=>rw[h1] at h;cases h
      |some p =>
        obtain⟨t,s1⟩:=p;rw[h1] at h;simp only[Option.bind_some] at h
        rcases J:bM 6 [[59]] s1 with ⟨o,s2⟩
        rw[J] at h
        have h4:wS s2<=wS s1:=by
          cases o with
          |some x=>have:=Ai J;omega
          |none=>have:=aM J;rw[this];exact Nat.le_refl _
        have good:s2.bB=false->oE (l++[t])+wS s2<=oE l+wS s:=λg=>by
          have:=N2 e n _ _ _ _ h1 (aS J g);rw[AM,rS];simp only[jw] at this;omega
        have U:∀{n l s K F},dV e n l s=some (K,F)->F.bB=false->s.bB=false:=λ{n l s K F} h g=>by
          cases s with
          |ok r=>rfl
          |bad m =>
            cases n with
            |zero=>cases h
            |succ n=>rw[dV,if_pos (show (PS.bad m).len=0 from rfl)] at h;cases h;cases g
        cases o with
        |some x =>
          simp only at h;have:=tK n _ _ _ _ h I;have:=good (U h I);omega
        |none =>
          simp only at h;split at h
          · have:=tK n _ _ _ _ h I;have:=good (U h I);omega
          · have:=U h I;rw[dQ] at this;cases this
theorem Fg (x:By):∀l:List Un,vM (fE x l)<=vM l+2*x.length
  | []=>by simp[fE,vM]
  | [u]=>by simp only[fE,vM,List.length_append];omega
  |u::v::l=>by have:=Fg x (v::l);simp only[fE,vM] at *;omega
theorem KD {s:By}{out I:List Un}{op J:Bool}{t:Tok}(h:fW s out op t= .go I J):vM I<=vM out+(2*s.length+42):=by
  have ht:(bD s t).length<=s.length:=by unfold bD;rw[List.length_take,List.length_drop];omega
  unfold fW at h;split at h
  · cases h
  · split at h
    · split at h
      · cases h;omega
      · split at h
        · cases h;have:=Fg [kJ (bD s t)] out;simp only[List.length_singleton] at this;omega
        · cases h;have:=Fg (bD s t) out;omega
    · split at h
      · cases h;omega
      · split at h
        · cases h
        · cases h;rw[KC];simp only[vM];split
          · simp only[List.length_nil];omega
          · omega
theorem Fx {s:By}:∀(l:List Tok) (out I:List Un) (op J:Bool),lz s l out op= .go I J->vM I<=vM out+l.length*(2*s.length+42)
  | [],_,_,_,_,h=>by cases h;omega
  |t::l,out,I,op,J,h=>by
    rw[lz] at h;split at h
    · cases h
    · rename_i o1 p1 q;have h1:=KD q;have h2:=Fx l _ _ _ _ h;rw[List.length_cons,Nat.succ_mul];omega
theorem eJ.wt {s:By}{l:List Tok}{m:Int}{k:List Tr}{a:Int}(h:eJ s l m k a e):oE k<=l.length*(2*s.length+42):=by
  cases h with
  |units _=>simp[oE]
  |bad _ _=>simp[oE]
  |ok h h2 =>
    rename_i u n r;have h1:=tK _ _ _ _ _ h2 rfl;simp only[oE,wS] at h1;unfold eX at h;split at h
    · split at h
      · cases h
      · rename_i q;split at h
        · cases h
        · cases h;have:=Fx _ _ _ _ _ q;simp only[vM] at this;omega
    · cases h
def dP (c:Nat):Nat×Nat:=if c<128 then (1,c) else if 192<=c/\c<224 then (2,c-192) else if 224<=c/\c<240 then (3,c-224) else if 240<=c/\c<248 then (4,c-240) else (0,0)
def mF (r:Nat):By :=
  if 1114111<r\/(55296<=r/\r<=57343) then [] else if r<128 then [UInt8.ofNat r] else if r<2048 then [UInt8.ofNat (192+r / 64),UInt8.ofNat (128+r%64)]
  else if r<65536 then [UInt8.ofNat (224+r / 4096),UInt8.ofNat (128+r / 64%64),UInt8.ofNat (128+r%64)]
  else [UInt8.ofNat (240+r / 262144),UInt8.ofNat (128+r / 4096%64),UInt8.ofNat (128+r / 64%64),UInt8.ofNat (128+r%64)]
def iI (r:Nat) (l:By):Nat:=l.foldl (λr b=>r*64+b.toNat%64) r
def Mu (l:By):Nat:=iI (dP (l.getD 0 0).toNat).2 ((l.drop 1).take ((dP (l.getD 0 0).toNat).1-1))
def FX (l:By):Nat:=if 0<(dP (l.getD 0 0).toNat).1/\(dP (l.getD 0 0).toNat).1<=l.length/\mF (Mu l)=l.take (dP (l.getD 0 0).toNat).1 then (dP (l.getD 0 0).toNat).1 else 1
theorem iZ (n:Nat) (hn:n<256) (b:UInt8):UInt8.ofNat n=b↔n=b.toNat:=by
  constructor
  · rintro rfl;rw[UInt8.toNat_ofNat'];omega
  · rintro rfl;simp
theorem PZ:mF r=[a]↔r<128/\a.toNat=r:=by
  unfold mF
  repeat' split
  all_goals simp only[List.cons.injEq,and_true,reduceCtorEq,and_false,false_iff,List.nil_eq]
  all_goals first|(rw[iZ _ (by omega)];omega)|omega
theorem PY:mF r=[a,b]↔(128<=r/\r<2048)/\a.toNat=192+r / 64/\b.toNat=128+r%64:=by
  unfold mF
  repeat' split
  all_goals simp only[List.cons.injEq,and_true,reduceCtorEq,and_false,false_iff,List.nil_eq]
  all_goals first|(rw[iZ _ (by omega),iZ _ (by omega)];omega)|omega
theorem PX {c:UInt8}:mF r=[a,b,c]↔(2048<=r/\r<65536/\¬(55296<=r/\r<=57343))/\a.toNat=224+r / 4096/\b.toNat=128+r / 64%64/\c.toNat=128+r%64:=by
  unfold mF
  repeat' split
  all_goals simp only[List.cons.injEq,and_true,reduceCtorEq,and_false,false_iff,List.nil_eq]
  all_goals first|(rw[iZ _ (by omega),iZ _ (by omega),iZ _ (by omega)];omega)|omega
theorem PW {c d:UInt8}:mF r=[a,b,c,d]↔(65536<=r/\r<=1114111)/\a.toNat=240+r / 262144/\b.toNat=128+r / 4096%64/\c.toNat=128+r / 64%64/\d.toNat=128+r%64:=by
  unfold mF
  repeat' split
  all_goals simp only[List.cons.injEq,and_true,reduceCtorEq,and_false,false_iff,List.nil_eq]
  all_goals first|(rw[iZ _ (by omega),iZ _ (by omega),iZ _ (by omega),iZ _ (by omega)];omega)|omega
theorem KJ (l:By) (n:Nat) (h:(Lib.decodeN l.length (l.getD 0 0).toNat (l.getD 1 0).toNat (l.getD 2 0).toNat (l.getD 3 0).toNat).2=n):mC l=n:=h
theorem G1 {l:By}(h:l≠[]):FX l=mC l:=by
  obtain⟨a,t,rfl⟩:=List.exists_cons_of_ne_nil h;have ha:=a.toNat_lt
  symm
  apply KJ
  unfold FX Mu;simp only[List.getD_cons_zero,List.drop_succ_cons,List.drop_zero,List.length_cons]
  rcases Nat.lt_or_ge a.toNat 128 with h1|h1
  · have hl:dP a.toNat=(1,a.toNat):=by unfold dP;rw[if_pos h1]
    rw[hl,if_pos ⟨by simp,by simp,PZ.2 ⟨h1,rfl⟩⟩];unfold Lib.decodeN;rw[if_pos h1]
  rcases Nat.lt_or_ge a.toNat 192 with h2|h2
  · have hl:dP a.toNat=(0,0):=by unfold dP;rw[if_neg (by omega),if_neg (by omega),if_neg (by omega),if_neg (by omega)]
    rw[hl,if_neg (by simp)];unfold Lib.decodeN
    repeat' split
    all_goals first|rfl|(exfalso;omega)
  rcases Nat.lt_or_ge a.toNat 224 with h3|h3
  · have hl:dP a.toNat=(2,a.toNat-192):=by unfold dP;rw[if_neg (by omega),if_pos (by omega)]
    rw[hl];cases t with
    |nil =>
      rw[if_neg (by simp)];unfold Lib.decodeN
      repeat' split
      all_goals first|rfl|(exfalso;simp only[List.length_nil] at *;omega)
    |cons b t =>
      have hb:=b.toNat_lt;have e:(mF (iI (a.toNat,a.toNat-192).2 ((b::t).take ((2,a.toNat-192).1-1)))=(a::b::t).take (2,a.toNat-192).1)=(mF ((a.toNat-192)*64+b.toNat%64)=[a,b]):=rfl;simp only[e,PY,List.length_cons,List.getD_cons_succ,List.getD_cons_zero];unfold Lib.decodeN
      repeat' split
      all_goals first|rfl|(exfalso;omega)
  rcases Nat.lt_or_ge a.toNat 240 with h4|h4
  · have hl:dP a.toNat=(3,a.toNat-224):=by unfold dP;rw[if_neg (by omega),if_neg (by omega),if_pos (by omega)]
    rw[hl]
    match t with
    | [] =>
      rw[if_neg (by simp)];unfold Lib.decodeN
      repeat' split
      all_goals first|rfl|(exfalso;simp only[List.length_nil] at *;omega)
    | [b] =>
      rw[if_neg (by simp)];unfold Lib.decodeN
      repeat' split
      all_goals first|rfl|(exfalso;simp only[List.length_nil,List.length_cons] at *;omega)
    |b::c::t =>
      have hb:=b.toNat_lt;have hc:=c.toNat_lt;have e:(mF (iI (3,a.toNat-224).2 ((b::c::t).take ((3,a.toNat-224).1-1)))=(a::b::c::t).take (3,a.toNat-224).1)=(mF (((a.toNat-224)*64+b.toNat%64)*64+c.toNat%64)=[a,b,c]):=rfl;simp only[e,PX,List.length_cons,List.getD_cons_succ,List.getD_cons_zero];unfold Lib.decodeN
      repeat' split
      all_goals first|rfl|(exfalso;omega)
  rcases Nat.lt_or_ge a.toNat 248 with h5|h5
  · have hl:dP a.toNat=(4,a.toNat-240):=by unfold dP;rw[if_neg (by omega),if_neg (by omega),if_neg (by omega),if_pos (by omega)]
    rw[hl]
    match t with
    | [] =>
      rw[if_neg (by simp)];unfold Lib.decodeN
      repeat' split
      all_goals first|rfl|(exfalso;simp only[List.length_nil] at *;omega)
    | [b] =>
      rw[if_neg (by simp)];unfold Lib.decodeN
      repeat' split
      all_goals first|rfl|(exfalso;simp only[List.length_nil,List.length_cons] at *;omega)
    | [b,c] =>
      rw[if_neg (by simp)];unfold Lib.decodeN
      repeat' split
      all_goals first|rfl|(exfalso;simp only[List.length_nil,List.length_cons] at *;omega)
    |b::c::d::t =>
      have hb:=b.toNat_lt;have hc:=c.toNat_lt;have hd:=d.toNat_lt;have e:(mF (iI (4,a.toNat-240).2 ((b::c::d::t).take ((4,a.toNat-240).1-1)))=(a::b::c::d::t).take (4,a.toNat-240).1)=(mF ((((a.toNat-240)*64+b.toNat%64)*64+c.toNat%64)*64+d.toNat%64)=[a,b,c,d]):=rfl;simp only[e,PW,List.length_cons,List.getD_cons_succ,List.getD_cons_zero];unfold Lib.decodeN
      repeat' split
      all_goals first|rfl|(exfalso;omega)
  · have hl:dP a.toNat=(0,0):=by unfold dP;rw[if_neg (by omega),if_neg (by omega),if_neg (by omega),if_neg (by omega)]
    rw[hl,if_neg (by simp)];unfold Lib.decodeN
    repeat' split
    all_goals first|rfl|(exfalso;omega)
def rT:List By:=[[105,102],[101,108,115,101],[108,101,116],[105,110],[102,117,110],[116,114,117,101],[102,97,108,115,101],[97,110,100],[111,114],[110,111,116]]
theorem Gu:∀i,i<44->lO[i]? =some 32->(lO.drop (i+1)).takeWhile (λb=>b !=32)=[]\/rT.contains ((lO.drop (i+1)).takeWhile (λb=>b !=32))=true:=by decide
theorem Ja {s:By}(h:Lib.contains s [32]=false):∀b∈s,(b !=32)=true:=λb J=>by
  obtain⟨j,I,rfl⟩:=List.getElem_of_mem J
  rcases Lib.index_spec s [32] with ⟨_,U⟩|⟨i,h1,_⟩
  · have:=U j (by omega);unfold Lib.occAt at this;rw[List.drop_eq_getElem_cons I] at this;simp only[List.isPrefixOf,Bool.and_true] at this;simp only[bne_iff_ne];intro e;rw[e] at this;cases this
  · unfold Lib.contains at h;rw[h1] at h;exact absurd (of_decide_eq_false h) (by simp)
theorem Gv (s:By):cY s=rT.contains s:=by
  rw[Bool.eq_iff_iff];constructor
  · intro h;unfold cY at h;simp only[Bool.and_eq_true,decide_eq_true_eq,Bool.not_eq_true'] at h;obtain⟨h0,h1,Y⟩:=h;have U:=Ja h1
    rcases Lib.index_spec lO (32::(s++[32])) with ⟨h3,_⟩|⟨i,h3,h4,h5,_⟩
    · unfold Lib.contains at Y;rw[h3] at Y;exact absurd Y (by decide)
    · unfold Lib.occAt at h5;obtain⟨t,Z⟩:=List.isPrefixOf_iff_prefix.1 h5
      have hd:lO.drop (i+1)=s++(32::t):=by
        have:=congrArg List.tail Z;rw[List.tail_drop] at this;rw[<-this];simp
      have I:(lO.drop (i+1)).takeWhile (λb=>b !=32)=s:=by
        rw[hd,List.takeWhile_append_of_pos U];simp
      have hi : i < 44 := by have : lO.length = 42 := by decide
                             omega
      have hw:lO[i]? =some 32:=by
        have:=congrArg (λz=>z[0]?) Z;simpa using this.symm
      rcases Gu i hi hw with J|J
      · rw[I] at J;exact absurd J h0
      · rwa [I] at J
  · intro h;have:∀w∈rT,cY w=true:=by decide +kernel
    exact this s (List.contains_iff_mem.1 h)
end
end Go.Proofs.YtnjahnbpnpkmhaaGreatDoor
namespace Go.Proofs.YtnjahnbpnpkmhaaGreatDoor
open Go.Proofs.Tryz
open Go Go.Lw
set_option maxRecDepth 20000 set_option maxHeartbeats 4000000
section
variable {h:aq}{r:Nat}
theorem tM (m:Int):au prog 58 #[.int .i64 m] h (bK λr h'=>aL oA h' (λ_=>False) r (bX m)/\aj h h'):=by
 unfold bX;refine bJ ?_;refine af ?_;refine aN (λh0=>?_) (λh0=>?_)
 · refine af ?_;refine xo rfl (iD [_,_,_,_,_,_,_,_,_,_]) ?_;rintro _ _ ⟨rfl,rfl⟩;refine af ?_;refine aP ?_;exact⟨_,rfl,by rw[if_pos h0];exact lits wK 10 rfl (by decide),Ext.push _ _ _⟩
 · refine af ?_;refine aN (λh1=>?_) (λh1=>?_)
   · refine af ?_;refine xo rfl (iD [_,_,_,_]) ?_;rintro _ _ ⟨rfl,rfl⟩;refine af ?_;refine aP ?_;exact⟨_,rfl,by rw[if_neg h0,if_pos h1];exact lits wJ 4 rfl (by decide),Ext.push _ _ _⟩
   · refine af ?_;refine aN (λI=>?_) (λI=>?_)
     · refine af ?_;refine xo rfl (iD [_,_,_,_]) ?_;rintro _ _ ⟨rfl,rfl⟩;refine af ?_;refine aP ?_;exact⟨_,rfl,by rw[if_neg h0,if_neg h1,if_pos I];exact lits wI 4 rfl (by decide),Ext.push _ _ _⟩
     · refine af ?_;refine aP ?_;exact⟨_,rfl,by rw[if_neg h0,if_neg h1,if_neg I];exact aL.nil _ _ _,Ext.refl _ _⟩
def Jv (m n:Int):Int:=if n<0\/((bX m).length:Int)<=n then 0 else if m=0 then [1,2,3,5,11,11,9,7,8,6].getD n.toNat 0 else if m=2 then 11 else if n=1 then 10 else 9
theorem nu (m:Int):(bX m).length=(qE m).length/\(bX m).length<=10/\((bX m).length=if m=0 then 10 else if m=1 then 4 else if m=2 then 4 else 0):=by
 unfold bX qE;split
 · exact⟨rfl,by decide,rfl⟩
 · split
   · exact⟨rfl,by decide,rfl⟩
   · split
     · exact⟨rfl,by decide,rfl⟩
     · exact⟨rfl,by decide,rfl⟩
theorem Ak {m n:Int}(h:n<0\/((bX m).length:Int)<=n):iJ m n=none:=by
 unfold iJ;split
 · rfl
 · rw[List.getElem?_eq_none];rw[<-(nu m).1];omega
theorem FF {m n:Int}(h:¬(n<0\/((bX m).length:Int)<=n)):(m=0/\(n=0\/n=1\/n=2\/n=3\/n=4\/n=5\/n=6\/n=7\/n=8\/n=9))\/(m=1/\(n=0\/n=1\/n=2\/n=3))\/(m=2/\(n=0\/n=1\/n=2\/n=3)):=by
 have hl:=(nu m).2.2
 by_cases h0:m=0
 · rw[if_pos h0] at hl;omega
 · by_cases h1:m=1
   · rw[if_neg h0,if_pos h1] at hl;omega
   · by_cases I:m=2
     · rw[if_neg h0,if_neg h1,if_pos I] at hl;omega
     · rw[if_neg h0,if_neg h1,if_neg I] at hl;omega
theorem Ju (m n:Int):Jv m n=kI m n:=by
 unfold Jv
 by_cases h:n<0\/((bX m).length:Int)<=n
 · rw[if_pos h,kI,Ak h]
 · rw[if_neg h]
   rcases FF h with ⟨rfl,k⟩|⟨rfl,k⟩|⟨rfl,k⟩
   · rcases k with rfl|rfl|rfl|rfl|rfl|rfl|rfl|rfl|rfl|rfl<;>rfl
   · rcases k with rfl|rfl|rfl|rfl<;>rfl
   · rcases k with rfl|rfl|rfl|rfl<;>rfl
theorem Dr (m n:Int):au prog 61 #[.int .i64 m,.int .i64 n] h (bK λr h'=>r= .int .i64 (kI m n)/\aj h h'):=by
 rw[<-Ju];unfold Jv;refine bJ ?_;refine af ?_;refine xo rfl (iD [_,_,_,_,_,_,_,_,_,_]) ?_;rintro _ _ ⟨rfl,rfl⟩;refine aR ?_;refine cO ?_
 iterate 2 refine aQ ?_
 have m1:=Hp h [1,2,3,5,11,11,9,7,8,6] 3 10 rfl (by decide);have e1:aj h (h.push (.cells (([1,2,3,5,11,11,9,7,8,6]:List Int).map (Value.int .i64)).toArray 3)):=Ext.push _ _ _;refine H9 (fun(_u:Unit) (h':aq)=>aj (h.push (.cells (([1,2,3,5,11,11,9,7,8,6]:List Int).map (Value.int .i64)).toArray 3)) h') (fun(_u:Unit)=>[(15,.bool (decide (n<0\/((bX m).length:Int)<=n)))]) rfl ?_ ?_
 · refine af ?_;refine cX 9 (λc1=>?_) (λc1=>?_)
   · have c1':=of_decide_eq_true c1;refine af ?_;exact lN () (Ext.refl _ _) ⟨ai rfl (by rw[decide_eq_true (Or.inl c1')]),sb rfl⟩
   · have c1':=of_decide_eq_false c1;refine af ?_;refine xo rfl (aE rfl (tM m)) ?_;rintro _ h2 ⟨hv,e2⟩;obtain⟨oa,kn,kc,rfl,hsl⟩:=hv.open;have hkl:=hsl.len;refine af ?_;exact lN () e2 ⟨ai rfl (by rw[decide_eq_decide];omega),sb rfl⟩
 · rintro _ h2 e2;refine aN (λhz=>?_) (λhz=>?_)
   · rw[if_pos hz];refine af ?_;refine aP ?_;exact⟨_,rfl,rfl,e1.trans e2⟩
   · rw[if_neg hz];have hn0:0<=n:=by omega
     obtain⟨k,rfl⟩:=Int.eq_ofNat_of_zero_le hn0;refine af ?_;refine aN (λh0=>?_) (λh0=>?_)
     · subst h0;have hk:k<10:=by have:=(nu 0).2.1;omega
       obtain⟨oa,kn,kc,hv,q⟩:=(m1.ah e2).open;cases hv;obtain⟨b,o,x,ha,_,hx,hc⟩:=q.at hk;cases ha;refine aQ ?_;refine cI ?_
       iterate 2 refine aR ?_
       refine xp rfl (bZ rfl rfl k rfl rfl) ?_;refine xp rfl (aA rfl hc) ?_;refine af ?_;refine aP ?_;exact⟨_,rfl,by rw[if_pos rfl,List.getD_eq_getElem?_getD];show _=Value.int .i64 ((_:Option Int).getD 0);rw[show ((k:Nat):Int).toNat=k from rfl,hx];rfl,e1.trans e2⟩
     · rw[if_neg h0];refine af ?_;refine aN (λh2=>?_) (λh2=>?_)
       · refine af ?_;refine aP ?_;exact⟨_,rfl,by rw[if_pos h2];rfl,e1.trans e2⟩
       · rw[if_neg h2];refine af ?_;refine aN (λh3=>?_) (λh3=>?_)
         · refine af ?_;refine aP ?_;exact⟨_,rfl,by rw[if_pos h3];rfl,e1.trans e2⟩
         · refine af ?_;refine aP ?_;exact⟨_,rfl,by rw[if_neg h3];rfl,e1.trans e2⟩
theorem Cj (s:By):au prog 62 #[.string (bs s)] h (bK λr h'=>r= .bool (cY s)/\aj h h'):=by
 rw[Gv];refine bJ ?_;refine af ?_;refine xo rfl (iD [_,_,_,_,_,_,_,_,_,_]) ?_;rintro _ _ ⟨rfl,rfl⟩;refine af ?_;have m1:=lits (h:=h) rT 10 rfl (by decide);have e1:aj h (h.push (.cells (rT.map λs=>Value.string (bs s)).toArray 9)):=Ext.push _ _ _;refine fK (σ:=Nat) (λi=>[(4,.int .i64 (i:Nat))]) (λi h'=>h'=h.push (.cells (rT.map λs=>Value.string (bs s)).toArray 9)/\i<=10/\∀j w,j<i->rT[j]? =some w->w≠s) (λi=>10-i) (0) ⟨rfl,Nat.zero_le _,λj w U=>by omega⟩ rfl ?_;rintro i g ⟨aa,hi,Y⟩ ih;rw[<-aa] at m1 e1;obtain⟨oa,kn,kc,hv,q⟩:=m1.open;cases hv;refine af ?_;refine aN (λab=>?_) (λab=>?_)
 · have Z:i<10:=by omega
   obtain⟨b,o,x,ha,_,hx,hc⟩:=q.at Z;cases ha
   iterate 4 refine aQ ?_
   refine cI ?_
   iterate 3 refine aR ?_
   refine xp rfl (bZ rfl rfl i rfl rfl) (xp rfl (aA rfl hc) ?_);refine af ?_;refine aN (λhe=>?_) (λhe=>?_)
   · have J:x=s:=(dF he).symm;refine af ?_;refine aP ?_;exact⟨_,rfl,by rw[List.contains_iff_mem.2 (J▸List.mem_of_getElem? hx)];rfl,e1⟩
   · have J:x≠s:=λk=>he (by rw[k])
     have I:∀j w,j<i+1->i<=j->rT[j]? =some w->w≠s:=λj w h1 h2 hw=>by
      obtain rfl:j=i:=by omega
      rw[hx] at hw;cases hw;exact J
     refine af ?_;exact ih (i+1) ⟨aa,by omega,λj w U hw=>by rcases Nat.lt_or_ge j i with k|k;exact Y j w k hw;exact I j w U k hw⟩
 · obtain rfl:i=10:=by omega
   refine af ?_;refine aP ?_;exact⟨_,rfl,by rw[show rT.contains s=false from by rw[<-Bool.not_eq_true,List.contains_iff_mem];intro hm;obtain⟨j,U,ac⟩:=List.getElem_of_mem hm;exact Y j s (show j<10 from U) (by rw[List.getElem?_eq_getElem U,ac]) rfl];rfl,e1⟩
def Ff (s:kY) (n:Int):kY :=
 if n<0\/((bX s.1).length:Int)<=n then s else if s.1=0/\n=6 then (1,0) else if s.1=1/\n=2 then (0,0)
 else if (s.1=0/\n=5)\/(s.1=2/\n=0) then (if s.2<0 then (2,1) else (2,(if (16383:Int)<s.2 then 16383 else s.2)+1)) else if s.1=2/\n=1 then (if s.2<2 then (0,0) else (2,s.2-1)) else s
theorem HO (s:kY) (n:Int):Ff s n=eF s n:=by
 obtain⟨m,d⟩:=s;unfold Ff
 by_cases h:n<0\/((bX m).length:Int)<=n
 · rw[if_pos h,eF,Ak h]
 · rw[if_neg h]
   rcases FF h with ⟨rfl,k⟩|⟨rfl,k⟩|⟨rfl,k⟩
   · rcases k with rfl|rfl|rfl|rfl|rfl|rfl|rfl|rfl|rfl|rfl<;>first|rfl|skip
     have:eF (0,d) 5=(2,min (max d 0) 16383+1):=rfl;rw[this];simp only[reduceCtorEq];rw[if_neg (by decide),if_neg (by decide),if_pos (.inl (by decide))];split
     · congr 1;omega
     · split
       · congr 1;omega
       · congr 1;omega
   · rcases k with rfl|rfl|rfl|rfl<;>rfl
   · rcases k with rfl|rfl|rfl|rfl<;>first|rfl|skip
     · have:eF (2,d) 0=(2,min (max d 0) 16383+1):=rfl;rw[this,if_neg (by simp),if_neg (by simp),if_pos (.inr (by simp))];split
       · congr 1;omega
       · split
         · congr 1;omega
         · congr 1;omega
     · have:eF (2,d) 1=if 1<d then (2,d-1) else (0,0):=by
        simp[eF,iJ,qE]
       rw[this,if_neg (by simp),if_neg (by simp),if_neg (by simp),if_pos (by simp)];split
       · rw[if_neg (by simp only at *;omega)]
       · rw[if_pos (by simp only at *;omega)]
theorem s8 (s:kY) (n:Int) (hs:Fs s.2):au prog 63 #[.agg (aG s).toArray,.int .i64 n] h (bK λr h'=>r= .agg (aG (eF s n)).toArray/\aj h h'):=by
 rw[<-HO];obtain⟨m,d⟩:=s;obtain⟨ag,ae⟩:=hs;simp only at ag ae;unfold Ff;simp only;refine bJ ?_;refine af ?_;refine xo rfl (mh) ?_;rintro _ h1 ⟨rfl,k1,e1,z1⟩;refine xo rfl (cL) ?_;rintro _ h2 ⟨rfl,k2,e2,z2⟩;have k1:aC h1 h.size 25 (aG (m,d)):=k1;have k2:aC h2 h1.size 25 (aG (0,0)):=k2;have al:=e1.trans e2;have Y:=k1.ah e2;have ac:=e1.size;refine cO ?_
 iterate 2 refine aQ ?_
 refine H9 (fun(_u:Unit) (h':aq)=>aj h2 h') (fun(_u:Unit)=>[(14,.bool (decide (n<0\/((bX m).length:Int)<=n)))]) rfl ?_ ?_
 · refine af ?_;refine cX 7 (λc1=>?_) (λc1=>?_)
   · have I:=of_decide_eq_true c1;refine af ?_;exact lN () (Ext.refl _ _) ⟨ai rfl (by rw[decide_eq_true (Or.inl I)]),sb rfl⟩
   · have I:=of_decide_eq_false c1;refine af ?_;refine xp rfl (aA rfl (Y.cell (i:=0) rfl)) (xo rfl (aE rfl (tM m)) ?_);rintro _ h3 ⟨hv,e3⟩;obtain⟨oa,kn,kc,rfl,ad⟩:=hv.open;have hkl:=ad.len;refine af ?_;exact lN () e3 ⟨ai rfl (by rw[decide_eq_decide];omega),sb rfl⟩
 · rintro _ h3 e3;have Y:=Y.ah e3;have q2:=k2.ah e3;have ak:=al.trans e3;have hz2:=e2.size;have hz3:=e3.size;have J:∀{g:aq},Ext (λb=>b=h1.size) h3 g->aj h g:=λe=>aj.only ak e ac
   refine aN (λc0=>?_) (λc0=>?_)
   · rw[if_pos c0];refine af ?_;refine xp rfl (cj rfl Y.row) (aO rfl (aZ rfl rfl q2 (cF (m,d))) ?_);rintro _ Z ⟨rfl,k4,U,z4⟩;refine af ?_;have k4:aC Z h1.size 25 (aG (m,d)):=k4;refine cE (cz rfl k4.row cD) ?_;exact⟨_,rfl,rfl,J U⟩
   · rw[if_neg c0]
     iterate 3 refine aQ ?_
     refine dU [(22,.bool (decide (m=0/\n=6)))] rfl ?_ ?_
     · refine af ?_;refine xp rfl (aA rfl (Y.cell (i:=0) rfl)) ?_;refine af ?_;refine cX 19 (λc1=>?_) (λc1=>?_)
       · have I:m=0:=of_decide_eq_true c1;refine af ?_;exact aD rfl ⟨ai rfl (by simp[I]),sb rfl⟩
       · have I:¬m=0:=of_decide_eq_false c1;refine af ?_;exact aD rfl ⟨ai rfl (by simp[I]),sb rfl⟩
     · refine aN (λc2=>?_) (λc2=>?_)
       · rw[if_pos c2];refine af ?_;refine xp rfl (av (H.J6 _) rfl) (aO rfl (aZ rfl rfl q2 (cF (1,0))) ?_);rintro _ Z ⟨rfl,k4,U,z4⟩;refine af ?_;have k4:aC Z h1.size 25 (aG (1,0)):=k4;refine cE (cz rfl k4.row cD) ?_;exact⟨_,rfl,rfl,J U⟩
       · rw[if_neg c2]
         iterate 3 refine aQ ?_
         refine dU [(30,.bool (decide (m=1/\n=2)))] rfl ?_ ?_
         · refine af ?_;refine xp rfl (aA rfl (Y.cell (i:=0) rfl)) ?_;refine af ?_;refine cX 27 (λc1=>?_) (λc1=>?_)
           · have I:m=1:=of_decide_eq_true c1;refine af ?_;exact aD rfl ⟨ai rfl (by simp[I]),sb rfl⟩
           · have I:¬m=1:=of_decide_eq_false c1;refine af ?_;exact aD rfl ⟨ai rfl (by simp[I]),sb rfl⟩
         · refine aN (λc3=>?_) (λc3=>?_)
           · rw[if_pos c3];refine af ?_;refine xp rfl (av (H.F7 ) rfl) (aO rfl (aZ rfl rfl q2 (cF (0,0))) ?_);rintro _ Z ⟨rfl,k4,U,z4⟩;refine af ?_;have k4:aC Z h1.size 25 (aG (0,0)):=k4;refine cE (cz rfl k4.row cD) ?_;exact⟨_,rfl,rfl,J U⟩
           · rw[if_neg c3]
             iterate 3 refine aQ ?_
             refine dU [(47,.bool (decide ((m=0/\n=5)\/(m=2/\n=0))))] rfl ?_ ?_
             · refine af ?_;refine xp rfl (aA rfl (Y.cell (i:=0) rfl)) ?_;refine af ?_;refine cX 35 (λc4=>?_) (λc4=>?_)
               · have ab:m=0:=of_decide_eq_true c4;refine af ?_;refine cX 39 (λc5=>?_) (λc5=>?_)
                 · have aa:n=5:=of_decide_eq_true c5;refine af ?_;exact aD rfl ⟨ai rfl (by simp[ab,aa]),sb rfl⟩
                 · have aa:¬n=5:=of_decide_eq_false c5;refine af ?_;refine xp rfl (aA rfl (Y.cell (i:=0) rfl)) ?_;refine af ?_;refine RW.bw (d:=43) (b':=false) rfl (by simp[ab]) ?_;refine af ?_;exact aD rfl ⟨ai rfl (by simp[ab,aa]),sb rfl⟩
               · have ab:¬m=0:=of_decide_eq_false c4;refine af ?_;refine xp rfl (aA rfl (Y.cell (i:=0) rfl)) ?_;refine af ?_;refine cX 43 (λc5=>?_) (λc5=>?_)
                 · have aa:m=2:=of_decide_eq_true c5;refine af ?_;exact aD rfl ⟨ai rfl (by simp[aa]),sb rfl⟩
                 · have aa:¬m=2:=of_decide_eq_false c5;refine af ?_;exact aD rfl ⟨ai rfl (by simp[ab,aa]),sb rfl⟩
             · refine aN (λc4=>?_) (λc4=>?_)
               · rw[if_pos c4];refine af ?_;refine xp rfl (aA rfl (Y.cell (i:=1) rfl)) ?_;refine af ?_;refine aN (λc5=>?_) (λc5=>?_)
                 · rw[if_pos c5];refine af ?_;refine xp rfl (av (H.sY _ _) rfl) (aO rfl (aZ rfl rfl q2 (cF (2,1))) ?_);rintro _ Z ⟨rfl,k4,U,z4⟩;refine af ?_;have k4:aC Z h1.size 25 (aG (2,1)):=k4;refine cE (cz rfl k4.row cD) ?_;exact⟨_,rfl,rfl,J U⟩
                 · rw[if_neg c5];have hmx:(if (16383:Int)<d then 16383 else d)<=16383:=by split<;>omega
                   have hmn:0<=(if (16383:Int)<d then 16383 else d):=by split<;>omega
                   refine af ?_;refine xp rfl (aA rfl (Y.cell (i:=1) rfl)) ?_;refine af ?_;refine xp rfl (av (H.sY _ _) rfl) (aO rfl (aZ rfl rfl q2) ?_);rintro _ Z ⟨rfl,k4,U,z4⟩;refine af ?_;have k4:aC Z h1.size 25 (aG (2,(if (16383:Int)<d then 16383 else d)+1)):=k4;refine cE (cz rfl k4.row cD) ?_;exact⟨_,rfl,rfl,J U⟩
               · rw[if_neg c4]
                 iterate 3 refine aQ ?_
                 refine dU [(63,.bool (decide (m=2/\n=1)))] rfl ?_ ?_
                 · refine af ?_;refine xp rfl (aA rfl (Y.cell (i:=0) rfl)) ?_;refine af ?_;refine cX 60 (λc1=>?_) (λc1=>?_)
                   · have I:m=2:=of_decide_eq_true c1;refine af ?_;exact aD rfl ⟨ai rfl (by simp[I]),sb rfl⟩
                   · have I:¬m=2:=of_decide_eq_false c1;refine af ?_;exact aD rfl ⟨ai rfl (by simp[I]),sb rfl⟩
                 · refine aN (λc6=>?_) (λc6=>?_)
                   · rw[if_pos c6];refine af ?_;refine xp rfl (aA rfl (Y.cell (i:=1) rfl)) ?_;refine af ?_;refine aN (λc5=>?_) (λc5=>?_)
                     · rw[if_pos c5];refine af ?_;refine xp rfl (av (H.F7 ) rfl) (aO rfl (aZ rfl rfl q2 (cF (0,0))) ?_);rintro _ Z ⟨rfl,k4,U,z4⟩;refine af ?_;have k4:aC Z h1.size 25 (aG (0,0)):=k4;refine cE (cz rfl k4.row cD) ?_;exact⟨_,rfl,rfl,J U⟩
                     · rw[if_neg c5];refine af ?_;refine xp rfl (aA rfl (Y.cell (i:=1) rfl)) ?_;refine af ?_;refine xp rfl (av (H.sY _ _) rfl) (aO rfl (aZ rfl rfl q2) ?_);rintro _ Z ⟨rfl,k4,U,z4⟩;refine af ?_;have k4:aC Z h1.size 25 (aG (2,d-1)):=k4;refine cE (cz rfl k4.row cD) ?_;exact⟨_,rfl,rfl,J U⟩
                   · rw[if_neg c6];refine af ?_;refine xp rfl (cj rfl Y.row) (aO rfl (aZ rfl rfl q2 (cF (m,d))) ?_);rintro _ Z ⟨rfl,k4,U,z4⟩;refine af ?_;have k4:aC Z h1.size 25 (aG (m,d)):=k4;refine cE (cz rfl k4.row cD) ?_;exact⟨_,rfl,rfl,J U⟩
theorem wrap_i32 {i:Int}(h : -2147483648<=i/\i<=2147483647):IntKind.i32.wrap i=i:=by
 have h1:(2:Int) ^ 32=4294967296:=by decide
 have h2:(2:Int) ^ 31=2147483648:=by decide
 simp only[IntKind.wrap,IntKind.bits,IntKind.signed,Bool.true_and,decide_eq_true_eq,Nat.reduceSub,h1,h2];split<;>omega
theorem Jn (c:UInt8):(dP c.toNat).1<=4/\(dP c.toNat).2<128/\(1<(dP c.toNat).1->(dP c.toNat).2<32)/\(2<(dP c.toNat).1->(dP c.toNat).2<16)/\(3<(dP c.toNat).1->(dP c.toNat).2<8):=by
 have hc:=c.toNat_lt;unfold dP
 repeat' split
 all_goals simp only
 all_goals omega
theorem DQ (c:UInt8):au prog 105 #[.int .u8 (c.toNat:Nat)] h (bK λr h'=>r= .tuple #[.int .i64 (dP c.toNat).1,.int .i32 (dP c.toNat).2]/\h'=h):=by
 have hc:=c.toNat_lt;generalize c.toNat=n at *;unfold dP;refine bJ ?_;refine af ?_;refine aN (λh0=>?_) (λh0=>?_)
 · refine aQ ?_;refine cI ?_;refine aR ?_;refine xp rfl (AA rfl (wrap_i32 (i:=(n:Int)) (by omega))) ?_;refine af ?_;refine aP ?_;exact⟨_,rfl,by rw[if_pos (by omega)];rfl,rfl⟩
 · rw[if_neg (show ¬n<128 by omega)];refine aQ ?_;refine dU [(9,.bool (decide (192<=n/\n<224)))] rfl ?_ ?_
   · refine af ?_;refine cX 12 (λc1=>?_) (λc1=>?_)
     · have c1':=of_decide_eq_true c1;refine af ?_;exact aD rfl ⟨ai rfl (by rw[decide_eq_decide];omega),sb rfl⟩
     · have c1':=of_decide_eq_false c1;refine af ?_;exact aD rfl ⟨ai rfl (by rw[decide_eq_false];omega),sb rfl⟩
   · refine aN (λh1=>?_) (λh1=>?_)
     · rw[if_pos h1];refine aQ ?_;refine cI ?_;refine aR ?_;refine xp rfl (az.sub rfl rfl) ?_;refine xp rfl (AA rfl (wrap_i32  (by rw[wrap_u8 (by omega)];omega))) ?_;refine af ?_;refine aP ?_;exact⟨_,rfl,by rw[show IntKind.u8.wrap ((n:Int)-192)=((n-192:Nat):Int) by rw[wrap_u8 (by omega)];omega];rfl,rfl⟩
     · rw[if_neg h1];refine aQ ?_;refine dU [(19,.bool (decide (224<=n/\n<240)))] rfl ?_ ?_
       · refine af ?_;refine cX 22 (λc1=>?_) (λc1=>?_)
         · have c1':=of_decide_eq_true c1;refine af ?_;exact aD rfl ⟨ai rfl (by rw[decide_eq_decide];omega),sb rfl⟩
         · have c1':=of_decide_eq_false c1;refine af ?_;exact aD rfl ⟨ai rfl (by rw[decide_eq_false];omega),sb rfl⟩
       · refine aN (λh2=>?_) (λh2=>?_)
         · rw[if_pos h2];refine aQ ?_;refine cI ?_;refine aR ?_;refine xp rfl (az.sub rfl rfl) ?_;refine xp rfl (AA rfl (wrap_i32  (by rw[wrap_u8 (by omega)];omega))) ?_;refine af ?_;refine aP ?_;exact⟨_,rfl,by rw[show IntKind.u8.wrap ((n:Int)-224)=((n-224:Nat):Int) by rw[wrap_u8 (by omega)];omega];rfl,rfl⟩
         · rw[if_neg h2];refine aQ ?_;refine dU [(29,.bool (decide (240<=n/\n<248)))] rfl ?_ ?_
           · refine af ?_;refine cX 32 (λc1=>?_) (λc1=>?_)
             · have c1':=of_decide_eq_true c1;refine af ?_;exact aD rfl ⟨ai rfl (by rw[decide_eq_decide];omega),sb rfl⟩
             · have c1':=of_decide_eq_false c1;refine af ?_;exact aD rfl ⟨ai rfl (by rw[decide_eq_false];omega),sb rfl⟩
           · refine aN (λh3=>?_) (λh3=>?_)
             · rw[if_pos h3];refine aQ ?_;refine cI ?_;refine aR ?_;refine xp rfl (az.sub rfl rfl) ?_;refine xp rfl (AA rfl (wrap_i32  (by rw[wrap_u8 (by omega)];omega))) ?_;refine af ?_;refine aP ?_;exact⟨_,rfl,by rw[show IntKind.u8.wrap ((n:Int)-240)=((n-240:Nat):Int) by rw[wrap_u8 (by omega)];omega];rfl,rfl⟩
             · rw[if_neg h3];refine af ?_;refine aP ?_;exact⟨_,rfl,rfl,rfl⟩
theorem p8 {n:Nat}(h:n<256):((UInt8.ofNat n).toNat:Int)=n:=by rw[UInt8.toNat_ofNat'];omega
theorem Cs (r q:Nat):(r:Int).tdiv (q:Int)=((r / q:Nat):Int):=by
 rw[Int.tdiv_eq_ediv_of_nonneg (by omega)];exact(Int.natCast_ediv r q).symm
theorem EW (hr:r<2147483648) (B Q:Int) (b q:Nat) (U:B=b) (J:Q=q) (I:b+r / q<256):IntKind.u8.wrap (B+IntKind.u8.wrap (IntKind.i32.wrap ((r:Int).tdiv Q)))=((UInt8.ofNat (b+r / q)).toNat:Int):=by
 subst U J;have:=Nat.div_le_self r q;rw[p8 I,Cs];generalize r / q=x at *;rw[wrap_i32 (by omega),wrap_u8 (i:=(x:Int)) (by omega),wrap_u8 (by omega)];omega
theorem JR (hr:r<2147483648) (Q:Int) (q:Nat) (I:Q=q):IntKind.u8.wrap (128+IntKind.u8.wrap (Int.tmod (IntKind.i32.wrap ((r:Int).tdiv Q)) 64))=((UInt8.ofNat (128+r / q%64)).toNat:Int):=by
 subst I;have:=Nat.div_le_self r q;rw[p8 (by omega),Cs];generalize r / q=x at *;rw[wrap_i32 (by omega),Int.tmod_eq_emod_of_nonneg (by omega),wrap_u8 (i:=(x:Int)%64) (by omega),wrap_u8 (by omega)];omega
theorem EX:IntKind.u8.wrap (128+IntKind.u8.wrap (Int.tmod (r:Int) 64))=((UInt8.ofNat (128+r%64)).toNat:Int):=by
 rw[p8 (by omega),Int.tmod_eq_emod_of_nonneg (by omega),wrap_u8 (i:=(r:Int)%64) (by omega),wrap_u8 (by omega)];omega
theorem Oo (hr:r<256):IntKind.u8.wrap (r:Int)=((UInt8.ofNat r).toNat:Int):=by
 rw[p8 hr,wrap_u8 (by omega)]
theorem nS (h:aq) (t:TypeId) (xs:By) (n:Nat) (hn:xs.length=n) (hm:n<=maxLen){us:List Value}(hu:us=xs.map λb=>Value.int .u8 b.toNat):aL .byte (h.push (.cells us.toArray t)) (λ_=>False) (.slice (some ⟨h.size,0,none⟩) n n) xs :=
 bN.read (h1:=λ_=>rfl) (iA (λb:UInt8=>Value.int .u8 b.toNat) h t xs n hn hm 0 (Nat.zero_le _) hu) (λ_ _ k=>k)
theorem GV (r:Nat) (hr:r<2147483648):au prog 106 #[.int .i32 (r:Nat)] h (bK λv h'=>v= .string (bs (mF r))/\aj h h'):=by
 unfold mF;refine bJ ?_;refine aQ ?_;refine cI ?_;refine aR ?_;refine cO ?_
 iterate 2 refine aQ ?_
 refine dU [(16,.bool (decide (1114111<r\/(55296<=r/\r<=57343))))] rfl ?_ ?_
 · refine af ?_;refine RW.bw (d:=5) (b':=false) rfl (by simp) ?_;refine af ?_;refine cX 9 (λc2=>?_) (λc2=>?_)
   · have c2':=of_decide_eq_true c2;refine af ?_;exact aD rfl ⟨ai rfl (by rw[decide_eq_true];omega),sb rfl⟩
   · have c2':=of_decide_eq_false c2;refine af ?_;refine cX 12 (λc3=>?_) (λc3=>?_)
     · have c3':=of_decide_eq_true c3;refine af ?_;exact aD rfl ⟨ai rfl (by rw[decide_eq_decide];omega),sb rfl⟩
     · have c3':=of_decide_eq_false c3;refine af ?_;exact aD rfl ⟨ai rfl (by rw[decide_eq_false];omega),sb rfl⟩
 · refine aN (λc1=>?_) (λc1=>?_)
   · rw[if_pos c1];refine af ?_;refine aP ?_;exact⟨_,rfl,rfl,Ext.refl _ _⟩
   · rw[if_neg c1];refine af ?_;refine aN (λc2=>?_) (λc2=>?_)
     · rw[if_pos (show r<128 by omega)];refine af ?_;refine xo rfl (iD [_]) ?_;rintro _ _ ⟨rfl,rfl⟩;refine xp rfl (Ml rfl (nS h 5 [UInt8.ofNat r] 1 rfl (by decide) (by rw[Oo (show r<256 by omega)];rfl))) ?_;refine af ?_;refine aP ?_;exact⟨_,rfl,rfl,Ext.push _ _ _⟩
     · rw[if_neg (show ¬r<128 by omega)];refine af ?_;refine aN (λc3=>?_) (λc3=>?_)
       · rw[if_pos (show r<2048 by omega)];refine aQ ?_;refine cI ?_;refine aR ?_;refine xp rfl (gw rfl rfl (by decide)) ?_;refine aR ?_;refine xp rfl (az.add rfl rfl) ?_;refine aR ?_;refine xp rfl (iB rfl rfl (by decide)) ?_;refine aR ?_;refine xp rfl (az.add rfl rfl) ?_;refine xo rfl (iD [_,_]) ?_;rintro _ _ ⟨rfl,rfl⟩;refine xp rfl (Ml rfl (nS h 5 [UInt8.ofNat (192+r / 64),UInt8.ofNat (128+r%64)] 2 rfl (by decide) (by rw[EW hr 192 64 192 64 rfl rfl (by omega),EX];rfl))) ?_;refine af ?_;refine aP ?_;exact⟨_,rfl,rfl,Ext.push _ _ _⟩
       · rw[if_neg (show ¬r<2048 by omega)];refine af ?_;refine aN (λc4=>?_) (λc4=>?_)
         · rw[if_pos (show r<65536 by omega)];refine aQ ?_;refine cI ?_;refine aR ?_;refine xp rfl (gw rfl rfl (by decide)) ?_;refine aR ?_;refine xp rfl (az.add rfl rfl) ?_;refine aR ?_;refine xp rfl (gw rfl rfl (by decide)) ?_;refine xp rfl (iB rfl rfl (by decide)) ?_;refine aR ?_;refine xp rfl (az.add rfl rfl) ?_;refine aR ?_;refine xp rfl (iB rfl rfl (by decide)) ?_;refine aR ?_;refine xp rfl (az.add rfl rfl) ?_;refine xo rfl (iD [_,_,_]) ?_;rintro _ _ ⟨rfl,rfl⟩;refine xp rfl (Ml rfl (nS h 5 [UInt8.ofNat (224+r / 4096),UInt8.ofNat (128+r / 64%64),UInt8.ofNat (128+r%64)] 3 rfl (by decide) (by rw[EW hr 224 4096 224 4096 rfl rfl (by omega),JR hr 64 64 rfl,EX];rfl))) ?_;refine af ?_;refine aP ?_;exact⟨_,rfl,rfl,Ext.push _ _ _⟩
         · rw[if_neg (show ¬r<65536 by omega)]
           iterate 2 refine aQ ?_
           refine cI ?_;refine aR ?_;refine xp rfl (gw rfl rfl (by decide)) ?_;refine aR ?_;refine xp rfl (az.add rfl rfl) ?_;refine aR ?_;refine xp rfl (gw rfl rfl (by decide)) ?_;refine xp rfl (iB rfl rfl (by decide)) ?_;refine aR ?_;refine xp rfl (az.add rfl rfl) ?_;refine aR ?_;refine xp rfl (gw rfl rfl (by decide)) ?_;refine xp rfl (iB rfl rfl (by decide)) ?_;refine aR ?_;refine xp rfl (az.add rfl rfl) ?_;refine aR ?_;refine xp rfl (iB rfl rfl (by decide)) ?_;refine aR ?_;refine xp rfl (az.add rfl rfl) ?_;refine xo rfl (iD [_,_,_,_]) ?_;rintro _ _ ⟨rfl,rfl⟩;refine xp rfl (Ml rfl (nS h 5 [UInt8.ofNat (240+r / 262144),UInt8.ofNat (128+r / 4096%64),UInt8.ofNat (128+r / 64%64),UInt8.ofNat (128+r%64)] 4 rfl (by decide) (by rw[EW hr 240 262144 240 262144 rfl rfl (by omega),JR hr 4096 4096 rfl,JR hr 64 64 rfl,EX];rfl))) ?_;refine af ?_;refine aP ?_;exact⟨_,rfl,rfl,Ext.push _ _ _⟩
theorem C5:∀(l:By) (r:Nat),iI r l<(r+1)*64 ^ l.length
 | [],r=>by simp[iI]
 |b::l,r=>by
  have ih:=C5 l (r*64+b.toNat%64);have e:iI r (b::l)=iI (r*64+b.toNat%64) l:=rfl;rw[e,List.length_cons,Nat.pow_succ];have h1:(r*64+b.toNat%64+1)*64 ^ l.length<=((r+1)*64)*64 ^ l.length:=Nat.mul_le_mul_right _ (by omega);have h2:((r+1)*64)*64 ^ l.length=(r+1)*(64 ^ l.length*64):=by rw[Nat.mul_assoc,Nat.mul_comm 64]
  omega
theorem OL:∀n:Nat,n<256->IntKind.u8.wrap ((BitVec.ofInt IntKind.u8.bits (n:Int) &&& BitVec.ofInt IntKind.u8.bits 63).toNat:Int)=((n%64:Nat):Int):=by decide +kernel
theorem MI (b:UInt8) (hr:r*64+63<2147483648):IntKind.i32.wrap (IntKind.i32.wrap ((r:Int)*64)+IntKind.i32.wrap (IntKind.u8.wrap ((BitVec.ofInt IntKind.u8.bits (b.toNat:Int) &&& BitVec.ofInt IntKind.u8.bits 63).toNat:Int)))=((r*64+b.toNat%64:Nat):Int):=by
 rw[OL _ b.toNat_lt,wrap_i32 (i:=((b.toNat%64:Nat):Int)) (by omega),wrap_i32 (i:=(r:Int)*64) (by omega),wrap_i32 (by omega)];omega
theorem EC (r:Nat) (l:By) (i:Nat) (b:UInt8) (h:l[i]? =some b):iI r (l.take (i+1))=iI r (l.take i)*64+b.toNat%64:=by
 unfold iI;rw[List.take_add_one,h,List.foldl_append];rfl
theorem CZ (s:By) (k:Nat) (hk:k<s.length) (hs:s.length<=1000000):au prog 60 #[.string (bs s),.int .i64 (k:Nat)] h (bK λr h'=>(∃(x:Int) (ok:Bool),r= .tuple #[.int .i32 x,.int .i64 (FX (s.drop k):Nat),.bool ok])/\aj h h'):=by
 have hbs:=aJ s;obtain⟨c,hc⟩:∃c,s[k]? =some c:=⟨_,List.getElem?_eq_getElem hk⟩
 have hd0:(s.drop k).getD 0 0=c:=by rw[List.getD_eq_getElem?_getD,List.getElem?_drop,Nat.add_zero,hc];rfl
 have hll:=Jn c;unfold FX Mu;rw[hd0];refine bJ ?_;refine aQ ?_;refine cI ?_
 iterate 3 refine aR ?_
 refine cO ?_
 iterate 2 refine aQ ?_
 refine dU [(18,.bool false)] rfl ?_ ?_
 · refine af ?_;refine RW.bw (d:=13) (b':=false) rfl (by simp) ?_;refine af ?_;exact aD rfl ⟨ai rfl (by simp;omega),sb rfl⟩
 · refine dB rfl (by decide) ?_;refine af ?_;refine xp rfl (tq rfl rfl k rfl (eH hc)) ?_;refine xo rfl (aE rfl (DQ c)) ?_;rintro _ h1 ⟨rfl,hh1⟩;refine af ?_;subst hh1;obtain⟨n,r0,hlead⟩:∃n r0,dP c.toNat=(n,r0):=⟨_,_,rfl⟩
   rw[hlead] at hll ⊢;simp only at hll ⊢;obtain⟨hn4,hr128,hr2,hr3,hr4⟩:=hll;generalize hrest:(s.drop k).drop 1=rest;have hrl:rest.length=s.length-k-1:=by rw[<-hrest,List.length_drop,List.length_drop]
   have hra:∀i b,rest[i]? =some b->s[k+(i+1)]? =some b:=λi b hb=>by
    rw[<-hrest,List.getElem?_drop,List.getElem?_drop] at hb;rw[<-hb];congr 1;omega
   have hml:∀j,j+1<=n\/j=0->iI r0 (rest.take j)<2097152:=λj hj=>by
    have h1:=C5 (rest.take j) r0;have h2:(rest.take j).length<=j:=by rw[List.length_take];omega
    have h3:64 ^ (rest.take j).length<=64 ^ j:=Nat.pow_le_pow_right (by decide) h2;have h4:(r0+1)*64 ^ (rest.take j).length<=(r0+1)*64 ^ j:=Nat.mul_le_mul_left _ h3
    have h5:(r0+1)*64 ^ j<=2097152:=by
     have:j=0\/j=1\/j=2\/j=3:=by omega
     rcases this with rfl|rfl|rfl|rfl
     · omega
     · omega
     · omega
     · omega
    omega
   refine fK (σ:=Nat) (λq=>[(8,.int .i32 (iI r0 (rest.take q):Nat)),(9,.int .i64 ((q+1:Nat):Int))]) (λq h'=>h'=h1/\(q+1<=n\/q=0)/\q<=rest.length) (λq=>10-q) (0) ⟨rfl,.inr rfl,Nat.zero_le _⟩ rfl ?_;rintro q g ⟨rfl,hq,hqr⟩ ih;have hmq:=hml q hq
   iterate 2 refine aQ ?_
   refine dU [(36,.bool (decide (q+1<n/\q<rest.length)))] rfl ?_ ?_
   · refine af ?_;refine cX 29 (λc1=>?_) (λc1=>?_)
     · have c1':=of_decide_eq_true c1;refine af ?_;exact aD rfl ⟨ai rfl (by rw[decide_eq_decide];omega),sb rfl⟩
     · have c1':=of_decide_eq_false c1;refine af ?_;exact aD rfl ⟨ai rfl (by rw[decide_eq_false];omega),sb rfl⟩
   · refine aN (λhlt=>?_) (λhlt=>?_)
     · obtain⟨hlt1,hlt2⟩:=hlt;obtain⟨b,hb⟩:∃b,rest[q]? =some b:=⟨_,List.getElem?_eq_getElem hlt2⟩
       have hbl:=b.toNat_lt;have hmt:=EC r0 rest q b hb;have hm1:=hml (q+1) (.inl (by omega));generalize iI r0 (rest.take q)=r at *;rw[hmt] at hm1;have hr64:r*64+63<2147483648:=by omega
       iterate 3 refine aQ ?_
       refine cI ?_;refine aR ?_;refine xp rfl (Gj rfl rfl) ?_;refine af ?_;refine xp rfl (tq rfl rfl (k+(q+1)) (by omega) (eH (hra q b hb))) ?_;refine xp rfl (az.DP rfl rfl) ?_;refine aR ?_;refine xp rfl (az.add rfl rfl) ?_;refine af ?_;rw[MI b hr64,<-hmt];exact ih (q+1) ⟨rfl,.inl (by omega),by omega⟩
     · refine af ?_;refine xo rfl (aE rfl (GV (iI r0 (rest.take q)) (by omega))) ?_;rintro _ h2 ⟨rfl,e2⟩;have hdl:(s.drop k).length=rest.length+1:=by rw[hrl,List.length_drop];omega
       have hcond:(0<n/\n<=(s.drop k).length/\mF (iI r0 (rest.take q))=(s.drop k).take n)↔(0<n/\n<=(s.drop k).length/\mF (iI r0 (rest.take (n-1)))=(s.drop k).take n):=by
        constructor
        · rintro⟨h1,h2,h3⟩;have:n-1=q:=by omega
          rw[this];exact⟨h1,h2,h3⟩
        · rintro⟨h1,h2,h3⟩;have:n-1=q:=by omega
          rw[this] at h3;exact⟨h1,h2,h3⟩
       generalize iI r0 (rest.take q)=r at *;refine aR ?_;refine cO ?_
       iterate 2 refine aQ ?_
       refine dU [(70,.bool (decide (0<n/\n<=(s.drop k).length/\mF r=(s.drop k).take n)))] rfl ?_ ?_
       · refine af ?_;refine cX 53 (λc1=>?_) (λc1=>?_)
         · have c1':(0:Int)<(n:Nat):=of_decide_eq_true c1;refine af ?_;refine cX 61 (λc2=>?_) (λc2=>?_)
           · have c2':((n:Nat):Int)<=(s.length:Nat)-(k:Nat):=of_decide_eq_true (by simpa [hbs] using c2);refine af ?_;refine xp rfl (az.oK underlying9 rfl rfl k rfl rfl (k+n) rfl (by omega) (by omega)) ?_;refine af ?_;have hcut:(bs s).extract k (k+n)=bs ((s.drop k).take n):=by rw[sW s k (k+n) (by omega),List.drop_take,Nat.add_sub_cancel_left]
             rw[hcut];exact aD rfl ⟨ai rfl (by rw[decide_eq_decide];exact⟨λh=>⟨by omega,by omega,dF h⟩,λh=>by rw[h.2.2]⟩),sb rfl⟩
           · have c2':¬((n:Nat):Int)<=(s.length:Nat)-(k:Nat):=of_decide_eq_false (by simpa [hbs] using c2);refine af ?_;exact aD rfl ⟨ai rfl (by rw[decide_eq_false];omega),sb rfl⟩
         · have c1':¬(0:Int)<(n:Nat):=of_decide_eq_false c1;refine af ?_;exact aD rfl ⟨ai rfl (by rw[decide_eq_false];omega),sb rfl⟩
       · refine aN (λhz=>?_) (λhz=>?_)
         · refine af ?_;refine aP ?_;rw[if_pos (hcond.1 hz)];exact⟨_,rfl,⟨_,_,rfl⟩,e2⟩
         · refine af ?_;refine aP ?_;rw[if_neg (λh=>hz (hcond.2 h))];exact⟨_,rfl,⟨_,_,rfl⟩,e2⟩
theorem uD (x:UInt8):au prog 183 #[.int .u8 (x.toNat:Nat)] h (bK λr h'=>r= .bool (decide (x∈bH))/\h'=h):=by
 refine bJ ?_;refine af ?_;refine uw (σ:=Nat) (λi=>[(0,.int .u8 (x.toNat:Nat)),(3,.string (bs bH)),(4,.int .i64 i)]) (λi h'=>h'=h/\i<=12/\x∉bH.take i) (λi=>12-i) (0) rfl ⟨rfl,rfl,rfl,trivial⟩ ⟨rfl,by decide,by simp⟩ ?_;rintro i h1 ⟨rfl,hi,I⟩ Z;have hz:(bs bH).size=12:=rfl;refine iC rfl (Mm func183 2 rfl (xp rfl (az.mK underlying9 rfl) (D5 1 [0,3,4,8] rfl (vk rfl rfl (λY=>?_) (λY=>?_)))))
 · have J:i<bH.length:=by show i<12;omega
   have U:bH[i]? =some bH[i]:=List.getElem?_eq_getElem J;refine me rfl (iC rfl (G.block rfl rfl (Mm func183 2 rfl (xp rfl (az.Du underlying9 rfl rfl i rfl (eH U)) (D5 2 [0,3,4,8,15] rfl (vk rfl rfl (λhe=>?_) (λhe=>?_)))))))
   · have he:bH[i]=x:=(bz rfl).1 he;refine Kz func183 1 [0,2,3,4,8,15] rfl (G.ret func183 rfl rfl ?_);exact⟨_,rfl,by rw[show decide (x∈bH)=true by rw[<-he];simp];rfl,rfl⟩
   · have he:¬bH[i]=x:=λe=>he ((bz rfl).2 e)
     refine me rfl (G.pL (G.mE func183 rfl (KA 1 rfl rfl (az.ow rfl rfl ⟨by omega,by omega⟩) (D5 1 [0,3,4,8,15] rfl ?_))));exact Z (i+1) _ _ ⟨rfl,rfl,rfl,trivial⟩ ⟨rfl,by omega,by rw[List.take_add_one,U];simp only[List.mem_append,not_or];exact⟨I,by simp;exact λe=>he e.symm⟩⟩ (by omega)
 · obtain rfl:i=12:=by omega
   have I:x∉bH:=I;refine af ?_;refine aP ?_;exact⟨_,rfl,by rw[show decide (x∈bH)=false by simp[I]];rfl,rfl⟩
def ry (x:UInt8):Int:=match de x with|some n=>n|none=> -1
theorem tR {x:UInt8}:(0<=ry x)↔∃n,de x=some n/\n<16/\ry x=n:=by
 unfold ry;cases I:de x with
 |none=>simp
 |some n=>exact⟨λ_=>⟨n,rfl,mM I,rfl⟩,λ_=>Int.natCast_nonneg _⟩
theorem Hr {x:UInt8}(h:¬0<=ry x):de x=none:=by
 unfold ry at h;cases hv:de x with
 |none=>rfl
 |some n=>rw[hv] at h;exact absurd (Int.natCast_nonneg n) h
theorem nO (x:UInt8):au prog 184 #[.int .u8 (x.toNat:Nat)] h (bK λr h'=>r= .int .i64 (ry x)/\h'=h):=by
 have hx:=x.toNat_lt;refine bJ ?_;refine aQ ?_;refine cI ?_;refine aR ?_;refine cO ?_
 iterate 2 refine aQ ?_
 refine dU [(8,.bool (decide (48<=x.toNat/\x.toNat<=57)))] rfl ?_ ?_
 · refine af ?_;refine cX 5 (λhg=>?_) (λhg=>?_)
   · refine af ?_;exact aD rfl ⟨ai rfl (by have:=of_decide_eq_true hg;simp only[decide_eq_decide];omega),sb rfl⟩
   · refine af ?_;exact aD rfl ⟨ai rfl (by have:=of_decide_eq_false hg;simp;omega),sb rfl⟩
 · refine aN (λh1=>?_) (λh1=>?_)
   · refine aQ ?_;refine cI ?_;refine aR ?_;refine xp rfl (az.sub rfl rfl) ?_;refine xp rfl (AA rfl (wrap_i64 ⟨by rw[wrap_u8 (by omega)];omega,by rw[wrap_u8 (by omega)];omega⟩)) ?_;refine af ?_;refine aP ?_;refine⟨_,rfl,?_,rfl⟩;have:de x=some (x.toNat-48):=by unfold de;rw[if_pos h1]
     unfold ry;rw[this]
     show Value.int _ _=Value.int _ _
     rw[wrap_u8 (by omega)];congr 1;simp only;omega
   · iterate 3 refine aQ ?_
     refine dU [(17,.bool (decide (97<=x.toNat/\x.toNat<=102)))] rfl ?_ ?_
     · refine af ?_;refine cX 14 (λhg=>?_) (λhg=>?_)
       · refine af ?_;exact aD rfl ⟨ai rfl (by have:=of_decide_eq_true hg;simp only[decide_eq_decide];omega),sb rfl⟩
       · refine af ?_;exact aD rfl ⟨ai rfl (by have:=of_decide_eq_false hg;simp;omega),sb rfl⟩
     · refine aN (λh2=>?_) (λh2=>?_)
       · have hw:IntKind.u8.wrap ((x.toNat:Int)-97)=(x.toNat:Int)-97:=wrap_u8 (by omega);refine aQ ?_;refine cI ?_;refine aR ?_;refine xp rfl (az.sub rfl rfl) ?_;refine xp rfl (AA rfl (wrap_i64 ⟨by rw[hw];omega,by rw[hw];omega⟩)) ?_;refine xp rfl (az.ow rfl rfl ⟨by rw[hw];omega,by rw[hw];omega⟩) ?_;refine af ?_;refine aP ?_;refine⟨_,rfl,?_,rfl⟩;have:de x=some (x.toNat-87):=by unfold de;rw[if_neg h1,if_pos h2]
         unfold ry;rw[this]
         show Value.int _ _=Value.int _ _
         rw[hw];congr 1;simp only;omega
       · iterate 3 refine aQ ?_
         refine dU [(27,.bool (decide (65<=x.toNat/\x.toNat<=70)))] rfl ?_ ?_
         · refine af ?_;refine cX 24 (λhg=>?_) (λhg=>?_)
           · refine af ?_;exact aD rfl ⟨ai rfl (by have:=of_decide_eq_true hg;simp only[decide_eq_decide];omega),sb rfl⟩
           · refine af ?_;exact aD rfl ⟨ai rfl (by have:=of_decide_eq_false hg;simp;omega),sb rfl⟩
         · refine aN (λh3=>?_) (λh3=>?_)
           · have hw:IntKind.u8.wrap ((x.toNat:Int)-65)=(x.toNat:Int)-65:=wrap_u8 (by omega);refine aQ ?_;refine cI ?_;refine aR ?_;refine xp rfl (az.sub rfl rfl) ?_;refine xp rfl (AA rfl (wrap_i64 ⟨by rw[hw];omega,by rw[hw];omega⟩)) ?_;refine xp rfl (az.ow rfl rfl ⟨by rw[hw];omega,by rw[hw];omega⟩) ?_;refine af ?_;refine aP ?_;refine⟨_,rfl,?_,rfl⟩;have:de x=some (x.toNat-55):=by unfold de;rw[if_neg h1,if_neg h2,if_pos h3]
             unfold ry;rw[this]
             show Value.int _ _=Value.int _ _
             rw[hw];congr 1;simp only;omega
           · refine af ?_;refine aP ?_;have:de x=none:=by unfold de;rw[if_neg h1,if_neg h2,if_neg h3]
             exact⟨_,rfl,by unfold ry;rw[this];rfl,rfl⟩
def vF (s:By) (i:Nat):Int:=match s[i]? with|some c=>c.toNat|none=> -1
theorem cN (s:By) (i:Nat):(s.length<=i/\s.drop i=[]/\vF s i= -1)\/∃c,s[i]? =some c/\i<s.length/\s.drop i=c::s.drop (i+1)/\vF s i=(c.toNat:Nat):=by
 rcases Nat.lt_or_ge i s.length with h|h
 · refine .inr ⟨s[i],List.getElem?_eq_getElem h,h,List.drop_eq_getElem_cons h,?_⟩;unfold vF;rw[List.getElem?_eq_getElem h]
 · refine .inl ⟨h,List.drop_of_length_le h,?_⟩;unfold vF;rw[List.getElem?_eq_none h]
theorem fQ (s:By) (i:Nat):au prog 145 #[.string (bs s),.int .i64 (i:Nat)] h (bK λr h'=>r= .int .i64 (vF s i)/\h'=h):=by
 have hz:=aJ s;refine bJ ?_;refine af ?_;refine aN (λI=>?_) (λI=>?_)
 · have e:vF s i= -1:=by unfold vF;rw[List.getElem?_eq_none (by omega)]
   refine af ?_;refine aP ?_;exact⟨_,rfl,by rw[e];rfl,rfl⟩
 · obtain⟨c,hc⟩:∃c,s[i]? =some c:=⟨s[i]'(by omega),List.getElem?_eq_getElem (by omega)⟩
   have hcl:=c.toNat_lt;have e:vF s i=(c.toNat:Nat):=by unfold vF;rw[hc]
   refine af ?_;refine xp rfl (tq rfl rfl i rfl (eH hc)) (xp rfl (AA rfl (wrap_i64 ⟨by omega,by omega⟩)) ?_);refine af ?_;refine aP ?_;exact⟨_,rfl,by rw[e];rfl,rfl⟩
theorem OK (s:By) (i:Nat){j:Int}(I:j=i):au prog 145 #[.string (bs s),.int .i64 j] h (bK λr h'=>r= .int .i64 (vF s i)/\h'=h):=by subst I;exact fQ s i
def Bu (inb:Bool):By->Option (UInt8×By)
 | []=>none
 |b::r=>if b=92 then gL r else if b∈bH/\(inb=true\/(b≠45/\b≠94)) then none else some (b,r)
theorem Ad (l:By):Bu true l=nF l:=by
 cases l with
 |nil=>rfl
 |cons b r=>simp[Bu,nF]
def Qu (s:By) (p:Option (UInt8×By)) (r:Value):Prop :=
 match p with
 |none=>∃b:Int,r= .tuple #[.int .u8 b,.int .i64 (-1)]
 |some (c,t)=>∃k:Nat,k<=s.length/\t=s.drop k/\r= .tuple #[.int .u8 (c.toNat:Nat),.int .i64 (k:Nat)]
theorem vN (c:UInt8):IntKind.u8.wrap (((c.toNat:Nat):Int))=((c.toNat:Nat):Int):=wrap_u8 (by have:=c.toNat_lt;omega)
theorem JF:∀m n:Fin 16,IntKind.u8.wrap ((m.val:Int)*16+(n.val:Int))=((UInt8.ofNat (m.val*16+n.val)).toNat:Nat):=by decide +kernel
theorem P7 {m n:Nat}(hm:m<16) (I:n<16):IntKind.u8.wrap ((m:Int)*16+(n:Int))=((UInt8.ofNat (m*16+n)).toNat:Nat):=JF ⟨m,hm⟩ ⟨n,I⟩
end
end Go.Proofs.YtnjahnbpnpkmhaaGreatDoor

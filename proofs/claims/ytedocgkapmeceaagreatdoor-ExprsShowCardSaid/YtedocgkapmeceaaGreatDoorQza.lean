/- What the proof of the statement leans on (part 27). -/
import Derived.Lib.LaidU8
import Derived.Test.YtedocgkapmeceaaGreatDoorQz

namespace Go.Proofs.YtedocgkapmeceaaGreatDoor
open Go.Proofs.Tryz
open Go Go.Lw Go.ChangeShapes Go.WideShapes Go.ChangeAt Go.RowKit
set_option maxRecDepth 100000
section
variable {W:World}
theorem Gb:Go.Pinned.utf8First=Lib.firstData:=by kernel_rfl
theorem BK:(Rows.laid_limner_rules_table:DataW Unit)= .agg [.slice ((oA 0).map ia) [],.slice ((oA 1).map ia) [],.slice ((oA 2).map ia) []]:=by kernel_rfl
theorem Bn:(Rows.laid_unicode_utf8_acceptRanges:DataW Unit)=Lib.acceptData:=by kernel_rfl
theorem EP (h3:Lib.VarReads Tryz.prog W "unicode/utf8.first" Lib.firstData) (h4:Lib.VarReads Tryz.prog W "unicode/utf8.acceptRanges" Lib.acceptData):IL W.heap:=by
 refine⟨fun c hc=>?_,fun i hi=>?_⟩
 · obtain⟨g,t,cs,fuel,p,hg,hty,hvar,hd⟩:=h3;obtain rfl:=Option.some.inj ((show Tryz.prog.globalNamed "unicode/utf8.first" =some 4 by kernel_rfl).symm.trans hg);obtain rfl:=Option.some.inj ((show (Tryz.prog.globals[4]?).map (·.type)=some 244 by kernel_rfl).symm.trans hty);have hcs:=Lib.cells_of_tab underlying244 underlying5 (by kernel_rfl) (by kernel_rfl) hd;have:=World.var?_cell hg hvar c;rw[←dG,this,←Array.getElem?_toList,hcs];simp[Lib.firstTab,hc]
 · obtain⟨g,t,cs,fuel,p,hg,hty,hvar,hd⟩:=h4;obtain rfl:=Option.some.inj ((show Tryz.prog.globalNamed "unicode/utf8.acceptRanges" =some 5 by kernel_rfl).symm.trans hg);obtain rfl:=Option.some.inj ((show (Tryz.prog.globals[5]?).map (·.type)=some 248 by kernel_rfl).symm.trans hty);obtain⟨fuel',d,q,hdi,he⟩:=Lib.array_elem underlying248 hd i hi;simp only[List.getElem?_map,List.getElem?_range hi,Option.map_some,Option.some.injEq] at hdi;subst hdi;have c2:Tryz.prog.cellsOf 247=2:=by kernel_rfl
   have c1:Tryz.prog.cellsOf 5=1:=by kernel_rfl
   rw[c2] at he
   have hcs:=Lib.ints_of_struct underlying247 (fun j f hj=>by
    match j,hj with
    | 0,hj=>simp at hj;subst hj;exact⟨underlying5,rfl,c1⟩
    | 1,hj=>simp at hj;subst hj;exact⟨underlying5,rfl,c1⟩
    |j+2,hj=>simp at hj) (by rw[c2];rfl) he
   have e0:=congrArg (·[0]?) hcs;have e1:=congrArg (·[1]?) hcs;simp only[List.getElem?_take,List.getElem?_drop] at e0 e1;constructor
   · rw[←dG,World.var?_cell hg hvar (2*i),←Array.getElem?_toList];simpa [Nat.mul_comm] using e0
   · rw[←dG,World.var?_cell hg hvar (2*i+1),←Array.getElem?_toList];simpa [Nat.mul_comm] using e1
theorem Fi (h:Lib.VarReads Tryz.prog W "limner/rules.table" (.agg [.slice ((oA 0).map ia) [],.slice ((oA 1).map ia) [],.slice ((oA 2).map ia) []])):lR W.heap:=by
 intro m hm;obtain⟨g,t,cs,fuel,p,hg,hty,hvar,hd⟩:=h;obtain rfl:=Option.some.inj ((show Tryz.prog.globalNamed "limner/rules.table" =some 0 by kernel_rfl).symm.trans hg);obtain rfl:=Option.some.inj ((show (Tryz.prog.globals[0]?).map (·.type)=some 139 by kernel_rfl).symm.trans hty);obtain⟨fuel',d,q,hdi,he⟩:=Lib.array_elem underlying139 hd m hm
 have hdm:d= .slice ((oA m).map ia) []:=by
  match m,hm with
  | 0,_=>exact(Option.some.inj hdi).symm
  | 1,_=>exact(Option.some.inj hdi).symm
  | 2,_=>exact(Option.some.inj hdi).symm
 subst hdm;have c1:Tryz.prog.cellsOf 136=1:=by kernel_rfl
 rw[c1] at he;obtain⟨v,hv,hs⟩:=Ee underlying136 underlying138 (by kernel_rfl) rfl rfl rfl underlying9 underlying3 underlying3 (by kernel_rfl) (by kernel_rfl) (by kernel_rfl) he;refine⟨v,?_,hs⟩;have e0:=congrArg (·[0]?) hv;simp only[List.getElem?_take,List.getElem?_drop] at e0;rw[←dG,World.var?_cell hg hvar m,←Array.getElem?_toList];simpa using e0
theorem AO (hL:laidMetH Tryz.prog Rows.exprsParseRow.laid W) (hS:W.ShapedOpen Tryz.prog):CF W.heap:=by
 rw[MakeChecks.laidMetH_plain _ _ _ (by kernel_rfl)] at hL;obtain⟨g2,t2,cs2,f2,p2,hg2,uR,hv2,hd2⟩:=Lib.laidMet.reads hL (n:= "internal/strconv.uint64pow10") (.tail _ (.tail _ (.head _)));have h3:=Lib.laidMet.reads hL (n:= "unicode/utf8.acceptRanges") (.tail _ (.tail _ (.tail _ (.head _))));obtain⟨g4,t4,cs4,f4,p4,hg4,ht4,hv4,hd4⟩:=Lib.laidMet.reads hL (n:= "limner/regs.signs") (.tail _ (.tail _ (.tail _ (.tail _ (.head _)))));have h5:=Lib.laidMet.reads hL (n:= "limner/rules.table") (.tail _ (.tail _ (.tail _ (.tail _ (.tail _ (.head _))))));have h6:=Lib.laidMet.reads hL (n:= "unicode/utf8.first") (.tail _ (.tail _ (.tail _ (.tail _ (.tail _ (.tail _ (.tail _ (.tail _ (.tail _ (.head _))))))))));have h6':Lib.VarReads Tryz.prog W "unicode/utf8.first" Lib.firstData:=by rw[←Gb];exact h6
 rw[Bn] at h3;rw[BK] at h5
 exact⟨⟨_,Nat.le_refl _,E5 hg4 ht4 hv4 hd4⟩,G1 hg2 uR hv2 hd2,Fi h5,EP h6' h3,
  yJ (t:=3) (k:=.i64) (zero:= #[.int .i64 0]) hS (by decide +kernel) (by kernel_rfl) rfl (by kernel_rfl) (by kernel_rfl) underlying3⟩
noncomputable def FR (os:Os):World:=(World.doorLaid Tryz.prog 4000 os).layVars Tryz.prog (Rows.exprsParseRow.laid.filter fun x=>["unicode/utf8.first"].contains x.1)
theorem Hp (os:Os):(FR os).os=os:=by unfold FR;rw[World.layVars_os];rfl
noncomputable def lexB (os:Os):List Nat:=(List.range (World.doorLaid Tryz.prog 4000 os).heap.size).filter fun x=>x !=4
theorem Ho (os:Os) (args:Array Value):laidMetH Tryz.prog Rows.exprsParseRow.laid ((FR os).forCall (fun _ _=>0) ⟨#[],args,[]⟩).memory:=by
 rw[MakeChecks.laidMetH_plain _ _ _ (by kernel_rfl)]
 have h:laidMet Tryz.prog Rows.exprsParseRow.laid (FR os) :=
  laidMet_layVars (w0:=World.doorLaid Tryz.prog 4000 os) ["unicode/utf8.first"] (lexB os) rfl (by kernel_rfl) (by kernel_rfl)
   (LaidIn.of_run (lexB os) 8 (by kernel_rfl) (by kernel_rfl) (by kernel_rfl) (by kernel_rfl))
 exact h.of_heap (by simp[World.memory,World.forCall,Input.heap])
end
end Go.Proofs.YtedocgkapmeceaaGreatDoor
namespace Go.Lw
open Go.ChangeShapes Go.WideShapes Go.ChangeAt Go.RowKit
section
variable {P:Program}{H:Type}{enc:TypeId×Value→H}
theorem Ed {W:World}{fuel:Nat}{sp:Nat→Bool}{held:Bool}{t e:TypeId}{cs:List Value}{L:List (List UInt8)}{rest:List (DataW H)}{pl:List MemPlace}
 (ht:P.underlying t=some (.slice e)) (he:P.underlying e=some .string) (hC:P.cellsOf e=1)
 (h:DataW.trod enc P W 0 sp held fuel t cs=some (.slice (L.map fun s=>.lit (.string s)) rest,pl)):∃v,cs=[v]∧bU (.flat (fun s=>Value.string ⟨s.toArray⟩) fun _=>rfl) W.heap (fun _=>False) v L:=by
 rcases Deep.open_slice ht h with ⟨_,hx⟩|⟨a,len,cap,m,n,D,Pl,rfl,_,hle,hm,hmm,hx,hel⟩
 · simp at hx
 · simp only[Prod.mk.injEq,DataW.slice.injEq] at hx;have hlen:L.length=len:=by have:=congrArg List.length hx.1.1;simpa using this
   have hlm:len≤m:=by rw[hmm];split<;>omega
   have hD:∀(i:Nat) (r:List UInt8),L[i]? =some r→D i= .lit (.string r):=fun i r hr=>by
    have hil:i<len:=by rw[←hlen];exact(List.getElem?_eq_some_iff.1 hr).1
    have:=congrArg (fun z=>z[i]?) hx.1.1;simp only[List.getElem?_map,hr,Option.map_some,List.getElem?_range hil,Option.some.injEq] at this;exact this.symm
   refine⟨_,rfl,some a,len,cap,rfl,hlen,hle,hm,fun i r hr=>?_⟩;have hil:i<len:=by rw[←hlen];exact(List.getElem?_eq_some_iff.1 hr).1
   obtain⟨cs',hc1,hc2⟩:=hel i (by omega);rw[hC] at hc1;rw[hD i r hr] at hc2;obtain⟨_,hcl,hcell⟩:=World.cells?_some hc1;obtain rfl:=pK he hc2;obtain⟨cs0,hc0,_⟩:=hel 0 (by omega);rw[hC] at hc0;obtain⟨_,hcl0,hcell0⟩:=World.cells?_some hc0;have hs0:=hcell0 0 (by omega);rw[List.getElem?_eq_getElem (by omega)] at hs0;have hspot:a.spot=none:=by simpa [Addr.add] using World.cell?_spot hs0
   obtain⟨b,o,spot⟩:=a;have hspot:spot=none:=hspot;subst hspot;refine⟨b,o,[.string ⟨r.toArray⟩],rfl,fun k=>k,fun j u hj=>?_,rfl⟩;have hj0:j=0:=by cases j with|zero=>rfl|succ j=>simp at hj
   subst hj0;have:=hcell 0 (by omega);rw[Deep.add_add,Addr.add_mid,dG] at this
   show cellAt W.heap ⟨b,o+i*1+0,none⟩=some u
   rw[Nat.add_assoc,this];exact hj
end
end Go.Lw
namespace Go.Proofs.YtedocgkapmeceaaGreatDoor
open Go.Proofs.Tryz
open Go Go.Lw Go.ChangeShapes Go.WideShapes Go.ChangeAt Go.RowKit
set_option maxRecDepth 100000
section
variable {W:World}
theorem Gi:(Rows.laid_limner_exprs_escapes:DataW Unit)= .agg (ir.map fun p=>.agg [.lit (.int .u8 p.1.toNat),.lit (.int .u8 p.2.toNat)]):=by kernel_rfl
theorem ES:(Rows.laid_limner_exprs_unaries:DataW Unit)= .slice (wH.map fun s=>.lit (.string s)) []:=by kernel_rfl
theorem Gt:(Rows.laid_limner_exprs_binaries:DataW Unit)= .slice (nh.map fun s=>.lit (.string s)) []:=by kernel_rfl
theorem Ja (h:Lib.VarReads Tryz.prog W "limner/exprs.escapes" (.agg (ir.map fun p=>.agg [.lit (.int .u8 p.1.toNat),.lit (.int .u8 p.2.toNat)]))):ox W.heap:=by
 obtain⟨g,t,cs,fuel,p,hg,hty,hvar,hd⟩:=h;obtain rfl:=Option.some.inj ((show Tryz.prog.globalNamed "limner/exprs.escapes" =some 1 by kernel_rfl).symm.trans hg);obtain rfl:=Option.some.inj ((show (Tryz.prog.globals[1]?).map (·.type)=some 168 by kernel_rfl).symm.trans hty);have c2:Tryz.prog.cellsOf 167=2:=by kernel_rfl
 have c1:Tryz.prog.cellsOf 5=1:=by kernel_rfl
 have key:∀i j,i<6→j<2→cs.toList[i*2+j]? =Hx[i*2+j]? :=by
  intro i j hi hj;obtain⟨f1,d,q,hdi,he⟩:=Lib.array_elem underlying168 hd i hi;rw[List.getElem?_map,List.getElem?_eq_getElem (show i<ir.length from hi)] at hdi;have hdi:d= .agg [.lit (.int .u8 ir[i].1.toNat),.lit (.int .u8 ir[i].2.toNat)]:=(Option.some.inj hdi).symm;subst hdi;rw[c2] at he;obtain⟨f2,d2,q2,hdj,he2⟩:=Lib.array_elem underlying167 he j hj;rw[c1,Nat.mul_one] at he2
  have hv:((((cs.toList.drop (i*2)).take 2).drop j).take 1)=[if j=0 then .int .u8 ir[i].1.toNat else .int .u8 ir[i].2.toNat]:=by
   match j,hj with
   | 0,_=>have hdj:=Option.some.inj hdj;subst hdj;exact iK underlying5 (k':=.u8) he2
   | 1,_=>have hdj:=Option.some.inj hdj;subst hdj;exact iK underlying5 (k':=.u8) he2
  have e0:=congrArg (·[0]?) hv;simp only[List.getElem?_take,List.getElem?_drop] at e0
  have e1:cs.toList[i*2+j]? =some (if j=0 then .int .u8 ir[i].1.toNat else .int .u8 ir[i].2.toNat):=by
   match j,hj with
   | 0,_=>simpa using e0
   | 1,_=>simpa using e0
  rw[e1];have:=gQ (sz:=2) (enc:=kH) (fun _=>rfl) ir i ir[i] j (if j=0 then .int .u8 ir[i].1.toNat else .int .u8 ir[i].2.toNat) (List.getElem?_eq_getElem hi) (by match j,hj with| 0,_=>rfl| 1,_=>rfl);exact this.symm
 intro n v hv;have hn:n<12:=(List.getElem?_eq_some_iff.1 hv).1;have hk:=key (n / 2) (n%2) (by omega) (by omega);rw[show n / 2*2+n%2=n by omega,hv] at hk;rw[Nat.zero_add,←dG,World.var?_cell hg hvar n,←Array.getElem?_toList,hk]
theorem CO {n:String}{g:Nat}{L:List By}(hn:Tryz.prog.globalNamed n=some g) (ht:(Tryz.prog.globals[g]?).map (·.type)=some 93) (h:Lib.VarReads Tryz.prog W n (.slice (L.map fun s=>.lit (.string s)) [])):∃v,cellAt W.heap ⟨g,0,none⟩=some v∧bU mV W.heap (fun _=>False) v L:=by
 obtain⟨g',t,cs,fuel,p,hg,hty,hvar,hd⟩:=h;obtain rfl:=Option.some.inj (hn.symm.trans hg);obtain rfl:=Option.some.inj (ht.symm.trans hty);have c1:Tryz.prog.cellsOf 9=1:=by kernel_rfl
 obtain⟨v,hv,hs⟩:=Ed underlying93 underlying9 c1 hd;refine⟨v,?_,hs⟩;rw[←dG,World.var?_cell hg hvar 0,←Array.getElem?_toList,hv];rfl
theorem Hw (hL:laidMetH Tryz.prog Rows.exprsParseRow.laid W) (hS:W.ShapedOpen Tryz.prog):Dq W.heap:=by
 have hG:=AO hL hS;rw[MakeChecks.laidMetH_plain _ _ _ (by kernel_rfl)] at hL;have h6:=Lib.laidMet.reads hL (n:= "limner/exprs.escapes") (.tail _ (.tail _ (.tail _ (.tail _ (.tail _ (.tail _ (.head _)))))));have h7:=Lib.laidMet.reads hL (n:= "limner/exprs.unaries") (.tail _ (.tail _ (.tail _ (.tail _ (.tail _ (.tail _ (.tail _ (.head _))))))));have h8:=Lib.laidMet.reads hL (n:= "limner/exprs.binaries") (.tail _ (.tail _ (.tail _ (.tail _ (.tail _ (.tail _ (.tail _ (.tail _ (.head _)))))))));rw[Gi] at h6;rw[ES] at h7;rw[Gt] at h8;exact⟨hG,Ja h6,CO (by kernel_rfl) (by kernel_rfl) h7,CO (by kernel_rfl) (by kernel_rfl) h8⟩
abbrev Pt:=Int×By×Int
def A4 (p:Pt):List Value:=[.int .i8 p.1,.string (bs p.2.1),.int .u8 p.2.2]
theorem Fl (p:Pt):∀v∈A4 p,v.oneCell'=true:=fun v hv=>by simp[A4] at hv;rcases hv with rfl|rfl|rfl<;>rfl
abbrev Ld:gG Pt:=.record 3 (by decide) A4 (fun _=>rfl) Fl
theorem Gf:Tryz.prog.underlying 83=some (.struct (Tryz.prog.fieldsOf 83)):=by kernel_rfl
theorem ue {H:Type}{enc:TypeId×Value→H}{base:Nat}{v:Value}{d:DataW H}{p:List MemPlace}(hv:Value.okWide Tryz.prog W .any base 37 v) (h:DataW.Trod enc Tryz.prog W 0 (fun _=>true) true 37 v d p) :
 ∃l:List Pt,bU Ld W.heap (fun _=>False) v l∧∀x∈l,(-128≤x.1∧x.1≤127)∧0≤x.2.2∧x.2.2≤255:=by
 exact DS (Q:=fun x=>(-128≤x.1∧x.1≤127)∧0≤x.2.2∧x.2.2≤255) (pos:=(by decide:0<3)) (hl:=fun a=>(rfl:(A4 a).length=3)) (h1:=Fl) (fs:=Tryz.prog.fieldsOf 83) underlying37 Gf (Deep.hone_of (by kernel_rfl)) (by kernel_rfl) rfl (fun cs n hl hf=>by
  match cs,hl with
  | [c0,c1,c2],_ =>
   obtain⟨y0,h0⟩:=hf 0 _ c0 rfl rfl;obtain⟨y1,h1⟩:=hf 1 _ c1 rfl rfl;obtain⟨y2,h2⟩:=hf 2 _ c2 rfl rfl;obtain⟨n0,e0,_,w0⟩:=DataW.trod_int underlying81 h0;obtain⟨n1,e1,_,w1⟩:=DataW.trod_string underlying9 h1;obtain⟨n2,e2,_,w2⟩:=DataW.trod_int underlying5 h2;simp at e0 e1 e2;subst e0 e1 e2;refine⟨(n0,n1.data.toList,n2),by simp[A4,KT],?_⟩;simpa [Lit.wf,IntKind.min,IntKind.max,IntKind.signed,IntKind.bits] using And.intro w0 w2) hv h
end
end Go.Proofs.YtedocgkapmeceaaGreatDoor
namespace Go.Proofs.YtedocgkapmeceaaGreatDoor
open Go.Proofs.Tryz
open Go Go.Lw
set_option maxRecDepth 20000
theorem Cc {h:aD}{p:Value}(hg:CF h) (k:qM h p) (s:By) (hs:s.length≤1000000) :
 ai Tryz.prog 22 #[p,.string (bs s)] h (cL fun r h'=>(∃v,r= .tuple #[v,.agg (cJ (lN s).2).toArray]∧bU Jc h' (fun _=>False) v (lN s).1)∧aF h h'):=by
 have hbs:=bp s;generalize hres:lN s=res;refine ai.of func22 rfl rfl ?_;refine br func22 1 rfl ?_;refine xo rfl (aC.aR H.Bv) ?_;rintro _ h1 ⟨rfl,k5,e1,z1⟩;have k5:bq h1 h.size 25 (cJ (0,0)):=k5;have y1:=e1.size;refine xd [0,1,4,5] rfl ?_;refine HX rfl ?_;refine aW func22 1 [0,1,4,5,6] rfl ?_;refine av rfl ?_;refine HY rfl ?_;refine av rfl ?_;refine G.block rfl rfl ?_;refine bE (σ:=Nat×vV×Value×List Tk) (fun q=>[(0,p),(1,.string (bs s)),(4,q.2.2.1),(5,.pointer (some ⟨h.size,0,none⟩)),(6,.int .i64 (q.1:Nat))]) (fun q h'=>(q.1≤s.length∧q.2.2.2.length≤q.1∧GX q.2.1.2)∧aF h h'∧h1.size≤h'.size∧bq h' h.size 25 (cJ q.2.1)∧kU 3 fB h' h1.size 59 q.2.2.1 q.2.2.2∧(q.2.2.2++(jw s.length (s.drop q.1) q.1 q.2.1).1,(jw s.length (s.drop q.1) q.1 q.2.1).2)=res) (fun q=>s.length+1-q.1) ((0,(0,0),.slice none 0 0,[])) rfl ⟨rfl,rfl,rfl,rfl,rfl,trivial⟩ ⟨⟨Nat.zero_le _,by simp,by show GX 0;unfold GX;omega⟩,e1,Nat.le_refl _,k5,kU.nil _ _ _ _ _,hres⟩ ?_;rintro⟨i,st,vt,toks⟩ g ⟨⟨hi,htl,hst⟩,eg,hz,kS,ho,hcon⟩ ih
 try dsimp only
 dsimp only at hi htl hst kS ho hcon;have hho:aS g h1.size 59 3 vt toks.length (toks.flatMap fB):=ho;obtain⟨ta,tc,rfl,_⟩:=hho.open;have tge:∀b,(Value.slice ta toks.length tc).ownBlock=some b→h1.size≤b∧b<g.size:=fun b hb=>hho.lt hb
 rcases Nat.lt_or_ge i s.length with hlt|hge
 · have hne:s.drop i≠[]:=fun e=>by have:=congrArg List.length e;rw[List.length_drop] at this;simp at this;omega
   have hkl:=qe hne st.1;rw[List.length_drop] at hkl;rw[EB hne (by rw[List.length_drop];omega)] at hcon;have hone:=DY (hg.ax eg) (k.ax eg) s i hlt hs st hst;unfold I0 at hone;have hnI:=G9 hst (s.drop i);rw[List.drop_drop] at hcon;generalize iL (s.drop i) st.1=L at *;generalize AV (s.drop i) st.1=kd at *;generalize pY (s.drop i) st=nx at *;generalize B8 st.1 (s.drop i)=sp at *;refine G.block rfl rfl ?_;refine br func22 3 rfl ?_;refine xp rfl (aj.aG H.iC H.eH rfl kS.row (by first|rfl|(simp;done)|(simp;omega))) ?_;refine xo rfl (aq (vs:=[_,_,_,_]) func42 rfl H.J2 rfl (ai.bw (hone))) ?_;rintro _ g1 ⟨rfl,f1⟩;refine aT 4 rfl ?_;refine xo rfl (aC.aR H.EL) ?_;rintro _ g2 ⟨rfl,c7,f2,y2⟩;refine xo rfl (aC.aR H.Bv) ?_;rintro _ g3 ⟨rfl,c8,f3,y3⟩;refine RW.bZ rfl rfl rfl (aC.aB H.lf rfl rfl (c7.ax f3) (by first|rfl|(simp;done)|(simp;omega)) (by first|decide|exact of_decide_eq_true rfl|(simp;done)|(simp;omega)) (oz _)) ?_;rintro _ g4 ⟨rfl,d7,x4,y4⟩;have d7:bq g4 g1.size 59 (fB (kd,(i:Int),((i+L:Nat):Int))):=d7;have yz1:=f1.size;have yz2:=f2.size;have yz4:=x4.size;refine RW.bZ rfl rfl rfl (aC.aB H.eH rfl rfl ((c8.ext x4 (show ¬g2.size=g1.size by omega))) (by first|rfl|(simp;done)|(simp;omega)) (by first|decide|exact of_decide_eq_true rfl|(simp;done)|(simp;omega)) (gY nx)) ?_;rintro _ g5 ⟨rfl,d8,x5,y5⟩;have d8:bq g5 g2.size 25 (cJ nx):=d8;have d7:=d7.ext x5 (show ¬g1.size=g2.size by omega);have yz5:=x5.size;have eg5:aF g g5:=aF.only (aF.only ((f1.trans f2).trans f3) x4 (by omega)) x5 (by omega);have hho5:=hho.l7 eg5;refine aQ 1 [0,1,4,5,6,7,8] rfl ?_;refine av rfl ?_;refine G.block rfl rfl ?_;refine xr func22 rfl ?_;refine xp rfl (af (off:=2) underlying59 rfl rfl H.bY rfl) ?_;refine xp rfl (ah H.cG rfl (d7.cell (i:=2) rfl)) ?_;refine aQ 3 [0,1,4,5,6,7,8,19] rfl ?_;refine aI rfl rfl (fun hc=>absurd hc (by simp;omega)) (fun _=>?_);refine aE rfl ?_;refine G.aN ?_;refine br func22 1 rfl ?_;refine xp rfl (aj.aG H.zf H.lf rfl d7.row (by first|rfl|(simp;done)|(simp;omega))) ?_;refine xo rfl (aC.cx (cs:=[_,_,_]) underlying23 H.KH rfl rfl (by decide)) ?_;rintro _ _ ⟨rfl,rfl⟩;refine xo rfl (aC.bO underlying23 H.KH rfl rfl (hho5) rfl rfl (oz _) (by omega) (by decide) (by omega)) ?_;rintro vt2 g6 ⟨ho6,hx6,hx6',hv6⟩;have yz6:=hx6.size;have d7:=d7.ext hx6 (fun k=>by have:=tge _ k.symm;omega);have d8:=d8.ext hx6 (fun k=>by have:=tge _ k.symm;omega);have kS6:=(kS.ax eg5).ext hx6 (fun k=>by have:=tge _ k.symm;omega);have e06:aF h g6:=Ext.own (eg.trans eg5) hho5 (by omega) hx6;have ho6:kU 3 fB g6 h1.size 59 vt2 (toks++[(kd,(i:Int),((i+L:Nat):Int))]):=kU.of ho6 rfl rfl;have hMa:¬(g1.size=h.size∨Array.size g6≤g1.size):=by omega
   have hMb:¬(g2.size=h.size∨Array.size g6≤g2.size):=by omega
   refine aQ 1 [0,1,4,5,6,7,8,19] rfl ?_;refine bV (fun b=>b=Array.size h∨Array.size g6≤b) (fun i=>Nat.blt i 6) (sz:=5) (listed:= #[false,false,false,false,false]) func22 H.mixed rfl rfl rfl ?_;refine bI 0 1 (by kernel_rfl) rfl (fun h' e=>af (off:=2) underlying59 rfl rfl H.bY rfl) ?_;refine bI 1 3 (by kernel_rfl) rfl (fun h' e=>ah H.cG rfl (e.cell hMa (d7.cell (i:=2) rfl))) ?_;refine bI 2 7 (by kernel_rfl) rfl (fun h' e=>aj.aG H.iC H.eH rfl (e.rowAt hMb d8.row) (by first|rfl|(simp;done)|(simp;omega))) ?_;refine b9 3 15 (by kernel_rfl) rfl ?_;refine fS 4 31 (by kernel_rfl) rfl (aC.aB H.eH rfl rfl kS6 (by first|rfl|(simp;done)|(simp;omega)) (by first|decide|exact of_decide_eq_true rfl|(simp;done)|(simp;omega)) (gY nx)) ?_;rintro _ g7 ⟨rfl,kS7,x7,y7⟩;refine⟨fun _=>x7.mono (fun _ _ k=>.inl k),?_⟩;have kS7:bq g7 h.size 25 (cJ nx):=kS7;have ho7:kU 3 fB g7 h1.size 59 vt2 (toks++[(kd,(i:Int),((i+L:Nat):Int))]):=aS.ext x7 ho6 (fun b hb (k:b=h.size)=>by have:=(aS.lt ho6 hb).1;omega);refine bg (by kernel_rfl) ?_;refine xu [0,1,4,5,6,7,8,19] rfl ?_;refine G.aN ?_;exact ih (i+L,nx,vt2,toks++[(kd,(i:Int),((i+L:Nat):Int))]) _ _ ⟨rfl,rfl,rfl,rfl,rfl,trivial⟩ ⟨⟨by show i+L≤s.length;omega,by simp;omega,hnI⟩,aF.only e06 x7 (by omega),by have:=x7.size;show h1.size≤g7.size;omega,kS7,ho7,by simpa using hcon⟩ (by show s.length+1-(i+L)<s.length+1-i;omega)
 · obtain rfl:i=s.length:=by omega
   have hone:=G7 (h:=g) (p:=p) (b:=false) (fun g' eg'=>AN (k.ax (eg.trans eg'))) s (s.length:Nat) hs st (.inr (.inr (by omega)));rw[List.drop_length,GG] at hcon;refine G.block rfl rfl ?_;refine br func22 3 rfl ?_;refine xp rfl (aj.aG H.iC H.eH rfl kS.row (by first|rfl|(simp;done)|(simp;omega))) ?_;refine xo rfl (aq (vs:=[_,_,_,_]) func42 rfl H.J2 rfl (ai.bw (hone))) ?_;rintro _ g1 ⟨rfl,f1⟩;refine aT 4 rfl ?_;refine xo rfl (aC.aR H.EL) ?_;rintro _ g2 ⟨rfl,c7,f2,y2⟩;refine xo rfl (aC.aR H.Bv) ?_;rintro _ g3 ⟨rfl,c8,f3,y3⟩;refine RW.bZ rfl rfl rfl (aC.aB H.lf rfl rfl (c7.ax f3) (by first|rfl|(simp;done)|(simp;omega)) (by first|decide|exact of_decide_eq_true rfl|(simp;done)|(simp;omega)) (oz _)) ?_;rintro _ g4 ⟨rfl,d7,x4,y4⟩;have d7:bq g4 g1.size 59 (fB (0,0,0)):=d7;have yz1:=f1.size;have yz2:=f2.size;have yz4:=x4.size;refine RW.bZ rfl rfl rfl (aC.aB H.eH rfl rfl ((c8.ext x4 (show ¬g2.size=g1.size by omega))) (by first|rfl|(simp;done)|(simp;omega)) (by first|decide|exact of_decide_eq_true rfl|(simp;done)|(simp;omega)) (gY st)) ?_;rintro _ g5 ⟨rfl,d8,x5,y5⟩;have d7:=d7.ext x5 (show ¬g1.size=g2.size by omega);have yz5:=x5.size;have eg5:aF g g5:=aF.only (aF.only ((f1.trans f2).trans f3) x4 (by omega)) x5 (by omega);have hho5:=ho.ax eg5;have kS5:=kS.ax eg5;refine aQ 1 [0,1,4,5,6,7,8] rfl ?_;refine av rfl ?_;refine G.block rfl rfl ?_;refine xr func22 rfl ?_;refine xp rfl (af (off:=2) underlying59 rfl rfl H.bY rfl) ?_;refine xp rfl (ah H.cG rfl (d7.cell (i:=2) rfl)) ?_;refine aQ 3 [0,1,4,5,6,7,8,19] rfl ?_;refine aI rfl rfl (fun _=>?_) (fun hc=>absurd hc (by simp));have hMa:¬(h.size=h.size∧Array.size g5≤h.size):=by omega
   refine bz rfl rfl ?_;refine av rfl ?_;refine bV (fun b=>Array.size g5≤b) (fun i=>Nat.blt i 5) (sz:=4) (listed:= #[false,false,false,false]) func22 H.mixed rfl rfl rfl ?_;refine b9 0 1 (by kernel_rfl) rfl ?_;refine bI 1 3 (by kernel_rfl) rfl (fun h' e=>aj.aG H.iC H.eH rfl (e.rowAt (by omega) kS5.row) (by first|rfl|(simp;done)|(simp;omega))) ?_;refine b9 2 7 (by kernel_rfl) rfl ?_;refine fS 3 15 (by kernel_rfl) rfl (aC.aB H.eH rfl rfl kS5 (by first|rfl|(simp;done)|(simp;omega)) (by first|decide|exact of_decide_eq_true rfl|(simp;done)|(simp;omega)) (gY st)) ?_;rintro _ g7 ⟨rfl,kS7,x7,y7⟩;refine⟨fun _=>(kD kS5 kS7 x7).mono (fun _ _ k=>k.elim),?_⟩;have kS7:bq g7 h.size 25 (cJ st):=kS7;have e7:=kD kS5 kS7 x7;refine bg (by kernel_rfl) ?_;refine xu [0,1,4,5,6,7,8,19] rfl ?_;refine G.cN func22 rfl (.cons (bu.tmp rfl) (.cons (bu.cB H.iC H.eH rfl (kS7.row) (by first|rfl|(simp;done)|(simp;omega))) (.nil))) ?_;rw[←hcon];exact⟨_,rfl,⟨_,rfl,by show bU Jc g7 _ _ (toks++[]);rw[List.append_nil];exact kU.read (hho5.ax e7) (fun b hb k=>k)⟩,(eg.trans eg5).trans e7⟩
end Go.Proofs.YtedocgkapmeceaaGreatDoor
namespace Go.Proofs.YtedocgkapmeceaaGreatDoor
open Go.Proofs.Tryz
open Go Go.Lw
set_option maxRecDepth 100000
section
variable {h:aD}
theorem iV {p:Value}(hg:Dq h) (kx:qM h p) (s:By) (hs:s.length≤500000){k:List Tr}{a e:Int}(hP:ic s (lN s).1 (lN s).2.1 k a e) :
 ai Tryz.prog 21 #[p,.string (bs s)] h (cL fun r h'=>aF h h'∧∃lv,r=packed [lv,.int .i64 a,.int .i64 e]∧bU eN h' (fun b=>b<h.size) lv k):=by
 have hlen:(lN s).1.length≤s.length:=Bl _ _ _ _;have hb:(lN s).1.length*(s.length+2)≤1000000000000:=Nat.le_trans (Nat.mul_le_mul hlen (Nat.le_refl _)) (Nat.le_trans (Nat.mul_le_mul hs (show s.length+2≤500002 by omega)) (by decide));refine ai.of func21 rfl rfl ?_;refine aW func21 3 [0,1,4,5,6] rfl ?_;refine br func21 2 rfl ?_;refine xo rfl (aq (vs:=[_,_]) func22 rfl H.L3 rfl (ai.bw (Cc hg.lx kx s (by omega)))) ?_;rintro _ h1 ⟨⟨v,rfl,hv⟩,e1⟩;refine aT 3 rfl ?_;refine xo rfl (aC.aR H.Bv) ?_;rintro _ h2 ⟨rfl,k2,e2,z2⟩;refine aT 1 rfl ?_;refine RW.bZ rfl rfl rfl (aC.aB H.eH rfl rfl k2 (by first|rfl|(simp;done)|(simp;omega)) (by first|decide|exact of_decide_eq_true rfl|(simp;done)|(simp;omega)) (gY _)) ?_;rintro _ h3 ⟨rfl,k3,x3,z3⟩;have k3:bq h3 h1.size 25 (cJ (lN s).2):=k3;have e13:aF h1 h3:=aF.only e2 x3 (Nat.le_refl _);have e03:=e1.trans e13;have hcall:=xR ((hg.ax e03).esc) (hv.ax e13) s (lN s).2 hb (by omega) hP;refine xd [0,1,4,5,6,7,8] rfl ?_;refine br func21 2 rfl ?_;refine xp rfl (aj.aG H.iC H.eH rfl k3.row (by first|rfl|(simp;done)|(simp;omega))) ?_;refine xo rfl (aq (vs:=[_,_,_]) func9 rfl H.Mx rfl (ai.bw (hcall))) ?_;rintro _ h4 ⟨e4,lv,rfl,hlv⟩;refine aQ 6 [0,1,4,5,6,7,8] rfl ?_;refine G.ret func21 rfl rfl ?_;exact⟨_,rfl,e03.trans e4,_,rfl,hlv.mv (Mv.dc (Ext.refl (fun _=>False) _) fun b _ ho=>⟨fun k=>k,fun q=>ho (by have:=e03.size;omega)⟩)⟩
abbrev Lb:By:=[49,32,43,32,50,32,42,32,120]
abbrev La:By:=[102,40,97,44,32,98,41]
abbrev K9:By:=[108,101,116,32,121,32,61,32,34,97,92,110,34]
abbrev K8:By:=[49,32,43]
abbrev K7:By:=[97,32,98]
abbrev Lj:Tr:=.mk 5 [43] [.mk 0 [49] [],.mk 5 [42] [.mk 0 [50] [],.mk 3 [120] []]]
abbrev Li:Tr:=.mk 9 [] [.mk 9 [] [.mk 3 [102] [],.mk 3 [97] []],.mk 3 [98] []]
abbrev Mn:Tr:=.mk 7 [121] [.mk 1 [97,10] []]
theorem Mw:ic Lb (lN Lb).1 (lN Lb).2.1 [Lj] 0 0:=.ok (u:=[(5,[49],0),(6,[43],2),(5,[50],4),(6,[42],6),(3,[120],8)]) (n:=40) (r:=[]) (by decide +kernel) (by kernel_rfl)
theorem Mu:ic La (lN La).1 (lN La).2.1 [Li] 0 0:=.ok (u:=[(3,[102],0),(7,[40],1),(3,[97],2),(6,[44],3),(3,[98],5),(8,[41],6)]) (n:=40) (r:=[]) (by decide +kernel) (by kernel_rfl)
theorem Mt:ic K9 (lN K9).1 (lN K9).2.1 [Mn] 0 0:=.ok (u:=[(4,[108,101,116],0),(3,[121],4),(6,[61],6),(9,[97,10],8)]) (n:=40) (r:=[]) (by decide +kernel) (by kernel_rfl)
theorem Ms:ic K8 (lN K8).1 (lN K8).2.1 [] 3 10:=.bad (u:=[(5,[49],0),(6,[43],2)]) (n:=40) (k:=[.mk 5 [43] [.mk 0 [49] [],.mk 0 [] []]]) (by decide +kernel) (by kernel_rfl)
theorem Mr:ic K7 (lN K7).1 (lN K7).2.1 [] 2 10:=.bad (u:=[(3,[97],0),(3,[98],2)]) (n:=40) (k:=[.mk 3 [97] []]) (by decide +kernel) (by kernel_rfl)
theorem Mq:mB Lj=[40,49,32,43,32,40,50,32,42,32,120,41,41]:=by decide +kernel
theorem Mp:mB Li=[102,40,97,41,40,98,41]:=by decide +kernel
theorem pX {O:Nat→Prop}{v:Value}{x:Tr}(k:bU eN h O v [x]):∃b o cs c,v= .slice (some ⟨b,o,none⟩) 1 c∧Lw.rowAt h b o cs∧eN.R h O cs x:=by
 obtain⟨a,n,c,rfl,hw⟩:=k.open;have hn:1=n:=hw.len;subst hn;obtain⟨b,o,x',cs,ha,_,hx,hr,hR⟩:=Sl.nd hw (show 0<1 by decide);cases hx;rw[Nat.zero_mul,Nat.add_zero] at hr;exact⟨b,o,cs,c,by rw[ha],hr,hR⟩
theorem pV (hg:Dq h):ai Tryz.prog 7 #[] h (cL fun r h'=>r= .bool true∧aF h h'):=by
 obtain⟨lim,hl1,hl2⟩:=hg.lx.sg;refine ai.of func7 rfl rfl ?_;refine aW func7 1 [0] rfl ?_;refine xr func7 rfl ?_;refine xo rfl (aq (vs:=[]) func20 rfl H.L4 rfl (ai.bw (D3 hl2 hl1 hg.lx.tens hg.lx.rules))) ?_;rintro p h1 ⟨kx,e1⟩;have g1:=hg.ax e1;refine aQ 1 [0,1] rfl ?_;refine br func7 1 rfl ?_;refine xo rfl (aq (vs:=[_,_]) func21 rfl H.FE rfl (ai.bw (iV g1 kx Lb (by decide) Mw))) ?_;rintro _ h2 ⟨e2,v2,rfl,s2⟩;refine aQ 7 [0,1,2,4] rfl ?_;refine br func7 1 rfl ?_;refine xo rfl (aq (vs:=[_,_]) func21 rfl H.FE rfl (ai.bw (iV (g1.ax e2) (kx.ax e2) La (by decide) Mu))) ?_;rintro _ h3 ⟨e3,v3,rfl,s3⟩;have e13:=e2.trans e3;refine aQ 7 [0,1,2,4,5,7] rfl ?_;refine br func7 1 rfl ?_;refine xo rfl (aq (vs:=[_,_]) func21 rfl H.FE rfl (ai.bw (iV (g1.ax e13) (kx.ax e13) K9 (by decide) Mt))) ?_;rintro _ h4 ⟨e4,v4,rfl,s4⟩;have e14:=e13.trans e4;refine aQ 7 [0,1,2,4,5,7,8,10] rfl ?_;refine br func7 1 rfl ?_;refine xo rfl (aq (vs:=[_,_]) func21 rfl H.FE rfl (ai.bw (iV (g1.ax e14) (kx.ax e14) K8 (by decide) Ms))) ?_;rintro _ h5 ⟨e5,v5,rfl,s5⟩;have e15:=e14.trans e5;refine aQ 7 [0,1,2,4,5,7,8,10,12,13] rfl ?_;refine br func7 1 rfl ?_;refine xo rfl (aq (vs:=[_,_]) func21 rfl H.FE rfl (ai.bw (iV (g1.ax e15) (kx.ax e15) K7 (by decide) Mr))) ?_;rintro _ h6 ⟨e6,v6,rfl,s6⟩;have e46:=e5.trans e6;have e36:=e4.trans e46;have e26:=e3.trans e36;have g6:=g1.ax (e2.trans e26);obtain⟨b2,o2,cs2,c2,rfl,r2,R2⟩:=pX (s2.ax e26);obtain⟨b3,o3,cs3,c3,rfl,r3,R3⟩:=pX (s3.ax e36);obtain⟨b4,o4,cs4,c4,rfl,r4,R4⟩:=pX (s4.ax e46);obtain⟨w4,rfl,t4⟩:=jG R4;obtain⟨b7,o7,cs7,c7,rfl,r7,R7⟩:=pX t4;obtain⟨w7,rfl,_⟩:=jG R7;refine aQ 7 [0,1,2,4,5,7,8,10,12,13,15,16] rfl ?_;refine av rfl ?_;refine av rfl ?_;refine G.bD [(80,.bool false)] [(0,_),(1,_),(2,_),(4,_),(5,_),(7,_),(8,_),(10,_),(12,_),(13,_),(15,_),(16,_)] ⟨rfl,rfl,rfl,rfl,rfl,rfl,rfl,rfl,rfl,rfl,rfl,rfl,trivial⟩ func7 rfl ?_ ?_
 · refine aT 3 rfl ?_;refine RW.cW (d:=50) (b':=false) rfl (decide_eq_false ((by decide))) ?_;refine aT 4 rfl ?_;refine RW.cW (d:=54) (b':=false) rfl (decide_eq_false ((by decide))) ?_;refine aT 4 rfl ?_;refine RW.cW (d:=58) (b':=false) rfl (decide_eq_false ((by decide))) ?_;refine bP 1 rfl rfl (aj.aJ underlying28 rfl) ?_;refine aT 3 rfl ?_;refine RW.cW (d:=63) (b':=false) rfl (decide_eq_false ((by decide))) ?_;refine bP 1 rfl rfl (aj.aJ underlying28 rfl) ?_;refine aT 3 rfl ?_;refine RW.cW (d:=68) (b':=false) rfl (decide_eq_false ((by decide))) ?_;refine bP 1 rfl rfl (aj.aJ underlying28 rfl) ?_;refine aT 3 rfl ?_;refine RW.cW (d:=73) (b':=false) rfl (decide_eq_false ((by decide))) ?_;refine bP 1 rfl rfl (aj.ay underlying28 H.aV rfl rfl 0 rfl rfl (by decide)) ?_;refine xp rfl (af (off:=2) underlying39 rfl rfl H.fE rfl) ?_;refine xp rfl (ah H.kN rfl (by rw[Nat.zero_mul,Nat.add_zero];exact r4 2 _ rfl)) ?_;refine xp rfl (aj.aJ underlying28 rfl) ?_;refine aT 2 rfl ?_;refine az rfl ?_;exact⟨rfl,aA rfl (rfl),rfl,rfl,rfl,rfl,rfl,rfl,rfl,rfl,rfl,rfl,rfl,rfl,trivial⟩
 · refine aI rfl rfl (fun hc=>absurd hc (by simp)) (fun _=>?_);obtain⟨w2,rfl,_⟩:=jG R2;obtain⟨w3,rfl,_⟩:=jG R3;have hs1:=pe (x:=Lj) (by decide) g6 (dS.of R2);refine aE rfl ?_;refine av rfl ?_;refine G.mH (fun(u:Unit) (h':aD)=>aF h6 h') (fun(u:Unit)=>[(0,.bool true)]) [(1,_),(2,_),(4,_),(5,_),(7,_),(8,_),(10,_),(12,_),(13,_),(15,_),(16,_),(80,_)] ⟨rfl,rfl,rfl,rfl,rfl,rfl,rfl,rfl,rfl,rfl,rfl,rfl,trivial⟩ func7 rfl ?_ ?_
   · refine bP 1 rfl rfl (aj.ay underlying28 H.aV rfl rfl 0 rfl rfl (by decide)) ?_;refine xp rfl (aj.aG H.bN H.aV rfl (by rw[Nat.zero_mul,Nat.add_zero];exact r2) (by first|rfl|(simp;done)|(simp;omega))) ?_;refine xo rfl (aq (vs:=[_]) func16 rfl H.I5 rfl (ai.bw (hs1))) ?_;rintro _ h7 ⟨rfl,e7⟩;refine xp rfl (aj.cI rfl rfl) ?_;refine aT 1 rfl ?_;refine RW.cW (d:=86) (b':=true) rfl (decide_eq_true ((by rw[Mq];rfl))) ?_;have hs2:=pe (x:=Li) (by decide) (g6.ax e7) ((dS.of R3).mv (Mv.ax e7));refine bP 1 rfl rfl (aj.ay underlying28 H.aV rfl rfl 0 rfl rfl (by decide)) ?_;refine xp rfl (aj.aG H.bN H.aV rfl (by rw[Nat.zero_mul,Nat.add_zero];exact e7.rowAt (fun k=>k) r3) (by first|rfl|(simp;done)|(simp;omega))) ?_;refine xo rfl (aq (vs:=[_]) func16 rfl H.I5 rfl (ai.bw (hs2))) ?_;rintro _ h8 ⟨rfl,e8⟩;refine xp rfl (aj.cI rfl rfl) ?_;refine aT 2 rfl ?_;refine RW.cW (d:=93) (b':=true) rfl (decide_eq_true ((by rw[Mp];rfl))) ?_;have e78:=e7.trans e8;have r4':=e78.rowAt (fun k=>k) r4;refine bP 1 rfl rfl (aj.ay underlying28 H.aV rfl rfl 0 rfl rfl (by decide)) ?_;refine xp rfl (af (off:=0) underlying39 rfl rfl H.bY rfl) ?_;refine xp rfl (ah H.cG rfl (by rw[Nat.zero_mul,Nat.add_zero];exact r4' 0 _ rfl)) ?_;refine aT 3 rfl ?_;refine RW.cW (d:=100) (b':=true) rfl (decide_eq_true (rfl)) ?_;refine bP 1 rfl rfl (aj.ay underlying28 H.aV rfl rfl 0 rfl rfl (by decide)) ?_;refine xp rfl (af (off:=1) underlying39 rfl rfl H.dA rfl) ?_;refine xp rfl (ah H.dO rfl (by rw[Nat.zero_mul,Nat.add_zero];exact r4' 1 _ rfl)) ?_;refine xp rfl (aj.cI rfl rfl) ?_;refine aT 2 rfl ?_;refine RW.cW (d:=107) (b':=true) rfl (decide_eq_true (rfl)) ?_;refine bP 1 rfl rfl (aj.ay underlying28 H.aV rfl rfl 0 rfl rfl (by decide)) ?_;refine xp rfl (af (off:=2) underlying39 rfl rfl H.fE rfl) ?_;refine xp rfl (ah H.kN rfl (by rw[Nat.zero_mul,Nat.add_zero];exact r4' 2 _ rfl)) ?_;refine xp rfl (aj.ay underlying28 H.aV rfl rfl 0 rfl rfl (by decide)) ?_;refine xp rfl (af (off:=1) underlying39 rfl rfl H.dA rfl) ?_;refine xp rfl (ah H.dO rfl (by rw[Nat.zero_mul,Nat.add_zero];exact(e78.rowAt (fun k=>k) r7) 1 _ rfl)) ?_;refine xp rfl (aj.cI rfl rfl) ?_;refine aT 2 rfl ?_;refine RW.cW (d:=117) (b':=true) rfl (decide_eq_true (rfl)) ?_;refine aT 4 rfl ?_;refine RW.cW (d:=121) (b':=true) rfl (decide_eq_true (rfl)) ?_;refine aT 4 rfl ?_;refine RW.cW (d:=125) (b':=true) rfl (decide_eq_true (rfl)) ?_;refine aT 4 rfl ?_;refine RW.cW (d:=129) (b':=true) rfl (decide_eq_true (rfl)) ?_;refine aT 4 rfl ?_;refine az rfl ?_;exact⟨(),e78,aA rfl (rfl),rfl,rfl,rfl,rfl,rfl,rfl,rfl,rfl,rfl,rfl,rfl,rfl,trivial⟩
   · rintro u h7 e7;refine G.ret func7 rfl rfl ?_;exact⟨_,rfl,rfl,e1.trans ((e2.trans e26).trans e7)⟩
end
end Go.Proofs.YtedocgkapmeceaaGreatDoor
namespace Go.Proofs.YtedocgkapmeceaaGreatDoor
open Go
def gS:List (Int×By×Int)→List Tr→List Tr
 | [],op=>op
 |p::l,op=>gS l (op.take (op.length-p.2.2.toNat%6)++[.mk p.1 p.2.1 (op.drop (op.length-p.2.2.toNat%6))])
def oE (l:List (Int×By×Int)):Bool:=l.all fun p=>decide (p.2.1.length≤200)
def jU (l:List (Int×By×Int)):Tr×Bool :=
 if 60<l.length∨l.length=0 then (wI,decide (l.length=0)) else if oE l=true then ((gS l []).getLastD wI,true) else (wI,false)
theorem oy:∀a b:List Tr,pH (a++b)=pH a+pH b
 | [],b=>by simp[pH]
 |x::a,b=>by rw[List.cons_append,pH,pH,oy a b];omega
theorem Du (l:List Tr) (k:Nat):pH (l.take k)+pH (l.drop k)=pH l:=by rw[←oy,List.take_append_drop]
theorem xH:∀(l:List (Int×By×Int)) (op:List Tr),oE l=true→pH (gS l op)≤pH op+420*l.length
 | [],op,_=>by simp[gS]
 |p::l,op,h=>by
  unfold oE at h;rw[List.all_cons,Bool.and_eq_true,decide_eq_true_iff] at h;rw[gS];have h1:=xH l (op.take (op.length-p.2.2.toNat%6)++[.mk p.1 p.2.1 (op.drop (op.length-p.2.2.toNat%6))]) h.2;have h2:=Du op (op.length-p.2.2.toNat%6);rw[oy,pH,pH,Tr.wt] at h1;rw[List.length_cons];omega
theorem yP {α:Type}{l:List α}{z:α}(h:l≠[]):l.getLastD z∈l:=by
 cases l with
 |nil=>exact absurd rfl h
 |cons a l=>rw[List.getLastD_cons];exact List.getLastD_mem_cons
theorem xG (l:List (Int×By×Int)):(jU l).1.wt≤25220:=by
 unfold jU;split
 · rw[wI,Tr.wt];simp[pH]
 · split
   · rename_i h1 h2;have h3:=xH l [] h2
     rcases hb:gS l [] with _|⟨a,m⟩
     · simp[wI,Tr.wt,pH]
     · have h4:=CK (yP (z:=wI) (l:=a::m) (by simp));rw[hb] at h3;simp only[pH] at h3 h4;simp only;omega
   · rw[wI,Tr.wt];simp[pH]
end Go.Proofs.YtedocgkapmeceaaGreatDoor
namespace Go.Lw
theorem Sl.JK {α:Type}{e:gG α}{h:aD}{O:Nat→Prop}{oa:Option Addr}{n c:Nat}{xs:List α}(k:Sl e h O oa n c xs) :
 ∃css:List (List Value),css.length=xs.length∧(∀(i:Nat) (cs:List Value) (x:α),css[i]? =some cs→xs[i]? =some x→e.R h O cs x)∧css.flatten.length=n*e.sz∧(∀u∈css.flatten,u.oneCell'=true)∧(n=0∨∃b o,oa=some ⟨b,o,none⟩∧rowAt h b o css.flatten):=by
 have key:∀m,m≤xs.length→∃css:List (List Value),css.length=m∧∀(i:Nat) (cs:List Value),css[i]? =some cs→∃x b o,xs[i]? =some x∧oa=some ⟨b,o,none⟩∧rowAt h b (o+i*e.sz) cs∧e.R h O cs x:=by
  intro m
  induction m with
  |zero=>exact fun _=>⟨[],rfl,fun i cs q=>by simp at q⟩
  |succ m ih =>
   intro hm;obtain⟨css,h1,h2⟩:=ih (by omega);obtain⟨b,o,cs,ha,_,hr,hR⟩:=k.get m xs[m] (List.getElem?_eq_getElem (by omega));refine⟨css++[cs],by simp[h1],fun i cs' q=>?_⟩
   rcases Nat.lt_trichotomy i m with hi|hi|hi
   · rw[List.getElem?_append_left (by omega)] at q;exact h2 i cs' q
   · subst hi;rw[List.getElem?_append_right (by omega),h1,Nat.sub_self] at q;simp at q;subst q;exact⟨_,b,o,List.getElem?_eq_getElem (by omega),ha,hr,hR⟩
   · rw[List.getElem?_eq_none (by rw[List.length_append,List.length_singleton];omega)] at q;cases q
 obtain⟨css,h1,h2⟩:=key xs.length (Nat.le_refl _)
 have hlen:∀cs∈css,cs.length=e.sz:=fun cs hc=>by
  obtain⟨i,hi⟩:=List.getElem?_of_mem hc;obtain⟨x,b,o,_,_,_,hR⟩:=h2 i cs hi;exact e.len hR
 have hfl:css.flatten.length=n*e.sz:=by
  rw[←k.len,←h1];clear h1 h2
  induction css with
  |nil=>simp
  |cons a l ih=>rw[List.flatten_cons,List.length_append,hlen a (by simp),ih (fun c hc=>hlen c (by simp[hc])),List.length_cons,Nat.succ_mul];omega
 refine⟨css,h1,fun i cs x q1 q2=>?_,hfl,fun u hu=>?_,?_⟩
 · obtain⟨x',_,_,hx,_,_,hR⟩:=h2 i cs q1;rw[q2] at hx;cases hx;exact hR
 · obtain⟨cs,hc,hu⟩:=List.mem_flatten.1 hu;obtain⟨i,hi⟩:=List.getElem?_of_mem hc;obtain⟨_,_,_,_,_,_,hR⟩:=h2 i cs hi;exact e.one hR u hu
 · rcases Nat.eq_zero_or_pos n with h0|h0
   · exact .inl h0
   · have hxl:xs.length=n:=k.len;have hx0:0<xs.length:=by omega
     obtain⟨b,o,cs,ha,_,_,_⟩:=k.get 0 xs[0] (List.getElem?_eq_getElem hx0);refine .inr ⟨b,o,ha,fun j v hv=>?_⟩;have hj:j<n*e.sz:=by rw[←hfl];exact(List.getElem?_eq_some_iff.1 hv).1
     have hjn:j / e.sz<n:=Nat.div_lt_of_lt_mul (by rw[Nat.mul_comm];exact hj);have hjl:j / e.sz<css.length:=by rw[h1,hxl];exact hjn
     have hjc:css[j / e.sz]? =some css[j / e.sz]:=List.getElem?_eq_getElem hjl;obtain⟨x,b',o',_,ha',hr,hR⟩:=h2 _ _ hjc;rw[ha] at ha';cases ha';have hm:j%e.sz<(css[j / e.sz]).length:=by rw[e.len hR];exact Nat.mod_lt _ e.pos
     have h3:=jg css (j / e.sz) _ (j%e.sz) _ hlen hjc (List.getElem?_eq_getElem hm);rw[Nat.div_add_mod' j e.sz,hv] at h3;obtain rfl:=Option.some.inj h3;have h4:=hr (j%e.sz) _ (List.getElem?_eq_getElem hm);rw[Nat.add_assoc,Nat.div_add_mod' j e.sz] at h4;exact h4
theorem vO {α:Type}{e:gG α}{O:Nat→Prop}{h h':aD}{base:Nat}{t:TypeId}{v:Value}{xs:List α}{css:List (List Value)}(h1:css.length=xs.length) (h2:∀(i:Nat) (cs:List Value) (x:α),css[i]? =some cs→xs[i]? =some x→e.R h O cs x)
 {n:Nat}(hn:xs.length=n) (ho:aS h' base t e.sz v n css.flatten) (hx:aF h h') (hv:∀b,v.ownBlock=some b→h.size≤b):dD e O h' base t v xs:=by
 subst hn
 exact⟨css,h1,ho,fun i cs x q1 q2=>e.mv (h2 i cs x q1 q2) ⟨hx.size,fun b hb hn=>⟨hx.block b hb (fun k=>k),fun k=>by
  rcases k with k|k
  · have:=hv b k.symm;omega
  · exact hn k⟩⟩⟩
end Go.Lw
namespace Go.Proofs.YtedocgkapmeceaaGreatDoor
open Go.Proofs.Tryz
open Go Go.Lw
set_option maxRecDepth 20000
theorem Bf {l:List Pt}{i:Nat}{p:Pt}(h:l[i]? =some p) (op:List Tr):gS (l.drop i) op=gS (l.drop (i+1)) (op.take (op.length-p.2.2.toNat%6)++[.mk p.1 p.2.1 (op.drop (op.length-p.2.2.toNat%6))]):=by
 rw[drop_cons h,gS]
theorem Fa {l:List Pt}{i:Nat}{p:Pt}(h:l[i]? =some p) (hp:200<p.2.1.length):oE l=false:=by
 unfold oE;rw[Bool.eq_false_iff];intro q;have:=of_decide_eq_true (List.all_eq_true.1 q p (List.mem_of_getElem? h));omega
theorem sE {h:aD}{O:Nat→Prop}{v:Value}{l:List Pt}(hv:bU Ld h O v l) (hl:∀x∈l,(-128≤x.1∧x.1≤127)∧0≤x.2.2∧x.2.2≤255) :
 ai Tryz.prog 12 #[v] h (cL fun r h'=>aF h h'∧∃nv,r=packed [nv,.bool (jU l).2]∧dS h' (fun b=>b<h.size) nv (jU l).1):=by
 obtain⟨pa,pn,pc,rfl,hps⟩:=id hv.open;have hpl:l.length=pn:=hps.len;subst hpl;have hpm:=hps.cap;have hpc:=hps.le;simp only[maxLen] at hpm;refine ai.of func12 rfl rfl ?_;refine xr func12 rfl ?_;refine xo rfl (aC.aR H.eG) ?_;rintro _ h1 ⟨rfl,k1,e1,z1⟩;have k1:bq h1 h.size 39 (iJ 0 [] none 0 0):=k1;refine aQ 1 [0,2,3] rfl ?_;refine aW func12 1 [0,2,3,4] rfl ?_;refine av rfl ?_;refine av rfl ?_;refine G.bD [(15,.bool (decide (60<l.length∨l.length=0)))] [(0,_),(2,_),(3,_),(4,_)] ⟨rfl,rfl,rfl,rfl,trivial⟩ func12 rfl ?_ ?_
 · refine bP 1 rfl rfl (aj.aJ underlying37 rfl) ?_;refine aT 2 rfl ?_;refine aH (d:=11) rfl (fun a=>?_) (fun a=>?_)
   · have a:=of_decide_eq_true a;refine aT 4 rfl ?_;refine az rfl ?_;exact⟨rfl,aA rfl (by rw[decide_eq_true (by omega)]),rfl,rfl,rfl,rfl,trivial⟩
   · have a:=of_decide_eq_false a;refine bP 1 rfl rfl (aj.aJ underlying37 rfl) ?_;refine aT 2 rfl ?_;refine az rfl ?_;exact⟨rfl,aA rfl (by rw[decide_eq_decide];omega),rfl,rfl,rfl,rfl,trivial⟩
 · refine aL rfl rfl (fun hbig=>?_) (fun hbig=>?_)
   · have hR:jU l=(wI,decide (l.length=0)):=by unfold jU;rw[if_pos hbig]
     rw[hR];refine xr func12 rfl ?_;refine xp rfl (aP (H.Bh ) rfl) ?_;refine bP 1 rfl rfl (aj.aJ underlying37 rfl) ?_;refine aT 1 rfl ?_;refine RW.bZ rfl rfl rfl (aC.aB H.aV rfl rfl k1 (by first|rfl|(simp;done)|(simp;omega)) (by first|decide|exact of_decide_eq_true rfl|(simp;done)|(simp;omega)) (eT)) ?_;rintro _ h2 ⟨rfl,k2,x2,z2⟩;refine aQ 1 [0,2,3,4,15] rfl ?_;refine G.cN func12 rfl (.cons (bu.cB H.bN H.aV rfl (k2.row) (by first|rfl|(simp;done)|(simp;omega))) (.cons (bu.tmp rfl) (.nil))) ?_;exact⟨_,rfl,aF.only e1 x2 (Nat.le_refl _),_,by show packed [_,Value.bool (decide ((l.length:Int)=0))]=_;rw[show decide ((l.length:Int)=0)=decide (l.length=0) by rw[decide_eq_decide];omega];rfl,mN _ _⟩
   · have hR:jU l=if oE l=true then ((gS l []).getLastD wI,true) else (wI,false):=by unfold jU;rw[if_neg hbig]
     rw[hR];have hl60:l.length≤60∧0<l.length:=by omega
     refine aE rfl ?_;refine av rfl ?_;refine aW func12 1 [0,2,3,4,5,15] rfl ?_;refine G.block rfl rfl ?_;refine bE (σ:=Nat×List Tr×Value) (fun w=>[(0,.slice pa l.length pc),(2,ptr h.size),(4,w.2.2),(5,.int .i64 (w.1:Nat))]) (fun w g=>w.1≤l.length∧aF h1 g∧bU eN g (fun b=>b<h1.size) w.2.2 w.2.1∧gS (l.drop w.1) w.2.1=gS l []∧w.2.1.length≤w.1∧(0<w.1→w.2.1≠[])∧∀x∈l.take w.1,x.2.1.length≤200) (fun w=>l.length-w.1) ((0,[],.slice none 0 0)) rfl ⟨rfl,rfl,rfl,rfl,trivial⟩ ⟨Nat.zero_le _,Ext.refl _ _,bU.nil _ _ _,rfl,Nat.le_refl _,fun q=>absurd q (Nat.lt_irrefl _),by simp⟩ ?_;rintro⟨i,op,ov⟩ g ⟨hi,eg,hov,hb,hol,hne,hsh⟩ ih
     try dsimp only
     dsimp only at hi hov hb hol hne hsh;have e0g:=e1.trans eg;have kg:=k1.ax eg;obtain⟨oa,on,oc,rfl,hos⟩:=id hov.open;have hon:op.length=on:=hos.len;subst hon;have hom:=hos.cap;have hoc:=hos.le;simp only[maxLen] at hom;refine av rfl ?_;refine br func12 2 rfl ?_;refine xp rfl (aj.aJ underlying37 rfl) ?_;refine aQ 1 [0,2,4,5,23] rfl ?_;refine aL rfl rfl (fun hlt=>?_) (fun hlt=>?_)
     · have hil:i<l.length:=by omega
       obtain⟨b,o,p,ha,_,hp,hrow⟩:=(hps.mv (Mv.ax e0g)).wo hil;have hpb:=hl p (List.mem_of_getElem? hp);have hpt:=bp p.2.1;refine aE rfl ?_;refine av rfl ?_;refine G.block rfl rfl ?_;refine av rfl ?_;refine br func12 2 rfl ?_;refine xp rfl (aj.ay underlying37 H.G2 rfl rfl i rfl ha (by omega)) ?_;refine xp rfl (af (off:=1) underlying83 rfl rfl H.dA rfl) ?_;refine xp rfl (ah H.dO rfl (hrow 1 _ rfl)) ?_;refine xp rfl (aj.bG underlying9 rfl) ?_;refine aQ 1 [0,2,4,5,23,32] rfl ?_;refine aL rfl rfl (fun h200=>?_) (fun h200=>?_)
       · rw[if_neg (by rw[Fa hp (by omega)];decide)];refine xr func12 rfl ?_;refine xp rfl (aP (H.Bh ) rfl) ?_;refine RW.bZ rfl rfl rfl (aC.aB H.aV rfl rfl kg (by first|rfl|(simp;done)|(simp;omega)) (by first|decide|exact of_decide_eq_true rfl|(simp;done)|(simp;omega)) (eT)) ?_;rintro _ h2 ⟨rfl,k2,x2,z2⟩;refine aQ 1 [0,2,3,4,5,23,32] rfl ?_;refine G.cN func12 rfl (.cons (bu.cB H.bN H.aV rfl (k2.row) (by first|rfl|(simp;done)|(simp;omega))) (.cons (bu.tmp rfl) (.nil))) ?_;exact⟨_,rfl,aF.only e0g x2 (Nat.le_refl _),_,rfl,mN _ _⟩
       · obtain⟨k,hk⟩:∃k,k=op.length-p.2.2.toNat%6:=⟨_,rfl⟩
         rw[Bf hp,←hk] at hb;have hkm:p.2.2.tmod 6=((p.2.2.toNat%6:Nat):Int):=by rw[Int.tmod_eq_emod_of_nonneg hpb.2.1];omega
         refine aE rfl ?_;refine av rfl ?_;refine G.bD [(6,.int .i64 (k:Nat))] [(0,_),(2,_),(4,_),(5,_),(23,_),(32,_)] ⟨rfl,rfl,rfl,rfl,rfl,rfl,trivial⟩ func12 rfl ?_ ?_
         · refine bP 1 rfl rfl (aj.aJ underlying28 rfl) ?_;refine bP 2 rfl rfl (aj.ay underlying37 H.G2 rfl rfl i rfl ha (by omega)) ?_;refine xp rfl (af (off:=2) underlying83 rfl rfl H.Jt rfl) ?_;refine xp rfl (ah H.KY rfl (hrow 2 _ rfl)) ?_;refine xp rfl (aj.vh underlying5 underlying3 rfl (wrap_i64 ⟨by omega,by omega⟩)) ?_;refine xp rfl (zj rfl rfl (by decide)) ?_;refine xp rfl (aj.iF rfl rfl ⟨by rw[hkm];omega,by rw[hkm];omega⟩) ?_;refine xp rfl (Br rfl rfl) ?_;refine aT 1 rfl ?_;refine az rfl ?_;exact⟨rfl,congrArg (fun x:Int=>some (Value.int .i64 x)) (show (if (op.length:Int)-p.2.2.tmod 6<0 then 0 else (op.length:Int)-p.2.2.tmod 6)=(k:Int) by rw[hkm];split<;>omega),rfl,rfl,rfl,rfl,rfl,rfl,trivial⟩
         · have hko:k≤op.length:=by omega
           have hosB:=hos.part (i:=k) (j:=op.length) hko (Nat.le_refl _);rw[List.take_length] at hosB;have hosA:=hos.part (i:=0) (j:=k) (Nat.zero_le _) hko;rw[List.drop_zero] at hosA;obtain⟨css,hc1,hc2,hc3,hc4,hc5⟩:=hosB.JK;have hc2':∀(i:Nat) (cs:List Value) (x:Tr),css[i]? =some cs→(op.drop k)[i]? =some x→eN.R g (fun b=>b<h1.size∨g.size≤b) cs x:=fun i cs x q1 q2=>aX (hc2 i cs x q1 q2) (Ext.refl (fun _=>False) g) fun b hb q=>⟨fun k=>k,fun q2=>q2.elim q (fun q3=>by omega)⟩
           have hdl:(op.drop k).length=op.length-k:=List.length_drop;have hap:aS g g.size 39 3 (.slice none 0 0) 0 []:=aS.nil _ _ _ _;refine av rfl ?_;refine G.qx (fun(x:Value×Nat) (h':aD)=>(aF g h'∧g.size≤x.2∧∃a n c,x.1= .slice a n c∧bq h' x.2 39 [.int .i64 p.1,.string (bs p.2.1),x.1]∧bU eN h' (fun b=>b<h1.size) x.1 (op.drop k))) (fun(x:Value×Nat)=>[(7,ptr x.2)]) [(0,_),(2,_),(4,_),(5,_),(6,_),(23,_),(32,_)] ⟨rfl,rfl,rfl,rfl,rfl,rfl,rfl,trivial⟩ (fun b=>Array.size g≤b) (fun i=>Nat.blt i 17) (sz:=18) (listed:= #[false,false,false,false,false,false,false,false,false,false,false,false,false,false,false,false,false,false]) func12 H.mixed rfl rfl rfl ?_ ?_
           · refine b9 0 1 (by kernel_rfl) rfl ?_;refine b9 1 3 (by kernel_rfl) rfl ?_;refine bI 2 7 (by kernel_rfl) rfl (fun h' e=>aj.ay underlying37 H.G2 rfl rfl i rfl ha (by omega)) ?_;refine bI 3 15 (by kernel_rfl) rfl (fun h' e=>af (off:=0) underlying83 rfl rfl H.Lr rfl) ?_;refine bI 4 31 (by kernel_rfl) rfl (fun h' e=>ah H.Mc rfl (e.old (hrow 0 _ rfl))) ?_;refine bI 5 63 (by kernel_rfl) rfl (fun h' e=>aj.vh underlying81 underlying3 rfl (wrap_i64 ⟨by omega,by omega⟩)) ?_;refine b9 6 127 (by kernel_rfl) rfl ?_;refine b9 7 255 (by kernel_rfl) rfl ?_;refine bI 8 511 (by kernel_rfl) rfl (fun h' e=>aj.ay underlying37 H.G2 rfl rfl i rfl ha (by omega)) ?_;refine bI 9 1023 (by kernel_rfl) rfl (fun h' e=>af (off:=1) underlying83 rfl rfl H.dA rfl) ?_;refine bI 10 2047 (by kernel_rfl) rfl (fun h' e=>ah H.dO rfl (e.old (hrow 1 _ rfl))) ?_;refine b9 11 4095 (by kernel_rfl) rfl ?_;refine b9 12 8191 (by kernel_rfl) rfl ?_;refine bI 13 16383 (by kernel_rfl) rfl (fun h' e=>aj.pO underlying28 H.aV rfl rfl k rfl (by omega)) ?_;refine RD.wh 14 16 (li:= #[true,true,true,true,true,true,true,true,true,true,true,true,true,true,true,false,false,false]) (lj:= #[true,true,true,true,true,true,true,true,true,true,true,true,true,true,false,false,true,false]) rfl rfl (by kernel_rfl) rfl rfl rfl rfl rfl rfl (aC.append underlying28 H.gR rfl rfl hap hc3 hc5 hc4 (by simp only[maxLen];omega) (by omega) (Nat.le_refl _)) (aC.aR H.eG) (by kernel_rfl) (by kernel_rfl) ?_ ?_
             · rintro v1 w1 ⟨ho1,hx1,_,hv1⟩;refine⟨fun _=>hx1.mono (fun y _ q=>by cases q),?_⟩;have ew1:aF g w1:=gz hx1;rw[Nat.zero_add,List.nil_append] at ho1;have hcp:dD eN (fun b=>b<h1.size∨g.size≤b) w1 g.size 39 v1 (op.drop k):=vO hc1 hc2' hdl ho1 ew1 (fun b q=>(hv1 b q).resolve_left (fun q=>by cases q));obtain⟨va,vc,rfl,_⟩:=ho1.open;refine bI 15 65535 (by kernel_rfl) rfl (fun h' e=>aP (H.gU _ _ _ _ _) rfl) ?_;refine cU 16 131071 (by kernel_rfl) rfl (aC.aR H.eG) ?_;rintro _ w2 ⟨rfl,kn,e2',z2'⟩;refine⟨fun _=>e2'.of,?_⟩;refine fS 17 262143 (by kernel_rfl) rfl (aC.aB H.aV rfl rfl kn (by first|rfl|(simp;done)|(simp;omega)) (by first|decide|exact of_decide_eq_true rfl|(simp;done)|(simp;omega)) (eT)) ?_;rintro _ w3 ⟨rfl,kn3,x3,z3⟩;refine⟨fun hk=>(nomatch hk),?_⟩;have ez1:=ew1.size;have e13:aF w1 w3:=aF.only e2' x3 (Nat.le_refl _);refine bg (by kernel_rfl) ?_;exact⟨(.slice va (op.length-k) vc,w1.size),⟨ew1.trans e13,ez1,_,_,_,rfl,kn3,(hcp.ax e13).read (fun b hb q=>by have:=eg.size;omega) (fun b hb q=>.inl q)⟩,rfl,rfl,rfl,rfl,rfl,rfl,rfl,rfl,trivial⟩
             · rintro _ w1 ⟨rfl,kn,e1',z1'⟩;refine⟨fun _=>e1'.of,?_⟩;have e1':aF g w1:=e1';refine cU 14 98303 (by kernel_rfl) rfl (aC.append underlying28 H.gR rfl rfl (aS.l7 hap e1') hc3 (hc5.imp id (fun⟨b,o,q1,q2⟩=>⟨b,o,q1,e1'.rowAt (fun k=>k) q2⟩)) hc4 (by simp only[maxLen];omega) (by omega) e1'.size) ?_;rintro v1 w2 ⟨ho1,hx1,_,hv1⟩;refine⟨fun _=>hx1.mono (fun y _ q=>by cases q),?_⟩;have ew2:aF w1 w2:=gz hx1;rw[Nat.zero_add,List.nil_append] at ho1;have hcp:dD eN (fun b=>b<h1.size∨g.size≤b) w2 g.size 39 v1 (op.drop k):=vO hc1 hc2' hdl ho1 (e1'.trans ew2) (fun b q=>by have:=(hv1 b q).resolve_left (fun q=>by cases q);have:=e1'.size;omega);obtain⟨va,vc,rfl,_⟩:=ho1.open;have kz:=(kn.ax ew2).lt;refine bI 15 131071 (by kernel_rfl) rfl (fun h' e=>aP (H.gU _ _ _ _ _) rfl) ?_;refine fS 17 262143 (by kernel_rfl) rfl (aC.aB H.aV rfl rfl (kn.ax ew2) (by first|rfl|(simp;done)|(simp;omega)) (by first|decide|exact of_decide_eq_true rfl|(simp;done)|(simp;omega)) (eT)) ?_;rintro _ w3 ⟨rfl,kn3,x3,z3⟩;refine⟨fun hk=>(nomatch hk),?_⟩;have vne:∀b,(Value.slice va (op.length-k) vc).ownBlock=some b→¬b=g.size:=fun b q=>by have:=(hv1 b q).resolve_left (fun q=>by cases q);omega
               have hcp3:=hcp.pG x3 vne (fun b hb q=>.inr (by omega)) (fun b hb q=>q);refine bg (by kernel_rfl) ?_;exact⟨(.slice va (op.length-k) vc,g.size),⟨aF.only (e1'.trans ew2) x3 (Nat.le_refl _),Nat.le_refl _,_,_,_,rfl,kn3,hcp3.read (fun b hb q=>by have:=eg.size;omega) (fun b hb q=>.inl q)⟩,rfl,rfl,rfl,rfl,rfl,rfl,rfl,rfl,trivial⟩
           · rintro⟨x1,x2⟩ g2 ⟨eg2,hx2,na,nn,nc,rfl,kx,hkd⟩;dsimp only at kx hkd hx2;have e1g2:=eg.trans eg2;have e0g2:=e1.trans e1g2;have z12:=e1g2.size;have hosA2:=hosA.mv (Mv.ax eg2);obtain⟨cst,ha1,ha2,ha3,ha4,ha5⟩:=hosA2.JK;have htl:(op.take k).length=k:=by rw[List.length_take];omega
             have htl2:k-0=k:=Nat.sub_zero k;rw[htl2] at ha3 ha5;have hap2:aS g2 g2.size 39 3 (.slice none 0 0) 0 []:=aS.nil _ _ _ _;have hnode:eN.R g2 (fun b=>b<h1.size∨g2.size≤b) [.int .i64 p.1,.string (bs p.2.1),.slice na nn nc] (.mk p.1 p.2.1 (op.drop k)):=yR (hkd.mv (Mv.dc (Ext.refl (fun _=>False) g2) fun b hb q=>⟨fun k=>k,fun q2=>q2.elim q (fun q3=>by omega)⟩));refine G.qx (fun(y:Value) (h':aD)=>(aF g2 h'∧bU eN h' (fun b=>b<h1.size) y (op.take k++[.mk p.1 p.2.1 (op.drop k)]))) (fun(y:Value)=>[(4,y)]) [(0,_),(2,_),(5,_),(6,_),(7,_),(23,_),(32,_)] ⟨rfl,rfl,rfl,rfl,rfl,rfl,rfl,trivial⟩ (fun b=>Array.size g2≤b) (fun i=>Nat.blt i 8) (sz:=8) (listed:= #[false,false,false,false,false,false,false,false]) func12 H.mixed rfl rfl rfl ?_ ?_
             · refine b9 0 1 (by kernel_rfl) rfl ?_;refine b9 1 3 (by kernel_rfl) rfl ?_;refine bI 2 7 (by kernel_rfl) rfl (fun h' e=>aj.lg underlying28 H.aV rfl rfl k rfl (by omega)) ?_;refine bI 4 23 (by kernel_rfl) rfl (fun h' e=>aj.aG H.bN H.aV rfl (e.qX kx.row) (by first|rfl|(simp;done)|(simp;omega))) ?_;refine RD.wh 3 5 (li:= #[true,true,true,true,true,false,false,false]) (lj:= #[true,true,true,false,true,true,false,false]) rfl rfl (by kernel_rfl) rfl rfl rfl rfl rfl rfl (aC.append underlying28 H.gR rfl rfl hap2 ha3 ha5 ha4 (by simp only[maxLen];omega) (by omega) (Nat.le_refl _)) (aC.cx (cs:=[_,_,_]) underlying28 H.gR rfl rfl (by decide)) (by kernel_rfl) (by kernel_rfl) ?_ ?_
               · rintro v1 w1 ⟨ho1,hx1,_,hv1⟩;refine⟨fun _=>hx1.mono (fun y _ q=>by cases q),?_⟩;have ew1:aF g2 w1:=gz hx1;rw[Nat.zero_add,List.nil_append] at ho1;refine cU 5 63 (by kernel_rfl) rfl (aC.cx (cs:=[_,_,_]) underlying28 H.gR rfl rfl (by decide)) ?_;rintro _ w2 ⟨rfl,hw2⟩;refine⟨fun _=>by rw[hw2];exact Ext.push _ _ _,?_⟩;have ew2:aF w1 w2:=by rw[hw2];exact Ext.push _ _ _
                 have hrS:Lw.rowAt w2 w1.size 0 [.int .i64 p.1,.string (bs p.2.1),.slice na nn nc]:=by rw[hw2];exact Aj _ _ _
                 have zz:=((ew1.trans ew2)).size;obtain⟨va,vc,rfl,_⟩:=aS.open ((aS.l7 ho1 ew2));have hown1:∀b,(Value.slice va k vc).ownBlock=some b→g2.size≤b:=fun b q=>(hv1 b q).resolve_left (fun q=>by cases q)
                 refine cU 6 127 (by kernel_rfl) rfl (aC.append underlying28 H.gR rfl rfl (aS.l7 ho1 ew2) rfl (.inr ⟨_,_,rfl,hrS⟩) (by simp[Value.oneCell']) (by simp only[maxLen];omega) (by omega) (by omega)) ?_;rintro v3 w3 ⟨ho3,hx3,_,hv3⟩;refine⟨fun _=>hx3.mono (fun y _ q=>by have:=hown1 _ q.symm;omega),?_⟩;have hfin:dD eN (fun b=>b<h1.size) w3 g2.size 39 v3 (op.take k++[.mk p.1 p.2.1 (op.drop k)]):=dD.fV (h:=w2) (v:=.slice va k vc) (css:=cst) (cs:=[.int .i64 p.1,.string (bs p.2.1),.slice na nn nc]) (by rw[ha1]) (fun i cs y q1 q2=>aX (ha2 i cs y q1 q2) (ew1.trans ew2) (fun b hb q=>⟨fun k=>k,fun q3=>q3.elim (fun q4=>by have:=hown1 _ q4.symm;omega) q⟩)) (by rw[htl];exact ho3) hx3 hv3 (aX hnode (ew1.trans ew2) (fun b hb q=>⟨fun k=>k,fun q3=>q3.elim (fun q4=>by have:=hown1 _ q4.symm;omega) (fun q4=>q (.inl q4))⟩));have e3:aF g2 w3:=Ext.own (ew1.trans ew2) (aS.l7 ho1 ew2) (Nat.le_refl _) hx3;refine b9 7 255 (by kernel_rfl) rfl ?_;refine bg (by kernel_rfl) ?_;exact⟨v3,⟨e3,hfin.read (fun b hb q=>by omega) (fun b hb q=>q)⟩,rfl,rfl,rfl,rfl,rfl,rfl,rfl,rfl,trivial⟩
               · rintro _ w1 ⟨rfl,hw1⟩;refine⟨fun _=>by rw[hw1];exact Ext.push _ _ _,?_⟩;have ew1:aF g2 w1:=by rw[hw1];exact Ext.push _ _ _
                 have hrS:Lw.rowAt w1 g2.size 0 [.int .i64 p.1,.string (bs p.2.1),.slice na nn nc]:=by rw[hw1];exact Aj _ _ _
                 refine cU 3 63 (by kernel_rfl) rfl (aC.append underlying28 H.gR rfl rfl (aS.l7 hap2 ew1) ha3 (ha5.imp id (fun⟨b,o,q1,q2⟩=>⟨b,o,q1,ew1.rowAt (fun k=>k) q2⟩)) ha4 (by simp only[maxLen];omega) (by omega) ew1.size) ?_;rintro v1 w2 ⟨ho1,hx1,_,hv1⟩;refine⟨fun _=>hx1.mono (fun y _ q=>by cases q),?_⟩;have ew2:aF w1 w2:=gz hx1;rw[Nat.zero_add,List.nil_append] at ho1;have zz:=((ew1.trans ew2)).size;obtain⟨va,vc,rfl,_⟩:=aS.open (ho1);have hown1:∀b,(Value.slice va k vc).ownBlock=some b→g2.size≤b:=fun b q=>by have:=(hv1 b q).resolve_left (fun q=>by cases q);have:=ew1.size;omega
                 refine cU 6 127 (by kernel_rfl) rfl (aC.append underlying28 H.gR rfl rfl ho1 rfl (.inr ⟨_,_,rfl,ew2.rowAt (fun q=>q) hrS⟩) (by simp[Value.oneCell']) (by simp only[maxLen];omega) (by omega) (by omega)) ?_;rintro v3 w3 ⟨ho3,hx3,_,hv3⟩;refine⟨fun _=>hx3.mono (fun y _ q=>by have:=hown1 _ q.symm;omega),?_⟩;have hfin:dD eN (fun b=>b<h1.size) w3 g2.size 39 v3 (op.take k++[.mk p.1 p.2.1 (op.drop k)]):=dD.fV (h:=w2) (v:=.slice va k vc) (css:=cst) (cs:=[.int .i64 p.1,.string (bs p.2.1),.slice na nn nc]) (by rw[ha1]) (fun i cs y q1 q2=>aX (ha2 i cs y q1 q2) (ew1.trans ew2) (fun b hb q=>⟨fun k=>k,fun q3=>q3.elim (fun q4=>by have:=hown1 _ q4.symm;omega) q⟩)) (by rw[htl];exact ho3) hx3 hv3 (aX hnode (ew1.trans ew2) (fun b hb q=>⟨fun k=>k,fun q3=>q3.elim (fun q4=>by have:=hown1 _ q4.symm;omega) (fun q4=>q (.inl q4))⟩));have e3:aF g2 w3:=Ext.own (ew1.trans ew2) ho1 (Nat.le_refl _) hx3;refine b9 7 255 (by kernel_rfl) rfl ?_;refine bg (by kernel_rfl) ?_;exact⟨v3,⟨e3,hfin.read (fun b hb q=>by omega) (fun b hb q=>q)⟩,rfl,rfl,rfl,rfl,rfl,rfl,rfl,rfl,trivial⟩
             · rintro y g3 ⟨eg3,hy⟩;obtain⟨ya,yn,yc,rfl,_⟩:=id hy.open;refine G.aN ?_;refine G.bT func12 rfl ?_;refine bP 1 rfl rfl (aj.bA rfl rfl ⟨by omega,by omega⟩) ?_;refine aQ 1 [0,2,4,5,6,7,23,32] rfl ?_;exact ih (i+1,op.take k++[.mk p.1 p.2.1 (op.drop k)],.slice ya yn yc) _ _ ⟨rfl,rfl,rfl,rfl,trivial⟩ ⟨hil,e1g2.trans eg3,hy,hb,by dsimp only;rw[List.length_append,List.length_singleton,htl];omega,fun _=>by simp,fun x hx=>by rw[List.take_add_one,hp,List.mem_append] at hx;exact hx.elim (hsh x) (fun q=>by simp at q;rw[q];omega)⟩ (by show l.length-(i+1)<l.length-i;omega)
     · obtain rfl:i=l.length:=by omega
       rw[List.drop_length,gS] at hb;have hshort:oE l=true:=List.all_eq_true.2 fun x hx=>decide_eq_true (hsh x (by rw[List.take_length];exact hx))
       rw[if_pos hshort];have hop:=hne hl60.2
       have hlast:op[op.length-1]? =some (op.getLastD wI):=by
        rw[List.getLastD_eq_getLast?,List.getLast?_eq_getElem?];rw[List.getElem?_eq_getElem (by have:=List.length_pos_iff.2 hop;omega)];rfl
       have hpos:=List.length_pos_iff.2 hop;obtain⟨b,o,x,xk,xt,xa,xn,xc,ha,hx,hrow,hnx,_,_⟩:=gy hos (show op.length-1<op.length by omega);rw[hlast] at hx;have hx:=Option.some.inj hx;refine bz rfl rfl ?_;refine br func12 2 rfl ?_;refine xp rfl (aj.aJ underlying28 rfl) ?_;refine xp rfl (aj.iF rfl rfl ⟨by omega,by omega⟩) ?_;refine xp rfl (aj.ay underlying28 H.aV rfl rfl (op.length-1) (by omega) ha (by omega)) ?_;refine xp rfl (aj.aG H.bN H.aV rfl hrow (by first|rfl|(simp;done)|(simp;omega))) ?_;refine RW.bZ rfl rfl rfl (aC.aB H.aV rfl rfl kg (by first|rfl|(simp;done)|(simp;omega)) (by first|decide|exact of_decide_eq_true rfl|(simp;done)|(simp;omega)) (eT)) ?_;rintro _ h2 ⟨rfl,k2,x2,z2⟩;refine aQ 1 [0,2,3,4,5,23] rfl ?_;refine G.cN func12 rfl (.cons (bu.cB H.bN H.aV rfl (k2.row) (by first|rfl|(simp;done)|(simp;omega))) (.cons (bu.tmp rfl) (.nil))) ?_;refine⟨_,rfl,aF.only e0g x2 (Nat.le_refl _),_,rfl,?_⟩;rw[←hb,hx];exact hnx.ext x2 (fun b hb q=>⟨fun q2=>q (by have:=e1.size;omega),fun q2=>q (by have:=e1.size;omega)⟩)
def Js (x:Tr):Prop:=∀(h:aD) (O:Nat→Prop) (v:Value),dS h O v x→ai Tryz.prog 13 #[v] h (cL fun r h'=>aF h h'∧dS h' (fun b=>b<h.size) r x)
theorem Jf {k:Int}{t:By}{l:List Tr}(hw:(Tr.mk k t l).wt≤1000000) (hk:∀x∈l,Js x):Js (.mk k t l):=by
 intro h O v hv;obtain⟨w,rfl,hw0⟩:=id hv.open;obtain⟨a,n,c,rfl,hws⟩:=id hw0.open;have hn:l.length=n:=hws.len;subst hn;have hcap:=hws.cap;have hle:=hws.le;simp only[maxLen] at hcap
 have hll:l.length≤1000000:=by
  have h2:=iU l false 0;have h4:(Tr.mk k t l).wt=2*t.length+20+pH l:=by rw[Tr.wt]
  omega
 refine ai.of func13 rfl rfl ?_;refine xr func13 rfl ?_;refine xo rfl (aC.fe rfl) ?_;rintro _ h1 ⟨rfl,k1,e1,z1⟩;refine xo rfl (aC.aR H.jI) ?_;rintro _ h2 ⟨rfl,k2,e2,z2⟩;have k1:bq h2 h.size 39 (iJ k t a l.length c):=k1.ax e2;have k2:bq h2 h1.size 43 (iJ 0 [] none 0 0):=k2;refine xd [0,1,2] rfl ?_;refine xr func13 rfl ?_;refine xp rfl (af (off:=0) underlying39 rfl rfl H.bY rfl) ?_;refine xp rfl (ah H.cG rfl (k1.cell (i:=0) rfl)) ?_;refine xp rfl (af (off:=1) underlying39 rfl rfl H.dA rfl) ?_;refine xp rfl (ah H.dO rfl (k1.cell (i:=1) rfl)) ?_;refine xp rfl (aP (H.Gw _ _) rfl) ?_;refine xo rfl (aC.aR H.jI) ?_;rintro _ h3 ⟨rfl,k3,e3,z3⟩;refine RW.bZ rfl rfl rfl (aC.aB H.dI rfl rfl k3 (by first|rfl|(simp;done)|(simp;omega)) (by first|decide|exact of_decide_eq_true rfl|(simp;done)|(simp;omega)) (eT)) ?_;rintro _ h4 ⟨rfl,k4,x4,z4⟩;have k4:bq h4 h2.size 43 (iJ k t none 0 0):=k4;have k14:=(k1.ax e3).ext x4 (show ¬h.size=h2.size by omega);have k24:=(k2.ax e3).ext x4 (show ¬h1.size=h2.size by omega);have e04:aF h h4:=aF.only ((e1.trans e2).trans e3) x4 (by omega);refine xd [0,1,2,3] rfl ?_;refine av rfl ?_;refine aW func13 1 [0,1,2,3,4] rfl ?_;refine G.block rfl rfl ?_;refine bE (σ:=Nat×Value) (fun w=>[(1,ptr h.size),(2,ptr h1.size),(3,ptr h2.size),(4,.int .i64 (w.1:Nat))]) (fun w g=>w.1≤l.length∧aF h g∧bq g h.size 39 (iJ k t a l.length c)∧bq g h1.size 43 (iJ 0 [] none 0 0)∧bq g h2.size 43 [.int .i64 k,.string (bs t),w.2]∧dD eN (fun b=>b≤h2.size) g (h2.size+1) 43 w.2 (l.take w.1)) (fun w=>l.length-w.1) ((0,.slice none 0 0)) rfl ⟨rfl,rfl,rfl,rfl,trivial⟩ ⟨Nat.zero_le _,e04,k14,k24,k4,dD.nil _ _ _ _ _⟩ ?_;rintro⟨i,ov⟩ g ⟨hi,eg,kg1,kg2,kg3,how⟩ ih
 try dsimp only
 dsimp only at hi kg3 how;have htl:(l.take i).length=i:=by rw[List.length_take];omega
 obtain⟨cells,hown⟩:=how.own;rw[htl] at hown;obtain⟨oa,oc,rfl,_⟩:=hown.open;have hol:∀b,(Value.slice oa i oc).ownBlock=some b→h2.size+1≤b∧b<g.size:=fun b q=>hown.lt q
 have kl3:=kg3.lt;refine av rfl ?_;refine br func13 1 rfl ?_;refine xp rfl (af (off:=2) underlying39 rfl rfl H.fE rfl) ?_;refine xp rfl (ah H.kN rfl (kg1.cell (i:=2) rfl)) ?_;refine xp rfl (aj.aJ underlying28 rfl) ?_;refine aQ 1 [1,2,3,4,14] rfl ?_;refine aL rfl rfl (fun hlt=>?_) (fun hlt=>?_)
 · have hil:i<l.length:=by omega
   obtain⟨b,o,x,xk,xt,xa,xn,xc,ha,hx,hrow,hnx,_,_⟩:=gy hws hil;have hb:b<h.size:=eM hrow (by simp);have hrowg:=eg.rowAt (fun k=>k) hrow
   have hM:∀y,y≤h2.size→¬(cT (Value.slice oa i oc).ownBlock y∨Array.size g≤y):=fun y hy q=>by
    rcases q with q|q
    · have:=hol y q.symm;omega
    · omega
   have hM3:=hM h2.size (Nat.le_refl _);have hM1:=hM h.size (by omega);have hcall:=hk x (List.mem_of_getElem? hx) g O _ (hnx.mv (Mv.ax eg));refine aE rfl ?_;refine av rfl ?_;refine G.block rfl rfl ?_;refine bV (fun b=>cT (Value.slice oa i oc).ownBlock b∨Array.size g≤b) (fun i=>Nat.blt i 11) (sz:=12) (listed:= #[false,false,false,false,false,false,false,false,false,false,false,false]) func13 H.mixed rfl rfl rfl ?_;refine bI 0 1 (by kernel_rfl) rfl (fun h' e=>af (off:=2) underlying43 rfl rfl H.nQ rfl) ?_;refine bI 1 3 (by kernel_rfl) rfl (fun h' e=>ah H.qF rfl (e.cell hM3 (kg3.cell (i:=2) rfl))) ?_;refine bI 2 7 (by kernel_rfl) rfl (fun h' e=>af (off:=2) underlying39 rfl rfl H.fE rfl) ?_;refine bI 3 15 (by kernel_rfl) rfl (fun h' e=>ah H.kN rfl (e.cell hM1 (kg1.cell (i:=2) rfl))) ?_;refine b9 4 31 (by kernel_rfl) rfl ?_;refine bI 5 63 (by kernel_rfl) rfl (fun h' e=>aj.ay underlying28 H.aV rfl rfl i rfl ha (by omega)) ?_;refine bI 6 127 (by kernel_rfl) rfl (fun h' e=>aj.aG H.bN H.aV rfl (e.rowAt (hM _ (by omega)) hrowg) (by first|rfl|(simp;done)|(simp;omega))) ?_;refine cU 7 255 (by kernel_rfl) rfl (aq (vs:=[_]) func13 rfl H.mL rfl (ai.bw (hcall))) ?_;rintro r5 h5 ⟨e5,hn5⟩;refine⟨fun _=>e5.of,?_⟩;obtain⟨mk,mt,ma,mn,mc,rfl,hr5⟩:=hn5.get;have how5:=how.ax e5;obtain⟨css,hc1,hc2,hc3⟩:=id how5;have hc2':aS h5 (h2.size+1) 43 3 (.slice oa i oc) i css.flatten:=by rw[htl] at hc2;exact hc2
   refine cU 8 511 (by kernel_rfl) rfl (aC.cx (cs:=[_,_,_]) underlying32 H.KI rfl rfl (by decide)) ?_;rintro _ _ ⟨rfl,rfl⟩;refine⟨fun _=>by first|exact Ext.push _ _ _|assumption,?_⟩;refine cU 9 1023 (by kernel_rfl) rfl (aC.bO underlying32 H.KI rfl rfl (hc2') rfl rfl (by first|decide|simp[Value.oneCell']) (by omega) (by decide) (by have:=e5.size;omega)) ?_;rintro v6 h6 ⟨ho6,hx6,hx6',hv6⟩;refine⟨fun _=>hx6'.mono (fun b _ q=>.inl q),?_⟩;have z5:=e5.size;have z6:=hx6.size;obtain⟨va,vc,rfl,_⟩:=ho6.open;have hne:∀y,y≤h2.size→¬cT (Value.slice oa i oc).ownBlock y:=fun y hy q=>by have:=hol y q.symm;omega
   refine bI 10 2047 (by kernel_rfl) rfl (fun h' e=>af (off:=2) underlying43 rfl rfl H.nQ rfl) ?_;refine fS 11 4095 (by kernel_rfl) rfl (aC.bF H.nQ rfl rfl ((kg3.ax e5).ext hx6 (hne _ (Nat.le_refl _))) (by first|decide|exact of_decide_eq_true rfl|(simp;done)|(simp;omega)) rfl) ?_;rintro _ h7 ⟨rfl,k7,x7,z7⟩;refine⟨fun hk=>(nomatch hk),?_⟩
   have hr5':eN.R h5 (fun b=>cT (Value.slice oa i oc).ownBlock b∨b≤h2.size) [.int .i64 mk,.string (bs mt),.slice ma mn mc] x:=aX hr5 (Ext.refl (fun _=>False) _) (fun y hy q=>⟨fun k=>k,fun q2=>by
    rcases q2 with q2|q2
    · have:=hol _ q2.symm;omega
    · omega⟩)
   have ho7:dD eN (fun b=>b≤h2.size) h6 (h2.size+1) 43 (.slice va (i+1) vc) (l.take i++[x]):=dD.fV (v:=.slice oa i oc) hc1 hc3 (by rw[htl];exact ho6) hx6 hv6 hr5';have hv7:∀y,(Value.slice va (i+1) vc).ownBlock=some y→h2.size+1≤y:=fun y q=>(ho6.lt q).1
   have ho8:=ho7.pG x7 (fun y q q2=>by have:=hv7 y q;omega) (fun y hy q=>by omega) (fun _ _ q=>q);have e6:aF h h6:=EI (eg.trans e5) (hx6.mono fun y _ q=>by have:=hol y q.symm;omega)
   refine bg (by kernel_rfl) ?_;refine xu [1,2,3,4,14] rfl ?_;refine G.aN ?_;refine G.bT func13 rfl ?_;refine bP 1 rfl rfl (aj.bA rfl rfl ⟨by omega,by omega⟩) ?_;refine aQ 1 [1,2,3,4,14] rfl ?_;exact ih (i+1,.slice va (i+1) vc) _ _ ⟨rfl,rfl,rfl,rfl,trivial⟩ ⟨hil,aF.only e6 x7 (by omega),((kg1.ax e5).ext hx6 (hne _ (by omega))).ext x7 (show ¬h.size=h2.size by omega),((kg2.ax e5).ext hx6 (hne _ (by omega))).ext x7 (show ¬h1.size=h2.size by omega),k7,by rw[List.take_add_one,hx];exact ho8⟩ (by show l.length-(i+1)<l.length-i;omega)
 · obtain rfl:i=l.length:=by omega
   rw[List.take_length] at how;refine bz rfl rfl ?_;refine xr func13 rfl ?_;refine xp rfl (aj.aG H.rL H.dI rfl kg3.row (by first|rfl|(simp;done)|(simp;omega))) ?_;refine RW.bZ rfl rfl rfl (aC.aB H.dI rfl rfl kg2 (by first|rfl|(simp;done)|(simp;omega)) (by first|decide|exact of_decide_eq_true rfl|(simp;done)|(simp;omega)) (eT)) ?_;rintro _ h5 ⟨rfl,k5,x5,z5⟩;refine xd [1,2,3,4,14] rfl ?_;refine G.cN func13 rfl (.cons (bu.cB H.rL H.dI rfl (k5.row) (by first|rfl|(simp;done)|(simp;omega))) (.nil)) ?_;have how5:=how.pG x5 (fun y q q2=>by have:=hol y q;omega) (fun y hy q=>by omega) (fun _ _ q=>q);exact⟨_,rfl,aF.only eg x5 (by omega),dS.shut (how5.read (fun y hy q=>by omega) (fun y hy q=>by omega))⟩
theorem Hz:∀(d:Nat) (x:Tr),x.dep≤d→x.wt≤1000000→Js x:=by
 intro d
 induction d with
 |zero=>intro x hx;cases x with|mk k t l=>simp[Tr.dep] at hx
 |succ d ih =>
 intro x hd hw;cases x with
 |mk k t l=>exact Jf hw fun y hy=>ih y (by have:=lJ (k:=k) (t:=t) hy;omega) (by have:=jJ (k:=k) (t:=t) hy;omega)
theorem cQ {x:Tr}(hw:x.wt≤1000000){h:aD}{O:Nat→Prop}{v:Value}(hv:dS h O v x):ai Tryz.prog 13 #[v] h (cL fun r h'=>aF h h'∧dS h' (fun b=>b<h.size) r x):=Hz _ x (Nat.le_refl _) hw h O v hv
end Go.Proofs.YtedocgkapmeceaaGreatDoor
namespace Go.Proofs.YtedocgkapmeceaaGreatDoor
open Go
def pI:List By:=[[105,102],[101,108,115,101],[108,101,116],[105,110],[102,117,110],[116,114,117,101],[102,97,108,115,101],[97,110,100],[111,114],[110,111,116]]
theorem Dw:∀i,i<44→jK[i]? =some 32→(jK.drop (i+1)).takeWhile (fun b=>b !=32)=[]∨pI.contains ((jK.drop (i+1)).takeWhile (fun b=>b !=32))=true:=by decide
theorem FA {s:By}(h:Lib.contains s [32]=false):∀b∈s,(b !=32)=true:=fun b hb=>by
 obtain⟨j,hj,rfl⟩:=List.getElem_of_mem hb
 rcases Lib.index_spec s [32] with ⟨_,h2⟩|⟨i,h1,_⟩
 · have:=h2 j (by omega);unfold Lib.occAt at this;rw[List.drop_eq_getElem_cons hj] at this;simp only[List.isPrefixOf,Bool.and_true] at this;simp only[bne_iff_ne];intro e;rw[e] at this;cases this
 · unfold Lib.contains at h;rw[h1] at h;exact absurd (of_decide_eq_false h) (by simp)
theorem Dx (s:By):bX s=pI.contains s:=by
 rw[Bool.eq_iff_iff];constructor
 · intro h;unfold bX at h;simp only[Bool.and_eq_true,decide_eq_true_eq,Bool.not_eq_true'] at h;obtain⟨h0,h1,h2⟩:=h;have hns:=FA h1
   rcases Lib.index_spec jK (32::(s++[32])) with ⟨h3,_⟩|⟨i,h3,h4,h5,_⟩
   · unfold Lib.contains at h2;rw[h3] at h2;exact absurd h2 (by decide)
   · unfold Lib.occAt at h5;obtain⟨t,ht⟩:=List.isPrefixOf_iff_prefix.1 h5
     have hd:jK.drop (i+1)=s++(32::t):=by
      have:=congrArg List.tail ht;rw[List.tail_drop] at this;rw[←this];simp
     have htw:(jK.drop (i+1)).takeWhile (fun b=>b !=32)=s:=by
      rw[hd,List.takeWhile_append_of_pos hns];simp
     have hi : i < 44 := by have : jK.length = 42 := by decide
                            omega
     have hw:jK[i]? =some 32:=by
      have:=congrArg (fun z=>z[0]?) ht;simpa using this.symm
     rcases Dw i hi hw with h6|h6
     · rw[htw] at h6;exact absurd h6 h0
     · rwa [htw] at h6
 · intro h;have:∀w∈pI,bX w=true:=by decide +kernel
   exact this s (List.contains_iff_mem.1 h)
end Go.Proofs.YtedocgkapmeceaaGreatDoor
namespace Go.Proofs.YtedocgkapmeceaaGreatDoor
open Go.Proofs.Tryz
open Go Go.Lw
set_option maxRecDepth 20000
section
variable {h:aD}{s:By}{c:UInt8}{x:Tr}{O:Nat→Prop}{v:Value}
theorem zF (s:By):ai Tryz.prog 84 #[.string (bs s)] h (cL fun r h'=>r= .bool (bX s)∧aF h h'):=by
 rw[Dx];refine ai.of func84 rfl rfl ?_;refine aW func84 1 [0,2] rfl ?_;refine xr func84 rfl ?_;refine xo rfl (aC.aZ (us:=[_,_,_,_,_,_,_,_,_,_]) underlying93 H.nT rfl rfl (by decide) (by simp[Value.oneCell'])) ?_;rintro _ _ ⟨rfl,rfl⟩;refine aQ 1 [0,2,3] rfl ?_;refine av rfl ?_;refine aW func84 1 [0,2,3,4] rfl ?_;refine G.block rfl rfl ?_;have m1:=lits (h:=h) pI 10 rfl (by decide);have e1:aF h (h.push (.cells (pI.map fun s=>Value.string (bs s)).toArray 9)):=Ext.push _ _ _;refine bE (σ:=Nat) (fun i=>[(0,.string (bs s)),(3,.slice (some ⟨h.size,0,none⟩) 10 10),(4,.int .i64 (i:Nat))]) (fun i h'=>h'=h.push (.cells (pI.map fun s=>Value.string (bs s)).toArray 9)∧i≤10∧∀j w,j<i→pI[j]? =some w→w≠s) (fun i=>10-i) (0) rfl ⟨rfl,rfl,rfl,trivial⟩ ⟨rfl,Nat.zero_le _,fun j w hj=>by omega⟩ ?_;rintro i g ⟨hgq,hi,hin⟩ ih;rw[←hgq] at m1 e1;obtain⟨oa,kn,kc,hv,q⟩:=m1.open;cases hv;refine av rfl ?_;refine br func84 2 rfl ?_;refine xp rfl (aj.aJ underlying93 rfl) ?_;refine aQ 1 [0,3,4,9] rfl ?_;refine aL rfl rfl (fun hlt=>?_) (fun hlt=>?_)
 · have hi10:i<10:=by omega
   obtain⟨b,o,x,ha,_,hx,hc⟩:=q.at hi10;cases ha;refine aE rfl ?_;refine av rfl ?_;refine G.block rfl rfl ?_;refine br func84 3 rfl ?_;refine xp rfl (aj.ay underlying93 H.dA rfl rfl i rfl rfl (by omega)) ?_;refine xp rfl (ah H.dO rfl hc) ?_;refine xp rfl (aj.cI rfl rfl) ?_;refine xd [0,3,4,9,17] rfl ?_;refine aL rfl rfl (fun he=>?_) (fun he=>?_)
   · have he':x=s:=(dx he).symm;refine aW func84 1 [0,2,3,4,9,17] rfl ?_;refine G.ret func84 rfl rfl ?_;exact⟨_,rfl,by rw[List.contains_iff_mem.2 (he'▸List.mem_of_getElem? hx)];rfl,e1⟩
   · have he':x≠s:=fun k=>he (by rw[k])
     have hnext:∀j w,j<i+1→i≤j→pI[j]? =some w→w≠s:=fun j w h1 h2 hw=>by
      obtain rfl:j=i:=by omega
      rw[hx] at hw;cases hw;exact he'
     refine aE rfl ?_;refine G.aN ?_;refine G.bT func84 rfl ?_;refine bP 1 rfl rfl (aj.bA rfl rfl ⟨by omega,by omega⟩) ?_;refine aQ 1 [0,3,4,9,17] rfl ?_;exact ih (i+1) _ _ ⟨rfl,rfl,rfl,trivial⟩ ⟨hgq,by omega,fun j w hj hw=>by rcases Nat.lt_or_ge j i with k|k;exact hin j w k hw;exact hnext j w hj k hw⟩ (by omega)
 · obtain rfl:i=10:=by omega
   refine bz rfl rfl ?_;refine aW func84 1 [0,2,3,4,9] rfl ?_;refine G.ret func84 rfl rfl ?_;exact⟨_,rfl,by rw[show pI.contains s=false from by rw[←Bool.not_eq_true,List.contains_iff_mem];intro hm;obtain⟨j,hj,hjs⟩:=List.getElem_of_mem hm;exact hin j s (show j<10 from hj) (by rw[List.getElem?_eq_getElem hj,hjs]) rfl];rfl,e1⟩
theorem Es (c:UInt8) (r:By):dw (c::r)=if jC c=true then dw r+1 else 0:=by
 unfold dw;rw[List.takeWhile_cons];split<;>rfl
theorem tC (s:By):dw s≤s.length:=by have:=A9 s;omega
theorem Dd {n:Nat}(h:s[n]? =some c):dw (s.drop n)=if jC c=true then dw (s.drop (n+1))+1 else 0:=by
 rw[drop_cons h,Es]
theorem ei (s:By) (hs:s.length≤1000000):ai Tryz.prog 102 #[.string (bs s)] h (cL fun r h'=>r= .int .i64 (dw s:Nat)∧h'=h):=by
 have hbz:=bp s;refine ai.of func102 rfl rfl ?_;refine aW func102 1 [0,2] rfl ?_;refine aW func102 1 [0,2,3] rfl ?_;refine av rfl ?_;refine G.block rfl rfl ?_;refine bE (σ:=Nat) (fun n=>[(0,.string (bs s)),(3,.int .i64 (n:Nat))]) (fun n g=>g=h∧n≤s.length∧dw s=n+dw (s.drop n)) (fun n=>s.length-n) (0) rfl ⟨rfl,rfl,trivial⟩ ⟨rfl,Nat.zero_le _,by rw[List.drop_zero,Nat.zero_add]⟩ ?_;rintro n g ⟨rfl,hn,hd⟩ ih;refine av rfl ?_;refine av rfl ?_;refine G.bD [(19,.bool (decide (0<dw (s.drop n))))] [(0,_),(3,_)] ⟨rfl,rfl,trivial⟩ func102 rfl ?_ ?_
 · refine bP 2 rfl rfl (aj.bG underlying9 rfl) ?_;refine aT 2 rfl ?_;refine aH (d:=8) rfl (fun a=>?_) (fun a=>?_)
   · have a:n<s.length:=by have:=of_decide_eq_true a;omega
     obtain⟨c,hc⟩:∃c,s[n]? =some c:=⟨_,List.getElem?_eq_getElem a⟩
     have hdc:=Dd hc;rw[ri] at hdc;refine bP 2 rfl rfl (aj.cm underlying9 rfl rfl n rfl (eF hc)) ?_;refine aT 3 rfl ?_;refine aH (d:=14) rfl (fun b=>?_) (fun b=>?_)
     · have b:=of_decide_eq_true b;refine bP 2 rfl rfl (aj.cm underlying9 rfl rfl n rfl (eF hc)) ?_;refine aT 2 rfl ?_;refine az rfl ?_;exact⟨rfl,aA rfl (by rw[hdc,decide_eq_decide];simp only[decide_eq_true_eq];split<;>omega),rfl,rfl,trivial⟩
     · have b:=of_decide_eq_false b;refine aT 5 rfl ?_;refine az rfl ?_;exact⟨rfl,aA rfl (by rw[hdc,if_neg (by simp only[decide_eq_true_eq];omega)];rfl),rfl,rfl,trivial⟩
   · have a:s.drop n=[]:=List.drop_eq_nil_of_le (by have:=of_decide_eq_false a;omega);refine aT 11 rfl ?_;refine az rfl ?_;exact⟨rfl,aA rfl (by rw[a];rfl),rfl,rfl,trivial⟩
 · refine aL rfl rfl (fun hp=>?_) (fun hp=>?_)
   · have hlt:n<s.length:=by
      rcases Nat.lt_or_ge n s.length with q|q
      · exact q
      · rw[List.drop_eq_nil_of_le q] at hp;exact absurd hp (by decide)
     obtain⟨c,hc⟩:∃c,s[n]? =some c:=⟨_,List.getElem?_eq_getElem hlt⟩
     have hdc:=Dd hc
     have hdc2:dw (s.drop n)=dw (s.drop (n+1))+1:=by
      split at hdc
      · exact hdc
      · omega
     refine aE rfl ?_;refine G.block rfl rfl ?_;refine G.bT func102 rfl ?_;refine bP 1 rfl rfl (aj.bA rfl rfl ⟨by omega,by omega⟩) ?_;refine aQ 1 [0,3,19] rfl ?_;refine G.aN ?_;exact ih (n+1) _ _ ⟨rfl,rfl,trivial⟩ ⟨rfl,hlt,by omega⟩ (by omega)
   · refine bz rfl rfl ?_;refine aW func102 2 [0,2,3,19] rfl ?_;refine G.ret func102 rfl rfl ?_;exact⟨_,rfl,by rw[hd,show dw (s.drop n)=0 by omega];rfl,rfl⟩
def xA (s:By):Bool:=match s with|c::r=>decide (c=46) && decide (0<dw r)| []=>false
theorem Ga (s:By):xy s=if xA s=true then (s.drop 1).drop (dw (s.drop 1)) else s:=by
 cases s with
 |nil=>rfl
 |cons c r=>unfold xy xA;simp only[Bool.and_eq_true,decide_eq_true_eq];rfl
def zL (s:By) (a b:UInt8):Bool:=decide (1<s.length) && jD s a b
theorem Hv (s:By):yQ s=if zL s 101 69=true then (if 0<dw (nY (s.drop 1)) then (nY (s.drop 1)).drop (dw (nY (s.drop 1))) else s) else s:=by
 match s with
 | []=>rfl
 | [c]=>rfl
 |c::d::r =>
  unfold yQ zL jD;have hl:decide (1<(c::d::r).length)=true:=decide_eq_true (by simp);simp only[hl,Bool.true_and,Bool.or_eq_true,decide_eq_true_eq,List.drop_succ_cons,List.drop_zero]
  by_cases h1:c=101∨c=69
  · rw[if_pos h1]
    by_cases h2:0<dw (nY (d::r))
    · rw[if_pos ⟨h1,h2⟩,if_pos h2]
    · rw[if_neg (fun q=>h2 q.2),if_neg h2]
  · rw[if_neg (fun q=>h1 q.1),if_neg h1]
theorem E6 (s:By):nY s=if jD s 43 45=true then s.drop 1 else s:=by
 cases s with
 |nil=>rfl
 |cons c r=>unfold nY jD;simp only[Bool.or_eq_true,decide_eq_true_eq,List.drop_succ_cons,List.drop_zero]
theorem xX (h:1<s.length):∃c d r,s=c::d::r:=by
 match s,h with
 |c::d::r,_=>exact⟨c,d,r,rfl⟩
theorem kI (s:By):s.isEmpty=decide (s=[]):=by cases s<;>rfl
theorem yy (s:By) (hs:s.length≤1000000):ai Tryz.prog 56 #[.string (bs s)] h (cL fun r h'=>r= .bool (BX s)∧h'=h):=by
 rw[He];have hbz:=bp s;have hdl:=tC s;refine ai.of func56 rfl rfl ?_;refine aW func56 1 [0,2] rfl ?_;refine br func56 1 rfl ?_;refine xo rfl (aq (vs:=[_]) func102 rfl H.uo rfl (ai.bw (ei s hs))) ?_;rintro _ h1 ⟨rfl,hh1⟩;subst hh1;refine aQ 1 [0,2,3] rfl ?_;refine av rfl ?_;refine aW func56 2 [0,2,3,8] rfl ?_;refine aL rfl rfl (fun h0=>?_) (fun h0=>?_)
 · refine aW func56 1 [0,2,3,8] rfl ?_;refine G.ret func56 rfl rfl ?_;exact⟨_,rfl,by unfold Fy;rw[decide_eq_false (by omega)];rfl,rfl⟩
 · have hn:Fy s=(yQ (xy (s.drop (dw s)))).isEmpty:=by unfold Fy;rw[decide_eq_true (by omega),Bool.true_and]
   rw[hn];refine aE rfl ?_;refine br func56 2 rfl ?_;refine xp rfl (aj.cP underlying9 rfl rfl (dw s) rfl (by omega)) ?_;rw[fm];obtain⟨s1,hs1⟩:∃s1,s1=s.drop (dw s):=⟨_,rfl⟩
   have hl1:s1.length≤s.length:=by rw[hs1,List.length_drop];omega
   rw[←hs1,Ga];have hz1:=bp s1;refine aQ 1 [0,2,3,8] rfl ?_;refine av rfl ?_;refine av rfl ?_;refine G.bD [(25,.bool (xA s1))] [(0,_),(2,_),(3,_),(8,_)] ⟨rfl,rfl,rfl,rfl,trivial⟩ func56 rfl ?_ ?_
   · refine bP 1 rfl rfl (aj.bG underlying9 rfl) ?_;refine aT 2 rfl ?_;refine aH (d:=15) rfl (fun a=>?_) (fun a=>?_)
     · have a:1<s1.length:=by have:=of_decide_eq_true a;omega
       obtain⟨c,d,r,rfl⟩:=xX a;refine bP 1 rfl rfl (aj.cm underlying9 rfl rfl 0 rfl (eF (l:=c::d::r) rfl)) ?_;refine aT 3 rfl ?_;refine aH (d:=20) rfl (fun b=>?_) (fun b=>?_)
       · have b:c=46:=by have b:=of_decide_eq_true b;exact UInt8.toNat_inj.1 (Int.ofNat.inj b)
         refine bP 1 rfl rfl (aj.cP underlying9 rfl rfl 1 rfl (by omega)) ?_;rw[fm];refine xo rfl (aq (vs:=[_]) func102 rfl H.uo rfl (ai.bw (ei ((c::d::r).drop 1) (by simp at hl1 ⊢;omega)))) ?_;rintro _ h2 ⟨rfl,hh2⟩;subst hh2;refine aT 2 rfl ?_;refine az rfl ?_;exact⟨rfl,aA rfl (by show _=(decide (c=46) && decide (0<dw (d::r)));rw[decide_eq_true b,Bool.true_and,decide_eq_decide];show (0:Int)<((dw (d::r):Nat):Int)↔_;omega),rfl,rfl,rfl,rfl,trivial⟩
       · have b:¬c=46:=fun q=>of_decide_eq_false b (by rw[q];rfl)
         refine aT 5 rfl ?_;refine az rfl ?_;exact⟨rfl,aA rfl (by show _=(decide (c=46) && _);rw[decide_eq_false b];rfl),rfl,rfl,rfl,rfl,trivial⟩
     · have a:¬1<s1.length:=by have:=of_decide_eq_false a;omega
       refine aT 10 rfl ?_;refine az rfl ?_;exact⟨rfl,aA rfl (by match s1,a with| [],_=>rfl| [c],_=>(show _=(decide (c=46) && decide (0<dw [])));simp[dw] |c::d::r,a=>(simp at a)),rfl,rfl,rfl,rfl,trivial⟩
   · have fin:∀(s2:By) (h':aD) (ρ':Env),Sub [(0,.string (bs s2))] ρ'→h'=h1→s2.length≤s.length→(if xA s1=true then (s1.drop 1).drop (dw (s1.drop 1)) else s1)=s2→G Tryz.prog 56 f56 [.code [1,1,1,1,1]] ρ' h' (cL fun r h'=>r= .bool (yQ (if xA s1=true then (s1.drop 1).drop (dw (s1.drop 1)) else s1)).isEmpty∧h'=h1):=by
      rintro s2 h3 ρ' hsub rfl hl2 he;rw[he,Hv];have hz2:=bp s2;refine G.sub (ρ':=[(0,.string (bs s2))]) hsub ?_;refine av rfl ?_;refine av rfl ?_;refine G.bD [(44,.bool (zL s2 101 69))] [(0,_)] ⟨rfl,trivial⟩ func56 rfl ?_ ?_
      · refine bP 1 rfl rfl (aj.bG underlying9 rfl) ?_;refine aT 2 rfl ?_;refine aH (d:=35) rfl (fun a=>?_) (fun a=>?_)
        · have a:1<s2.length:=by have:=of_decide_eq_true a;omega
          obtain⟨c,d,r,rfl⟩:=xX a;refine bP 1 rfl rfl (aj.cm underlying9 rfl rfl 0 rfl (eF (l:=c::d::r) rfl)) ?_;refine aT 2 rfl ?_;refine aH (d:=39) rfl (fun b=>?_) (fun b=>?_)
          · refine aT 5 rfl ?_;refine az rfl ?_;exact⟨rfl,aA rfl (by show _=(decide (1<(c::d::r).length) && (decide (c=101) ||decide (c=69)));rw[decide_eq_true a,←fK c 101,←fK c 69,show (((101:UInt8).toNat:Nat):Int)=101 from rfl,b];rfl),rfl,trivial⟩
          · refine bP 1 rfl rfl (aj.cm underlying9 rfl rfl 0 rfl (eF (l:=c::d::r) rfl)) ?_;refine aT 3 rfl ?_;refine az rfl ?_;exact⟨rfl,aA rfl (by show _=(decide (1<(c::d::r).length) && (decide (c=101) ||decide (c=69)));rw[decide_eq_true a,←fK c 101,←fK c 69,show (((101:UInt8).toNat:Nat):Int)=101 from rfl,b];rfl),rfl,trivial⟩
        · have a:¬1<s2.length:=by have:=of_decide_eq_false a;omega
          refine aT 9 rfl ?_;refine az rfl ?_;exact⟨rfl,aA rfl (by unfold zL;rw[decide_eq_false a];rfl),rfl,trivial⟩
      · refine aI rfl rfl (fun hq=>?_) (fun hq=>?_)
        · rw[if_pos hq];have hlt:1<s2.length:=by unfold zL at hq;rw[Bool.and_eq_true,decide_eq_true_iff] at hq;exact hq.1
          obtain⟨c,d,r,rfl⟩:=xX hlt;refine br func56 1 rfl ?_;refine xp rfl (aj.cP underlying9 rfl rfl 1 rfl (by omega)) ?_;rw[fm];rw[E6];have hz3:=bp (d::r);have hl3:(c::d::r).length=(d::r).length+1:=rfl;have hd1:(c::d::r).drop 1=d::r:=rfl;rw[hd1];refine aQ 1 [0,4,44] rfl ?_;refine av rfl ?_;refine av rfl ?_;refine G.bD [(54,.bool (jD (d::r) 43 45))] [(0,_),(4,_),(44,_)] ⟨rfl,rfl,rfl,trivial⟩ func56 rfl ?_ ?_
          · refine bP 1 rfl rfl (aj.cm underlying9 rfl rfl 0 rfl (eF (l:=d::r) rfl)) ?_;refine aT 2 rfl ?_;refine aH (d:=50) rfl (fun b=>?_) (fun b=>?_)
            · refine aT 4 rfl ?_;refine az rfl ?_;exact⟨rfl,aA rfl (by show _=(decide (d=43) ||decide (d=45));rw[←fK d 43,←fK d 45,show (((43:UInt8).toNat:Nat):Int)=43 from rfl,b];rfl),rfl,rfl,rfl,trivial⟩
            · refine bP 1 rfl rfl (aj.cm underlying9 rfl rfl 0 rfl (eF (l:=d::r) rfl)) ?_;refine aT 2 rfl ?_;refine az rfl ?_;exact⟨rfl,aA rfl (by show _=(decide (d=43) ||decide (d=45));rw[←fK d 43,←fK d 45,show (((43:UInt8).toNat:Nat):Int)=43 from rfl,b];rfl),rfl,rfl,rfl,trivial⟩
          · refine aI rfl rfl (fun hg=>?_) (fun hg=>?_)
            · rw[if_pos hg];refine G.bT func56 rfl ?_;refine bP 1 rfl rfl (aj.cP underlying9 rfl rfl 1 rfl (by rw[hz3];simp)) ?_;rw[fm];refine aQ 1 [0,4,44,54] rfl ?_;refine br func56 1 rfl ?_;refine xo rfl (aq (vs:=[_]) func102 rfl H.uo rfl (ai.bw (ei ((d::r).drop 1) (by rw[List.length_drop];omega)))) ?_;rintro _ h7 ⟨rfl,hh7⟩;subst hh7;refine aQ 1 [0,4,44,54,59] rfl ?_;refine aL rfl rfl (fun hdg=>?_) (fun hdg=>?_)
              · have hdg:0<dw ((d::r).drop 1):=by omega
                rw[if_pos hdg];refine G.bT func56 rfl ?_;refine aT 2 rfl ?_;refine xo rfl (aq (vs:=[_]) func102 rfl H.uo rfl (ai.bw (ei ((d::r).drop 1) (by rw[List.length_drop];omega)))) ?_;rintro _ h8 ⟨rfl,hh8⟩;subst hh8;refine xp rfl (aj.cP underlying9 rfl rfl (dw ((d::r).drop 1)) rfl (by have:=tC ((d::r).drop 1);rw[bp];omega)) ?_;rw[fm];refine aQ 1 [0,4,44,54,59] rfl ?_;refine br func56 1 rfl ?_;refine xp rfl (aj.cI rfl rfl) ?_;refine aQ 1 [0,2,4,44,54,59] rfl ?_;refine G.ret func56 rfl rfl ?_;exact⟨_,rfl,by show Value.bool _=_;rw[kI,←jV],rfl⟩
              · have hdg:¬0<dw ((d::r).drop 1):=by omega
                rw[if_neg hdg];refine aE rfl ?_;refine br func56 1 rfl ?_;refine xp rfl (aj.cI rfl rfl) ?_;refine aQ 1 [0,2,4,44,54,59] rfl ?_;refine G.ret func56 rfl rfl ?_;exact⟨_,rfl,by show Value.bool _=_;rw[kI,←jV],rfl⟩
            · rw[if_neg (show ¬jD (d::r) 43 45=true by rw[hg];decide)];refine aE rfl ?_;refine br func56 1 rfl ?_;refine xo rfl (aq (vs:=[_]) func102 rfl H.uo rfl (ai.bw (ei (d::r) (by omega)))) ?_;rintro _ h7 ⟨rfl,hh7⟩;subst hh7;refine aQ 1 [0,4,44,54,59] rfl ?_;refine aL rfl rfl (fun hdg=>?_) (fun hdg=>?_)
              · have hdg:0<dw (d::r):=by omega
                rw[if_pos hdg];refine G.bT func56 rfl ?_;refine aT 2 rfl ?_;refine xo rfl (aq (vs:=[_]) func102 rfl H.uo rfl (ai.bw (ei (d::r) (by omega)))) ?_;rintro _ h8 ⟨rfl,hh8⟩;subst hh8;refine xp rfl (aj.cP underlying9 rfl rfl (dw (d::r)) rfl (by have:=tC (d::r);rw[bp];omega)) ?_;rw[fm];refine aQ 1 [0,4,44,54,59] rfl ?_;refine br func56 1 rfl ?_;refine xp rfl (aj.cI rfl rfl) ?_;refine aQ 1 [0,2,4,44,54,59] rfl ?_;refine G.ret func56 rfl rfl ?_;exact⟨_,rfl,by show Value.bool _=_;rw[kI,←jV],rfl⟩
              · have hdg:¬0<dw (d::r):=by omega
                rw[if_neg hdg];refine aE rfl ?_;refine br func56 1 rfl ?_;refine xp rfl (aj.cI rfl rfl) ?_;refine aQ 1 [0,2,4,44,54,59] rfl ?_;refine G.ret func56 rfl rfl ?_;exact⟨_,rfl,by show Value.bool _=_;rw[kI,←jV],rfl⟩
        · rw[if_neg (by rw[hq];decide)];refine aE rfl ?_;refine br func56 1 rfl ?_;refine xp rfl (aj.cI rfl rfl) ?_;refine aQ 1 [0,2,44] rfl ?_;refine G.ret func56 rfl rfl ?_;exact⟨_,rfl,by show Value.bool _=_;rw[kI,←jV],rfl⟩
     refine aI rfl rfl (fun hp=>?_) (fun hp=>?_)
     · have hlt:1≤s1.length:=by cases s1 with|nil=>simp[xA] at hp|cons c r=>simp
       have hdl2:=tC (s1.drop 1);rw[List.length_drop] at hdl2;refine G.bT func56 rfl ?_;refine bP 2 rfl rfl (aj.cP underlying9 rfl rfl 1 rfl (by omega)) ?_;rw[fm];refine xo rfl (aq (vs:=[_]) func102 rfl H.uo rfl (ai.bw (ei (s1.drop 1) (by rw[List.length_drop];omega)))) ?_;rintro _ h2 ⟨rfl,hh2⟩;subst hh2;refine xp rfl (aj.bA rfl rfl ⟨by omega,by omega⟩) ?_;refine xp rfl (aj.cP underlying9 rfl rfl (1+dw (s1.drop 1)) (by omega) (by omega)) ?_;rw[fm];refine aQ 1 [0,2,3,8,25] rfl ?_;exact fin _ _ _ ⟨rfl,trivial⟩ rfl (by rw[List.length_drop];omega) (by rw[if_pos hp,List.drop_drop])
     · refine aE rfl ?_;exact fin _ _ _ ⟨rfl,trivial⟩ rfl hl1 (if_neg (by rw[hp];decide))
theorem Lt (c:UInt8):IntKind.u8.wrap ((BitVec.ofInt IntKind.u8.bits (c.toNat:Int) |||BitVec.ofInt IntKind.u8.bits 32).toNat:Int)=((c ||| 32).toNat:Int):=by
 have k:∀n:Fin 256,IntKind.u8.wrap ((BitVec.ofInt IntKind.u8.bits ((UInt8.ofFin n).toNat:Int) |||BitVec.ofInt IntKind.u8.bits 32).toNat:Int)=((UInt8.ofFin n ||| 32).toNat:Int):=by decide +kernel
 exact k c.toFin
theorem G8 (n:Nat) (c:UInt8):wS n c=decide (((97≤(c ||| 32).toNat∧(c ||| 32).toNat≤122)∨c.toNat=95)∨(n≠0∧48≤c.toNat∧c.toNat≤57)):=by
 have k:∀n:Fin 256,isLet (UInt8.ofFin n)=decide ((97≤(UInt8.ofFin n ||| 32).toNat∧(UInt8.ofFin n ||| 32).toNat≤122)∨(UInt8.ofFin n).toNat=95):=by unfold isLet;decide +kernel
 have k2:isLet c=decide ((97≤(c ||| 32).toNat∧(c ||| 32).toNat≤122)∨c.toNat=95):=k c.toFin;unfold wS;rw[k2,ri,Bool.eq_iff_iff];simp only[Bool.or_eq_true,Bool.and_eq_true,decide_eq_true_eq]
theorem mF (s:By) (hs:s.length≤1000000):ai Tryz.prog 57 #[.string (bs s)] h (cL fun r h'=>r= .bool (lA bX s)∧aF h h'):=by
 have hbz:=bp s;refine ai.of func57 rfl rfl ?_;refine aW func57 1 [0,2] rfl ?_;refine av rfl ?_;refine aW func57 1 [0,2,3] rfl ?_;refine G.block rfl rfl ?_;refine bE (σ:=Nat) (fun i=>[(0,.string (bs s)),(3,.int .i64 (i:Nat))]) (fun i g=>g=h∧i≤s.length∧∀j c,j<i→s[j]? =some c→wS j c=true) (fun i=>s.length-i) (0) rfl ⟨rfl,rfl,trivial⟩ ⟨rfl,Nat.zero_le _,fun j c q=>by omega⟩ ?_;rintro i g ⟨rfl,hi,hin⟩ ih;refine av rfl ?_;refine br func57 2 rfl ?_;refine xp rfl (aj.bG underlying9 rfl) ?_;refine aQ 1 [0,3,9] rfl ?_;refine aL rfl rfl (fun hlt=>?_) (fun hlt=>?_)
 · have hil:i<s.length:=by omega
   obtain⟨c,hc⟩:∃c,s[i]? =some c:=⟨_,List.getElem?_eq_getElem hil⟩
   have hok:=G8 i c;refine aE rfl ?_;refine av rfl ?_;refine G.block rfl rfl ?_;refine br func57 2 rfl ?_;refine xp rfl (aj.cm underlying9 rfl rfl i rfl (eF hc)) ?_;refine aQ 1 [0,3,4,9] rfl ?_;refine br func57 1 rfl ?_;refine xp rfl (aj.tE rfl rfl) ?_;refine aQ 1 [0,3,4,5,9] rfl ?_;refine av rfl ?_;rw[Lt];obtain⟨L,hL⟩:∃L,L=(c ||| 32).toNat:=⟨_,rfl⟩
   rw[←hL] at hok ⊢;refine G.bD [(39,.bool (!wS i c))] [(0,_),(3,_),(4,_),(5,_),(9,_)] ⟨rfl,rfl,rfl,rfl,rfl,trivial⟩ func57 rfl ?_ ?_
   · rw[hok];refine aT 3 rfl ?_;refine aH (d:=19) rfl (fun a=>?_) (fun a=>?_)
     · have a:=of_decide_eq_true a;refine aT 4 rfl ?_;refine aH (d:=23) rfl (fun b=>?_) (fun b=>?_)
       · have b:=of_decide_eq_true b;refine aT 16 rfl ?_;refine az rfl ?_;exact⟨rfl,aA rfl (by rw[decide_eq_true (by omega)]<;>rfl),rfl,rfl,rfl,rfl,rfl,trivial⟩
       · have b:=of_decide_eq_false b;refine aT 4 rfl ?_;refine aH (d:=27) rfl (fun u=>?_) (fun u=>?_)
         · have u:=of_decide_eq_true u;refine aT 12 rfl ?_;refine az rfl ?_;exact⟨rfl,aA rfl (by rw[decide_eq_true (by omega)]<;>rfl),rfl,rfl,rfl,rfl,rfl,trivial⟩
         · have u:=of_decide_eq_false u;refine aT 3 rfl ?_;refine aH (d:=30) rfl (fun z=>?_) (fun z=>?_)
           · have z:=of_decide_eq_true z;refine aT 4 rfl ?_;refine aH (d:=34) rfl (fun d=>?_) (fun d=>?_)
             · have d:=of_decide_eq_true d;refine aT 5 rfl ?_;refine az rfl ?_;exact⟨rfl,aA rfl (by rw[←decide_not,←decide_not,decide_eq_decide];omega),rfl,rfl,rfl,rfl,rfl,trivial⟩
             · have d:=of_decide_eq_false d;refine aT 5 rfl ?_;refine az rfl ?_;exact⟨rfl,aA rfl (by rw[decide_eq_false (by omega)]<;>rfl),rfl,rfl,rfl,rfl,rfl,trivial⟩
           · have z:=of_decide_eq_false z;refine aT 9 rfl ?_;refine az rfl ?_;exact⟨rfl,aA rfl (by rw[decide_eq_false (by omega)]<;>rfl),rfl,rfl,rfl,rfl,rfl,trivial⟩
     · have a:=of_decide_eq_false a;refine aT 8 rfl ?_;refine aH (d:=27) rfl (fun u=>?_) (fun u=>?_)
       · have u:=of_decide_eq_true u;refine aT 12 rfl ?_;refine az rfl ?_;exact⟨rfl,aA rfl (by rw[decide_eq_true (by omega)]<;>rfl),rfl,rfl,rfl,rfl,rfl,trivial⟩
       · have u:=of_decide_eq_false u;refine aT 3 rfl ?_;refine aH (d:=30) rfl (fun z=>?_) (fun z=>?_)
         · have z:=of_decide_eq_true z;refine aT 4 rfl ?_;refine aH (d:=34) rfl (fun d=>?_) (fun d=>?_)
           · have d:=of_decide_eq_true d;refine aT 5 rfl ?_;refine az rfl ?_;exact⟨rfl,aA rfl (by rw[←decide_not,←decide_not,decide_eq_decide];omega),rfl,rfl,rfl,rfl,rfl,trivial⟩
           · have d:=of_decide_eq_false d;refine aT 5 rfl ?_;refine az rfl ?_;exact⟨rfl,aA rfl (by rw[decide_eq_false (by omega)]<;>rfl),rfl,rfl,rfl,rfl,rfl,trivial⟩
         · have z:=of_decide_eq_false z;refine aT 9 rfl ?_;refine az rfl ?_;exact⟨rfl,aA rfl (by rw[decide_eq_false (by omega)]<;>rfl),rfl,rfl,rfl,rfl,rfl,trivial⟩
   · refine aI rfl rfl (fun hb=>?_) (fun hb=>?_)
     · have hb:wS i c=false:=by simpa using hb
       refine aW func57 1 [0,2,3,4,5,9,39] rfl ?_;refine G.ret func57 rfl rfl ?_;exact⟨_,rfl,by rw[AA bX hc hb];rfl,Ext.refl _ _⟩
     · have hb:wS i c=true:=by simpa using hb
       refine aE rfl ?_;refine G.aN ?_;refine G.bT func57 rfl ?_;refine bP 1 rfl rfl (aj.bA rfl rfl ⟨by omega,by omega⟩) ?_;refine aQ 1 [0,3,4,5,9,39] rfl ?_;exact ih (i+1) _ _ ⟨rfl,rfl,trivial⟩ ⟨rfl,hil,fun j d hj hd=>(Nat.lt_succ_iff_lt_or_eq.1 hj).elim (fun q=>hin j d q hd) (fun q=>by subst q;rw[hc] at hd;cases hd;exact hb)⟩ (by omega)
 · refine bz rfl rfl ?_;refine av rfl ?_;refine G.mH (fun(u:Unit) (h':aD)=>aF g h') (fun(u:Unit)=>[(2,.bool (lA bX s))]) [(0,_),(3,_),(9,_)] ⟨rfl,rfl,rfl,trivial⟩ func57 rfl ?_ ?_
   · refine bP 1 rfl rfl (aj.bG underlying9 rfl) ?_;refine aT 2 rfl ?_;refine aH (d:=43) rfl (fun a=>?_) (fun a=>?_)
     · have h0:s≠[]:=fun q=>by rw[q] at a;exact absurd (of_decide_eq_true a) (by decide)
       refine aT 1 rfl ?_;refine xo rfl (aq (vs:=[_]) func84 rfl H.LB rfl (ai.bw (zF s))) ?_;rintro _ g1 ⟨rfl,e1⟩;refine aT 3 rfl ?_;refine az rfl ?_;exact⟨(),e1,aA rfl (by rw[wX bX h0 (fun j c hj=>hin j c (by have:=(List.getElem?_eq_some_iff.1 hj).1;omega) hj)]),rfl,rfl,rfl,trivial⟩
     · have h0:s=[]:=List.eq_nil_of_length_eq_zero (by have:=of_decide_eq_false a;omega);refine aT 5 rfl ?_;refine az rfl ?_;exact⟨(),Ext.refl _ _,aA rfl (by rw[h0,wV]),rfl,rfl,rfl,trivial⟩
   · rintro u g1 e1;refine G.ret func57 rfl rfl ?_;exact⟨_,rfl,rfl,e1⟩
def jf (k:Int):Int:=[0,0,0,0,1,2,3,-1,1,2,-2].getD k.toNat 0
theorem Am (k:Int) (hk:0≤k∧k≤10):ai Tryz.prog 34 #[.int .i64 k] h (cL fun r h'=>r= .int .i64 (jf k)∧h'=h):=by
 obtain⟨n,rfl⟩:∃n:Nat,k=n:=⟨k.toNat,by omega⟩
 have hn:n<11:=by omega
 have hv:(#[Value.int .i64 0,.int .i64 0,.int .i64 0,.int .i64 0,.int .i64 1,.int .i64 2,.int .i64 3,.int .i64 (-1),.int .i64 1,.int .i64 2,.int .i64 (-2)]:Array Value)[n]? =some (.int .i64 (jf n)):=by
  match n,hn with
  | 0,_=>rfl
  | 1,_=>rfl
  | 2,_=>rfl
  | 3,_=>rfl
  | 4,_=>rfl
  | 5,_=>rfl
  | 6,_=>rfl
  | 7,_=>rfl
  | 8,_=>rfl
  | 9,_=>rfl
  | 10,_=>rfl
 refine ai.of func34 rfl rfl ?_;refine aW func34 1 [0,2] rfl ?_;refine xr func34 rfl ?_;refine xp rfl (aP (H.iB _ _ _ _ _ _ _ _ _ _ _) rfl) ?_;refine bP 1 rfl rfl (aj.qp underlying115 H.bY H.cG rfl rfl n rfl hn hv) ?_;refine aQ 1 [0,2] rfl ?_;refine G.ret func34 rfl rfl ?_;exact⟨_,rfl,rfl,rfl⟩
theorem Gs:∀v∈nh.map lG,v.oneCell'=true:=fun v hv=>by obtain⟨x,_,rfl⟩:=List.mem_map.1 hv;rfl
theorem BI (k:Int) (t:By) (ht:t.length≤1000000):ai Tryz.prog 33 #[.int .i64 k,.string (bs t)] h (cL fun r h'=>r= .bool (cY bX k t)∧aF h h'):=by
 have hbz:=bp t;refine ai.of func33 rfl rfl ?_;refine aW func33 1 [0,1,4] rfl ?_;refine av rfl ?_;refine aW func33 1 [0,1,4,7] rfl ?_;refine G.block rfl rfl ?_;refine aW func33 2 [0,1,4,7,8] rfl ?_;refine aL rfl rfl (fun c0=>?_) (fun c0=>?_)
 · refine br func33 1 rfl ?_;refine xo rfl (aq (vs:=[_]) func56 rfl H.LQ rfl (ai.bw (yy t ht))) ?_;rintro _ h1 ⟨rfl,hh1⟩;refine aQ 1 [0,1,4,7,8] rfl ?_;refine G.ret func33 rfl rfl ?_;exact⟨_,rfl,by unfold cY;rw[if_pos c0];rfl,by rw[hh1];exact Ext.refl _ _⟩
 · refine aW func33 2 [0,1,4,7,8,12] rfl ?_;refine aL rfl rfl (fun c1=>?_) (fun c1=>?_)
   · refine br func33 1 rfl ?_;refine xp rfl (aj.bG underlying9 rfl) ?_;refine aQ 2 [0,1,4,7,8,12] rfl ?_;refine G.ret func33 rfl rfl ?_;exact⟨_,rfl,by unfold cY;rw[if_neg c0,if_pos c1];show Value.bool _=_;rw[hbz];simp only[Value.bool.injEq,decide_eq_decide];omega,Ext.refl _ _⟩
   · refine aW func33 2 [0,1,4,7,8,12,17] rfl ?_;refine aL rfl rfl (fun c2=>?_) (fun c2=>?_)
     · refine av rfl ?_;refine G.bD [(4,.bool (decide (t=iS) ||decide (t=kZ)))] [(0,_),(1,_),(7,_),(8,_),(12,_),(17,_)] ⟨rfl,rfl,rfl,rfl,rfl,rfl,trivial⟩ func33 rfl ?_ ?_
       · refine bP 1 rfl rfl (aj.cI rfl rfl) ?_;refine aT 1 rfl ?_;refine aH (d:=21) rfl (fun g=>?_) (fun g=>?_)
         · have g:t=iS:=dx (m:=iS) (of_decide_eq_true g);refine aT 4 rfl ?_;refine az rfl ?_;exact⟨rfl,aA rfl (by rw[decide_eq_true g];rfl),rfl,rfl,rfl,rfl,rfl,rfl,trivial⟩
         · have g:¬t=iS:=fun q=>of_decide_eq_false g (by rw[q];rfl)
           refine bP 1 rfl rfl (aj.cI rfl rfl) ?_;refine aT 2 rfl ?_;refine az rfl ?_;exact⟨rfl,aA rfl (by rw[decide_eq_false g,Bool.false_or];exact Dg t kZ),rfl,rfl,rfl,rfl,rfl,rfl,trivial⟩
       · refine G.ret func33 rfl rfl ?_;exact⟨_,rfl,by unfold cY;rw[if_neg c0,if_neg c1,if_pos c2];rfl,Ext.refl _ _⟩
     · refine av rfl ?_;refine aW func33 2 [0,1,4,7,8,12,17,25] rfl ?_;refine aL rfl rfl (fun c3=>?_) (fun c3=>?_)
       · refine aE rfl ?_;refine aI rfl rfl (fun _=>?_) (fun hc=>absurd hc (by simp[c3]));refine br func33 1 rfl ?_;refine xo rfl (aq (vs:=[_]) func57 rfl H.I1 rfl (ai.bw (mF t ht))) ?_;rintro _ h3 ⟨rfl,e3⟩;refine aQ 1 [0,1,4,7,8,12,17,25] rfl ?_;refine G.ret func33 rfl rfl ?_;exact⟨_,rfl,by unfold cY;rw[if_neg c0,if_neg c1,if_neg c2,if_pos (.inl c3)];rfl,e3⟩
       · refine aW func33 2 [0,1,4,7,8,12,17,25] rfl ?_;refine aL rfl rfl (fun c7=>?_) (fun c7=>?_)
         · refine aE rfl ?_;refine aI rfl rfl (fun _=>?_) (fun hc=>absurd hc (by simp[c7]));refine br func33 1 rfl ?_;refine xo rfl (aq (vs:=[_]) func57 rfl H.I1 rfl (ai.bw (mF t ht))) ?_;rintro _ h3 ⟨rfl,e3⟩;refine aQ 1 [0,1,4,7,8,12,17,25] rfl ?_;refine G.ret func33 rfl rfl ?_;exact⟨_,rfl,by unfold cY;rw[if_neg c0,if_neg c1,if_neg c2,if_pos (.inr (.inl c7))];rfl,e3⟩
         · refine G.bT func33 rfl ?_;refine aQ 2 [0,1,4,7,8,12,17,25] rfl ?_;refine aL rfl rfl (fun c8=>?_) (fun c8=>?_)
           · refine br func33 1 rfl ?_;refine xo rfl (aq (vs:=[_]) func57 rfl H.I1 rfl (ai.bw (mF t ht))) ?_;rintro _ h3 ⟨rfl,e3⟩;refine aQ 1 [0,1,4,7,8,12,17,25] rfl ?_;refine G.ret func33 rfl rfl ?_;exact⟨_,rfl,by unfold cY;rw[if_neg c0,if_neg c1,if_neg c2,if_pos (.inr (.inr c8))];rfl,e3⟩
           · refine aW func33 2 [0,1,4,7,8,12,17,25,31] rfl ?_;refine aL rfl rfl (fun c4=>?_) (fun c4=>?_)
             · refine av rfl ?_;refine G.bD [(4,.bool (decide (t∈wH)))] [(0,_),(1,_),(7,_),(8,_),(12,_),(17,_),(25,_),(31,_)] ⟨rfl,rfl,rfl,rfl,rfl,rfl,rfl,rfl,trivial⟩ func33 rfl ?_ ?_
               · refine bP 1 rfl rfl (aj.cI rfl rfl) ?_;refine aT 1 rfl ?_;refine aH (d:=35) rfl (fun g=>?_) (fun g=>?_)
                 · have g:t=[45]:=dx (m:=[45]) (of_decide_eq_true g);refine aT 4 rfl ?_;refine az rfl ?_;exact⟨rfl,aA rfl (by rw[g];rfl),rfl,rfl,rfl,rfl,rfl,rfl,rfl,rfl,trivial⟩
                 · have g:¬t=[45]:=fun q=>of_decide_eq_false g (by rw[q];rfl)
                   refine bP 1 rfl rfl (aj.cI rfl rfl) ?_;refine aT 2 rfl ?_;refine az rfl ?_;exact⟨rfl,aA rfl (by have e:decide (t∈wH)=decide (t=sO):=by { rw[decide_eq_decide];simp[wH,g] };rw[e];exact Dg t sO),rfl,rfl,rfl,rfl,rfl,rfl,rfl,rfl,trivial⟩
               · refine G.ret func33 rfl rfl ?_;exact⟨_,rfl,by unfold cY;rw[if_neg c0,if_neg c1,if_neg c2,if_neg (by omega),if_pos c4];rfl,Ext.refl _ _⟩
             · refine aW func33 2 [0,1,4,7,8,12,17,25,31,39] rfl ?_;refine aL rfl rfl (fun c5=>?_) (fun c5=>?_)
               · have hT:cY bX k t=decide (t∈nh):=by unfold cY;rw[if_neg c0,if_neg c1,if_neg c2,if_neg (by omega),if_neg c4,if_pos c5]
                 rw[hT];refine xr func33 rfl ?_;refine xp rfl (aP (H.gk _ _ _ _ _ _ _ _ _ _ _ _ _) rfl) ?_;refine xo rfl (aC.aR H.JA) ?_;rintro _ h1 ⟨rfl,kb,e1,z1⟩;refine RW.bZ rfl rfl rfl (aC.aB H.JG rfl rfl kb (by first|rfl|(simp;done)|(simp;omega)) (by first|decide|exact of_decide_eq_true rfl|(simp;done)|(simp;omega)) (Gs)) ?_;rintro _ h2 ⟨rfl,kb2,x2,z2⟩;have kb2:bq h2 h.size 114 (nh.map lG):=kb2;have e02:aF h h2:=aF.only e1 x2 (Nat.le_refl _);refine xd [0,1,4,5,7,8,12,17,25,31,39] rfl ?_;refine av rfl ?_;refine aW func33 1 [0,1,4,5,6,7,8,12,17,25,31,39] rfl ?_;refine G.block rfl rfl ?_;refine bE (σ:=Nat) (fun i=>[(1,.string (bs t)),(5,ptr h.size),(6,.int .i64 (i:Nat))]) (fun i g=>g=h2∧i≤13∧t∉nh.take i) (fun i=>13-i) (0) rfl ⟨rfl,rfl,rfl,trivial⟩ ⟨rfl,by omega,by simp⟩ ?_;rintro i g ⟨rfl,hi,hin⟩ ih;refine av rfl ?_;refine aW func33 2 [1,5,6,43] rfl ?_;refine aL rfl rfl (fun hlt=>?_) (fun hlt=>?_)
                 · have hil:i<13:=by omega
                   obtain⟨w,hw⟩:∃w,nh[i]? =some w:=⟨_,List.getElem?_eq_getElem (show i<nh.length from hil)⟩
                   have hwm:(nh.map lG)[i]? =some (lG w):=by rw[List.getElem?_map,hw];rfl
                   refine aE rfl ?_;refine av rfl ?_;refine G.block rfl rfl ?_;refine br func33 1 rfl ?_;refine xp rfl (aj.cM underlying114 H.dA rfl rfl i rfl hil) ?_;refine xp rfl (ah H.dO rfl (by rw[Nat.mul_one,Nat.zero_add];exact kb2.cell hwm)) ?_;refine bP 1 rfl rfl (aj.cI rfl rfl) ?_;refine xd [1,5,6,43,50] rfl ?_;refine aL rfl rfl (fun heq=>?_) (fun heq=>?_)
                   · have heq:w=t:=dx heq;refine aW func33 1 [1,4,5,6,43,50] rfl ?_;refine G.ret func33 rfl rfl ?_;exact⟨_,rfl,by rw[decide_eq_true (by rw[←heq];exact List.mem_of_getElem? hw)];rfl,e02⟩
                   · refine aE rfl ?_;refine G.aN ?_;refine G.bT func33 rfl ?_;refine bP 1 rfl rfl (aj.bA rfl rfl ⟨by omega,by omega⟩) ?_;refine aQ 1 [1,5,6,43,50] rfl ?_;exact ih (i+1) _ _ ⟨rfl,rfl,rfl,trivial⟩ ⟨rfl,hil,fun q=>by rw[List.take_add_one,hw,List.mem_append] at q;exact q.elim hin (fun q=>by simp at q;exact heq (by rw[q]))⟩ (by omega)
                 · obtain rfl:i=13:=by omega
                   refine bz rfl rfl ?_;refine aW func33 1 [1,4,5,6,43] rfl ?_;refine G.ret func33 rfl rfl ?_;have hin:t∉nh:=hin;exact⟨_,rfl,by rw[decide_eq_false hin];rfl,e02⟩
               · refine aE rfl ?_;refine G.aN ?_;refine br func33 1 rfl ?_;refine xp rfl (aj.cI rfl rfl) ?_;refine aQ 1 [0,1,4,7,8,12,17,25,31,39] rfl ?_;refine G.ret func33 rfl rfl ?_;exact⟨_,rfl,by unfold cY;rw[if_neg c0,if_neg c1,if_neg c2,if_neg (by omega),if_neg c4,if_neg c5];show Value.bool _=_;rw[←jV],Ext.refl _ _⟩
def HC (w:Int) (n:Nat):Bool:=decide ((0≤w∧(n:Int)≠w)∨(w= -1∧n≠1∧n≠2)∨(w= -2∧(n<1∨500<n)))
theorem Jh (k:Int) (n:Nat) (hk:0≤k∧k≤10):HC (jf k) n= !bounds k n:=by
 obtain⟨m,rfl⟩:∃m:Nat,k=m:=⟨k.toNat,by omega⟩
 have hm:m<11:=by omega
 unfold HC bounds;rw[←decide_not,decide_eq_decide]
 match m,hm with
 | 0,_=>rw[show jf ((0:Nat):Int)=0 from rfl,show cz ((0:Nat):Int)=(0,0) from rfl];simp only;omega
 | 1,_=>rw[show jf ((1:Nat):Int)=0 from rfl,show cz ((1:Nat):Int)=(0,0) from rfl];simp only;omega
 | 2,_=>rw[show jf ((2:Nat):Int)=0 from rfl,show cz ((2:Nat):Int)=(0,0) from rfl];simp only;omega
 | 3,_=>rw[show jf ((3:Nat):Int)=0 from rfl,show cz ((3:Nat):Int)=(0,0) from rfl];simp only;omega
 | 4,_=>rw[show jf ((4:Nat):Int)=1 from rfl,show cz ((4:Nat):Int)=(1,1) from rfl];simp only;omega
 | 5,_=>rw[show jf ((5:Nat):Int)=2 from rfl,show cz ((5:Nat):Int)=(2,2) from rfl];simp only;omega
 | 6,_=>rw[show jf ((6:Nat):Int)=3 from rfl,show cz ((6:Nat):Int)=(3,3) from rfl];simp only;omega
 | 7,_=>rw[show jf ((7:Nat):Int)=(-1) from rfl,show cz ((7:Nat):Int)=(1,2) from rfl];simp only[true_and];omega
 | 8,_=>rw[show jf ((8:Nat):Int)=1 from rfl,show cz ((8:Nat):Int)=(1,1) from rfl];simp only;omega
 | 9,_=>rw[show jf ((9:Nat):Int)=2 from rfl,show cz ((9:Nat):Int)=(2,2) from rfl];simp only;omega
 | 10,_=>rw[show jf ((10:Nat):Int)=(-2) from rfl,show cz ((10:Nat):Int)=(1,500) from rfl];simp only[true_and];omega
def sU (k:Int) (x:Tr):Bool:=cO bX x && (decide (k=10) ||alone x)
def qq (k:Int) (l:List Tr):Bool:=decide (k≠6) ||match l with| [_,b,c]=>decide (b.kind=10) && (decide (c.kind=10) ||decide (c.kind=6))|_=>false
theorem rT {k:Int}(h:k≠6):∀(l:List Tr) (i:Nat),iy bX k i l=l.all (sU k)
 | [],i=>by rw[iy];rfl
 |x::l,i=>by
  rw[mu,uM,rT h l (i+1),List.all_cons];have:sV k i x=true:=by unfold sV;rw[decide_eq_true h];rfl
  rw[this,Bool.and_true];rfl
theorem zJ (k:Int) (t:By) (l:List Tr):cO bX (.mk k t l)=(bounds k l.length && cY bX k t && (l.all (sU k) && qq k l)):=by
 rw[gK,ku]
 by_cases h:k=6
 · subst h;cases hb:bounds 6 l.length with
   |false=>rfl
   |true =>
    have hbd:(0≤(6:Int)∧(6:Int)≤10)∧(cz 6).1≤l.length∧l.length≤(cz 6).2:=of_decide_eq_true hb;have hbd2:3≤l.length∧l.length≤3:=hbd.2;obtain⟨a,b,c,rfl⟩:=FU (show l.length=3 by omega)
    congr 1
    simp only[iy,uM,List.all_cons,List.all_nil,Bool.and_true];have i0:sV 6 0 a=true:=rfl;have i1:sV 6 1 b=decide (b.kind=10):=by unfold sV;simp
    have i2:sV 6 2 c=(decide (c.kind=10) ||decide (c.kind=6)):=by unfold sV;simp
    have ie:qq 6 [a,b,c]=(decide (b.kind=10) && (decide (c.kind=10) ||decide (c.kind=6))):=by unfold qq;simp
    rw[i0,i1,i2,ie];unfold sU;rw[Bool.eq_iff_iff];simp only[Bool.and_eq_true];constructor
    · intro q;simp only[q,and_self,and_true,true_and]
    · intro q;simp only[q,and_self,and_true,true_and]
 · rw[rT h];have:qq k l=true:=by unfold qq;rw[decide_eq_true h];rfl
   rw[this,Bool.and_true]
theorem Bk (h:cO bX x=true):alone x= !(decide (x.kind=7) && decide (x.kids.length=1)):=by
 cases x with
 |mk k t l =>
  unfold alone
  show (decide (k≠7) ||decide (l.length=2))= !(decide (k=7) && decide (l.length=1))
  by_cases h7:k=7
  · subst h7;rw[gK,ku,Bool.and_eq_true,Bool.and_eq_true] at h;have hbd:(0≤(7:Int)∧(7:Int)≤10)∧(cz 7).1≤l.length∧l.length≤(cz 7).2:=of_decide_eq_true h.1.1;have hbd2:1≤l.length∧l.length≤2:=hbd.2;rw[decide_eq_false (fun q=>q rfl),Bool.false_or,decide_eq_true (rfl:(7:Int)=7),Bool.true_and,←decide_not,decide_eq_decide];omega
  · rw[decide_eq_true h7,decide_eq_false h7];rfl
theorem fG {p:Prop}[Decidable p] (h:p):true=decide p:=(decide_eq_true h).symm
theorem fy {p:Prop}[Decidable p] (h:¬p):false=decide p:=(decide_eq_false h).symm
def GM (x:Tr):Prop:=∀(h:aD) (O:Nat→Prop) (v:Value),dS h O v x→ai Tryz.prog 15 #[v] h (cL fun r h'=>r= .bool (cO bX x)∧aF h h')
theorem G4 {k:Int}{t:By}{l:List Tr}(hw:(Tr.mk k t l).wt≤1000000) (hk:∀x∈l,GM x):GM (.mk k t l):=by
 intro h O v hv;obtain⟨w,rfl,hw0⟩:=id hv.open;obtain⟨a,n,c,rfl,hws⟩:=id hw0.open;have hn:l.length=n:=hws.len;subst hn;have hcap:=hws.cap;have hle:=hws.le;simp only[maxLen] at hcap;have htl:=tj k t l;rw[zJ];refine ai.of func15 rfl rfl ?_;refine xr func15 rfl ?_;refine xo rfl (aC.fe rfl) ?_;rintro _ h1 ⟨rfl,k1,e1,z1⟩;have k1:bq h1 h.size 43 (iJ k t a l.length c):=k1;refine aQ 1 [0,1,2] rfl ?_;refine av rfl ?_;refine av rfl ?_;refine G.mH (fun(u:Unit) (h':aD)=>aF h1 h') (fun(u:Unit)=>[(22,.bool (!(decide (0≤k∧k≤10) && cY bX k t)))]) [(0,_),(1,_),(2,_)] ⟨rfl,rfl,rfl,trivial⟩ func15 rfl ?_ ?_
 · refine xp rfl (af (off:=0) underlying43 rfl rfl H.bY rfl) ?_;refine xp rfl (ah H.cG rfl (k1.cell (i:=0) rfl)) ?_;refine aT 2 rfl ?_;refine aH (d:=10) rfl (fun p=>?_) (fun p=>?_)
   · have p:=of_decide_eq_true p;refine aT 12 rfl ?_;refine az rfl ?_;exact⟨(),Ext.refl _ _,aA rfl (by rw[decide_eq_false (by omega)];rfl),rfl,rfl,rfl,trivial⟩
   · have p:=of_decide_eq_false p;refine xp rfl (af (off:=0) underlying43 rfl rfl H.bY rfl) ?_;refine xp rfl (ah H.cG rfl (k1.cell (i:=0) rfl)) ?_;refine aT 3 rfl ?_;refine aH (d:=15) rfl (fun q=>?_) (fun q=>?_)
     · have q:=of_decide_eq_true q;refine aT 7 rfl ?_;refine az rfl ?_;exact⟨(),Ext.refl _ _,aA rfl (by rw[decide_eq_false (by omega)];rfl),rfl,rfl,rfl,trivial⟩
     · have q:=of_decide_eq_false q;refine xp rfl (af (off:=0) underlying43 rfl rfl H.bY rfl) ?_;refine xp rfl (ah H.cG rfl (k1.cell (i:=0) rfl)) ?_;refine xp rfl (af (off:=1) underlying43 rfl rfl H.dA rfl) ?_;refine xp rfl (ah H.dO rfl (k1.cell (i:=1) rfl)) ?_;refine xo rfl (aq (vs:=[_,_]) func33 rfl H.L2 rfl (ai.bw (BI k t (by omega)))) ?_;rintro _ h2 ⟨rfl,e2⟩;refine aT 2 rfl ?_;refine az rfl ?_;exact⟨(),e2,aA rfl (by rw[decide_eq_true (by omega),Bool.true_and]),rfl,rfl,rfl,trivial⟩
 · rintro u h2 e2;have k2:=k1.ax e2;have e02:=e1.trans e2;refine aI rfl rfl (fun hb=>?_) (fun hb=>?_)
   · have hb:(decide (0≤k∧k≤10) && cY bX k t)=false:=by rw[Bool.not_eq_true'] at hb;exact hb
     refine aW func15 1 [0,1,2,22] rfl ?_;refine G.ret func15 rfl rfl ?_;refine⟨_,rfl,?_,e02⟩
     have:(bounds k l.length && cY bX k t)=false:=by
      rw[Bool.and_eq_false_iff] at hb ⊢;refine hb.imp (fun q=>?_) id;unfold bounds;exact decide_eq_false (fun r=>of_decide_eq_false q r.1)
     rw[this];rfl
   · have hb:(decide (0≤k∧k≤10) && cY bX k t)=true:=by rw[Bool.not_eq_false'] at hb;exact hb
     rw[Bool.and_eq_true,decide_eq_true_iff] at hb;rw[hb.2,Bool.and_true];refine aE rfl ?_;refine av rfl ?_;refine bV (fun b=>Array.size h2≤b) (fun i=>Nat.blt i 8) (sz:=8) (listed:= #[false,false,false,false,false,false,false,false]) func15 H.mixed rfl rfl rfl ?_;refine bI 0 1 (by kernel_rfl) rfl (fun h' e=>af (off:=2) underlying43 rfl rfl H.nQ rfl) ?_;refine bI 1 3 (by kernel_rfl) rfl (fun h' e=>ah H.qF rfl (e.old (k2.cell (i:=2) rfl))) ?_;refine bI 2 7 (by kernel_rfl) rfl (fun h' e=>aj.aJ underlying32 rfl) ?_;refine bI 3 15 (by kernel_rfl) rfl (fun h' e=>af (off:=0) underlying43 rfl rfl H.bY rfl) ?_;refine bI 4 31 (by kernel_rfl) rfl (fun h' e=>ah H.cG rfl (e.old (k2.cell (i:=0) rfl))) ?_;refine cU 5 63 (by kernel_rfl) rfl (aq (vs:=[_]) func34 rfl H.L1 rfl (ai.bw (Am k hb.1))) ?_;rintro _ h2 ⟨rfl,rfl⟩;refine⟨fun _=>Ext.refl _ _,?_⟩;obtain⟨W,hW⟩:∃W,W=jf k:=⟨_,rfl⟩
     have hcnt:=Jh k l.length hb.1;rw[←hW] at hcnt ⊢;refine b9 6 127 (by kernel_rfl) rfl ?_;refine b9 7 255 (by kernel_rfl) rfl ?_;refine bg (by kernel_rfl) ?_;refine xu [0,1,2,3,4,22] rfl ?_;refine av rfl ?_;refine av rfl ?_;refine G.bD [(59,.bool (HC W l.length))] [(0,_),(1,_),(2,_),(3,_),(4,_),(22,_)] ⟨rfl,rfl,rfl,rfl,rfl,rfl,trivial⟩ func15 rfl ?_ ?_
     · unfold HC;refine aT 3 rfl ?_;refine aH (d:=31) rfl (fun q0=>?_) (fun q0=>?_)
       · have q0:=of_decide_eq_true q0;refine aT 5 rfl ?_;refine aH (d:=36) rfl (fun q1=>?_) (fun q1=>?_)
         · have q1:¬(l.length:Int)=W:=by simpa using q1
           refine aT 23 rfl ?_;refine az rfl ?_;exact⟨rfl,aA rfl (fG (by omega)),rfl,rfl,rfl,rfl,rfl,rfl,trivial⟩
         · have q1:(l.length:Int)=W:=by simpa using q1
           refine aT 3 rfl ?_;refine aH (d:=39) rfl (fun p1=>?_) (fun p1=>?_)
           · have p1:=of_decide_eq_true p1;refine aT 4 rfl ?_;refine aH (d:=43) rfl (fun p2=>?_) (fun p2=>?_)
             · have p2:¬(l.length:Int)=1:=by simpa using p2
               refine aT 5 rfl ?_;refine aH (d:=48) rfl (fun p3=>?_) (fun p3=>?_)
               · have p3:¬(l.length:Int)=2:=by simpa using p3
                 refine aT 11 rfl ?_;refine az rfl ?_;exact⟨rfl,aA rfl (fG (by omega)),rfl,rfl,rfl,rfl,rfl,rfl,trivial⟩
               · have p3:(l.length:Int)=2:=by simpa using p3
                 refine aT 3 rfl ?_;refine aH (d:=51) rfl (fun p4=>?_) (fun p4=>?_)
                 · have p4:=of_decide_eq_true p4;refine aT 3 rfl ?_;refine aH (d:=54) rfl (fun p5=>?_) (fun p5=>?_)
                   · have p5:=of_decide_eq_true p5;refine aT 5 rfl ?_;refine az rfl ?_;exact⟨rfl,aA rfl (fG (by omega)),rfl,rfl,rfl,rfl,rfl,rfl,trivial⟩
                   · have p5:=of_decide_eq_false p5;refine aT 5 rfl ?_;refine az rfl ?_;exact⟨rfl,aA rfl (by rw[decide_eq_decide];omega),rfl,rfl,rfl,rfl,rfl,rfl,trivial⟩
                 · have p4:=of_decide_eq_false p4;refine aT 8 rfl ?_;refine az rfl ?_;exact⟨rfl,aA rfl (fy (by omega)),rfl,rfl,rfl,rfl,rfl,rfl,trivial⟩
             · have p2:(l.length:Int)=1:=by simpa using p2
               refine aT 8 rfl ?_;refine aH (d:=51) rfl (fun p4=>?_) (fun p4=>?_)
               · have p4:=of_decide_eq_true p4;refine aT 3 rfl ?_;refine aH (d:=54) rfl (fun p5=>?_) (fun p5=>?_)
                 · have p5:=of_decide_eq_true p5;refine aT 5 rfl ?_;refine az rfl ?_;exact⟨rfl,aA rfl (fG (by omega)),rfl,rfl,rfl,rfl,rfl,rfl,trivial⟩
                 · have p5:=of_decide_eq_false p5;refine aT 5 rfl ?_;refine az rfl ?_;exact⟨rfl,aA rfl (by rw[decide_eq_decide];omega),rfl,rfl,rfl,rfl,rfl,rfl,trivial⟩
               · have p4:=of_decide_eq_false p4;refine aT 8 rfl ?_;refine az rfl ?_;exact⟨rfl,aA rfl (fy (by omega)),rfl,rfl,rfl,rfl,rfl,rfl,trivial⟩
           · have p1:=of_decide_eq_false p1;refine aT 12 rfl ?_;refine aH (d:=51) rfl (fun p4=>?_) (fun p4=>?_)
             · have p4:=of_decide_eq_true p4;refine aT 3 rfl ?_;refine aH (d:=54) rfl (fun p5=>?_) (fun p5=>?_)
               · have p5:=of_decide_eq_true p5;refine aT 5 rfl ?_;refine az rfl ?_;exact⟨rfl,aA rfl (fG (by omega)),rfl,rfl,rfl,rfl,rfl,rfl,trivial⟩
               · have p5:=of_decide_eq_false p5;refine aT 5 rfl ?_;refine az rfl ?_;exact⟨rfl,aA rfl (by rw[decide_eq_decide];omega),rfl,rfl,rfl,rfl,rfl,rfl,trivial⟩
             · have p4:=of_decide_eq_false p4;refine aT 8 rfl ?_;refine az rfl ?_;exact⟨rfl,aA rfl (fy (by omega)),rfl,rfl,rfl,rfl,rfl,rfl,trivial⟩
       · have q0:=of_decide_eq_false q0;refine aT 8 rfl ?_;refine aH (d:=39) rfl (fun p1=>?_) (fun p1=>?_)
         · have p1:=of_decide_eq_true p1;refine aT 4 rfl ?_;refine aH (d:=43) rfl (fun p2=>?_) (fun p2=>?_)
           · have p2:¬(l.length:Int)=1:=by simpa using p2
             refine aT 5 rfl ?_;refine aH (d:=48) rfl (fun p3=>?_) (fun p3=>?_)
             · have p3:¬(l.length:Int)=2:=by simpa using p3
               refine aT 11 rfl ?_;refine az rfl ?_;exact⟨rfl,aA rfl (fG (by omega)),rfl,rfl,rfl,rfl,rfl,rfl,trivial⟩
             · have p3:(l.length:Int)=2:=by simpa using p3
               refine aT 3 rfl ?_;refine aH (d:=51) rfl (fun p4=>?_) (fun p4=>?_)
               · have p4:=of_decide_eq_true p4;refine aT 3 rfl ?_;refine aH (d:=54) rfl (fun p5=>?_) (fun p5=>?_)
                 · have p5:=of_decide_eq_true p5;refine aT 5 rfl ?_;refine az rfl ?_;exact⟨rfl,aA rfl (fG (by omega)),rfl,rfl,rfl,rfl,rfl,rfl,trivial⟩
                 · have p5:=of_decide_eq_false p5;refine aT 5 rfl ?_;refine az rfl ?_;exact⟨rfl,aA rfl (by rw[decide_eq_decide];omega),rfl,rfl,rfl,rfl,rfl,rfl,trivial⟩
               · have p4:=of_decide_eq_false p4;refine aT 8 rfl ?_;refine az rfl ?_;exact⟨rfl,aA rfl (fy (by omega)),rfl,rfl,rfl,rfl,rfl,rfl,trivial⟩
           · have p2:(l.length:Int)=1:=by simpa using p2
             refine aT 8 rfl ?_;refine aH (d:=51) rfl (fun p4=>?_) (fun p4=>?_)
             · have p4:=of_decide_eq_true p4;refine aT 3 rfl ?_;refine aH (d:=54) rfl (fun p5=>?_) (fun p5=>?_)
               · have p5:=of_decide_eq_true p5;refine aT 5 rfl ?_;refine az rfl ?_;exact⟨rfl,aA rfl (fG (by omega)),rfl,rfl,rfl,rfl,rfl,rfl,trivial⟩
               · have p5:=of_decide_eq_false p5;refine aT 5 rfl ?_;refine az rfl ?_;exact⟨rfl,aA rfl (by rw[decide_eq_decide];omega),rfl,rfl,rfl,rfl,rfl,rfl,trivial⟩
             · have p4:=of_decide_eq_false p4;refine aT 8 rfl ?_;refine az rfl ?_;exact⟨rfl,aA rfl (fy (by omega)),rfl,rfl,rfl,rfl,rfl,rfl,trivial⟩
         · have p1:=of_decide_eq_false p1;refine aT 12 rfl ?_;refine aH (d:=51) rfl (fun p4=>?_) (fun p4=>?_)
           · have p4:=of_decide_eq_true p4;refine aT 3 rfl ?_;refine aH (d:=54) rfl (fun p5=>?_) (fun p5=>?_)
             · have p5:=of_decide_eq_true p5;refine aT 5 rfl ?_;refine az rfl ?_;exact⟨rfl,aA rfl (fG (by omega)),rfl,rfl,rfl,rfl,rfl,rfl,trivial⟩
             · have p5:=of_decide_eq_false p5;refine aT 5 rfl ?_;refine az rfl ?_;exact⟨rfl,aA rfl (by rw[decide_eq_decide];omega),rfl,rfl,rfl,rfl,rfl,rfl,trivial⟩
           · have p4:=of_decide_eq_false p4;refine aT 8 rfl ?_;refine az rfl ?_;exact⟨rfl,aA rfl (fy (by omega)),rfl,rfl,rfl,rfl,rfl,rfl,trivial⟩
     · rw[hcnt];refine aI rfl rfl (fun hbd=>?_) (fun hbd=>?_)
       · have hbd:bounds k l.length=false:=by rw[Bool.not_eq_true'] at hbd;exact hbd
         refine aW func15 1 [0,1,2,3,4,22,59] rfl ?_;refine G.ret func15 rfl rfl ?_;exact⟨_,rfl,by rw[hbd];rfl,e02⟩
       · have hbd:bounds k l.length=true:=by rw[Bool.not_eq_false'] at hbd;exact hbd
         rw[hbd,Bool.true_and];have hbd2:(0≤k∧k≤10)∧(cz k).1≤l.length∧l.length≤(cz k).2:=of_decide_eq_true hbd;refine aE rfl ?_;refine av rfl ?_;refine aW func15 1 [0,1,2,3,4,5,22,59] rfl ?_;refine G.block rfl rfl ?_;refine bE (σ:=Nat) (fun i=>[(1,ptr h.size),(3,.int .i64 (l.length:Nat)),(5,.int .i64 (i:Nat))]) (fun i g=>i≤l.length∧aF h2 g∧(l.drop i).all (sU k)=l.all (sU k)) (fun i=>l.length-i) (0) rfl ⟨rfl,rfl,rfl,trivial⟩ ⟨Nat.zero_le _,Ext.refl _ _,rfl⟩ ?_;rintro i g ⟨hi,eg,hq⟩ ihL;have kg:=k2.ax eg;have e0g:=e02.trans eg;refine av rfl ?_;refine aW func15 3 [1,3,5,62] rfl ?_;refine aL rfl rfl (fun hlt=>?_) (fun hlt=>?_)
         · have hil:i<l.length:=by omega
           obtain⟨b,o,x,xk,xt,xa,xn,xc,ha,hx,hrow,hnx,hxk,_⟩:=gy (hws.mv (Mv.ax e0g)) hil;have hxm:x∈l:=List.mem_of_getElem? hx;rw[drop_cons hx,List.all_cons] at hq
           have hxn:xn=x.kids.length:=by
            cases x with|mk k' t' l'=>obtain⟨v',hv1,hs1⟩:=hnx.open;cases hv1;exact(hs1.open_slice.len).symm
           refine aE rfl ?_;refine av rfl ?_;refine G.block rfl rfl ?_;refine xr func15 rfl ?_;refine xp rfl (af (off:=2) underlying43 rfl rfl H.nQ rfl) ?_;refine xp rfl (ah H.qF rfl (kg.cell (i:=2) rfl)) ?_;refine bP 1 rfl rfl (aj.ay underlying32 H.dI rfl rfl i rfl ha (by omega)) ?_;refine xp rfl (aj.aG H.rL H.dI rfl hrow (by first|rfl|(simp;done)|(simp;omega))) ?_;refine xo rfl (aC.aR H.jI) ?_;rintro _ g1 ⟨rfl,kn,e3,z3⟩;refine RW.bZ rfl rfl rfl (aC.aB H.dI rfl rfl kn (by first|rfl|(simp;done)|(simp;omega)) (by first|decide|exact of_decide_eq_true rfl|(simp;done)|(simp;omega)) (eT)) ?_;rintro _ g2 ⟨rfl,kx,x2,z2⟩;have kx:bq g2 g.size 43 (iJ xk xt xa xn xc):=kx;have eg2:aF g g2:=aF.only e3 x2 (Nat.le_refl _);have kg2:=kg.ax eg2;have hcall:=hk x hxm g2 O _ (hnx.mv (Mv.ax eg2));refine xd [1,3,5,6,62] rfl ?_;refine av rfl ?_;refine G.mH (fun(u:Unit) (h':aD)=>aF g2 h') (fun(u:Unit)=>[(88,.bool (!sU k x))]) [(1,_),(3,_),(5,_),(6,_),(62,_)] ⟨rfl,rfl,rfl,rfl,rfl,trivial⟩ func15 rfl ?_ ?_
           · refine xp rfl (aj.aG H.rL H.dI rfl kx.row (by first|rfl|(simp;done)|(simp;omega))) ?_;refine xo rfl (aq (vs:=[_]) func15 rfl H.I6 rfl (ai.bw (hcall))) ?_;rintro _ g3 ⟨rfl,e4⟩;refine aT 2 rfl ?_;refine aH (d:=73) rfl (fun q=>?_) (fun q=>?_)
             · have q:cO bX x=false:=by simpa using q
               refine aT 15 rfl ?_;refine az rfl ?_;exact⟨(),e4,aA rfl (by unfold sU;rw[q];rfl),rfl,rfl,rfl,rfl,rfl,trivial⟩
             · have q:cO bX x=true:=by simpa using q
               have hkb:(!sU k x)=decide (xk=7∧xn=1∧k≠10):=by
                unfold sU;rw[q,Bool.true_and,Bk q,hxk,hxn,Bool.eq_iff_iff];simp only[Bool.not_eq_true',Bool.or_eq_false_iff,Bool.not_eq_false',Bool.and_eq_true,decide_eq_true_eq,decide_eq_false_iff_not];constructor
                · intro ⟨r1,r2,r3⟩;exact⟨r2,r3,r1⟩
                · intro ⟨r1,r2,r3⟩;exact⟨r3,r1,r2⟩
               rw[hkb];refine xp rfl (af (off:=0) underlying43 rfl rfl H.bY rfl) ?_;refine xp rfl (ah H.cG rfl ((kx.ax e4).cell (i:=0) rfl)) ?_;refine aT 2 rfl ?_;refine aH (d:=77) rfl (fun r1=>?_) (fun r1=>?_)
               · have r1:=of_decide_eq_true r1;refine xp rfl (af (off:=2) underlying43 rfl rfl H.nQ rfl) ?_;refine xp rfl (ah H.qF rfl ((kx.ax e4).cell (i:=2) rfl)) ?_;refine xp rfl (aj.aJ underlying32 rfl) ?_;refine aT 3 rfl ?_;refine aH (d:=83) rfl (fun r2=>?_) (fun r2=>?_)
                 · have r2:=of_decide_eq_true r2;refine xp rfl (af (off:=0) underlying43 rfl rfl H.bY rfl) ?_;refine xp rfl (ah H.cG rfl ((kg2.ax e4).cell (i:=0) rfl)) ?_;refine aT 3 rfl ?_;refine az rfl ?_;exact⟨(),e4,aA rfl (by rw[decide_eq_decide];omega),rfl,rfl,rfl,rfl,rfl,trivial⟩
                 · have r2:=of_decide_eq_false r2;refine aT 5 rfl ?_;refine az rfl ?_;exact⟨(),e4,aA rfl (fy (by omega)),rfl,rfl,rfl,rfl,rfl,trivial⟩
               · have r1:=of_decide_eq_false r1;refine aT 11 rfl ?_;refine az rfl ?_;exact⟨(),e4,aA rfl (fy (by omega)),rfl,rfl,rfl,rfl,rfl,trivial⟩
           · rintro u g3 e4;refine aI rfl rfl (fun hkx=>?_) (fun hkx=>?_)
             · have hkx:sU k x=false:=by rw[Bool.not_eq_true'] at hkx;exact hkx
               refine aW func15 1 [1,2,3,5,6,62,88] rfl ?_;refine G.ret func15 rfl rfl ?_;exact⟨_,rfl,by rw[←hq,hkx];rfl,(e0g.trans eg2).trans e4⟩
             · have hkx:sU k x=true:=by rw[Bool.not_eq_false'] at hkx;exact hkx
               rw[hkx,Bool.true_and] at hq;refine aE rfl ?_;refine G.aN ?_;refine G.bT func15 rfl ?_;refine bP 1 rfl rfl (aj.bA rfl rfl ⟨by omega,by omega⟩) ?_;refine aQ 1 [1,3,5,6,62,88] rfl ?_;exact ihL (i+1) _ _ ⟨rfl,rfl,rfl,trivial⟩ ⟨hil,(eg.trans eg2).trans e4,hq⟩ (by omega)
         · obtain rfl:i=l.length:=by omega
           rw[List.drop_length] at hq;rw[←hq,show ([]:List Tr).all (sU k)=true from rfl,Bool.true_and];refine bz rfl rfl ?_;refine av rfl ?_;refine G.bD [(2,.bool (qq k l))] [(1,_),(3,_),(5,_),(62,_)] ⟨rfl,rfl,rfl,rfl,trivial⟩ func15 rfl ?_ ?_
           · refine xp rfl (af (off:=0) underlying43 rfl rfl H.bY rfl) ?_;refine xp rfl (ah H.cG rfl (kg.cell (i:=0) rfl)) ?_;refine aT 2 rfl ?_;refine aH (d:=92) rfl (fun c6=>?_) (fun c6=>?_)
             · have c6:¬k=6:=by simpa using c6
               refine aT 24 rfl ?_;refine az rfl ?_;exact⟨rfl,aA rfl (by unfold qq;rw[decide_eq_true (show k≠6 from c6)];rfl),rfl,rfl,rfl,rfl,trivial⟩
             · have c6:k=6:=by simpa using c6
               subst c6;have hb3:3≤l.length∧l.length≤3:=hbd2.2;obtain⟨x0,x1,x2,rfl⟩:=FU (show l.length=3 by omega);obtain⟨b1,o1,y1,k1',t1',a1',n1',c1',ha1,hx1,hr1,_,hk1,_⟩:=gy (hws.mv (Mv.ax e0g)) (show 1 < [x0,x1,x2].length by simp);obtain⟨b2,o2,y2,k2',t2',a2',n2',c2',ha2,hx2,hr2,_,hk2,_⟩:=gy (hws.mv (Mv.ax e0g)) (show 2 < [x0,x1,x2].length by simp);obtain rfl:x1=y1:=by simpa using hx1
               obtain rfl:x2=y2:=by simpa using hx2
               have hie:qq 6 [x0,x1,x2]=(decide (k1'=10) && (decide (k2'=10) ||decide (k2'=6))):=by rw[hk1,hk2];unfold qq;simp
               rw[hie];refine xp rfl (af (off:=2) underlying43 rfl rfl H.nQ rfl) ?_;refine xp rfl (ah H.qF rfl (kg.cell (i:=2) rfl)) ?_;refine xp rfl (aj.ay underlying32 H.dI rfl rfl 1 rfl ha1 (by simp)) ?_;refine xp rfl (af (off:=0) underlying43 rfl rfl H.bY rfl) ?_;refine xp rfl (ah H.cG rfl (hr1 0 _ rfl)) ?_;refine aT 2 rfl ?_;refine aH (d:=99) rfl (fun d1=>?_) (fun d1=>?_)
               · refine xp rfl (af (off:=2) underlying43 rfl rfl H.nQ rfl) ?_;refine xp rfl (ah H.qF rfl (kg.cell (i:=2) rfl)) ?_;refine xp rfl (aj.ay underlying32 H.dI rfl rfl 2 rfl ha2 (by simp)) ?_;refine xp rfl (af (off:=0) underlying43 rfl rfl H.bY rfl) ?_;refine xp rfl (ah H.cG rfl (hr2 0 _ rfl)) ?_;refine aT 2 rfl ?_;refine aH (d:=106) rfl (fun d2=>?_) (fun d2=>?_)
                 · refine aT 10 rfl ?_;refine az rfl ?_;exact⟨rfl,aA rfl (by rw[d1,d2];rfl),rfl,rfl,rfl,rfl,trivial⟩
                 · refine xp rfl (af (off:=2) underlying43 rfl rfl H.nQ rfl) ?_;refine xp rfl (ah H.qF rfl (kg.cell (i:=2) rfl)) ?_;refine xp rfl (aj.ay underlying32 H.dI rfl rfl 2 rfl ha2 (by simp)) ?_;refine xp rfl (af (off:=0) underlying43 rfl rfl H.bY rfl) ?_;refine xp rfl (ah H.cG rfl (hr2 0 _ rfl)) ?_;refine aT 5 rfl ?_;refine az rfl ?_;exact⟨rfl,aA rfl (by rw[d1,d2];rfl),rfl,rfl,rfl,rfl,trivial⟩
               · refine aT 17 rfl ?_;refine az rfl ?_;exact⟨rfl,aA rfl (by rw[d1];rfl),rfl,rfl,rfl,rfl,trivial⟩
           · refine G.ret func15 rfl rfl ?_;exact⟨_,rfl,rfl,e0g⟩
theorem Fg:∀(d:Nat) (x:Tr),x.dep≤d→x.wt≤1000000→GM x:=by
 intro d
 induction d with
 |zero=>intro x hx;cases x with|mk k t l=>simp[Tr.dep] at hx
 |succ d ih =>
 intro x hd hw;cases x with
 |mk k t l=>exact G4 hw fun y hy=>ih y (by have:=lJ (k:=k) (t:=t) hy;omega) (by have:=jJ (k:=k) (t:=t) hy;omega)
theorem pR (hw:x.wt≤1000000) (hv:dS h O v x):ai Tryz.prog 15 #[v] h (cL fun r h'=>r= .bool (cO bX x)∧aF h h'):=Fg _ x (Nat.le_refl _) hw h O v hv
def K3 (x:Tr):Prop:=∀(y:Tr) (h:aD) (O O':Nat→Prop) (v v':Value),dS h O v x→dS h O' v' y→ai Tryz.prog 19 #[v,v'] h (cL fun r h'=>r= .bool (jA x y)∧aF h h')
theorem DO:∀(d:Nat) (x:Tr),x.dep≤d→K3 x:=by
 intro d
 induction d with
 |zero=>intro x hx;cases x with|mk k t l=>simp[Tr.dep] at hx
 |succ d ihd =>
 intro x hd y h O O' v v' hv hv';cases x with
 |mk k t l =>
 cases y with
 |mk k' t' l' =>
  obtain⟨w,rfl,hw⟩:=id hv.open;obtain⟨a,n,c,rfl,hws⟩:=id hw.open;obtain⟨w',rfl,hw'⟩:=id hv'.open;obtain⟨a',n',c',rfl,hws'⟩:=id hw'.open;have hn:l.length=n:=hws.len;have hn':l'.length=n':=hws'.len;subst hn hn';have hcap:=hws.cap;have hle:=hws.le;simp only[maxLen] at hcap;rw[jA];refine ai.of func19 rfl rfl ?_;refine xr func19 rfl ?_;refine xo rfl (aC.fe rfl) ?_;rintro _ h1 ⟨rfl,k1,e1,z1⟩;refine xo rfl (aC.fe rfl) ?_;rintro _ h2 ⟨rfl,k2,e2,z2⟩;have k1:bq h2 h.size 43 (iJ k t a l.length c):=k1.ax e2;have k2:bq h2 h1.size 43 (iJ k' t' a' l'.length c'):=k2;have e02:=e1.trans e2;refine aQ 1 [0,1,2,3,4] rfl ?_;refine av rfl ?_;refine av rfl ?_;refine G.bD [(26,.bool (!(decide (k=k') && (decide (t=t') && decide (l.length=l'.length)))))] [(0,_),(1,_),(2,_),(3,_),(4,_)] ⟨rfl,rfl,rfl,rfl,rfl,trivial⟩ func19 rfl ?_ ?_
  · refine xp rfl (af (off:=0) underlying43 rfl rfl H.bY rfl) ?_;refine xp rfl (ah H.cG rfl (k1.cell (i:=0) rfl)) ?_;refine xp rfl (af (off:=0) underlying43 rfl rfl H.bY rfl) ?_;refine xp rfl (ah H.cG rfl (k2.cell (i:=0) rfl)) ?_;refine aT 2 rfl ?_;refine aH (d:=11) rfl (fun p=>?_) (fun p=>?_)
    · have p:¬k=k':=by simpa using p
      refine aT 15 rfl ?_;refine az rfl ?_;exact⟨rfl,aA rfl (by rw[decide_eq_false p];rfl),rfl,rfl,rfl,rfl,rfl,trivial⟩
    · have p:k=k':=by simpa using p
      refine xp rfl (af (off:=1) underlying43 rfl rfl H.dA rfl) ?_;refine xp rfl (ah H.dO rfl (k1.cell (i:=1) rfl)) ?_;refine xp rfl (af (off:=1) underlying43 rfl rfl H.dA rfl) ?_;refine xp rfl (ah H.dO rfl (k2.cell (i:=1) rfl)) ?_;refine xp rfl (aj.oH rfl rfl) ?_;refine aT 2 rfl ?_;refine aH (d:=18) rfl (fun q=>?_) (fun q=>?_)
      · have q:¬t=t':=fun r=>by simp[r] at q
        refine aT 8 rfl ?_;refine az rfl ?_;exact⟨rfl,aA rfl (by rw[decide_eq_false q,decide_eq_true p];rfl),rfl,rfl,rfl,rfl,rfl,trivial⟩
      · have q:t=t':=dx (by simpa using q);refine xp rfl (af (off:=2) underlying43 rfl rfl H.nQ rfl) ?_;refine xp rfl (ah H.qF rfl (k1.cell (i:=2) rfl)) ?_;refine xp rfl (aj.aJ underlying32 rfl) ?_;refine xp rfl (af (off:=2) underlying43 rfl rfl H.nQ rfl) ?_;refine xp rfl (ah H.qF rfl (k2.cell (i:=2) rfl)) ?_;refine xp rfl (aj.aJ underlying32 rfl) ?_;refine aT 2 rfl ?_;refine az rfl ?_;exact⟨rfl,aA rfl (by rw[decide_eq_true p,decide_eq_true q,Bool.true_and,Bool.true_and,←decide_not,decide_eq_decide];omega),rfl,rfl,rfl,rfl,rfl,trivial⟩
  · refine aI rfl rfl (fun hb=>?_) (fun hb=>?_)
    · have hb:(decide (k=k') && (decide (t=t') && decide (l.length=l'.length)))=false:=by rw[Bool.not_eq_true'] at hb;exact hb
      refine aW func19 1 [0,1,2,3,4,26] rfl ?_;refine G.ret func19 rfl rfl ?_;refine⟨_,rfl,?_,e02⟩
      have:(decide (k=k') && (decide (t=t') && ij l l'))=false:=by
       rw[Bool.and_eq_false_iff,Bool.and_eq_false_iff] at hb ⊢;exact hb.imp id (fun q=>q.imp id (fun q=>Ae (of_decide_eq_false q)))
      rw[this];rfl
    · have hb:(decide (k=k') && (decide (t=t') && decide (l.length=l'.length)))=true:=by rw[Bool.not_eq_false'] at hb;exact hb
      rw[Bool.and_eq_true,Bool.and_eq_true] at hb;rw[hb.1,hb.2.1,Bool.true_and,Bool.true_and];have hll:l.length=l'.length:=of_decide_eq_true hb.2.2;refine aE rfl ?_;refine av rfl ?_;refine aW func19 1 [0,1,2,3,4,5,26] rfl ?_;refine G.block rfl rfl ?_;refine bE (σ:=Nat) (fun i=>[(2,ptr h.size),(3,ptr h1.size),(5,.int .i64 (i:Nat))]) (fun i g=>i≤l.length∧aF h2 g∧ij (l.drop i) (l'.drop i)=ij l l') (fun i=>l.length-i) (0) rfl ⟨rfl,rfl,rfl,trivial⟩ ⟨Nat.zero_le _,Ext.refl _ _,rfl⟩ ?_;rintro i g ⟨hi,eg,hq⟩ ih;have kg1:=k1.ax eg;have kg2:=k2.ax eg;have e0g:=e02.trans eg;refine av rfl ?_;refine br func19 1 rfl ?_;refine xp rfl (af (off:=2) underlying43 rfl rfl H.nQ rfl) ?_;refine xp rfl (ah H.qF rfl (kg1.cell (i:=2) rfl)) ?_;refine xp rfl (aj.aJ underlying32 rfl) ?_;refine aQ 1 [2,3,5,31] rfl ?_;refine aL rfl rfl (fun hlt=>?_) (fun hlt=>?_)
      · have hil:i<l.length:=by omega
        obtain⟨b,o,x,xk,xt,xa,xn,xc,ha,hx,hrow,hnx,_,_⟩:=gy (hws.mv (Mv.ax e0g)) hil;obtain⟨b',o',y,yk,yt,ya,yn,yc,ha',hy,hrow',hny,_,_⟩:=gy (hws'.mv (Mv.ax e0g)) (show i<l'.length by omega);rw[drop_cons hx,drop_cons hy,ij] at hq;have hcall:=ihd x (by have:=lJ (k:=k) (t:=t) (List.mem_of_getElem? hx);omega) y g O O' _ _ hnx hny;refine aE rfl ?_;refine av rfl ?_;refine G.block rfl rfl ?_;refine av rfl ?_;refine bV (fun b=>Array.size g≤b) (fun i=>Nat.blt i 12) (sz:=12) (listed:= #[false,false,false,false,false,false,false,false,false,false,false,false]) func19 H.mixed rfl rfl rfl ?_;refine bI 0 1 (by kernel_rfl) rfl (fun h' e=>af (off:=2) underlying43 rfl rfl H.nQ rfl) ?_;refine bI 1 3 (by kernel_rfl) rfl (fun h' e=>ah H.qF rfl (e.old (kg1.cell (i:=2) rfl))) ?_;refine b9 2 7 (by kernel_rfl) rfl ?_;refine bI 3 15 (by kernel_rfl) rfl (fun h' e=>aj.ay underlying32 H.dI rfl rfl i rfl ha (by omega)) ?_;refine bI 4 31 (by kernel_rfl) rfl (fun h' e=>aj.aG H.rL H.dI rfl (e.qX hrow) (by first|rfl|(simp;done)|(simp;omega))) ?_;refine bI 5 63 (by kernel_rfl) rfl (fun h' e=>af (off:=2) underlying43 rfl rfl H.nQ rfl) ?_;refine bI 6 127 (by kernel_rfl) rfl (fun h' e=>ah H.qF rfl (e.old (kg2.cell (i:=2) rfl))) ?_;refine b9 7 255 (by kernel_rfl) rfl ?_;refine bI 8 511 (by kernel_rfl) rfl (fun h' e=>aj.ay underlying32 H.dI rfl rfl i rfl ha' (by omega)) ?_;refine bI 9 1023 (by kernel_rfl) rfl (fun h' e=>aj.aG H.rL H.dI rfl (e.qX hrow') (by first|rfl|(simp;done)|(simp;omega))) ?_;refine cU 10 2047 (by kernel_rfl) rfl (aq (vs:=[_,_]) func19 rfl H.J8 rfl (ai.bw (hcall))) ?_;rintro _ g5 ⟨rfl,e5⟩;refine⟨fun _=>e5.of,?_⟩;refine b9 11 4095 (by kernel_rfl) rfl ?_;refine bg (by kernel_rfl) ?_;refine xu [2,3,5,31,45] rfl ?_;refine aI rfl rfl (fun hb=>?_) (fun hb=>?_)
        · have hb:jA x y=false:=by simpa using hb
          refine aW func19 1 [2,3,4,5,31,45] rfl ?_;refine G.ret func19 rfl rfl ?_;exact⟨_,rfl,by rw[←hq,hb];rfl,e0g.trans e5⟩
        · have hb:jA x y=true:=by simpa using hb
          rw[hb,Bool.true_and] at hq;refine aE rfl ?_;refine G.aN ?_;refine G.bT func19 rfl ?_;refine bP 1 rfl rfl (aj.bA rfl rfl ⟨by omega,by omega⟩) ?_;refine aQ 1 [2,3,5,31,45] rfl ?_;exact ih (i+1) _ _ ⟨rfl,rfl,rfl,trivial⟩ ⟨hil,eg.trans e5,hq⟩ (by omega)
      · obtain rfl:i=l.length:=by omega
        rw[List.drop_length,hll,List.drop_length] at hq;refine bz rfl rfl ?_;refine aW func19 1 [2,3,4,5,31] rfl ?_;refine G.ret func19 rfl rfl ?_;exact⟨_,rfl,by rw[←hq];rfl,e0g⟩
theorem Ai {y:Tr}{O':Nat→Prop}{v':Value}(hv:dS h O v x) (hv':dS h O' v' y):ai Tryz.prog 19 #[v,v'] h (cL fun r h'=>r= .bool (jA x y)∧aF h h'):=DO _ x (Nat.le_refl _) y h O O' v v' hv hv'
theorem Ao (h:c≠10∧c≠13∧c≠9∧c≠0∧c≠34∧c≠92):cV c=[c]:=by
 unfold cV ir;have e:∀d:UInt8,c≠d→(d ==c)=false:=fun d q=>by simpa using fun r=>q r.symm
 simp only[List.find?_cons,List.find?_nil,e 10 h.1,e 13 h.2.1,e 9 h.2.2.1,e 34 h.2.2.2.2.1,e 92 h.2.2.2.2.2,e 0 h.2.2.2.1]
theorem qO {n:UInt8}(h:(c.toNat:Int)=(n.toNat:Int)):c=n:=UInt8.toNat_inj.1 (Int.ofNat.inj h)
theorem IZ {i:Nat}(h:s[i]? =some c):(s.take (i+1)).drop i=[c]:=by
 have hi:=(List.getElem?_eq_some_iff.1 h).1;rw[List.take_add_one,h,List.drop_append_of_le_length (by rw[List.length_take];omega),List.drop_eq_nil_of_le (by rw[List.length_take];omega)];rfl
theorem yo (s:By) (hs:s.length≤100000000):ai Tryz.prog 61 #[.string (bs s)] h (cL fun r h'=>r= .string (bs (uf s))∧h'=h):=by
 have hbz:=bp s;have l1:(⟨#[34]⟩:ByteArray).size=1:=rfl;have l2:(⟨#[92]⟩:ByteArray).size=1:=rfl;have ln:(⟨#[92,110]⟩:ByteArray).size=2:=rfl;have lr:(⟨#[92,114]⟩:ByteArray).size=2:=rfl;have lt:(⟨#[92,116]⟩:ByteArray).size=2:=rfl;have l0:(⟨#[92,48]⟩:ByteArray).size=2:=rfl;refine ai.of func61 rfl rfl ?_;refine aW func61 1 [0,2] rfl ?_;refine aW func61 1 [0,2,3] rfl ?_;refine av rfl ?_;refine aW func61 1 [0,2,3,4] rfl ?_;refine G.block rfl rfl ?_;refine bE (σ:=Nat) (fun i=>[(0,.string (bs s)),(3,.string (bs (34::(s.take i).flatMap cV))),(4,.int .i64 (i:Nat))]) (fun i g=>g=h∧i≤s.length) (fun i=>s.length-i) (0) rfl ⟨rfl,rfl,rfl,trivial⟩ ⟨rfl,Nat.zero_le _⟩ ?_;rintro i g ⟨rfl,hi⟩ ih
 have htl:(34::(s.take i).flatMap cV).length≤2*s.length+1:=by
  have:=qW (s.take i);rw[List.length_take] at this;rw[List.length_cons];omega
 have hbq:=bp (34::(s.take i).flatMap cV);refine av rfl ?_;refine br func61 2 rfl ?_;refine xp rfl (aj.bG underlying9 rfl) ?_;refine aQ 1 [0,3,4,8] rfl ?_;refine aL rfl rfl (fun hlt=>?_) (fun hlt=>?_)
 · have hil:i<s.length:=by omega
   obtain⟨c,hc⟩:∃c,s[i]? =some c:=⟨_,List.getElem?_eq_getElem hil⟩
   have htk:34::(s.take (i+1)).flatMap cV=(34::(s.take i).flatMap cV)++cV c:=by rw[List.take_add_one,hc];simp
   have hone:=IZ hc;refine aE rfl ?_;refine av rfl ?_;refine G.block rfl rfl ?_;refine br func61 2 rfl ?_;refine xp rfl (aj.cm underlying9 rfl rfl i rfl (eF hc)) ?_;refine xd [0,3,4,8,13] rfl ?_;refine G.block rfl rfl ?_;refine aW func61 2 [0,3,4,8,13,21] rfl ?_;refine aL rfl rfl (fun c10=>?_) (fun c10=>?_)
   · obtain rfl:c=10:=qO (n:=10) c10;refine G.bT func61 rfl ?_;refine bP 1 rfl rfl (aj.bf rfl rfl (by omega)) ?_;refine aQ 1 [0,3,4,8,13,21] rfl ?_;refine G.aN ?_;refine G.aN ?_;refine G.bT func61 rfl ?_;refine bP 1 rfl rfl (aj.bA rfl rfl ⟨by omega,by omega⟩) ?_;refine aQ 1 [0,3,4,8,13,21] rfl ?_;exact ih (i+1) _ _ ⟨rfl,congrArg (fun x=>some (Value.string x)) (by rw[htk,←bB];rfl),rfl,trivial⟩ ⟨rfl,hil⟩ (by omega)
   · refine aW func61 2 [0,3,4,8,13,21,25] rfl ?_;refine aL rfl rfl (fun c13=>?_) (fun c13=>?_)
     · obtain rfl:c=13:=qO (n:=13) c13;refine G.bT func61 rfl ?_;refine bP 1 rfl rfl (aj.bf rfl rfl (by omega)) ?_;refine aQ 1 [0,3,4,8,13,21,25] rfl ?_;refine G.aN ?_;refine G.aN ?_;refine G.bT func61 rfl ?_;refine bP 1 rfl rfl (aj.bA rfl rfl ⟨by omega,by omega⟩) ?_;refine aQ 1 [0,3,4,8,13,21,25] rfl ?_;exact ih (i+1) _ _ ⟨rfl,congrArg (fun x=>some (Value.string x)) (by rw[htk,←bB];rfl),rfl,trivial⟩ ⟨rfl,hil⟩ (by omega)
     · refine aW func61 2 [0,3,4,8,13,21,25,29] rfl ?_;refine aL rfl rfl (fun c9=>?_) (fun c9=>?_)
       · obtain rfl:c=9:=qO (n:=9) c9;refine G.bT func61 rfl ?_;refine bP 1 rfl rfl (aj.bf rfl rfl (by omega)) ?_;refine aQ 1 [0,3,4,8,13,21,25,29] rfl ?_;refine G.aN ?_;refine G.aN ?_;refine G.bT func61 rfl ?_;refine bP 1 rfl rfl (aj.bA rfl rfl ⟨by omega,by omega⟩) ?_;refine aQ 1 [0,3,4,8,13,21,25,29] rfl ?_;exact ih (i+1) _ _ ⟨rfl,congrArg (fun x=>some (Value.string x)) (by rw[htk,←bB];rfl),rfl,trivial⟩ ⟨rfl,hil⟩ (by omega)
       · refine aW func61 2 [0,3,4,8,13,21,25,29,33] rfl ?_;refine aL rfl rfl (fun c0=>?_) (fun c0=>?_)
         · obtain rfl:c=0:=qO (n:=0) c0;refine G.bT func61 rfl ?_;refine bP 1 rfl rfl (aj.bf rfl rfl (by omega)) ?_;refine aQ 1 [0,3,4,8,13,21,25,29,33] rfl ?_;refine G.aN ?_;refine G.aN ?_;refine G.bT func61 rfl ?_;refine bP 1 rfl rfl (aj.bA rfl rfl ⟨by omega,by omega⟩) ?_;refine aQ 1 [0,3,4,8,13,21,25,29,33] rfl ?_;exact ih (i+1) _ _ ⟨rfl,congrArg (fun x=>some (Value.string x)) (by rw[htk,←bB];rfl),rfl,trivial⟩ ⟨rfl,hil⟩ (by omega)
         · refine av rfl ?_;refine aW func61 2 [0,3,4,8,13,21,25,29,33,37] rfl ?_;refine aL rfl rfl (fun c34=>?_) (fun c34=>?_)
           · obtain rfl:c=34:=qO (n:=34) c34;refine aE rfl ?_;refine aI rfl rfl (fun _=>?_) (fun hc=>absurd hc (by rw[c34];decide));refine G.bT func61 rfl ?_;refine bP 1 rfl rfl (aj.bf rfl rfl (by omega)) ?_;refine bP 3 rfl rfl (aj.bA rfl rfl ⟨by omega,by omega⟩) ?_;refine xp rfl (aj.mz underlying9 rfl rfl i rfl rfl (i+1) (by omega) (by omega) (by omega)) ?_;rw[qD _ _ _ (show i≤i+1 by omega),hone];have hb1:(bs [34]).size=1:=rfl;refine xp rfl (aj.bf rfl rfl (by simp only[ByteArray.size_append];omega)) ?_;refine aQ 1 [0,3,4,8,13,21,25,29,33,37] rfl ?_;refine G.aN ?_;refine G.aN ?_;refine G.bT func61 rfl ?_;refine bP 1 rfl rfl (aj.bA rfl rfl ⟨by omega,by omega⟩) ?_;refine aQ 1 [0,3,4,8,13,21,25,29,33,37] rfl ?_;exact ih (i+1) _ _ ⟨rfl,congrArg (fun x=>some (Value.string x)) (by rw[htk,show cV 34=[92]++[34] from rfl,←bB,←bB,←ByteArray.append_assoc];rfl),rfl,trivial⟩ ⟨rfl,hil⟩ (by omega)
           · refine G.bT func61 rfl ?_;refine aQ 2 [0,3,4,8,13,21,25,29,33,37] rfl ?_;refine aL rfl rfl (fun c92=>?_) (fun c92=>?_)
             · obtain rfl:c=92:=qO (n:=92) c92;refine G.bT func61 rfl ?_;refine bP 1 rfl rfl (aj.bf rfl rfl (by omega)) ?_;refine bP 3 rfl rfl (aj.bA rfl rfl ⟨by omega,by omega⟩) ?_;refine xp rfl (aj.mz underlying9 rfl rfl i rfl rfl (i+1) (by omega) (by omega) (by omega)) ?_;rw[qD _ _ _ (show i≤i+1 by omega),hone];have hb1:(bs [92]).size=1:=rfl;refine xp rfl (aj.bf rfl rfl (by simp only[ByteArray.size_append];omega)) ?_;refine aQ 1 [0,3,4,8,13,21,25,29,33,37] rfl ?_;refine G.aN ?_;refine G.aN ?_;refine G.bT func61 rfl ?_;refine bP 1 rfl rfl (aj.bA rfl rfl ⟨by omega,by omega⟩) ?_;refine aQ 1 [0,3,4,8,13,21,25,29,33,37] rfl ?_;exact ih (i+1) _ _ ⟨rfl,congrArg (fun x=>some (Value.string x)) (by rw[htk,show cV 92=[92]++[92] from rfl,←bB,←bB,←ByteArray.append_assoc];rfl),rfl,trivial⟩ ⟨rfl,hil⟩ (by omega)
             · have hq:cV c=[c]:=Ao ⟨fun q=>c10 (by rw[q];rfl),fun q=>c13 (by rw[q];rfl),fun q=>c9 (by rw[q];rfl),fun q=>c0 (by rw[q];rfl),fun q=>c34 (by rw[q];rfl),fun q=>c92 (by rw[q];rfl)⟩
               refine G.bT func61 rfl ?_;refine bP 4 rfl rfl (aj.bA rfl rfl ⟨by omega,by omega⟩) ?_;refine xp rfl (aj.mz underlying9 rfl rfl i rfl rfl (i+1) (by omega) (by omega) (by omega)) ?_;rw[qD _ _ _ (show i≤i+1 by omega),hone];have hb1:(bs [c]).size=1:=rfl;refine xp rfl (aj.bf rfl rfl (by omega)) ?_;refine aQ 1 [0,3,4,8,13,21,25,29,33,37] rfl ?_;refine G.aN ?_;refine G.aN ?_;refine G.bT func61 rfl ?_;refine bP 1 rfl rfl (aj.bA rfl rfl ⟨by omega,by omega⟩) ?_;refine aQ 1 [0,3,4,8,13,21,25,29,33,37] rfl ?_;exact ih (i+1) _ _ ⟨rfl,congrArg (fun x=>some (Value.string x)) (by rw[htk,hq,←bB]),rfl,trivial⟩ ⟨rfl,hil⟩ (by omega)
 · have hie:i=s.length:=by omega
   rw[hie,List.take_length] at hbq htl;rw[hie,List.take_length];refine bz rfl rfl ?_;refine br func61 1 rfl ?_;refine xp rfl (aj.bf rfl rfl (by omega)) ?_;refine aQ 1 [0,2,3,4,8] rfl ?_;refine G.ret func61 rfl rfl ?_;exact⟨_,rfl,by show Value.string (bs (34::s.flatMap cV)++bs [34])=_;rw[bB];rfl,rfl⟩
theorem Aa (six:Bool):∀(l:List Tr) (j i:Nat),(eJ six j l)[i]? =(l[i]?).map fun x=>bl (six && decide (j+i=2)) x
 | [],j,i=>by rw[eJ];simp
 |x::l,j,0=>by rw[eJ];simp
 |x::l,j,i+1=>by
  rw[eJ,List.getElem?_cons_succ,List.getElem?_cons_succ,Aa six l (j+1) i,show j+1+i=j+(i+1) by omega]
theorem Cf {l:List By}(h:l≠[]) (x:By):dP (l++[x])=(dP l++[59,32])++x:=by
 cases l with
 |nil=>exact absurd rfl h
 |cons a m=>rw[List.cons_append,gP,gP,List.flatMap_append];simp
def Jn (x:Tr):Prop:=∀(bare:Bool) (h:aD) (O:Nat→Prop) (v:Value),dS h O v x→ai Tryz.prog 36 #[v,.bool bare] h (cL fun r h'=>r= .string (bs (bl bare x))∧aF h h')
theorem E7 {k:Int}{t:By}{l:List Tr}(hw:(Tr.mk k t l).wt≤1000000) (hva:cO bX (.mk k t l)=true) (hsk:∀y∈l,Jn y):Jn (.mk k t l):=by
 intro bare h O v hv;obtain⟨w,rfl,hw0⟩:=id hv.open;obtain⟨a,n,c,rfl,hws⟩:=id hw0.open;have hn:l.length=n:=hws.len;subst hn;have hcap:=hws.cap;have hle:=hws.le;simp only[maxLen] at hcap;have wt0:=tj k t l;have qt:=bp t
 have hkl:∀y∈l,∀b,(bs (bl b y)).size≤1000000:=fun y hy b=>by
  have:=jJ (k:=k) (t:=t) hy;have:=ig y b;rw[bp];omega
 have hsum:(dP (l.map (bl false))).length≤1000000:=by
  have h1:=ql (eJ false 0 l);have h2:=iU l false 0;have h3:=gw l false 0;rw[←kr l 0];have h4:(Tr.mk k t l).wt=2*t.length+20+pH l:=by rw[Tr.wt]
  omega
 have hll:l.length≤1000000:=by
  have h2:=iU l false 0;have h4:(Tr.mk k t l).wt=2*t.length+20+pH l:=by rw[Tr.wt]
  omega
 rw[gK,ku,Bool.and_eq_true,Bool.and_eq_true] at hva;obtain⟨⟨hbd,_⟩,hvq⟩:=hva;have hbd:(0≤k∧k≤10)∧(cz k).1≤l.length∧l.length≤(cz k).2:=of_decide_eq_true hbd;have m40:(⟨#[40]⟩:ByteArray).size=1:=rfl;have m41:(⟨#[41]⟩:ByteArray).size=1:=rfl;have m32:(⟨#[32]⟩:ByteArray).size=1:=rfl;have mlet:(⟨#[108,101,116,32]⟩:ByteArray).size=4:=rfl;have meq:(⟨#[32,61,32]⟩:ByteArray).size=3:=rfl;have min_:(⟨#[32,105,110,32]⟩:ByteArray).size=4:=rfl;have mfun:(⟨#[40,102,117,110,32]⟩:ByteArray).size=5:=rfl;have marr:(⟨#[32,45,62,32]⟩:ByteArray).size=4:=rfl;have mopn:(⟨#[123,32]⟩:ByteArray).size=2:=rfl;have mcls:(⟨#[32,125]⟩:ByteArray).size=2:=rfl;have mif:(⟨#[105,102,32]⟩:ByteArray).size=3:=rfl;have mels:(⟨#[32,101,108,115,101,32]⟩:ByteArray).size=6:=rfl;have msem:(⟨#[59,32]⟩:ByteArray).size=2:=rfl;obtain⟨K,hK⟩:∃K,K=eJ (decide (k=6)) 0 l:=⟨_,rfl⟩
 have hKl:K.length=l.length:=by rw[hK,gw]
 have hKat:∀i x,l[i]? =some x→K[i]? =some (bl (decide (k=6) && decide (i=2)) x):=fun i x hx=>by rw[hK,Aa,hx,Nat.zero_add];rfl
 refine ai.of func36 rfl rfl ?_;refine xr func36 rfl ?_;refine xo rfl (aC.fe rfl) ?_;rintro _ h1 ⟨rfl,k1,e1,z1⟩;refine aQ 1 [0,1,2,4] rfl ?_;refine xr func36 rfl ?_;refine xo rfl (aC.Cs underlying93 H.nT) ?_;rintro _ h2 ⟨rfl,hh2⟩;have e12:aF h1 h2:=by rw[hh2];exact Ext.push _ _ _
 have k1:bq h2 h.size 43 (iJ k t a l.length c):=k1.ax e12;have e02:=e1.trans e12;have ho2:cK lG h2 h1.size 9 (.slice (some ⟨h1.size,0,none⟩) 0 0) []:=by rw[hh2];exact CC h1 9 1 h1.size (Nat.le_refl _)
 refine aQ 1 [0,1,2,4,5] rfl ?_;refine av rfl ?_;refine aW func36 1 [0,1,2,4,5,6] rfl ?_;refine G.block rfl rfl ?_;refine bE (σ:=Nat×Value) (fun w=>[(1,.bool bare),(2,ptr h.size),(5,w.2),(6,.int .i64 (w.1:Nat))]) (fun w g=>w.1≤l.length∧aF h1 g∧bq g h.size 43 (iJ k t a l.length c)∧cK lG g h1.size 9 w.2 (K.take w.1)) (fun w=>l.length-w.1) ((0,.slice (some ⟨h1.size,0,none⟩) 0 0)) rfl ⟨rfl,rfl,rfl,rfl,trivial⟩ ⟨Nat.zero_le _,e12,k1,ho2⟩ ?_;rintro⟨i,ov⟩ g ⟨hi,eg,kg,ho⟩ ih
 try dsimp only
 dsimp only at hi ho;have e0g:=e1.trans eg;have hlt0:(K.take i).length=i:=by rw[List.length_take,hKl];omega
 have hho:aS g h1.size 9 1 ov (K.take i).length ((K.take i).map lG):=ho;rw[hlt0] at hho;obtain⟨va,vc,rfl,_⟩:=hho.open;have hol:∀b,(Value.slice va i vc).ownBlock=some b→h1.size≤b∧b<g.size:=fun b q=>hho.lt q
 have z1':=e1.size;refine av rfl ?_;refine br func36 1 rfl ?_;refine xp rfl (af (off:=2) underlying43 rfl rfl H.nQ rfl) ?_;refine xp rfl (ah H.qF rfl (kg.cell (i:=2) rfl)) ?_;refine xp rfl (aj.aJ underlying32 rfl) ?_;refine aQ 1 [1,2,5,6,14] rfl ?_;refine aL rfl rfl (fun hlt=>?_) (fun hlt=>?_)
 · have hil:i<l.length:=by omega
   obtain⟨b,o,x,xk,xt,xa,xn,xc,ha,hx,hrow,hnx,_,_⟩:=gy hws hil;have hb:b<h.size:=eM hrow (by simp);have hrowg:=e0g.rowAt (fun k=>k) hrow;have hxm:x∈l:=List.mem_of_getElem? hx
   have hM:∀y,y≤h.size→y<h1.size→¬(cT (Value.slice va i vc).ownBlock y∨Array.size g≤y):=fun y hy hy1 q=>by
    rcases q with q|q
    · have:=hol y q.symm;omega
    · have:=eg.size;omega
   have hMn:=hM h.size (Nat.le_refl _) (by omega);have hMb:=hM b (by omega) (by omega);have hcall:=fun bb=>hsk x hxm bb g O _ (hnx.mv (Mv.ax e0g))
   refine aE rfl ?_;refine av rfl ?_;refine G.block rfl rfl ?_;refine G.qx (fun(y:Value) (h':aD)=>(aF h1 h'∧bq h' h.size 43 (iJ k t a l.length c)∧cK lG h' h1.size 9 y (K.take (i+1)))) (fun(y:Value)=>[(5,y)]) [(1,_),(2,_),(6,_),(14,_)] ⟨rfl,rfl,rfl,rfl,trivial⟩ (fun b=>cT (Value.slice va i vc).ownBlock b∨Array.size g≤b) (fun i=>Nat.blt i 17) (sz:=17) (listed:= #[false,false,false,false,false,false,false,false,false,false,false,false,false,false,false,false,false]) func36 H.mixed rfl rfl rfl ?_ ?_
   · refine b9 0 1 (by kernel_rfl) rfl ?_;refine bI 1 3 (by kernel_rfl) rfl (fun h' e=>af (off:=2) underlying43 rfl rfl H.nQ rfl) ?_;refine bI 2 7 (by kernel_rfl) rfl (fun h' e=>ah H.qF rfl (e.cell hMn (kg.cell (i:=2) rfl))) ?_;refine b9 3 15 (by kernel_rfl) rfl ?_;refine bI 4 31 (by kernel_rfl) rfl (fun h' e=>aj.ay underlying32 H.dI rfl rfl i rfl ha (by omega)) ?_;refine bI 5 63 (by kernel_rfl) rfl (fun h' e=>aj.aG H.rL H.dI rfl (e.rowAt hMb hrowg) (by first|rfl|(simp;done)|(simp;omega))) ?_;refine bI 6 127 (by kernel_rfl) rfl (fun h' e=>af (off:=0) underlying43 rfl rfl H.bY rfl) ?_;refine bI 7 255 (by kernel_rfl) rfl (fun h' e=>ah H.cG rfl (e.cell hMn (kg.cell (i:=0) rfl))) ?_;refine b9 8 511 (by kernel_rfl) rfl ?_;refine b9 9 1023 (by kernel_rfl) rfl ?_;refine vN (d:=26) rfl (fun p=>?_) (fun p=>?_)
     · refine b9 10 2047 (by kernel_rfl) rfl ?_;refine b9 11 4095 (by kernel_rfl) rfl ?_;refine b9 12 8191 (by kernel_rfl) rfl ?_;refine cU 13 16383 (by kernel_rfl) rfl (aq (vs:=[_,_]) func36 rfl H.I3 rfl (ai.bw (hcall (decide ((i:Int)=2))))) ?_;rintro _ g3 ⟨rfl,e4⟩;refine⟨fun _=>e4.of,?_⟩;have hho3:=hho.l7 e4;refine cU 14 32767 (by kernel_rfl) rfl (aC.aZ (us:=[_]) underlying93 H.nT rfl rfl (by decide) (by simp[Value.oneCell'])) ?_;rintro _ _ ⟨rfl,rfl⟩;refine⟨fun _=>by first|exact Ext.push _ _ _|assumption,?_⟩;refine cU 15 65535 (by kernel_rfl) rfl (aC.bO underlying93 H.nT rfl rfl (hho3) rfl rfl (by first|decide|simp[Value.oneCell']) (by omega) (by decide) (by have:=eg.size;have:=e4.size;omega)) ?_;rintro v5 g5 ⟨ho5,hx5,hx5',hv5⟩;refine⟨fun _=>hx5'.mono (fun b _ q=>.inl q),?_⟩
       have ho5:cK lG g5 h1.size 9 v5 (K.take (i+1)):=by
        rw[List.take_add_one,hKat i x hx,show (decide (k=6) && decide (i=2))=decide ((i:Int)=2) by rw[p,Bool.true_and,decide_eq_decide];omega];exact cK.of ho5 hlt0.symm rfl rfl
       have e5:aF h1 g5:=Ext.own (eg.trans e4) hho3 (Nat.le_refl _) hx5;have kg5:=(kg.ax e4).ext hx5 (fun q=>by have:=hol _ q.symm;omega);refine b9 16 131071 (by kernel_rfl) rfl ?_;refine bg (by kernel_rfl) ?_;exact⟨v5,⟨e5,kg5,ho5⟩,rfl,rfl,rfl,rfl,rfl,trivial⟩
     · refine zx 10 2047 (by kernel_rfl) rfl ?_;refine zx 11 4095 (by kernel_rfl) rfl ?_;refine b9 12 8191 (by kernel_rfl) rfl ?_;refine cU 13 16383 (by kernel_rfl) rfl (aq (vs:=[_,_]) func36 rfl H.I3 rfl (ai.bw (hcall (false)))) ?_;rintro _ g3 ⟨rfl,e4⟩;refine⟨fun _=>e4.of,?_⟩;have hho3:=hho.l7 e4;refine cU 14 32767 (by kernel_rfl) rfl (aC.aZ (us:=[_]) underlying93 H.nT rfl rfl (by decide) (by simp[Value.oneCell'])) ?_;rintro _ _ ⟨rfl,rfl⟩;refine⟨fun _=>by first|exact Ext.push _ _ _|assumption,?_⟩;refine cU 15 65535 (by kernel_rfl) rfl (aC.bO underlying93 H.nT rfl rfl (hho3) rfl rfl (by first|decide|simp[Value.oneCell']) (by omega) (by decide) (by have:=eg.size;have:=e4.size;omega)) ?_;rintro v5 g5 ⟨ho5,hx5,hx5',hv5⟩;refine⟨fun _=>hx5'.mono (fun b _ q=>.inl q),?_⟩
       have ho5:cK lG g5 h1.size 9 v5 (K.take (i+1)):=by
        rw[List.take_add_one,hKat i x hx,p,Bool.false_and];exact cK.of ho5 hlt0.symm rfl rfl
       have e5:aF h1 g5:=Ext.own (eg.trans e4) hho3 (Nat.le_refl _) hx5;have kg5:=(kg.ax e4).ext hx5 (fun q=>by have:=hol _ q.symm;omega);refine b9 16 131071 (by kernel_rfl) rfl ?_;refine bg (by kernel_rfl) ?_;exact⟨v5,⟨e5,kg5,ho5⟩,rfl,rfl,rfl,rfl,rfl,trivial⟩
   · rintro y g5 ⟨e5,kg5,ho5⟩;refine G.aN ?_;refine G.bT func36 rfl ?_;refine bP 1 rfl rfl (aj.bA rfl rfl ⟨by omega,by omega⟩) ?_;refine aQ 1 [1,2,5,6,14] rfl ?_;exact ih (i+1,y) _ _ ⟨rfl,rfl,rfl,rfl,trivial⟩ ⟨hil,e5,kg5,ho5⟩ (by show l.length-(i+1)<l.length-i;omega)
 · obtain rfl:i=l.length:=by omega
   rw[←hKl,List.take_length] at ho;refine bz rfl rfl ?_;refine aW func36 1 [1,2,5,6,7,14] rfl ?_;refine av rfl ?_;refine xr func36 rfl ?_;refine xp rfl (af (off:=0) underlying43 rfl rfl H.bY rfl) ?_;refine xp rfl (ah H.cG rfl (kg.cell (i:=0) rfl)) ?_;refine xd [1,2,5,6,7,14,34] rfl ?_;refine G.block rfl rfl ?_;refine aW func36 2 [1,2,5,6,7,14,34,35] rfl ?_;have hKm:k≠6→K=l.map (bl false):=fun q=>by rw[hK,decide_eq_false q,kr]
   refine aL rfl rfl (fun c1=>?_) (fun c1=>?_)
   · refine xr func36 rfl ?_;refine xp rfl (af (off:=1) underlying43 rfl rfl H.dA rfl) ?_;refine xp rfl (ah H.dO rfl (kg.cell (i:=1) rfl)) ?_;refine xo rfl (aq (vs:=[_]) func61 rfl H.LN rfl (ai.bw (yo t (by omega)))) ?_;rintro _ g2 ⟨rfl,hg2⟩;refine aQ 1 [1,2,4,5,6,7,14,34,35] rfl ?_;refine G.ret func36 rfl rfl ?_;exact⟨_,rfl,by rw[ef (by omega),c1];rfl,by rw[hg2];exact e0g⟩
   · refine aW func36 2 [1,2,5,6,7,14,34,35,40] rfl ?_;refine aL rfl rfl (fun c4=>?_) (fun c4=>?_)
     · subst c4;have hbd2:1≤l.length∧l.length≤1:=hbd.2;obtain⟨x0,rfl⟩:=Eb (show l.length=1 by omega);have hb0:=hkl x0 (by simp) false;rw[hKm (by decide)] at ho;obtain⟨rg,rfl,_,_,hc0⟩:=dQ ho 0 (x:=bl false x0) rfl;refine av rfl ?_;refine G.dB func36 H.mixed rfl (by kernel_rfl) ?_;refine RQ.au rfl rfl rfl rfl (af (off:=1) underlying43 rfl rfl H.dA rfl) ?_;refine RQ.au rfl rfl rfl rfl (ah H.dO rfl (kg.cell (i:=1) rfl)) ?_;refine RQ.au rfl rfl rfl rfl (aj.bf rfl rfl (by first|omega|(simp only[ByteArray.size_append];omega))) ?_;refine RQ.au rfl rfl rfl rfl (aj.bf rfl rfl (by first|omega|(simp only[ByteArray.size_append];omega))) ?_;refine RQ.au rfl rfl rfl rfl (aK rfl) ?_;refine RQ.au rfl rfl rfl rfl (aj.ay underlying93 H.dA rfl rfl 0 rfl rfl (by simp)) ?_;refine RQ.au rfl rfl rfl rfl (ah H.dO rfl hc0) ?_;refine RQ.au rfl rfl rfl rfl (aj.bf rfl rfl (by first|omega|(simp only[ByteArray.size_append];omega))) ?_;refine RQ.au rfl rfl rfl rfl (aj.bf rfl rfl (by first|omega|(simp only[ByteArray.size_append];omega))) ?_;refine RQ.au rfl rfl rfl rfl (aj.assign rfl) ?_;refine b8 rfl ?_;refine xu [1,2,4,5,6,7,14,34,35,40] rfl ?_;refine G.ret func36 rfl rfl ?_;refine⟨_,rfl,?_,e0g⟩;rw[ef (by decide)]
       show Value.string ((((bs [40]++bs t)++bs [32])++bs (bl false x0))++bs [41])=_
       simp only[bB];rfl
     · refine aW func36 2 [1,2,5,6,7,14,34,35,40,51] rfl ?_;refine aL rfl rfl (fun c5=>?_) (fun c5=>?_)
       · subst c5;have hbd2:2≤l.length∧l.length≤2:=hbd.2;obtain⟨x0,x1,rfl⟩:=Ea (show l.length=2 by omega);have hb0:=hkl x0 (by simp) false;have hb1:=hkl x1 (by simp) false;rw[hKm (by decide)] at ho;obtain⟨rg,rfl,_,_,hc0⟩:=dQ ho 0 (x:=bl false x0) rfl;obtain⟨rg',hrg,_,_,hc1⟩:=dQ ho 1 (x:=bl false x1) rfl;cases hrg;refine av rfl ?_;refine G.dB func36 H.mixed rfl (by kernel_rfl) ?_;refine RQ.au rfl rfl rfl rfl (aK rfl) ?_;refine RQ.au rfl rfl rfl rfl (aj.ay underlying93 H.dA rfl rfl 0 rfl rfl (by simp)) ?_;refine RQ.au rfl rfl rfl rfl (ah H.dO rfl hc0) ?_;refine RQ.au rfl rfl rfl rfl (aj.bf rfl rfl (by first|omega|(simp only[ByteArray.size_append];omega))) ?_;refine RQ.au rfl rfl rfl rfl (aj.bf rfl rfl (by first|omega|(simp only[ByteArray.size_append];omega))) ?_;refine RQ.au rfl rfl rfl rfl (af (off:=1) underlying43 rfl rfl H.dA rfl) ?_;refine RQ.au rfl rfl rfl rfl (ah H.dO rfl (kg.cell (i:=1) rfl)) ?_;refine RQ.au rfl rfl rfl rfl (aj.bf rfl rfl (by first|omega|(simp only[ByteArray.size_append];omega))) ?_;refine RQ.au rfl rfl rfl rfl (aj.bf rfl rfl (by first|omega|(simp only[ByteArray.size_append];omega))) ?_;refine RQ.au rfl rfl rfl rfl (aK rfl) ?_;refine RQ.au rfl rfl rfl rfl (aj.ay underlying93 H.dA rfl rfl 1 rfl rfl (by simp)) ?_;refine RQ.au rfl rfl rfl rfl (ah H.dO rfl hc1) ?_;refine RQ.au rfl rfl rfl rfl (aj.bf rfl rfl (by first|omega|(simp only[ByteArray.size_append];omega))) ?_;refine RQ.au rfl rfl rfl rfl (aj.bf rfl rfl (by first|omega|(simp only[ByteArray.size_append];omega))) ?_;refine RQ.au rfl rfl rfl rfl (aj.assign rfl) ?_;refine b8 rfl ?_;refine xu [1,2,4,5,6,7,14,34,35,40,51] rfl ?_;refine G.ret func36 rfl rfl ?_;refine⟨_,rfl,?_,e0g⟩;rw[ef (by decide)]
         show Value.string ((((((bs [40]++bs (bl false x0))++bs [32])++bs t)++bs [32])++bs (bl false x1))++bs [41])=_
         simp only[bB];rfl
       · refine aW func36 2 [1,2,5,6,7,14,34,35,40,51,67] rfl ?_;refine aL rfl rfl (fun c6=>?_) (fun c6=>?_)
         · subst c6;have hbd2:3≤l.length∧l.length≤3:=hbd.2;obtain⟨x0,x1,x2,rfl⟩:=FU (show l.length=3 by omega);have hb0:=hkl x0 (by simp) false;have hb1:=hkl x1 (by simp) false;have hb2:=hkl x2 (by simp) true;have hK3:K=[bl false x0,bl false x1,bl true x2]:=by rw[hK];simp[eJ]
           rw[hK3] at ho;obtain⟨rg,rfl,_,_,hc0⟩:=dQ ho 0 (x:=bl false x0) rfl;obtain⟨rg',hrg,_,_,hc1⟩:=dQ ho 1 (x:=bl false x1) rfl;cases hrg;obtain⟨rg',hrg,_,_,hc2⟩:=dQ ho 2 (x:=bl true x2) rfl;cases hrg;refine av rfl ?_;refine G.dB func36 H.mixed rfl (by kernel_rfl) ?_;refine RQ.au rfl rfl rfl rfl (aK rfl) ?_;refine RQ.au rfl rfl rfl rfl (aj.ay underlying93 H.dA rfl rfl 0 rfl rfl (by simp)) ?_;refine RQ.au rfl rfl rfl rfl (ah H.dO rfl hc0) ?_;refine RQ.au rfl rfl rfl rfl (aj.bf rfl rfl (by first|omega|(simp only[ByteArray.size_append];omega))) ?_;refine RQ.au rfl rfl rfl rfl (aj.bf rfl rfl (by first|omega|(simp only[ByteArray.size_append];omega))) ?_;refine RQ.au rfl rfl rfl rfl (aK rfl) ?_;refine RQ.au rfl rfl rfl rfl (aj.ay underlying93 H.dA rfl rfl 1 rfl rfl (by simp)) ?_;refine RQ.au rfl rfl rfl rfl (ah H.dO rfl hc1) ?_;refine RQ.au rfl rfl rfl rfl (aj.bf rfl rfl (by first|omega|(simp only[ByteArray.size_append];omega))) ?_;refine RQ.au rfl rfl rfl rfl (aj.bf rfl rfl (by first|omega|(simp only[ByteArray.size_append];omega))) ?_;refine RQ.au rfl rfl rfl rfl (aK rfl) ?_;refine RQ.au rfl rfl rfl rfl (aj.ay underlying93 H.dA rfl rfl 2 rfl rfl (by simp)) ?_;refine RQ.au rfl rfl rfl rfl (ah H.dO rfl hc2) ?_;refine RQ.au rfl rfl rfl rfl (aj.bf rfl rfl (by first|omega|(simp only[ByteArray.size_append];omega))) ?_;refine RQ.au rfl rfl rfl rfl (aj.assign rfl) ?_;refine b8 rfl ?_;refine xu [1,2,5,6,7,14,34,35,40,51,67] rfl ?_;refine av rfl ?_;refine aW func36 1 [1,2,5,6,7,14,34,35,40,51,67,83] rfl ?_
           rcases bare with _|_
           · refine aI rfl rfl (fun hc=>absurd hc (by simp)) (fun _=>?_);refine aE rfl ?_;refine br func36 1 rfl ?_;refine xp rfl (aj.bf rfl rfl (by first|omega|(simp only[ByteArray.size_append];omega))) ?_;refine xp rfl (aj.bf rfl rfl (by first|omega|(simp only[ByteArray.size_append];omega))) ?_;refine aQ 1 [1,2,4,5,6,7,14,34,35,40,51,67,83] rfl ?_;refine G.ret func36 rfl rfl ?_;refine⟨_,rfl,?_,e0g⟩;rw[CP]
             show Value.string ((bs [40]++(((((bs [105,102,32]++bs (bl false x0))++bs [32])++bs (bl false x1))++bs [32,101,108,115,101,32])++bs (bl true x2)))++bs [41])=_
             simp only[bB];rfl
           · refine aI rfl rfl (fun _=>?_) (fun hc=>absurd hc (by simp));refine aW func36 2 [1,2,4,5,6,7,14,34,35,40,51,67,83] rfl ?_;refine G.ret func36 rfl rfl ?_;refine⟨_,rfl,?_,e0g⟩;rw[tS]
             show Value.string (((((bs [105,102,32]++bs (bl false x0))++bs [32])++bs (bl false x1))++bs [32,101,108,115,101,32])++bs (bl true x2))=_
             simp only[bB];rfl
         · rw[ef c6];rw[hKm c6] at ho;refine aW func36 2 [1,2,5,6,7,14,34,35,40,51,67,88] rfl ?_;refine aL rfl rfl (fun c7=>?_) (fun c7=>?_)
           · subst c7;have hbd2:1≤l.length∧l.length≤2:=hbd.2;have hlp:0<l.length:=by omega
             obtain⟨x0,hx0⟩:∃x0,l[0]? =some x0:=⟨_,List.getElem?_eq_getElem hlp⟩
             have hb0:=hkl x0 (List.mem_of_getElem? hx0) false;obtain⟨rg,rfl,hrl,_,hc0⟩:=dQ ho 0 (x:=bl false x0) (by rw[List.getElem?_map,hx0];rfl);refine av rfl ?_;refine G.dB func36 H.mixed rfl (by kernel_rfl) ?_;refine RQ.au rfl rfl rfl rfl (af (off:=1) underlying43 rfl rfl H.dA rfl) ?_;refine RQ.au rfl rfl rfl rfl (ah H.dO rfl (kg.cell (i:=1) rfl)) ?_;refine RQ.au rfl rfl rfl rfl (aj.bf rfl rfl (by first|omega|(simp only[ByteArray.size_append];omega))) ?_;refine RQ.au rfl rfl rfl rfl (aj.bf rfl rfl (by first|omega|(simp only[ByteArray.size_append];omega))) ?_;refine RQ.au rfl rfl rfl rfl (aK rfl) ?_;refine RQ.au rfl rfl rfl rfl (aj.ay underlying93 H.dA rfl rfl 0 rfl rfl (by omega)) ?_;refine RQ.au rfl rfl rfl rfl (ah H.dO rfl hc0) ?_;refine RQ.au rfl rfl rfl rfl (aj.bf rfl rfl (by first|omega|(simp only[ByteArray.size_append];omega))) ?_;refine RQ.au rfl rfl rfl rfl (aj.assign rfl) ?_;refine b8 rfl ?_;refine xu [1,2,5,6,7,14,34,35,40,51,67,88] rfl ?_;refine av rfl ?_;refine br func36 1 rfl ?_;refine xp rfl (aj.aJ underlying93 rfl) ?_;refine aQ 1 [1,2,5,6,7,14,34,35,40,51,67,88,100] rfl ?_;refine aL rfl rfl (fun htwo=>?_) (fun htwo=>?_)
             · obtain⟨y0,x1,rfl⟩:=Ea (show l.length=2 by omega);obtain rfl:y0=x0:=by simpa using hx0
               have hb1:=hkl x1 (by simp) false;obtain⟨rg',hrg,_,_,hc1⟩:=dQ ho 1 (x:=bl false x1) rfl;cases hrg;refine br func36 1 rfl ?_;refine xp rfl (aj.bf rfl rfl (by first|omega|(simp only[ByteArray.size_append];omega))) ?_;refine xp rfl (aj.bf rfl rfl (by first|omega|(simp only[ByteArray.size_append];omega))) ?_;refine bP 1 rfl rfl (aj.ay underlying93 H.dA rfl rfl 1 rfl rfl (by simp)) ?_;refine xp rfl (ah H.dO rfl hc1) ?_;refine xp rfl (aj.bf rfl rfl (by first|omega|(simp only[ByteArray.size_append];omega))) ?_;refine xp rfl (aj.bf rfl rfl (by first|omega|(simp only[ByteArray.size_append];omega))) ?_;refine aQ 1 [1,2,4,5,6,7,14,34,35,40,51,67,88,100] rfl ?_;refine G.ret func36 rfl rfl ?_;refine⟨_,rfl,?_,e0g⟩
               show Value.string ((((bs [40]++(((bs [108,101,116,32]++bs t)++bs [32,61,32])++bs (bl false y0)))++bs [32,105,110,32])++bs (bl false x1))++bs [41])=_
               simp only[bB];rfl
             · obtain⟨y0,rfl⟩:=Eb (show l.length=1 by omega);obtain rfl:y0=x0:=by simpa using hx0
               refine aE rfl ?_;refine aW func36 2 [1,2,4,5,6,7,14,34,35,40,51,67,88,100] rfl ?_;refine G.ret func36 rfl rfl ?_;refine⟨_,rfl,?_,e0g⟩
               show Value.string (((bs [108,101,116,32]++bs t)++bs [32,61,32])++bs (bl false y0))=_
               simp only[bB];rfl
           · refine aW func36 2 [1,2,5,6,7,14,34,35,40,51,67,88,110] rfl ?_;refine aL rfl rfl (fun c8=>?_) (fun c8=>?_)
             · subst c8;have hbd2:1≤l.length∧l.length≤1:=hbd.2;obtain⟨x0,rfl⟩:=Eb (show l.length=1 by omega);have hb0:=hkl x0 (by simp) false;obtain⟨rg,rfl,_,_,hc0⟩:=dQ ho 0 (x:=bl false x0) rfl;refine av rfl ?_;refine G.dB func36 H.mixed rfl (by kernel_rfl) ?_;refine RQ.au rfl rfl rfl rfl (af (off:=1) underlying43 rfl rfl H.dA rfl) ?_;refine RQ.au rfl rfl rfl rfl (ah H.dO rfl (kg.cell (i:=1) rfl)) ?_;refine RQ.au rfl rfl rfl rfl (aj.bf rfl rfl (by first|omega|(simp only[ByteArray.size_append];omega))) ?_;refine RQ.au rfl rfl rfl rfl (aj.bf rfl rfl (by first|omega|(simp only[ByteArray.size_append];omega))) ?_;refine RQ.au rfl rfl rfl rfl (aK rfl) ?_;refine RQ.au rfl rfl rfl rfl (aj.ay underlying93 H.dA rfl rfl 0 rfl rfl (by simp)) ?_;refine RQ.au rfl rfl rfl rfl (ah H.dO rfl hc0) ?_;refine RQ.au rfl rfl rfl rfl (aj.bf rfl rfl (by first|omega|(simp only[ByteArray.size_append];omega))) ?_;refine RQ.au rfl rfl rfl rfl (aj.bf rfl rfl (by first|omega|(simp only[ByteArray.size_append];omega))) ?_;refine RQ.au rfl rfl rfl rfl (aj.assign rfl) ?_;refine b8 rfl ?_;refine xu [1,2,4,5,6,7,14,34,35,40,51,67,88,110] rfl ?_;refine G.ret func36 rfl rfl ?_;refine⟨_,rfl,?_,e0g⟩
               show Value.string ((((bs [40,102,117,110,32]++bs t)++bs [32,45,62,32])++bs (bl false x0))++bs [41])=_
               simp only[bB];rfl
             · refine aW func36 2 [1,2,5,6,7,14,34,35,40,51,67,88,110,121] rfl ?_;refine aL rfl rfl (fun c9=>?_) (fun c9=>?_)
               · subst c9;have hbd2:2≤l.length∧l.length≤2:=hbd.2;obtain⟨x0,x1,rfl⟩:=Ea (show l.length=2 by omega);have hb0:=hkl x0 (by simp) false;have hb1:=hkl x1 (by simp) false;obtain⟨rg,rfl,_,_,hc0⟩:=dQ ho 0 (x:=bl false x0) rfl;obtain⟨rg',hrg,_,_,hc1⟩:=dQ ho 1 (x:=bl false x1) rfl;cases hrg;refine av rfl ?_;refine G.dB func36 H.mixed rfl (by kernel_rfl) ?_;refine RQ.au rfl rfl rfl rfl (aK rfl) ?_;refine RQ.au rfl rfl rfl rfl (aj.ay underlying93 H.dA rfl rfl 0 rfl rfl (by simp)) ?_;refine RQ.au rfl rfl rfl rfl (ah H.dO rfl hc0) ?_;refine RQ.au rfl rfl rfl rfl (aj.bf rfl rfl (by first|omega|(simp only[ByteArray.size_append];omega))) ?_;refine RQ.au rfl rfl rfl rfl (aK rfl) ?_;refine RQ.au rfl rfl rfl rfl (aj.ay underlying93 H.dA rfl rfl 1 rfl rfl (by simp)) ?_;refine RQ.au rfl rfl rfl rfl (ah H.dO rfl hc1) ?_;refine RQ.au rfl rfl rfl rfl (aj.bf rfl rfl (by first|omega|(simp only[ByteArray.size_append];omega))) ?_;refine RQ.au rfl rfl rfl rfl (aj.bf rfl rfl (by first|omega|(simp only[ByteArray.size_append];omega))) ?_;refine RQ.au rfl rfl rfl rfl (aj.assign rfl) ?_;refine b8 rfl ?_;refine xu [1,2,4,5,6,7,14,34,35,40,51,67,88,110,121] rfl ?_;refine G.ret func36 rfl rfl ?_;refine⟨_,rfl,?_,e0g⟩
                 show Value.string (((bs (bl false x0)++bs [40])++bs (bl false x1))++bs [41])=_
                 simp only[bB];rfl
               · refine aW func36 2 [1,2,5,6,7,14,34,35,40,51,67,88,110,121,132] rfl ?_;refine aL rfl rfl (fun c10=>?_) (fun c10=>?_)
                 · subst c10;have hbd2:1≤l.length∧l.length≤500:=hbd.2;obtain⟨M,hM⟩:∃M,M=l.map (bl false):=⟨_,rfl⟩
                   have hMl:M.length=l.length:=by rw[hM,List.length_map]
                   rw[←hM] at ho hsum
                   have hpre:∀j,1≤j→j≤M.length→(dP (M.take j)).length≤1000000:=fun j hj hj2=>by
                    have h1:=nI (M.take j);have h2:=nI M;have h3:=tn M j;rw[List.length_take] at h1;omega
                   have hMlt:0<M.length:=by omega
                   obtain⟨m0,hm0⟩:∃m0,M[0]? =some m0:=⟨_,List.getElem?_eq_getElem hMlt⟩
                   have IA:dP (M.take 1)=m0:=by rw[List.take_add_one,hm0];rfl
                   have hq0:=bp m0;have hp1:=hpre 1 (Nat.le_refl _) (by omega);rw[IA] at hp1;obtain⟨rg,rfl,_,hMv,hc0⟩:=dQ ho 0 (x:=m0) hm0;refine br func36 1 rfl ?_;refine xp rfl (aj.ay underlying93 H.dA rfl rfl 0 rfl rfl (by omega)) ?_;refine xp rfl (ah H.dO rfl hc0) ?_;refine xp rfl (aj.bf rfl rfl (by first|omega|(simp only[ByteArray.size_append];omega))) ?_;rw[show (⟨#[123,32]⟩:ByteArray)++bs m0=bs ([123,32]++dP (M.take 1)) by rw[IA,←bB];rfl];refine aQ 1 [1,2,5,6,7,14,34,35,40,51,67,88,110,121,132] rfl ?_;refine av rfl ?_;refine aW func36 1 [1,2,5,6,7,8,14,34,35,40,51,67,88,110,121,132] rfl ?_;refine G.block rfl rfl ?_;refine bE (σ:=Nat) (fun j=>[(5,.slice (some ⟨rg,0,none⟩) l.length vc),(7,.string (bs ([123,32]++dP (M.take j)))),(8,.int .i64 (j:Nat))]) (fun j g'=>g'=g∧1≤j∧j≤M.length) (fun j=>M.length-j) (1) rfl ⟨rfl,rfl,rfl,trivial⟩ ⟨rfl,Nat.le_refl _,by omega⟩ ?_;rintro j g' ⟨hg',hj1,hj2⟩ ihJ;subst hg';have hpj:=hpre j hj1 hj2;have hqj:=bp ([123,32]++dP (M.take j));rw[List.length_append] at hqj;have hl2:([123,32]:By).length=2:=rfl;refine av rfl ?_;refine br func36 2 rfl ?_;refine xp rfl (aj.aJ underlying93 rfl) ?_;refine aQ 1 [5,7,8,141] rfl ?_;refine aL rfl rfl (fun hjl=>?_) (fun hjl=>?_)
                   · obtain⟨mj,hmj⟩:∃mj,M[j]? =some mj:=⟨_,List.getElem?_eq_getElem (show j<M.length by omega)⟩
                     obtain⟨rg',hrg,hjv,_,hcj⟩:=dQ ho j (x:=mj) hmj;cases hrg;have hpn:=hpre (j+1) (by omega) (by omega)
                     have htj:dP (M.take (j+1))=(dP (M.take j)++[59,32])++mj:=by
                      rw[List.take_add_one,hmj];exact Cf (fun q=>by have:=congrArg List.length q;rw[List.length_take,List.length_nil] at this;omega) mj
                     have hqm:=bp mj;rw[htj,List.length_append,List.length_append] at hpn;refine aE rfl ?_;refine av rfl ?_;refine G.block rfl rfl ?_;refine G.bT func36 rfl ?_;refine bP 1 rfl rfl (aj.bf rfl rfl (by first|omega|(simp only[ByteArray.size_append];omega))) ?_;refine bP 2 rfl rfl (aj.ay underlying93 H.dA rfl rfl j rfl rfl (by omega)) ?_;refine xp rfl (ah H.dO rfl hcj) ?_;refine xp rfl (aj.bf rfl rfl (by first|omega|(simp only[ByteArray.size_append];omega))) ?_;refine aQ 1 [5,7,8,141] rfl ?_;refine G.aN ?_;refine G.bT func36 rfl ?_;refine bP 1 rfl rfl (aj.bA rfl rfl ⟨by omega,by omega⟩) ?_;refine aQ 1 [5,7,8,141] rfl ?_;exact ihJ (j+1) _ _ ⟨rfl,congrArg (fun x=>some (Value.string x)) (by rw[htj,←List.append_assoc,←List.append_assoc,←bB,←bB];rfl),rfl,trivial⟩ ⟨rfl,by omega,by omega⟩ (by omega)
                   · have hje:M.take j=M:=List.take_of_length_le (by omega);rw[hje] at hqj ⊢;refine bz rfl rfl ?_;refine br func36 1 rfl ?_;refine xp rfl (aj.bf rfl rfl (by first|omega|(simp only[ByteArray.size_append];omega))) ?_;refine aQ 1 [4,5,7,8,141] rfl ?_;refine G.ret func36 rfl rfl ?_;refine⟨_,rfl,?_,e0g⟩;rw[hM]
                     show Value.string (bs ([123,32]++dP (l.map (bl false)))++bs [32,125])=_
                     simp only[bB];rfl
                 · refine aE rfl ?_;refine G.aN ?_;refine xr func36 rfl ?_;refine xp rfl (af (off:=1) underlying43 rfl rfl H.dA rfl) ?_;refine xp rfl (ah H.dO rfl (kg.cell (i:=1) rfl)) ?_;refine aQ 1 [1,2,4,5,6,7,14,34,35,40,51,67,88,110,121,132] rfl ?_;refine G.ret func36 rfl rfl ?_;refine⟨_,rfl,?_,e0g⟩;unfold rV;rw[if_neg c1,if_neg c4,if_neg c5,if_neg c6,if_neg c7,if_neg c8,if_neg c9,if_neg c10];rfl
theorem DJ:∀(d:Nat) (x:Tr),x.dep≤d→x.wt≤1000000→cO bX x=true→Jn x:=by
 intro d
 induction d with
 |zero=>intro x hx;cases x with|mk k t l=>simp[Tr.dep] at hx
 |succ d ih =>
 intro x hd hw hva;cases x with
 |mk k t l =>
  have hva0:=hva;rw[gK,Bool.and_eq_true] at hva;exact E7 hw hva0 fun y hy=>ih y (by have:=lJ (k:=k) (t:=t) hy;omega) (by have:=jJ (k:=k) (t:=t) hy;omega) (qN hva.2 hy)
theorem Ah (hw:x.wt≤1000000) (hv:dS h O v x):ai Tryz.prog 17 #[v] h (cL fun r h'=>r= .string (bs (mB x))∧aF h h'):=by
 obtain⟨k,t,a,n,c,rfl,hR⟩:=id hv.get;refine ai.of func17 rfl rfl ?_;refine xr func17 rfl ?_;refine xo rfl (aC.fe rfl) ?_;rintro _ h1 ⟨rfl,k1,e1,z1⟩;refine aQ 1 [0,1,2] rfl ?_;refine av rfl ?_;refine xr func17 rfl ?_;refine xp rfl (aj.aG H.rL H.dI rfl k1.row (by first|rfl|(simp;done)|(simp;omega))) ?_;refine xo rfl (aq (vs:=[_]) func15 rfl H.I6 rfl (ai.bw (pR hw (hv.mv (Mv.ax e1))))) ?_;rintro _ h2 ⟨rfl,e2⟩;refine aQ 1 [0,1,2,5] rfl ?_;refine aI rfl rfl (fun hb=>?_) (fun hb=>?_)
 · have hb:cO bX x=false:=by simpa using hb
   refine aW func17 1 [0,1,2,5] rfl ?_;refine G.ret func17 rfl rfl ?_;exact⟨_,rfl,by unfold mB;rw[hb];rfl,e1.trans e2⟩
 · have hb:cO bX x=true:=by simpa using hb
   have hcall:=DJ _ x (Nat.le_refl _) hw hb false h2 O _ (hv.mv (Mv.ax (e1.trans e2)));refine aE rfl ?_;refine xr func17 rfl ?_;refine xp rfl (aj.aG H.rL H.dI rfl (k1.ax e2).row (by first|rfl|(simp;done)|(simp;omega))) ?_;refine xo rfl (aq (vs:=[_,_]) func36 rfl H.I3 rfl (ai.bw (hcall))) ?_;rintro _ h3 ⟨rfl,e3⟩;refine aQ 1 [0,1,2,5] rfl ?_;refine G.ret func17 rfl rfl ?_;exact⟨_,rfl,by unfold mB;rw[if_pos hb];rfl,(e1.trans e2).trans e3⟩
end
end Go.Proofs.YtedocgkapmeceaaGreatDoor
namespace Go.Lw
section
variable {P:Program}{n:Nat}{ops:Array Oper}{M:Nat→Prop}{keeps:Nat→Bool}{fuel:Nat}{listed:Array Bool}{ρ:Env}{h:aD}{N:Env→aD→Prop}{X:List PanicEntry→aD→Prop}
theorem GN (i j k:Nat){oi oj ok:Oper}{Φ Φ' Φ'':Value→aD→Prop}{li lj lk:Array Bool}{di dj dk:Option Nat}(hi':nth ops.toList i=some oi) (hj':nth ops.toList j=some oj) (hk':nth ops.toList k=some ok) (hr:Region.ready .any ops listed=[i,j,k])
 (hwi:bM ops ρ oi=some true) (hwj:bM ops ρ oj=some true) (hwk:bM ops ρ ok=some true) (hodi:oi.dst=di) (hodj:oj.dst=dj) (hodk:ok.dst=dk) (hdi:ji n di=true) (hdj:ji n dj=true) (hdk:ji n dk=true)
 (ki:aC P oi ρ h Φ X) (kj:aC P oj ρ h Φ' X) (kk:aC P ok ρ h Φ'' X)
 (hli:listed.setIfInBounds i true=li) (hlj:listed.setIfInBounds j true=lj) (hlk:listed.setIfInBounds k true=lk)
 (nexti:∀v h',Φ v h'→(keeps i=true→Ext M h h')∧RD P n ops M keeps fuel li (ρ.put di v) h' N X)
 (nextj:∀v h',Φ' v h'→(keeps j=true→Ext M h h')∧RD P n ops M keeps fuel lj (ρ.put dj v) h' N X)
 (nextk:∀v h',Φ'' v h'→(keeps k=true→Ext M h h')∧RD P n ops M keeps fuel lk (ρ.put dk v) h' N X):RD P n ops M keeps (fuel+1) listed ρ h N X:=by
 subst hli;subst hlj;subst hlk;subst hodi;subst hodj;subst hodk;have hi:=fF hi';have hj:=fF hj';have hk:=fF hk';intro B a w hf' ha;refine⟨fun h0=>(by rw[hr] at h0;cases h0),fun q hq=>?_⟩;rw[hr] at hq;have:q=i∨q=j∨q=k:=by simpa using hq
 rcases this with rfl|rfl|rfl
 · unfold wpOp;simp only[hi];rw[dF hf' hwi,if_pos rfl];refine .inl (ki n B a w hf' ha _ _ (fun v h' w' ha' hv=>?_) (fun ch h' w' ha' hx=>⟨hf'.nd,h',ha',hx⟩));obtain⟨h1,h2⟩:=nexti v h' hv;exact⟨fun hk=>by rw[ha.heap,ha'.heap];exact h1 hk,h2 B _ w' (hf'.put hdi v) ha'⟩
 · unfold wpOp;simp only[hj];rw[dF hf' hwj,if_pos rfl];refine .inl (kj n B a w hf' ha _ _ (fun v h' w' ha' hv=>?_) (fun ch h' w' ha' hx=>⟨hf'.nd,h',ha',hx⟩));obtain⟨h1,h2⟩:=nextj v h' hv;exact⟨fun hk=>by rw[ha.heap,ha'.heap];exact h1 hk,h2 B _ w' (hf'.put hdj v) ha'⟩
 · unfold wpOp;simp only[hk];rw[dF hf' hwk,if_pos rfl];refine .inl (kk n B a w hf' ha _ _ (fun v h' w' ha' hv=>?_) (fun ch h' w' ha' hx=>⟨hf'.nd,h',ha',hx⟩));obtain⟨h1,h2⟩:=nextk v h' hv;exact⟨fun hk=>by rw[ha.heap,ha'.heap];exact h1 hk,h2 B _ w' (hf'.put hdk v) ha'⟩
theorem RD.EV (i j k:Nat){oi oj ok:Oper}{Φ Φ' Φ'':Value→aD→Prop}{li lj lk:Array Bool}{di dj dk:Nat}(hi':nth ops.toList i=some oi) (hj':nth ops.toList j=some oj) (hk':nth ops.toList k=some ok) (hr:Region.ready .any ops listed=[i,j,k])
 (hwi:bM ops ρ oi=some true) (hwj:bM ops ρ oj=some true) (hwk:bM ops ρ ok=some true) (hodi:oi.dst=some di) (hodj:oj.dst=some dj) (hodk:ok.dst=some dk) (hdi:Nat.blt di n=true) (hdj:Nat.blt dj n=true) (hdk:Nat.blt dk n=true)
 (ki:aC P oi ρ h Φ X) (kj:aC P oj ρ h Φ' X) (kk:aC P ok ρ h Φ'' X)
 (hli:listed.setIfInBounds i true=li) (hlj:listed.setIfInBounds j true=lj) (hlk:listed.setIfInBounds k true=lk)
 (nexti:∀v h',Φ v h'→(keeps i=true→Ext M h h')∧RD P n ops M keeps fuel li ((di,v)::ρ) h' N X)
 (nextj:∀v h',Φ' v h'→(keeps j=true→Ext M h h')∧RD P n ops M keeps fuel lj ((dj,v)::ρ) h' N X)
 (nextk:∀v h',Φ'' v h'→(keeps k=true→Ext M h h')∧RD P n ops M keeps fuel lk ((dk,v)::ρ) h' N X):RD P n ops M keeps (fuel+1) listed ρ h N X :=
 GN i j k hi' hj' hk' hr hwi hwj hwk hodi hodj hodk hdi hdj hdk ki kj kk hli hlj hlk nexti nextj nextk
end
end Go.Lw
namespace Go.Proofs.YtedocgkapmeceaaGreatDoor
open Go.Proofs.Tryz
open Go Go.Lw
set_option maxRecDepth 20000
theorem dS.within {h h':aD}{r:Value}{x:Tr}(k:dS h' (fun b=>b<h.size) r x):dS h' (fun b=>b<h.size∨h'.size≤b) r x :=
 k.mv (Mv.dc (Ext.refl (fun _=>False) _) fun b hb ho=>⟨fun q=>q,fun q=>q.elim ho (fun q=>by omega)⟩)
theorem sW {h:aD}(hg:Dq h){v v':Value}{l m:List Pt}(hv:bU Ld h (fun _=>False) v l) (hl:∀x∈l,(-128≤x.1∧x.1≤127)∧0≤x.2.2∧x.2.2≤255) (hv':bU Ld h (fun _=>False) v' m) (hm:∀x∈m,(-128≤x.1∧x.1≤127)∧0≤x.2.2∧x.2.2≤255) :
 ai Tryz.prog 4 #[v,v'] h (cL fun r h'=>r= .bool true∧aF h h'):=by
 have wl:=xG l;have wm:=xG m;generalize hrl:jU l=rl at *;generalize hrm:jU m=rm at *;obtain⟨x,okx⟩:=rl;obtain⟨y,oky⟩:=rm;dsimp only at wl wm;have hbl:=sE hv hl;rw[hrl] at hbl;refine ai.of func4 rfl rfl ?_;refine aW func4 1 [0,1,4] rfl ?_;refine br func4 1 rfl ?_;refine xo rfl (aq (vs:=[_]) func12 rfl H.Ko rfl (ai.bw (hbl))) ?_;rintro _ h1 ⟨e1,nx,rfl,hx⟩;dsimp only at hx;obtain⟨xk,xt,xa,xn,xc,rfl,rx⟩:=hx.get;refine aT 3 rfl ?_;refine xo rfl (aC.aR H.eG) ?_;rintro _ h2 ⟨rfl,k2,e2,z2⟩;refine RW.bZ rfl rfl rfl (aC.aB H.aV rfl rfl k2 (by first|rfl|(simp;done)|(simp;omega)) (by first|decide|exact of_decide_eq_true rfl|(simp;done)|(simp;omega)) (eT)) ?_;rintro _ h3 ⟨rfl,k3,x3,z3⟩;have k3:bq h3 h1.size 39 [.int .i64 xk,.string (bs xt),.slice xa xn xc]:=k3;have e13:aF h1 h3:=aF.only e2 x3 (Nat.le_refl _);have e03:=e1.trans e13;have hbm:=sE (hv'.ax e03) hm;rw[hrm] at hbm;refine aQ 1 [0,1,4,5,6] rfl ?_;refine br func4 1 rfl ?_;refine xo rfl (aq (vs:=[_]) func12 rfl H.Ko rfl (ai.bw (hbm))) ?_;rintro _ h4 ⟨e4,ny,rfl,hy⟩;dsimp only at hy;obtain⟨yk,yt,ya,yn,yc,rfl,ry⟩:=hy.get;refine aT 3 rfl ?_;refine xo rfl (aC.aR H.eG) ?_;rintro _ h5 ⟨rfl,k5,e5,z5⟩;refine RW.bZ rfl rfl rfl (aC.aB H.aV rfl rfl k5 (by first|rfl|(simp;done)|(simp;omega)) (by first|decide|exact of_decide_eq_true rfl|(simp;done)|(simp;omega)) (eT)) ?_;rintro _ h6 ⟨rfl,k6,x6,z6⟩;have k6:bq h6 h4.size 39 [.int .i64 yk,.string (bs yt),.slice ya yn yc]:=k6;have e46:aF h4 h6:=aF.only e5 x6 (Nat.le_refl _);have e36:=e4.trans e46;have e06:=e03.trans e36;have kX:=k3.ax e36;have hX:dS h6 (fun _=>False) (.agg #[.int .i64 xk,.string (bs xt),.slice xa xn xc]) x:=(hx.mv (Mv.ax (e13.trans e36))).mv (Mv.dc (Ext.refl (fun _=>False) _) fun b hb q=>⟨fun k=>k,fun k=>k⟩);have hY:dS h6 (fun _=>False) (.agg #[.int .i64 yk,.string (bs yt),.slice ya yn yc]) y:=(hy.mv (Mv.ax e46)).mv (Mv.dc (Ext.refl (fun _=>False) _) fun b hb q=>⟨fun k=>k,fun k=>k⟩);refine aQ 1 [0,1,4,5,6,7,8] rfl ?_;refine av rfl ?_;refine av rfl ?_;refine G.bD [(26,.bool (!(okx && oky)))] [(0,_),(1,_),(4,_),(5,_),(6,_),(7,_),(8,_)] ⟨rfl,rfl,rfl,rfl,rfl,rfl,rfl,trivial⟩ func4 rfl ?_ ?_
 · refine aT 3 rfl ?_;refine aH (d:=23) rfl (fun p=>?_) (fun p=>?_)
   · have p:okx=false:=by simpa using p
     refine aT 3 rfl ?_;refine az rfl ?_;exact⟨rfl,aA rfl (by rw[p];rfl),rfl,rfl,rfl,rfl,rfl,rfl,rfl,trivial⟩
   · have p:okx=true:=by simpa using p
     refine aT 3 rfl ?_;refine az rfl ?_;exact⟨rfl,aA rfl (by rw[p];rfl),rfl,rfl,rfl,rfl,rfl,rfl,rfl,trivial⟩
 · refine aI rfl rfl (fun hb=>?_) (fun hb=>?_)
   · refine xr func4 rfl ?_;refine xo rfl (aq (vs:=[]) func7 rfl H.Mg rfl (ai.bw (pV (hg.ax e06)))) ?_;rintro _ h7 ⟨rfl,e7⟩;refine aQ 1 [0,1,4,5,6,7,8,26] rfl ?_;refine G.ret func4 rfl rfl ?_;exact⟨_,rfl,rfl,e06.trans e7⟩
   · have E:aF h6 h6:=Ext.refl _ _;refine aE rfl ?_;refine av rfl ?_;refine G.qx (fun(u:Nat×Nat) (h':aD)=>(aF h6 h'∧∃c1 c2,bq h' u.1 43 c1∧eN.R h' (fun _=>False) c1 x∧bq h' u.2 43 c2∧eN.R h' (fun _=>False) c2 y)) (fun(u:Nat×Nat)=>[(9,ptr u.1),(10,ptr u.2)]) [(0,_),(1,_),(4,_),(5,_),(6,_),(7,_),(8,_),(26,_)] ⟨rfl,rfl,rfl,rfl,rfl,rfl,rfl,rfl,trivial⟩ (fun b=>Array.size h6≤b) (fun i=>Nat.blt i 6) (sz:=8) (listed:= #[false,false,false,false,false,false,false,false]) func4 H.mixed rfl rfl rfl ?_ ?_
     · refine bI 0 1 (by kernel_rfl) rfl (fun h' e=>aj.aG H.bN H.aV rfl (e.qX kX.row) (by first|rfl|(simp;done)|(simp;omega))) ?_;refine bI 2 5 (by kernel_rfl) rfl (fun h' e=>aj.aG H.bN H.aV rfl (e.qX k6.row) (by first|rfl|(simp;done)|(simp;omega))) ?_;refine RD.EV 1 4 5 (li:= #[true,true,true,false,false,false,false,false]) (lj:= #[true,false,true,false,true,false,false,false]) (lk:= #[true,false,true,false,false,true,false,false]) rfl rfl rfl (by kernel_rfl) rfl rfl rfl rfl rfl rfl rfl rfl rfl (aq (vs:=[_]) func13 rfl H.mL rfl (ai.bw (cQ (by omega) (hX.mv (Mv.ax E))))) (aC.aR H.jI) (aC.aR H.jI) (by kernel_rfl) (by kernel_rfl) (by kernel_rfl) ?_ ?_ ?_
       · rintro rA w ⟨e,nA'⟩;refine⟨fun _=>e.of,?_⟩;have z:=(e).size;have E:=E.trans e
         try have kp:=kp.ax e
         try have kq:=kq.ax e
         try have nA:=nA.mv (Mv.ax e)
         try have nB:=nB.mv (Mv.ax e)
         have nA:=nA'.within;refine RD.EV 3 4 5 (li:= #[true,true,true,true,false,false,false,false]) (lj:= #[true,true,true,false,true,false,false,false]) (lk:= #[true,true,true,false,false,true,false,false]) rfl rfl rfl (by kernel_rfl) rfl rfl rfl rfl rfl rfl rfl rfl rfl (aq (vs:=[_]) func13 rfl H.mL rfl (ai.bw (cQ (by omega) (hY.mv (Mv.ax E))))) (aC.aR H.jI) (aC.aR H.jI) (by kernel_rfl) (by kernel_rfl) (by kernel_rfl) ?_ ?_ ?_
         · rintro rB w ⟨e,nB'⟩;refine⟨fun _=>e.of,?_⟩;have z:=(e).size;have E:=E.trans e
           try have kp:=kp.ax e
           try have kq:=kq.ax e
           try have nA:=nA.mv (Mv.ax e)
           try have nB:=nB.mv (Mv.ax e)
           have nB:=nB'.within;refine RD.wh 4 5 (li:= #[true,true,true,true,true,false,false,false]) (lj:= #[true,true,true,true,false,true,false,false]) rfl rfl (by kernel_rfl) rfl rfl rfl rfl rfl rfl (aC.aR H.jI) (aC.aR H.jI) (by kernel_rfl) (by kernel_rfl) ?_ ?_
           · rintro _ w ⟨rfl,kp',e,z⟩;refine⟨fun _=>e.of,?_⟩;have z:=(e).size;have E:=E.trans e
             try have kp:=kp.ax e
             try have kq:=kq.ax e
             try have nA:=nA.mv (Mv.ax e)
             try have nB:=nB.mv (Mv.ax e)
             have kp:=kp';have hp:=kp.lt;refine cU 5 63 (by kernel_rfl) rfl (aC.aR H.jI) ?_;rintro _ w ⟨rfl,kq',e,z⟩;refine⟨fun _=>e.of,?_⟩;have z:=(e).size;have E:=E.trans e
             try have kp:=kp.ax e
             try have kq:=kq.ax e
             try have nA:=nA.mv (Mv.ax e)
             try have nB:=nB.mv (Mv.ax e)
             have kq:=kq';have hq:=kq.lt;have hlp:=kp.lt;have hlq:=kq.lt;obtain⟨k1',t1',a1',n1',c1',rfl,hrA⟩:=nA.get;obtain⟨k2',t2',a2',n2',c2',rfl,hrB⟩:=nB.get;have zE:=E.size;refine fS 6 127 (by kernel_rfl) rfl (aC.aB H.dI rfl rfl kp (by first|rfl|(simp;done)|(simp;omega)) (by first|decide|exact of_decide_eq_true rfl|(simp;done)|(simp;omega)) (eT)) ?_;rintro _ w ⟨rfl,kp2,xp,zp⟩;refine⟨fun hk=>(nomatch hk),?_⟩;have kq2:=kq.ext xp (by omega);refine fS 7 255 (by kernel_rfl) rfl (aC.aB H.dI rfl rfl kq2 (by first|rfl|(simp;done)|(simp;omega)) (by first|decide|exact of_decide_eq_true rfl|(simp;done)|(simp;omega)) (eT)) ?_;rintro _ w ⟨rfl,kq3,xq,zq⟩;refine⟨fun hk=>(nomatch hk),?_⟩;have kp3:=kp2.ext xq (by omega);refine bg (by kernel_rfl) ?_;exact⟨(_,_),⟨aF.only (aF.only E xp (by omega)) xq (by omega),_,_,kp3,aX (aX hrA xp (fun b hb q=>⟨fun q2=>q (by omega),q⟩)) xq (fun b hb q=>⟨fun q2=>q (by omega),fun q2=>q2⟩),kq3,aX (aX hrB xp (fun b hb q=>⟨fun q2=>q (by omega),q⟩)) xq (fun b hb q=>⟨fun q2=>q (by omega),fun q2=>q2⟩)⟩,rfl,rfl,rfl,rfl,rfl,rfl,rfl,rfl,rfl,rfl,trivial⟩
           · rintro _ w ⟨rfl,kq',e,z⟩;refine⟨fun _=>e.of,?_⟩;have z:=(e).size;have E:=E.trans e
             try have kp:=kp.ax e
             try have kq:=kq.ax e
             try have nA:=nA.mv (Mv.ax e)
             try have nB:=nB.mv (Mv.ax e)
             have kq:=kq';have hq:=kq.lt;refine cU 4 63 (by kernel_rfl) rfl (aC.aR H.jI) ?_;rintro _ w ⟨rfl,kp',e,z⟩;refine⟨fun _=>e.of,?_⟩;have z:=(e).size;have E:=E.trans e
             try have kp:=kp.ax e
             try have kq:=kq.ax e
             try have nA:=nA.mv (Mv.ax e)
             try have nB:=nB.mv (Mv.ax e)
             have kp:=kp';have hp:=kp.lt;have hlp:=kp.lt;have hlq:=kq.lt;obtain⟨k1',t1',a1',n1',c1',rfl,hrA⟩:=nA.get;obtain⟨k2',t2',a2',n2',c2',rfl,hrB⟩:=nB.get;have zE:=E.size;refine fS 6 127 (by kernel_rfl) rfl (aC.aB H.dI rfl rfl kp (by first|rfl|(simp;done)|(simp;omega)) (by first|decide|exact of_decide_eq_true rfl|(simp;done)|(simp;omega)) (eT)) ?_;rintro _ w ⟨rfl,kp2,xp,zp⟩;refine⟨fun hk=>(nomatch hk),?_⟩;have kq2:=kq.ext xp (by omega);refine fS 7 255 (by kernel_rfl) rfl (aC.aB H.dI rfl rfl kq2 (by first|rfl|(simp;done)|(simp;omega)) (by first|decide|exact of_decide_eq_true rfl|(simp;done)|(simp;omega)) (eT)) ?_;rintro _ w ⟨rfl,kq3,xq,zq⟩;refine⟨fun hk=>(nomatch hk),?_⟩;have kp3:=kp2.ext xq (by omega);refine bg (by kernel_rfl) ?_;exact⟨(_,_),⟨aF.only (aF.only E xp (by omega)) xq (by omega),_,_,kp3,aX (aX hrA xp (fun b hb q=>⟨fun q2=>q (by omega),q⟩)) xq (fun b hb q=>⟨fun q2=>q (by omega),fun q2=>q2⟩),kq3,aX (aX hrB xp (fun b hb q=>⟨fun q2=>q (by omega),q⟩)) xq (fun b hb q=>⟨fun q2=>q (by omega),fun q2=>q2⟩)⟩,rfl,rfl,rfl,rfl,rfl,rfl,rfl,rfl,rfl,rfl,trivial⟩
         · rintro _ w ⟨rfl,kp',e,z⟩;refine⟨fun _=>e.of,?_⟩;have z:=(e).size;have E:=E.trans e
           try have kp:=kp.ax e
           try have kq:=kq.ax e
           try have nA:=nA.mv (Mv.ax e)
           try have nB:=nB.mv (Mv.ax e)
           have kp:=kp';have hp:=kp.lt;refine RD.wh 3 5 (li:= #[true,true,true,true,true,false,false,false]) (lj:= #[true,true,true,false,true,true,false,false]) rfl rfl (by kernel_rfl) rfl rfl rfl rfl rfl rfl (aq (vs:=[_]) func13 rfl H.mL rfl (ai.bw (cQ (by omega) (hY.mv (Mv.ax E))))) (aC.aR H.jI) (by kernel_rfl) (by kernel_rfl) ?_ ?_
           · rintro rB w ⟨e,nB'⟩;refine⟨fun _=>e.of,?_⟩;have z:=(e).size;have E:=E.trans e
             try have kp:=kp.ax e
             try have kq:=kq.ax e
             try have nA:=nA.mv (Mv.ax e)
             try have nB:=nB.mv (Mv.ax e)
             have nB:=nB'.within;refine cU 5 63 (by kernel_rfl) rfl (aC.aR H.jI) ?_;rintro _ w ⟨rfl,kq',e,z⟩;refine⟨fun _=>e.of,?_⟩;have z:=(e).size;have E:=E.trans e
             try have kp:=kp.ax e
             try have kq:=kq.ax e
             try have nA:=nA.mv (Mv.ax e)
             try have nB:=nB.mv (Mv.ax e)
             have kq:=kq';have hq:=kq.lt;have hlp:=kp.lt;have hlq:=kq.lt;obtain⟨k1',t1',a1',n1',c1',rfl,hrA⟩:=nA.get;obtain⟨k2',t2',a2',n2',c2',rfl,hrB⟩:=nB.get;have zE:=E.size;refine fS 6 127 (by kernel_rfl) rfl (aC.aB H.dI rfl rfl kp (by first|rfl|(simp;done)|(simp;omega)) (by first|decide|exact of_decide_eq_true rfl|(simp;done)|(simp;omega)) (eT)) ?_;rintro _ w ⟨rfl,kp2,xp,zp⟩;refine⟨fun hk=>(nomatch hk),?_⟩;have kq2:=kq.ext xp (by omega);refine fS 7 255 (by kernel_rfl) rfl (aC.aB H.dI rfl rfl kq2 (by first|rfl|(simp;done)|(simp;omega)) (by first|decide|exact of_decide_eq_true rfl|(simp;done)|(simp;omega)) (eT)) ?_;rintro _ w ⟨rfl,kq3,xq,zq⟩;refine⟨fun hk=>(nomatch hk),?_⟩;have kp3:=kp2.ext xq (by omega);refine bg (by kernel_rfl) ?_;exact⟨(_,_),⟨aF.only (aF.only E xp (by omega)) xq (by omega),_,_,kp3,aX (aX hrA xp (fun b hb q=>⟨fun q2=>q (by omega),q⟩)) xq (fun b hb q=>⟨fun q2=>q (by omega),fun q2=>q2⟩),kq3,aX (aX hrB xp (fun b hb q=>⟨fun q2=>q (by omega),q⟩)) xq (fun b hb q=>⟨fun q2=>q (by omega),fun q2=>q2⟩)⟩,rfl,rfl,rfl,rfl,rfl,rfl,rfl,rfl,rfl,rfl,trivial⟩
           · rintro _ w ⟨rfl,kq',e,z⟩;refine⟨fun _=>e.of,?_⟩;have z:=(e).size;have E:=E.trans e
             try have kp:=kp.ax e
             try have kq:=kq.ax e
             try have nA:=nA.mv (Mv.ax e)
             try have nB:=nB.mv (Mv.ax e)
             have kq:=kq';have hq:=kq.lt;refine cU 3 63 (by kernel_rfl) rfl (aq (vs:=[_]) func13 rfl H.mL rfl (ai.bw (cQ (by omega) (hY.mv (Mv.ax E))))) ?_;rintro rB w ⟨e,nB'⟩;refine⟨fun _=>e.of,?_⟩;have z:=(e).size;have E:=E.trans e
             try have kp:=kp.ax e
             try have kq:=kq.ax e
             try have nA:=nA.mv (Mv.ax e)
             try have nB:=nB.mv (Mv.ax e)
             have nB:=nB'.within;have hlp:=kp.lt;have hlq:=kq.lt;obtain⟨k1',t1',a1',n1',c1',rfl,hrA⟩:=nA.get;obtain⟨k2',t2',a2',n2',c2',rfl,hrB⟩:=nB.get;have zE:=E.size;refine fS 6 127 (by kernel_rfl) rfl (aC.aB H.dI rfl rfl kp (by first|rfl|(simp;done)|(simp;omega)) (by first|decide|exact of_decide_eq_true rfl|(simp;done)|(simp;omega)) (eT)) ?_;rintro _ w ⟨rfl,kp2,xp,zp⟩;refine⟨fun hk=>(nomatch hk),?_⟩;have kq2:=kq.ext xp (by omega);refine fS 7 255 (by kernel_rfl) rfl (aC.aB H.dI rfl rfl kq2 (by first|rfl|(simp;done)|(simp;omega)) (by first|decide|exact of_decide_eq_true rfl|(simp;done)|(simp;omega)) (eT)) ?_;rintro _ w ⟨rfl,kq3,xq,zq⟩;refine⟨fun hk=>(nomatch hk),?_⟩;have kp3:=kp2.ext xq (by omega);refine bg (by kernel_rfl) ?_;exact⟨(_,_),⟨aF.only (aF.only E xp (by omega)) xq (by omega),_,_,kp3,aX (aX hrA xp (fun b hb q=>⟨fun q2=>q (by omega),q⟩)) xq (fun b hb q=>⟨fun q2=>q (by omega),fun q2=>q2⟩),kq3,aX (aX hrB xp (fun b hb q=>⟨fun q2=>q (by omega),q⟩)) xq (fun b hb q=>⟨fun q2=>q (by omega),fun q2=>q2⟩)⟩,rfl,rfl,rfl,rfl,rfl,rfl,rfl,rfl,rfl,rfl,trivial⟩
         · rintro _ w ⟨rfl,kq',e,z⟩;refine⟨fun _=>e.of,?_⟩;have z:=(e).size;have E:=E.trans e
           try have kp:=kp.ax e
           try have kq:=kq.ax e
           try have nA:=nA.mv (Mv.ax e)
           try have nB:=nB.mv (Mv.ax e)
           have kq:=kq';have hq:=kq.lt;refine RD.wh 3 4 (li:= #[true,true,true,true,false,true,false,false]) (lj:= #[true,true,true,false,true,true,false,false]) rfl rfl (by kernel_rfl) rfl rfl rfl rfl rfl rfl (aq (vs:=[_]) func13 rfl H.mL rfl (ai.bw (cQ (by omega) (hY.mv (Mv.ax E))))) (aC.aR H.jI) (by kernel_rfl) (by kernel_rfl) ?_ ?_
           · rintro rB w ⟨e,nB'⟩;refine⟨fun _=>e.of,?_⟩;have z:=(e).size;have E:=E.trans e
             try have kp:=kp.ax e
             try have kq:=kq.ax e
             try have nA:=nA.mv (Mv.ax e)
             try have nB:=nB.mv (Mv.ax e)
             have nB:=nB'.within;refine cU 4 63 (by kernel_rfl) rfl (aC.aR H.jI) ?_;rintro _ w ⟨rfl,kp',e,z⟩;refine⟨fun _=>e.of,?_⟩;have z:=(e).size;have E:=E.trans e
             try have kp:=kp.ax e
             try have kq:=kq.ax e
             try have nA:=nA.mv (Mv.ax e)
             try have nB:=nB.mv (Mv.ax e)
             have kp:=kp';have hp:=kp.lt;have hlp:=kp.lt;have hlq:=kq.lt;obtain⟨k1',t1',a1',n1',c1',rfl,hrA⟩:=nA.get;obtain⟨k2',t2',a2',n2',c2',rfl,hrB⟩:=nB.get;have zE:=E.size;refine fS 6 127 (by kernel_rfl) rfl (aC.aB H.dI rfl rfl kp (by first|rfl|(simp;done)|(simp;omega)) (by first|decide|exact of_decide_eq_true rfl|(simp;done)|(simp;omega)) (eT)) ?_;rintro _ w ⟨rfl,kp2,xp,zp⟩;refine⟨fun hk=>(nomatch hk),?_⟩;have kq2:=kq.ext xp (by omega);refine fS 7 255 (by kernel_rfl) rfl (aC.aB H.dI rfl rfl kq2 (by first|rfl|(simp;done)|(simp;omega)) (by first|decide|exact of_decide_eq_true rfl|(simp;done)|(simp;omega)) (eT)) ?_;rintro _ w ⟨rfl,kq3,xq,zq⟩;refine⟨fun hk=>(nomatch hk),?_⟩;have kp3:=kp2.ext xq (by omega);refine bg (by kernel_rfl) ?_;exact⟨(_,_),⟨aF.only (aF.only E xp (by omega)) xq (by omega),_,_,kp3,aX (aX hrA xp (fun b hb q=>⟨fun q2=>q (by omega),q⟩)) xq (fun b hb q=>⟨fun q2=>q (by omega),fun q2=>q2⟩),kq3,aX (aX hrB xp (fun b hb q=>⟨fun q2=>q (by omega),q⟩)) xq (fun b hb q=>⟨fun q2=>q (by omega),fun q2=>q2⟩)⟩,rfl,rfl,rfl,rfl,rfl,rfl,rfl,rfl,rfl,rfl,trivial⟩
           · rintro _ w ⟨rfl,kp',e,z⟩;refine⟨fun _=>e.of,?_⟩;have z:=(e).size;have E:=E.trans e
             try have kp:=kp.ax e
             try have kq:=kq.ax e
             try have nA:=nA.mv (Mv.ax e)
             try have nB:=nB.mv (Mv.ax e)
             have kp:=kp';have hp:=kp.lt;refine cU 3 63 (by kernel_rfl) rfl (aq (vs:=[_]) func13 rfl H.mL rfl (ai.bw (cQ (by omega) (hY.mv (Mv.ax E))))) ?_;rintro rB w ⟨e,nB'⟩;refine⟨fun _=>e.of,?_⟩;have z:=(e).size;have E:=E.trans e
             try have kp:=kp.ax e
             try have kq:=kq.ax e
             try have nA:=nA.mv (Mv.ax e)
             try have nB:=nB.mv (Mv.ax e)
             have nB:=nB'.within;have hlp:=kp.lt;have hlq:=kq.lt;obtain⟨k1',t1',a1',n1',c1',rfl,hrA⟩:=nA.get;obtain⟨k2',t2',a2',n2',c2',rfl,hrB⟩:=nB.get;have zE:=E.size;refine fS 6 127 (by kernel_rfl) rfl (aC.aB H.dI rfl rfl kp (by first|rfl|(simp;done)|(simp;omega)) (by first|decide|exact of_decide_eq_true rfl|(simp;done)|(simp;omega)) (eT)) ?_;rintro _ w ⟨rfl,kp2,xp,zp⟩;refine⟨fun hk=>(nomatch hk),?_⟩;have kq2:=kq.ext xp (by omega);refine fS 7 255 (by kernel_rfl) rfl (aC.aB H.dI rfl rfl kq2 (by first|rfl|(simp;done)|(simp;omega)) (by first|decide|exact of_decide_eq_true rfl|(simp;done)|(simp;omega)) (eT)) ?_;rintro _ w ⟨rfl,kq3,xq,zq⟩;refine⟨fun hk=>(nomatch hk),?_⟩;have kp3:=kp2.ext xq (by omega);refine bg (by kernel_rfl) ?_;exact⟨(_,_),⟨aF.only (aF.only E xp (by omega)) xq (by omega),_,_,kp3,aX (aX hrA xp (fun b hb q=>⟨fun q2=>q (by omega),q⟩)) xq (fun b hb q=>⟨fun q2=>q (by omega),fun q2=>q2⟩),kq3,aX (aX hrB xp (fun b hb q=>⟨fun q2=>q (by omega),q⟩)) xq (fun b hb q=>⟨fun q2=>q (by omega),fun q2=>q2⟩)⟩,rfl,rfl,rfl,rfl,rfl,rfl,rfl,rfl,rfl,rfl,trivial⟩
       · rintro _ w ⟨rfl,kp',e,z⟩;refine⟨fun _=>e.of,?_⟩;have z:=(e).size;have E:=E.trans e
         try have kp:=kp.ax e
         try have kq:=kq.ax e
         try have nA:=nA.mv (Mv.ax e)
         try have nB:=nB.mv (Mv.ax e)
         have kp:=kp';have hp:=kp.lt;refine RD.wh 1 5 (li:= #[true,true,true,false,true,false,false,false]) (lj:= #[true,false,true,false,true,true,false,false]) rfl rfl (by kernel_rfl) rfl rfl rfl rfl rfl rfl (aq (vs:=[_]) func13 rfl H.mL rfl (ai.bw (cQ (by omega) (hX.mv (Mv.ax E))))) (aC.aR H.jI) (by kernel_rfl) (by kernel_rfl) ?_ ?_
         · rintro rA w ⟨e,nA'⟩;refine⟨fun _=>e.of,?_⟩;have z:=(e).size;have E:=E.trans e
           try have kp:=kp.ax e
           try have kq:=kq.ax e
           try have nA:=nA.mv (Mv.ax e)
           try have nB:=nB.mv (Mv.ax e)
           have nA:=nA'.within;refine RD.wh 3 5 (li:= #[true,true,true,true,true,false,false,false]) (lj:= #[true,true,true,false,true,true,false,false]) rfl rfl (by kernel_rfl) rfl rfl rfl rfl rfl rfl (aq (vs:=[_]) func13 rfl H.mL rfl (ai.bw (cQ (by omega) (hY.mv (Mv.ax E))))) (aC.aR H.jI) (by kernel_rfl) (by kernel_rfl) ?_ ?_
           · rintro rB w ⟨e,nB'⟩;refine⟨fun _=>e.of,?_⟩;have z:=(e).size;have E:=E.trans e
             try have kp:=kp.ax e
             try have kq:=kq.ax e
             try have nA:=nA.mv (Mv.ax e)
             try have nB:=nB.mv (Mv.ax e)
             have nB:=nB'.within;refine cU 5 63 (by kernel_rfl) rfl (aC.aR H.jI) ?_;rintro _ w ⟨rfl,kq',e,z⟩;refine⟨fun _=>e.of,?_⟩;have z:=(e).size;have E:=E.trans e
             try have kp:=kp.ax e
             try have kq:=kq.ax e
             try have nA:=nA.mv (Mv.ax e)
             try have nB:=nB.mv (Mv.ax e)
             have kq:=kq';have hq:=kq.lt;have hlp:=kp.lt;have hlq:=kq.lt;obtain⟨k1',t1',a1',n1',c1',rfl,hrA⟩:=nA.get;obtain⟨k2',t2',a2',n2',c2',rfl,hrB⟩:=nB.get;have zE:=E.size;refine fS 6 127 (by kernel_rfl) rfl (aC.aB H.dI rfl rfl kp (by first|rfl|(simp;done)|(simp;omega)) (by first|decide|exact of_decide_eq_true rfl|(simp;done)|(simp;omega)) (eT)) ?_;rintro _ w ⟨rfl,kp2,xp,zp⟩;refine⟨fun hk=>(nomatch hk),?_⟩;have kq2:=kq.ext xp (by omega);refine fS 7 255 (by kernel_rfl) rfl (aC.aB H.dI rfl rfl kq2 (by first|rfl|(simp;done)|(simp;omega)) (by first|decide|exact of_decide_eq_true rfl|(simp;done)|(simp;omega)) (eT)) ?_;rintro _ w ⟨rfl,kq3,xq,zq⟩;refine⟨fun hk=>(nomatch hk),?_⟩;have kp3:=kp2.ext xq (by omega);refine bg (by kernel_rfl) ?_;exact⟨(_,_),⟨aF.only (aF.only E xp (by omega)) xq (by omega),_,_,kp3,aX (aX hrA xp (fun b hb q=>⟨fun q2=>q (by omega),q⟩)) xq (fun b hb q=>⟨fun q2=>q (by omega),fun q2=>q2⟩),kq3,aX (aX hrB xp (fun b hb q=>⟨fun q2=>q (by omega),q⟩)) xq (fun b hb q=>⟨fun q2=>q (by omega),fun q2=>q2⟩)⟩,rfl,rfl,rfl,rfl,rfl,rfl,rfl,rfl,rfl,rfl,trivial⟩
           · rintro _ w ⟨rfl,kq',e,z⟩;refine⟨fun _=>e.of,?_⟩;have z:=(e).size;have E:=E.trans e
             try have kp:=kp.ax e
             try have kq:=kq.ax e
             try have nA:=nA.mv (Mv.ax e)
             try have nB:=nB.mv (Mv.ax e)
             have kq:=kq';have hq:=kq.lt;refine cU 3 63 (by kernel_rfl) rfl (aq (vs:=[_]) func13 rfl H.mL rfl (ai.bw (cQ (by omega) (hY.mv (Mv.ax E))))) ?_;rintro rB w ⟨e,nB'⟩;refine⟨fun _=>e.of,?_⟩;have z:=(e).size;have E:=E.trans e
             try have kp:=kp.ax e
             try have kq:=kq.ax e
             try have nA:=nA.mv (Mv.ax e)
             try have nB:=nB.mv (Mv.ax e)
             have nB:=nB'.within;have hlp:=kp.lt;have hlq:=kq.lt;obtain⟨k1',t1',a1',n1',c1',rfl,hrA⟩:=nA.get;obtain⟨k2',t2',a2',n2',c2',rfl,hrB⟩:=nB.get;have zE:=E.size;refine fS 6 127 (by kernel_rfl) rfl (aC.aB H.dI rfl rfl kp (by first|rfl|(simp;done)|(simp;omega)) (by first|decide|exact of_decide_eq_true rfl|(simp;done)|(simp;omega)) (eT)) ?_;rintro _ w ⟨rfl,kp2,xp,zp⟩;refine⟨fun hk=>(nomatch hk),?_⟩;have kq2:=kq.ext xp (by omega);refine fS 7 255 (by kernel_rfl) rfl (aC.aB H.dI rfl rfl kq2 (by first|rfl|(simp;done)|(simp;omega)) (by first|decide|exact of_decide_eq_true rfl|(simp;done)|(simp;omega)) (eT)) ?_;rintro _ w ⟨rfl,kq3,xq,zq⟩;refine⟨fun hk=>(nomatch hk),?_⟩;have kp3:=kp2.ext xq (by omega);refine bg (by kernel_rfl) ?_;exact⟨(_,_),⟨aF.only (aF.only E xp (by omega)) xq (by omega),_,_,kp3,aX (aX hrA xp (fun b hb q=>⟨fun q2=>q (by omega),q⟩)) xq (fun b hb q=>⟨fun q2=>q (by omega),fun q2=>q2⟩),kq3,aX (aX hrB xp (fun b hb q=>⟨fun q2=>q (by omega),q⟩)) xq (fun b hb q=>⟨fun q2=>q (by omega),fun q2=>q2⟩)⟩,rfl,rfl,rfl,rfl,rfl,rfl,rfl,rfl,rfl,rfl,trivial⟩
         · rintro _ w ⟨rfl,kq',e,z⟩;refine⟨fun _=>e.of,?_⟩;have z:=(e).size;have E:=E.trans e
           try have kp:=kp.ax e
           try have kq:=kq.ax e
           try have nA:=nA.mv (Mv.ax e)
           try have nB:=nB.mv (Mv.ax e)
           have kq:=kq';have hq:=kq.lt;refine cU 1 55 (by kernel_rfl) rfl (aq (vs:=[_]) func13 rfl H.mL rfl (ai.bw (cQ (by omega) (hX.mv (Mv.ax E))))) ?_;rintro rA w ⟨e,nA'⟩;refine⟨fun _=>e.of,?_⟩;have z:=(e).size;have E:=E.trans e
           try have kp:=kp.ax e
           try have kq:=kq.ax e
           try have nA:=nA.mv (Mv.ax e)
           try have nB:=nB.mv (Mv.ax e)
           have nA:=nA'.within;refine cU 3 63 (by kernel_rfl) rfl (aq (vs:=[_]) func13 rfl H.mL rfl (ai.bw (cQ (by omega) (hY.mv (Mv.ax E))))) ?_;rintro rB w ⟨e,nB'⟩;refine⟨fun _=>e.of,?_⟩;have z:=(e).size;have E:=E.trans e
           try have kp:=kp.ax e
           try have kq:=kq.ax e
           try have nA:=nA.mv (Mv.ax e)
           try have nB:=nB.mv (Mv.ax e)
           have nB:=nB'.within;have hlp:=kp.lt;have hlq:=kq.lt;obtain⟨k1',t1',a1',n1',c1',rfl,hrA⟩:=nA.get;obtain⟨k2',t2',a2',n2',c2',rfl,hrB⟩:=nB.get;have zE:=E.size;refine fS 6 127 (by kernel_rfl) rfl (aC.aB H.dI rfl rfl kp (by first|rfl|(simp;done)|(simp;omega)) (by first|decide|exact of_decide_eq_true rfl|(simp;done)|(simp;omega)) (eT)) ?_;rintro _ w ⟨rfl,kp2,xp,zp⟩;refine⟨fun hk=>(nomatch hk),?_⟩;have kq2:=kq.ext xp (by omega);refine fS 7 255 (by kernel_rfl) rfl (aC.aB H.dI rfl rfl kq2 (by first|rfl|(simp;done)|(simp;omega)) (by first|decide|exact of_decide_eq_true rfl|(simp;done)|(simp;omega)) (eT)) ?_;rintro _ w ⟨rfl,kq3,xq,zq⟩;refine⟨fun hk=>(nomatch hk),?_⟩;have kp3:=kp2.ext xq (by omega);refine bg (by kernel_rfl) ?_;exact⟨(_,_),⟨aF.only (aF.only E xp (by omega)) xq (by omega),_,_,kp3,aX (aX hrA xp (fun b hb q=>⟨fun q2=>q (by omega),q⟩)) xq (fun b hb q=>⟨fun q2=>q (by omega),fun q2=>q2⟩),kq3,aX (aX hrB xp (fun b hb q=>⟨fun q2=>q (by omega),q⟩)) xq (fun b hb q=>⟨fun q2=>q (by omega),fun q2=>q2⟩)⟩,rfl,rfl,rfl,rfl,rfl,rfl,rfl,rfl,rfl,rfl,trivial⟩
       · rintro _ w ⟨rfl,kq',e,z⟩;refine⟨fun _=>e.of,?_⟩;have z:=(e).size;have E:=E.trans e
         try have kp:=kp.ax e
         try have kq:=kq.ax e
         try have nA:=nA.mv (Mv.ax e)
         try have nB:=nB.mv (Mv.ax e)
         have kq:=kq';have hq:=kq.lt;refine RD.wh 1 4 (li:= #[true,true,true,false,false,true,false,false]) (lj:= #[true,false,true,false,true,true,false,false]) rfl rfl (by kernel_rfl) rfl rfl rfl rfl rfl rfl (aq (vs:=[_]) func13 rfl H.mL rfl (ai.bw (cQ (by omega) (hX.mv (Mv.ax E))))) (aC.aR H.jI) (by kernel_rfl) (by kernel_rfl) ?_ ?_
         · rintro rA w ⟨e,nA'⟩;refine⟨fun _=>e.of,?_⟩;have z:=(e).size;have E:=E.trans e
           try have kp:=kp.ax e
           try have kq:=kq.ax e
           try have nA:=nA.mv (Mv.ax e)
           try have nB:=nB.mv (Mv.ax e)
           have nA:=nA'.within;refine RD.wh 3 4 (li:= #[true,true,true,true,false,true,false,false]) (lj:= #[true,true,true,false,true,true,false,false]) rfl rfl (by kernel_rfl) rfl rfl rfl rfl rfl rfl (aq (vs:=[_]) func13 rfl H.mL rfl (ai.bw (cQ (by omega) (hY.mv (Mv.ax E))))) (aC.aR H.jI) (by kernel_rfl) (by kernel_rfl) ?_ ?_
           · rintro rB w ⟨e,nB'⟩;refine⟨fun _=>e.of,?_⟩;have z:=(e).size;have E:=E.trans e
             try have kp:=kp.ax e
             try have kq:=kq.ax e
             try have nA:=nA.mv (Mv.ax e)
             try have nB:=nB.mv (Mv.ax e)
             have nB:=nB'.within;refine cU 4 63 (by kernel_rfl) rfl (aC.aR H.jI) ?_;rintro _ w ⟨rfl,kp',e,z⟩;refine⟨fun _=>e.of,?_⟩;have z:=(e).size;have E:=E.trans e
             try have kp:=kp.ax e
             try have kq:=kq.ax e
             try have nA:=nA.mv (Mv.ax e)
             try have nB:=nB.mv (Mv.ax e)
             have kp:=kp';have hp:=kp.lt;have hlp:=kp.lt;have hlq:=kq.lt;obtain⟨k1',t1',a1',n1',c1',rfl,hrA⟩:=nA.get;obtain⟨k2',t2',a2',n2',c2',rfl,hrB⟩:=nB.get;have zE:=E.size;refine fS 6 127 (by kernel_rfl) rfl (aC.aB H.dI rfl rfl kp (by first|rfl|(simp;done)|(simp;omega)) (by first|decide|exact of_decide_eq_true rfl|(simp;done)|(simp;omega)) (eT)) ?_;rintro _ w ⟨rfl,kp2,xp,zp⟩;refine⟨fun hk=>(nomatch hk),?_⟩;have kq2:=kq.ext xp (by omega);refine fS 7 255 (by kernel_rfl) rfl (aC.aB H.dI rfl rfl kq2 (by first|rfl|(simp;done)|(simp;omega)) (by first|decide|exact of_decide_eq_true rfl|(simp;done)|(simp;omega)) (eT)) ?_;rintro _ w ⟨rfl,kq3,xq,zq⟩;refine⟨fun hk=>(nomatch hk),?_⟩;have kp3:=kp2.ext xq (by omega);refine bg (by kernel_rfl) ?_;exact⟨(_,_),⟨aF.only (aF.only E xp (by omega)) xq (by omega),_,_,kp3,aX (aX hrA xp (fun b hb q=>⟨fun q2=>q (by omega),q⟩)) xq (fun b hb q=>⟨fun q2=>q (by omega),fun q2=>q2⟩),kq3,aX (aX hrB xp (fun b hb q=>⟨fun q2=>q (by omega),q⟩)) xq (fun b hb q=>⟨fun q2=>q (by omega),fun q2=>q2⟩)⟩,rfl,rfl,rfl,rfl,rfl,rfl,rfl,rfl,rfl,rfl,trivial⟩
           · rintro _ w ⟨rfl,kp',e,z⟩;refine⟨fun _=>e.of,?_⟩;have z:=(e).size;have E:=E.trans e
             try have kp:=kp.ax e
             try have kq:=kq.ax e
             try have nA:=nA.mv (Mv.ax e)
             try have nB:=nB.mv (Mv.ax e)
             have kp:=kp';have hp:=kp.lt;refine cU 3 63 (by kernel_rfl) rfl (aq (vs:=[_]) func13 rfl H.mL rfl (ai.bw (cQ (by omega) (hY.mv (Mv.ax E))))) ?_;rintro rB w ⟨e,nB'⟩;refine⟨fun _=>e.of,?_⟩;have z:=(e).size;have E:=E.trans e
             try have kp:=kp.ax e
             try have kq:=kq.ax e
             try have nA:=nA.mv (Mv.ax e)
             try have nB:=nB.mv (Mv.ax e)
             have nB:=nB'.within;have hlp:=kp.lt;have hlq:=kq.lt;obtain⟨k1',t1',a1',n1',c1',rfl,hrA⟩:=nA.get;obtain⟨k2',t2',a2',n2',c2',rfl,hrB⟩:=nB.get;have zE:=E.size;refine fS 6 127 (by kernel_rfl) rfl (aC.aB H.dI rfl rfl kp (by first|rfl|(simp;done)|(simp;omega)) (by first|decide|exact of_decide_eq_true rfl|(simp;done)|(simp;omega)) (eT)) ?_;rintro _ w ⟨rfl,kp2,xp,zp⟩;refine⟨fun hk=>(nomatch hk),?_⟩;have kq2:=kq.ext xp (by omega);refine fS 7 255 (by kernel_rfl) rfl (aC.aB H.dI rfl rfl kq2 (by first|rfl|(simp;done)|(simp;omega)) (by first|decide|exact of_decide_eq_true rfl|(simp;done)|(simp;omega)) (eT)) ?_;rintro _ w ⟨rfl,kq3,xq,zq⟩;refine⟨fun hk=>(nomatch hk),?_⟩;have kp3:=kp2.ext xq (by omega);refine bg (by kernel_rfl) ?_;exact⟨(_,_),⟨aF.only (aF.only E xp (by omega)) xq (by omega),_,_,kp3,aX (aX hrA xp (fun b hb q=>⟨fun q2=>q (by omega),q⟩)) xq (fun b hb q=>⟨fun q2=>q (by omega),fun q2=>q2⟩),kq3,aX (aX hrB xp (fun b hb q=>⟨fun q2=>q (by omega),q⟩)) xq (fun b hb q=>⟨fun q2=>q (by omega),fun q2=>q2⟩)⟩,rfl,rfl,rfl,rfl,rfl,rfl,rfl,rfl,rfl,rfl,trivial⟩
         · rintro _ w ⟨rfl,kp',e,z⟩;refine⟨fun _=>e.of,?_⟩;have z:=(e).size;have E:=E.trans e
           try have kp:=kp.ax e
           try have kq:=kq.ax e
           try have nA:=nA.mv (Mv.ax e)
           try have nB:=nB.mv (Mv.ax e)
           have kp:=kp';have hp:=kp.lt;refine cU 1 55 (by kernel_rfl) rfl (aq (vs:=[_]) func13 rfl H.mL rfl (ai.bw (cQ (by omega) (hX.mv (Mv.ax E))))) ?_;rintro rA w ⟨e,nA'⟩;refine⟨fun _=>e.of,?_⟩;have z:=(e).size;have E:=E.trans e
           try have kp:=kp.ax e
           try have kq:=kq.ax e
           try have nA:=nA.mv (Mv.ax e)
           try have nB:=nB.mv (Mv.ax e)
           have nA:=nA'.within;refine cU 3 63 (by kernel_rfl) rfl (aq (vs:=[_]) func13 rfl H.mL rfl (ai.bw (cQ (by omega) (hY.mv (Mv.ax E))))) ?_;rintro rB w ⟨e,nB'⟩;refine⟨fun _=>e.of,?_⟩;have z:=(e).size;have E:=E.trans e
           try have kp:=kp.ax e
           try have kq:=kq.ax e
           try have nA:=nA.mv (Mv.ax e)
           try have nB:=nB.mv (Mv.ax e)
           have nB:=nB'.within;have hlp:=kp.lt;have hlq:=kq.lt;obtain⟨k1',t1',a1',n1',c1',rfl,hrA⟩:=nA.get;obtain⟨k2',t2',a2',n2',c2',rfl,hrB⟩:=nB.get;have zE:=E.size;refine fS 6 127 (by kernel_rfl) rfl (aC.aB H.dI rfl rfl kp (by first|rfl|(simp;done)|(simp;omega)) (by first|decide|exact of_decide_eq_true rfl|(simp;done)|(simp;omega)) (eT)) ?_;rintro _ w ⟨rfl,kp2,xp,zp⟩;refine⟨fun hk=>(nomatch hk),?_⟩;have kq2:=kq.ext xp (by omega);refine fS 7 255 (by kernel_rfl) rfl (aC.aB H.dI rfl rfl kq2 (by first|rfl|(simp;done)|(simp;omega)) (by first|decide|exact of_decide_eq_true rfl|(simp;done)|(simp;omega)) (eT)) ?_;rintro _ w ⟨rfl,kq3,xq,zq⟩;refine⟨fun hk=>(nomatch hk),?_⟩;have kp3:=kp2.ext xq (by omega);refine bg (by kernel_rfl) ?_;exact⟨(_,_),⟨aF.only (aF.only E xp (by omega)) xq (by omega),_,_,kp3,aX (aX hrA xp (fun b hb q=>⟨fun q2=>q (by omega),q⟩)) xq (fun b hb q=>⟨fun q2=>q (by omega),fun q2=>q2⟩),kq3,aX (aX hrB xp (fun b hb q=>⟨fun q2=>q (by omega),q⟩)) xq (fun b hb q=>⟨fun q2=>q (by omega),fun q2=>q2⟩)⟩,rfl,rfl,rfl,rfl,rfl,rfl,rfl,rfl,rfl,rfl,trivial⟩
     · rintro⟨p,q⟩ h7 ⟨e7,c1,c2,kp,rp,kq,rq⟩;dsimp only at kp kq;obtain⟨pk,pt,pa,pn,pc,hc1,_⟩:=(dS.of rp).get;obtain rfl:c1=[.int .i64 pk,.string (bs pt),.slice pa pn pc]:=by have:=congrArg (fun v=>match v with|Value.agg cs=>cs.toList|_=>[]) hc1;simpa using this
       obtain⟨qk,qt,qa,qn,qc,hc2,_⟩:=(dS.of rq).get;obtain rfl:c2=[.int .i64 qk,.string (bs qt),.slice qa qn qc]:=by have:=congrArg (fun v=>match v with|Value.agg cs=>cs.toList|_=>[]) hc2;simpa using this
       have kX:=kX.ax e7;have kY:=k6.ax e7;have hX:=hX.mv (Mv.ax e7);have hY:=hY.mv (Mv.ax e7);have hP:=dS.of rp;have hQ:=dS.of rq;have g7:=hg.ax (e06.trans e7);have E:aF h7 h7:=Ext.refl _ _;have F:Ext (fun _=>False) h7 h7:=Ext.refl _ _;refine av rfl ?_;refine G.qx (fun(u:Unit) (h':aD)=>aF h7 h') (fun(u:Unit)=>[(4,.bool true)]) [(0,_),(1,_),(5,_),(6,_),(7,_),(8,_),(9,_),(10,_),(26,_)] ⟨rfl,rfl,rfl,rfl,rfl,rfl,rfl,rfl,rfl,trivial⟩ (fun _=>False) (fun i=>Nat.blt i 30) (sz:=30) (listed:= #[false,false,false,false,false,false,false,false,false,false,false,false,false,false,false,false,false,false,false,false,false,false,false,false,false,false,false,false,false,false]) func4 H.mixed rfl rfl rfl ?_ ?_
       · refine bI 0 1 (by kernel_rfl) rfl (fun h' e=>aj.aG H.bN H.aV rfl (e.rowAt (fun k=>k) kX.row) (by first|rfl|(simp;done)|(simp;omega))) ?_;refine bI 2 5 (by kernel_rfl) rfl (fun h' e=>aj.aG H.rL H.dI rfl (e.rowAt (fun k=>k) kp.row) (by first|rfl|(simp;done)|(simp;omega))) ?_;refine cU 1 7 (by kernel_rfl) rfl (aq (vs:=[_]) func14 rfl H.Kj rfl (ai.bw (rS (by omega) g7 hX))) ?_;rintro _ w ⟨rfl,e⟩;refine⟨fun _=>e,?_⟩;have E:=E.trans e;refine cU 3 15 (by kernel_rfl) rfl (aq (vs:=[_]) func15 rfl H.I6 rfl (ai.bw (pR (by omega) (hP.mv (Mv.ax E))))) ?_;rintro _ w ⟨rfl,e⟩;refine⟨fun _=>e,?_⟩;have E:=E.trans e;refine bI 4 31 (by kernel_rfl) rfl (fun h' e=>aj.C9 underlying4 rfl rfl) ?_;refine b9 5 63 (by kernel_rfl) rfl ?_;refine RD.cW (d:=37) (b':=true) rfl ((by simp)) ?_;refine bI 6 127 (by kernel_rfl) rfl (fun h' e=>aj.aG H.bN H.aV rfl (e.rowAt (fun k=>k) (kX.ax E).row) (by first|rfl|(simp;done)|(simp;omega))) ?_;refine bI 8 383 (by kernel_rfl) rfl (fun h' e=>aj.aG H.rL H.dI rfl (e.rowAt (fun k=>k) (kp.ax E).row) (by first|rfl|(simp;done)|(simp;omega))) ?_;refine cU 7 511 (by kernel_rfl) rfl (aq (vs:=[_]) func16 rfl H.I5 rfl (ai.bw (pe (by omega) (g7.ax E) (hX.mv (Mv.ax E))))) ?_;rintro _ w ⟨rfl,e⟩;refine⟨fun _=>e,?_⟩;have E:=E.trans e;refine cU 9 1023 (by kernel_rfl) rfl (aq (vs:=[_]) func17 rfl H.L5 rfl (ai.bw (Ah (by omega) (hP.mv (Mv.ax E))))) ?_;rintro _ w ⟨rfl,e⟩;refine⟨fun _=>e,?_⟩;have E:=E.trans e;refine bI 10 2047 (by kernel_rfl) rfl (fun h' e=>aj.cI rfl rfl) ?_;refine b9 11 4095 (by kernel_rfl) rfl ?_;refine b9 12 8191 (by kernel_rfl) rfl ?_;refine RD.cW (d:=44) (b':=true) rfl ((by simp)) ?_;refine bI 13 16383 (by kernel_rfl) rfl (fun h' e=>aj.aG H.bN H.aV rfl (e.rowAt (fun k=>k) (kX.ax E).row) (by first|rfl|(simp;done)|(simp;omega))) ?_;refine bI 14 32767 (by kernel_rfl) rfl (fun h' e=>aj.aG H.bN H.aV rfl (e.rowAt (fun k=>k) (kY.ax E).row) (by first|rfl|(simp;done)|(simp;omega))) ?_;refine bI 16 98303 (by kernel_rfl) rfl (fun h' e=>aj.aG H.rL H.dI rfl (e.rowAt (fun k=>k) (kp.ax E).row) (by first|rfl|(simp;done)|(simp;omega))) ?_;refine bI 17 229375 (by kernel_rfl) rfl (fun h' e=>aj.aG H.rL H.dI rfl (e.rowAt (fun k=>k) (kq.ax E).row) (by first|rfl|(simp;done)|(simp;omega))) ?_;refine cU 15 262143 (by kernel_rfl) rfl (aq (vs:=[_,_]) func18 rfl H.Ka rfl (ai.bw (vK (hX.mv (Mv.ax E)) (hY.mv (Mv.ax E))))) ?_;rintro _ w ⟨rfl,e⟩;refine⟨fun _=>e,?_⟩;have E:=E.trans e;refine cU 18 524287 (by kernel_rfl) rfl (aq (vs:=[_,_]) func19 rfl H.J8 rfl (ai.bw (Ai (hP.mv (Mv.ax E)) (hQ.mv (Mv.ax E))))) ?_;rintro _ w ⟨rfl,e⟩;refine⟨fun _=>e,?_⟩;have E:=E.trans e;refine bI 19 1048575 (by kernel_rfl) rfl (fun h' e=>aj.C9 underlying4 rfl rfl) ?_;refine b9 20 2097151 (by kernel_rfl) rfl ?_;refine b9 21 4194303 (by kernel_rfl) rfl ?_;refine RD.cW (d:=53) (b':=true) rfl ((by simp)) ?_;have hss:jA x x=true:=(wP x x).2 rfl;refine bI 22 8388607 (by kernel_rfl) rfl (fun h' e=>aj.aG H.bN H.aV rfl (e.rowAt (fun k=>k) (kX.ax E).row) (by first|rfl|(simp;done)|(simp;omega))) ?_;refine bI 23 16777215 (by kernel_rfl) rfl (fun h' e=>aj.aG H.bN H.aV rfl (e.rowAt (fun k=>k) (kX.ax E).row) (by first|rfl|(simp;done)|(simp;omega))) ?_;refine cU 24 33554431 (by kernel_rfl) rfl (aq (vs:=[_,_]) func18 rfl H.Ka rfl (ai.bw (vK (hX.mv (Mv.ax E)) (hX.mv (Mv.ax E))))) ?_;rintro _ w ⟨rfl,e⟩;refine⟨fun _=>e,?_⟩;have E:=E.trans e;refine b9 25 67108863 (by kernel_rfl) rfl ?_;refine b9 26 134217727 (by kernel_rfl) rfl ?_;refine RD.cW (d:=58) (b':=true) rfl (hss) ?_;refine cU 27 268435455 (by kernel_rfl) rfl (aq (vs:=[]) func7 rfl H.Mg rfl (ai.bw (pV (g7.ax E)))) ?_;rintro _ w ⟨rfl,e⟩;refine⟨fun _=>e,?_⟩;have E:=E.trans e;refine b9 28 536870911 (by kernel_rfl) rfl ?_;refine b9 29 1073741823 (by kernel_rfl) rfl ?_;refine bg (by kernel_rfl) ?_;exact⟨(),E,aA rfl (rfl),rfl,rfl,rfl,rfl,rfl,rfl,rfl,rfl,rfl,trivial⟩
       · rintro u h8 e8;refine G.ret func4 rfl rfl ?_;exact⟨_,rfl,rfl,(e06.trans e7).trans e8⟩
end Go.Proofs.YtedocgkapmeceaaGreatDoor

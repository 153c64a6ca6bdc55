/- What the proof of the statement leans on (part 26). -/
import Derived.Lib.LaidTab
import Derived.Test.YtdihgdeciopfpaaGreatDoorQy

namespace Go.Proofs.YtdihgdeciopfpaaGreatDoor
open Go.Proofs.Tryz
open Go Go.Lw Go.ChangeShapes Go.WideShapes Go.ChangeAt Go.RowKit
set_option maxRecDepth 20000
theorem Kt {W:World}{g t:Nat}{cs:Array Value}{fuel:Nat}{pl:List MemPlace}{sp:Nat->Bool}{held:Bool}{enc:TypeId×Value->Unit}(hg:Tryz.prog.globalNamed "internal/strconv.uint64pow10" =some g) (ht:(Tryz.prog.globals[g]?).map (·.type)=some t) (hv:W.var? Tryz.prog "internal/strconv.uint64pow10" =some cs)
    (hd:DataW.trod enc Tryz.prog W 0 sp held fuel t cs.toList=some (Rows.laid_internal_strconv_uint64pow10,pl)):rQ W.heap:=by
  have gT:Tryz.prog.globalNamed "internal/strconv.uint64pow10" =some 11:=by kernel_rfl
  have tT:(Tryz.prog.globals[11]?).map (·.type)=some 403:=by kernel_rfl
  obtain rfl:=Option.some.inj (gT.symm.trans hg);obtain rfl:=Option.some.inj (tT.symm.trans ht);unfold rQ;rw[<-Bw,hv];have hd2:DataW.trod enc Tryz.prog W 0 sp held fuel 403 cs.toList=some (Lib.tabData .u64 Lib.pow10Tab,pl):=hd;rw[<-Lib.cells_of_tab underlying403 underlying236 (by kernel_rfl) (by kernel_rfl) hd2]
end Go.Proofs.YtdihgdeciopfpaaGreatDoor
namespace Go.Proofs.YtdihgdeciopfpaaGreatDoor
open Go.Proofs.Tryz
open Go Go.Lw
set_option maxRecDepth 20000 set_option maxHeartbeats 4000000
section
variable {h:aj}
def gO (m:Int):List By:=if m=0 then DY else if m=1 then DX else if m=2 then DW else []
def oG (m:Int):List (By×Int×Int):=List.zipWith (fun r k=>(r,k.1,k.2)) (gO m) (vP m)
def lQ (h:aj):Prop:=∀m:Nat,m<3->∃v,cellAt h ⟨1,m,none⟩=some v/\bB NT h (fun _=>False) v (oG m)
theorem lQ.ak {h h':aj}(k:lQ h) (e:aq h h'):lQ h':=fun m hm=>by
 obtain⟨v,h1,h2⟩:=k m hm;exact⟨v,e.cell (fun k=>k) h1,h2.mv (Mv.ak e)⟩
theorem HZ (m:Nat) (hm:m<3):(oG m).length<=10/\(oG m).map (·.1)=gO m:=by
 match m,hm with
 | 0,_=>exact⟨by decide,by decide⟩
 | 1,_=>exact⟨by decide,by decide⟩
 | 2,_=>exact⟨by decide,by decide⟩
theorem p8 (r:By×Int×Int):∀v∈eN r,v.oneCell'=true:=fun v hv=>by simp[eN] at hv;rcases hv with rfl|rfl|rfl<;>rfl
theorem ET {l cap:Nat}{oa:Option Addr}{n c:Nat}{J:Nat->aj->Prop}(hn:n<=1000000) (hmono:∀j h g,J j h->aq h g->J j g)
 (hy:∀j h,J j h->j<n->∃(b o:Nat) (r:By×Int×Int),oa=some ⟨b,o,none⟩/\Lw.rowAt h b (o+j*3) (eN r) /\
  ∀g,J j g->eC Tryz.prog l #[.int .i64 (j:Nat),.agg (eN r).toArray] g (bf fun r h'=>r= .bool true/\J (j+1) h')) (h0:J 0 h) (hread:cellAt h ⟨cap,0,none⟩=some (.slice oa n c)) :
 af Tryz.prog 241 #[.func (.yield l) #[] #[],.pointer (some ⟨cap,0,none⟩)] h (bf fun _ h'=>J n h'):=by
 refine eV ?_;refine ax ?_;refine xp rfl (bJ rfl hread) ?_;refine ax ?_;refine qS (σ:=Nat) (fun j=>[(7,.int .i64 (j:Nat))]) (fun j h'=>J j h'/\j<=n) (fun j=>n-j) (0) ⟨h0,Nat.zero_le _⟩ rfl ?_;rintro j h1 ⟨hJ,hj⟩ ih;refine ax ?_;refine dM (fun hlt=>?_) (fun hlt=>?_)
 · obtain⟨b,o,r,ha,hrow,hyy⟩:=hy j h1 hJ (by omega)
   iterate 4 refine dc ?_
   refine fE ?_;refine cG ?_;refine xp rfl (fN rfl rfl j rfl ha) ?_;refine xp rfl (jT rfl hrow) ?_;refine xo rfl (pI) ?_;rintro _ g1 ⟨rfl,k1,e1,z1⟩;refine ax ?_;refine dD rfl (iV rfl rfl k1 (p8 r)) ?_;rintro _ g2 ⟨rfl,k2,x2,z2⟩;refine iF ?_;refine dc ?_;have e12:aq h1 g2:=e1.only x2 (Nat.le_refl _);have k2:aH g2 h1.size 303 (eN r):=k2;refine G.Ix func241 rfl ?_;refine bS.an rfl rfl rfl rfl rfl (aD rfl) ?_;refine bS.an rfl rfl rfl rfl rfl (aD rfl) ?_;refine bS.an rfl rfl rfl rfl rfl (ai.aF H.MT H.H8 rfl k2.row (by first|rfl|(simp;done)|(simp;omega))) ?_;refine bS.yield (vs:=[_,_]) rfl rfl rfl rfl rfl rfl rfl ((hyy g2 (hmono _ _ _ hJ e12))) ?_;rintro _ h2 ⟨rfl,hJ2⟩;refine bS.an rfl rfl rfl rfl rfl (ai.D8 rfl) ?_;refine bS.done rfl ?_;refine qT rfl (by decide) ?_;refine ax ?_;exact ih (j+1) ⟨hJ2,by omega⟩
 · obtain rfl:j=n:=by omega
   refine ax ?_;refine M9 ?_;exact⟨_,rfl,hJ⟩
theorem Hz (v:Value) (hv:v.oneCell'=true):af Tryz.prog 188 #[v] h (bf fun r h'=>r= .func (.func 241) #[] #[.pointer (some ⟨h.size,0,none⟩)]/\h'=h.push (.cells #[v] 301)):=by
 have hcells:v.cells= #[v]:=by cases v<;>simp[Value.oneCell'] at hv<;>rfl
 refine eV ?_;refine ax ?_;refine xo rfl (aB.box rfl) ?_;rintro _ _ ⟨rfl,rfl⟩;refine ax ?_;refine xp rfl (ai.makeFunc (vs:=[_]) rfl) ?_;refine ax ?_;refine dS ?_;exact⟨_,rfl,rfl,by rw[hcells]⟩
abbrev K7 (s:By):Value:=.string (bs s)
def Lv (h:aj) (d:Nat) (r0:Loop) (base:Nat) (l:List By) (j:Nat) (g:aj):Prop :=
 cD g (d+1) r0/\g[d]? =some (.deferred (some []))/\aq h g/\base<=g.size/\∃w,aH g h.size 59 [w]/\b7 K7 g base 9 w (l.take j)
theorem Lv.ak {h:aj}{d:Nat}{r0:Loop}{base:Nat}{l:List By}{j:Nat}{g g':aj}(k:Lv h d r0 base l j g) (hd:d<g.size) (e:aq g g'):Lv h d r0 base l j g':=by
 obtain⟨h1,h2,h3,h4,w,h5,h6⟩:=k;exact⟨h1.ext e (fun k=>k),(e.block d hd (fun k=>k)).trans h2,h3.trans e,by have:=e.size;omega,w,h5.ak e,b7.ak h6 e⟩
theorem Gw (hR:lQ h) (m:Nat) (hm:m<3) :
 af Tryz.prog 120 #[.int .i64 (m:Nat)] h (bf fun r h'=>bB yB h' (fun _=>False) r (gO m)/\aq h h'):=by
 obtain⟨htl,htm⟩:=HZ m hm;generalize hL0:gO (m:Int)=l at *;generalize htb:oG (m:Int)=tb at *;have hll:l.length=tb.length:=by rw[<-htm];simp
 refine eV ?_;refine dc ?_;refine fE ?_;refine cG ?_;refine iF ?_
 iterate 2 refine dc ?_
 refine rV [(11,.bool false)] rfl ?_ ?_
 · refine ax ?_;refine RW.bH (d:=8) (b':=false) rfl ((by simp)) ?_;refine ax ?_;exact cY rfl ⟨aC rfl (by simp;omega),sb rfl⟩
 · refine qT rfl (by decide) ?_;refine ax ?_;refine xo rfl (pI) ?_;rintro _ h1 ⟨rfl,k3,e1,z1⟩;have k3:aH h1 h.size 59 [.slice none 0 0]:=k3;obtain⟨v,hv,hsl⟩:=hR m hm;rw[htb] at hsl;have hsl1:=hsl.mv (Mv.ak e1);obtain⟨oa,kn,kc,rfl,hsl2⟩:=hsl1.open;have hkn:=hsl2.len;have hv1:cellAt h1 ⟨1,0+m*1,none⟩=some (.slice oa kn kc):=by rw[Nat.mul_one,Nat.zero_add];exact e1.cell (fun k=>k) hv
   refine iF ?_
   iterate 2 refine dc ?_
   refine fE ?_;refine cG ?_;refine xp rfl (Dt rfl rfl m rfl (by omega)) ?_;refine xp rfl (bJ rfl hv1) ?_;refine xo rfl (dz rfl (Hz (.slice oa kn kc) rfl)) ?_;rintro _ h2 ⟨rfl,hh2⟩;have e2:aq h1 h2:=by rw[hh2];exact Ext.push _ _ _
   have kc2b:aH h2 h1.size 301 [.slice oa kn kc]:=by rw[hh2];exact qR _ _ _
   have kc2:cellAt h2 ⟨h1.size,0,none⟩=some (.slice oa kn kc):=kc2b.cell (i:=0) rfl;have z2:h2.size=h1.size+1:=by rw[hh2];simp
   clear hh2;refine ax ?_;refine G.rangeFunc rfl rfl func241 rfl (by decide +kernel) ?_;intro fid tmps hfits;obtain⟨r0,hr0⟩:∃r0,r0=eP fid tmps #[16,17] (L2 (Lw.sub (ay Tryz.f120) [0,1,0,1,1,1])) (L1 (Lw.sub (ay Tryz.f120) [0,1,0,1,1,1])) h2.size:=⟨_,rfl⟩
   obtain⟨hL,hhL⟩:∃hL,hL=(h2.push (.deferred (some []))).push (.loop r0):=⟨_,rfl⟩
   suffices hmain:af Tryz.prog 241 #[.func (.yield (h2.size+1)) #[] #[],.pointer (some ⟨h1.size,0,none⟩)] hL _ by rw[hhL,hr0] at hmain;exact hmain
   have hst:r0.state= .ready:=by rw[hr0];rfl
   have hpn:r0.pending=none:=by rw[hr0];rfl
   have hps:r0.params= #[16,17]:=by rw[hr0];rfl
   have htm2:r0.tmps=tmps:=by rw[hr0];rfl
   have eL:aq h2 hL:=by rw[hhL];exact(Ext.push _ _ _).trans (Ext.push _ _ _)
   have hLz:hL.size=h2.size+2:=by rw[hhL];simp
   have hloop0:cD hL (h2.size+1) r0:=by
    have hz:h2.size+1=(h2.push (.deferred (some []))).size:=by simp
    rw[cD,hhL,hz];exact Array.getElem?_push_size
   have hdef0:hL[h2.size]? =some (.deferred (some [])):=by
    rw[hhL,(Ext.push (fun _=>False) (h2.push (.deferred (some []))) _).block h2.size (by simp) (fun k=>k)];exact Array.getElem?_push_size
   clear hhL;have e0L:aq h hL:=(e1.trans e2).trans eL;have hJ0:Lv h h2.size r0 hL.size l 0 hL:=⟨hloop0,hdef0,e0L,Nat.le_refl _,_,(k3.ak e2).ak eL,b7.nil _ _ _ _⟩
   have hcapL:cellAt hL ⟨h1.size,0,none⟩=some (.slice oa kn kc):=eL.cell (fun k=>k) kc2;have hdl:∀j g,Lv h h2.size r0 hL.size l j g->h2.size<g.size:=fun j g k=>by have:=k.2.2.2.1;omega
   refine suff (p:=∀j g,Lv h h2.size r0 hL.size l j g->j<kn->∃(b o:Nat) (r:By×Int×Int),oa=some ⟨b,o,none⟩/\Lw.rowAt g b (o+j*3) (eN r)/\∀g,Lv h h2.size r0 hL.size l j g->eC Tryz.prog (h2.size+1) #[.int .i64 (j:Nat),.agg (eN r).toArray] g (bf fun r h'=>r= .bool true/\Lv h h2.size r0 hL.size l (j+1) h')) ?_ fun hy=>?_
   · intro j g hJg hj;obtain⟨r,hx⟩:∃r,tb[j]? =some r:=⟨_,List.getElem?_eq_getElem (by omega)⟩
     have hslg:=hsl.mv (Mv.ak hJg.2.2.1);obtain⟨oa',n',c',hv',_,_,_,hget⟩:=id hslg;cases hv';obtain⟨b,o,cs,ha,hob,hrow,rfl⟩:=hget j r hx;refine⟨b,o,r,ha,hrow,fun g hJg=>?_⟩;obtain⟨hlp,hdf,ehg,hbg,w,kS,hw⟩:=hJg;have hlj:l[j]? =some r.1:=by rw[<-htm,List.getElem?_map,hx];rfl
     have hfit:=CR (p1:=16) (p2:=17) (v1:=.int .i64 (j:Nat)) (v2:=.agg (eN r).toArray) hfits rfl rfl;rw[<-hps,<-htm2] at hfit;refine eC.of hlp hst (by rw[hps];rfl) hfit ((congrArg Loop.assign hr0).trans rfl) ((congrArg Loop.body hr0).trans rfl) ?_;refine bS.xJ rfl rfl rfl rfl rfl (aB.aQ H.LG) ?_;rintro _ g1 ⟨rfl,k5,e1',zz1⟩;refine bS.dQ rfl rfl rfl rfl (aB.aG H.H8 rfl rfl k5 (by first|rfl|(simp;done)|(simp;omega)) (by first|decide|exact of_decide_eq_true rfl|(simp;done)|(simp;omega)) (p8 r)) ?_;rintro _ g2 ⟨rfl,k5',e2',zz2⟩;refine bS.done rfl ?_;have e12:aq g g2:=e1'.only e2' (Nat.le_refl _);have k5':aH g2 g.size 303 (eN r):=k5';refine⟨(e12.block _ hlp.lt (fun k=>k)).trans hlp,?_⟩;obtain⟨g3,hg3⟩:∃g3,g3=Lw.cu g2 (h2.size+1) (.loop { r0 with state:=.busy }):=⟨_,rfl⟩
     rw[<-hg3];have hlz:=hlp.lt;have hz2:=e12.size;have hz1:=e1.size;have e23:Ext (fun b=>b=h2.size+1) g2 g3:=by rw[hg3];exact Ext.cu _ _ _ rfl
     have hlp3:cD g3 (h2.size+1) { r0 with state:=.busy }:=by rw[cD,hg3];exact gQ (by omega)
     have hz3:=e23.size;have kS3:=(kS.ak e12).ext e23 (show ¬h.size=h2.size+1 by omega);have k53:=k5'.ext e23 (show ¬g.size=h2.size+1 by omega);have hwge:∀b,w.ownBlock=some b->hL.size<=b:=fun b hb=>(az.lt hw hb).1
     have hw3:az g3 hL.size 9 1 w (l.take j).length ((l.take j).map K7):=az.ext e23 (b7.ak hw e12) (fun b hb k=>by have:=hwge b hb;omega);have hjl:(l.take j).length=j:=by rw[List.length_take];omega
     refine bS.an rfl rfl rfl rfl rfl (ah H.tE rfl (kS3.cell (i:=0) rfl)) ?_;refine bS.an rfl rfl rfl rfl rfl (aa (off:=0) underlying303 rfl rfl H.js rfl) ?_;refine bS.an rfl rfl rfl rfl rfl (ah H.jQ rfl (k53.cell (i:=0) rfl)) ?_;refine bS.xJ rfl rfl rfl rfl rfl (aB.dB (us:=[_]) underlying59 H.yA rfl rfl (by decide) (by simp[Value.oneCell'])) ?_;rintro _ _ ⟨rfl,rfl⟩;refine bS.xJ rfl rfl rfl rfl rfl (aB.dZ underlying59 H.yA rfl rfl (hw3) rfl rfl (by first|decide|simp[Value.oneCell']) (by omega) (by decide) (by omega)) ?_;rintro v4 g4 ⟨ho4,hx4,hx4',hv4⟩;have kS4:=kS3.ext hx4 (fun k=>by have:=hwge _ k.symm;omega);have hz4:=hx4.size;have hw4:b7 K7 g4 hL.size 9 v4 (l.take j++[r.1]):=b7.of (ys:=[r.1]) ho4 rfl rfl rfl;obtain⟨va4,vc4,rfl,_⟩:=ho4.open;refine bS.dQ rfl rfl rfl rfl (aB.aS H.jY rfl rfl kS4 (by first|decide|exact of_decide_eq_true rfl|(simp;done)|(simp;omega)) rfl) ?_;rintro _ g5 ⟨rfl,kS5,e5',zz5⟩;refine bS.done rfl ?_;have kS5:aH g5 h.size 59 [.slice va4 ((l.take j).length+1) vc4]:=by simpa using kS5
     have hlp5:cD g5 (h2.size+1) { r0 with state:=.busy }:=(hlp3.ext hx4 (fun k=>by have:=hwge _ k.symm;omega)).ext e5' (show ¬h2.size+1=h.size by omega);have hr2:({ ({ r0 with state:=.busy }:Loop) with state:=.ready,pending:=none }:Loop)=r0:=by cases r0;simp at hst hpn;simp[hst,hpn]
     have hz5:=e5'.size;refine⟨_,hlp5,rfl,?_⟩;rw[hr2];have e56:Ext (fun b=>b=h2.size+1) g5 (Lw.cu g5 (h2.size+1) (.loop r0)):=Ext.cu _ _ _ rfl;have hlz5:=hlp5.lt
     have hblk:∀b,b<hL.size->¬b=h.size->¬b=h2.size+1->b<g.size->(Lw.cu g5 (h2.size+1) (.loop r0))[b]? =g[b]? :=fun b hb n1 n2 hbg=>by
      rw[e56.block b (by omega) n2,e5'.block b (by omega) n1,hx4.block b (by omega) (fun k=>by have:=hwge _ k.symm;omega),e23.block b (by omega) n2,e12.block b hbg (fun k=>k)]
     have hv4ge:∀b,(Value.slice va4 ((l.take j).length+1) vc4).ownBlock=some b->hL.size<=b:=fun b hb=>(az.lt hw4 hb).1
     refine⟨gQ hlz5,by rw[hblk h2.size (by omega) (by omega) (by omega) (by omega)];exact hdf,⟨by have:=e56.size;have:=ehg.size;omega,fun b hb _=>?_⟩,by have:=e56.size;omega,_,kS5.ext e56 (show ¬h.size=h2.size+1 by omega),?_⟩
     · rw[hblk b (by omega) (by omega) (by omega) (by have:=ehg.size;omega)];exact ehg.block b hb (fun k=>k)
     · rw[List.take_add_one,hlj];exact az.ext e56 (az.ext e5' hw4 (fun b hb k=>by have:=hv4ge b hb;omega)) (fun b hb k=>by have:=hv4ge b hb;omega)
   · refine(ET (l:=h2.size+1) (cap:=h1.size) (n:=kn) (c:=kc) (oa:=oa) (J:=Lv h h2.size r0 hL.size l) (by omega) (fun j g g' k e=>k.ak (hdl j g k) e) hy hJ0 hcapL).mono fun e g hJ=>?_
     obtain⟨u,rfl,hlp,hdf,ehg,hbg,w,kS,hw⟩:=hJ;rw[List.take_of_length_le (by omega)] at hw;refine⟨_,rfl,r0,hlp,by rw[hst];decide,hpn,?_⟩;have hz1:=e1.size;have hlz:=hlp.lt;have e6:Ext (fun b=>b=h2.size+1) g (Lw.cu g (h2.size+1) (.loop { r0 with state:=.exhausted })):=Ext.cu _ _ _ rfl;have kSe:=kS.ext e6 (show ¬h.size=h2.size+1 by omega);have hdfe:=(e6.block h2.size (by omega) (show ¬h2.size=h2.size+1 by omega)).trans hdf;have hwge:∀b,w.ownBlock=some b->hL.size<=b:=fun b hb=>(az.lt hw hb).1
     have hwe:=az.ext e6 hw (fun b hb k=>by have:=hwge b hb;omega);refine GD.bE ?_;refine iy rfl ?_;refine GD.cA func120 rfl ?_;refine gE.an rfl rfl rfl rfl (ah H.tE rfl (kSe.cell (i:=0) rfl)) ?_;refine gE.an rfl rfl rfl rfl (ai.assign rfl) ?_;refine gE.done rfl ?_;refine GD.sub (ρ':=[(0,_),(2,_),(3,_),(11,_),(15,_)]) ⟨rfl,rfl,rfl,rfl,rfl,trivial⟩ ?_;refine GD.Ay func120 rfl hdfe rfl ?_;have e7:Ext (fun b=>b=h2.size) (Lw.cu g (h2.size+1) (.loop { r0 with state:=.exhausted })) (Lw.cu (Lw.cu g (h2.size+1) (.loop { r0 with state:=.exhausted })) h2.size (.deferred none)):=Ext.cu _ _ _ rfl;have hz6:=e6.size;have hz7:=e7.size;refine⟨_,rfl,b7.read (h1:=fun _=>rfl) (show b7 K7 _ hL.size 9 w l from az.ext e7 hwe (fun b hb k=>by have:=hwge b hb;omega)) (fun _ _ k=>k),⟨by have:=ehg.size;omega,fun b hb _=>?_⟩⟩;rw[e7.block b (by have:=ehg.size;omega) (by omega),e6.block b (by have:=ehg.size;omega) (by omega)];exact ehg.block b hb (fun k=>k)
def mg (m:Int):bP:=match lM (gO m) with|.inr d=>d|.inl _=>⟨[],[]⟩
theorem qm (m:Nat) (hm:m<3):∃ss st,eR (gO m)= .inr (ss,st)/\lM (gO m)= .inr (mg m)/\fX ss st= .inr (mg m)/\(∀l,ey m l=cV ss st l)/\∀l,(aP (mg m) l 0 0 (0,-1)).2.2<=(ey m l).1+2:=by
 have key:∀{ss:List bC}{st:Nat},eR (gO m)= .inr (ss,st)->(∀l,ey m l=cV ss st l)->(∃d,fX ss st= .inr d/\(∀l,(aP d l 0 0 (0,-1)).2.2<=(cV ss st l).1+2)/\∀l x:By,(cV ss st l).1+2<l.length->cV ss st (l++x)=cV ss st l)->∃ss st,eR (gO m)= .inr (ss,st)/\lM (gO m)= .inr (mg m)/\fX ss st= .inr (mg m)/\(∀l,ey m l=cV ss st l)/\∀l,(aP (mg m) l 0 0 (0,-1)).2.2<=(ey m l).1+2:=by
  intro ss st h1 h2 ⟨d,h3,h4,_⟩;have h5:lM (gO m)= .inr d:=by unfold lM;rw[h1];exact h3
  have h6:mg m=d:=by unfold mg;rw[h5]
  rw[h6];exact⟨ss,st,h1,h5,h3,h2,fun l=>by rw[h2];exact h4 l⟩
 match m,hm with
 | 0,_=>exact key Rb (fun l=>rfl) (iT Rb ML MO MH nM.1)
 | 1,_=>exact key Kg (fun l=>rfl) (iT Kg MK MN MG nM.2.1)
 | 2,_=>exact key Ra (fun l=>rfl) (iT Ra MJ MM MF nM.2.2)
def Qy:gH bP:=⟨1,by decide,fun h O cs d=>∃db,cs=[.pointer (some ⟨db,0,none⟩)]/\ny h O db d,fun h=>by obtain⟨db,rfl,_⟩:=h;rfl,fun h=>by
 obtain⟨db,rfl,_⟩:=h;intro u hu;simp at hu;subst hu;rfl,fun h m=>by
 obtain⟨db,hc,hv⟩:=h;exact⟨db,hc,hv.mv m⟩⟩
def sC (k:Nat):List bP:=([0,1,2].take k).map fun m:Int=>kF (mg m)
theorem Eh (k:Nat) (hk:k<3):sC (k+1)=sC k++[kF (mg k)]/\(sC k).length=k:=by
 match k,hk with
 | 0,_=>exact⟨rfl,rfl⟩
 | 1,_=>exact⟨rfl,rfl⟩
 | 2,_=>exact⟨rfl,rfl⟩
def xw (h:aj) (p:Value):Prop:=∃lb vm,p= .pointer (some ⟨lb,0,none⟩)/\aH h lb 222 [vm]/\bB Qy h (fun _=>False) vm (sC 3)
theorem xw.ak {h h':aj}{p:Value}(k:xw h p) (e:aq h h'):xw h' p:=by
 obtain⟨lb,vm,h1,h2,h3⟩:=k;exact⟨lb,vm,h1,h2.ak e,h3.mv (Mv.ak e)⟩
def tH (O:Nat->Prop) (h:aj) (p:Value):Prop:=∃lb vm,p= .pointer (some ⟨lb,0,none⟩)/\¬O lb/\aH h lb 222 [vm]/\bB Qy h O vm (sC 3)
theorem tH.mv {O O':Nat->Prop}{h h':aj}{p:Value}(k:tH O h p) (m:Mv O O' h h'):tH O' h' p:=by
 obtain⟨lb,vm,h1,ho,h2,h3⟩:=k;have hm:=m.block lb h2.lt ho;exact⟨lb,vm,h1,hm.2,hm.1.trans h2,h3.mv m⟩
theorem tH.at {O:Nat->Prop}{p:Value}(k:tH O h p):xw h p:=by
 obtain⟨lb,vm,h1,_,h2,h3⟩:=k;exact⟨lb,vm,h1,h2,nA h3 (fun _ q=>q.elim)⟩
theorem tH.nU {O:Nat->Prop}{h':aj}{b:Nat}{p:Value}(k:tH (fun x=>x=b\/O x) h p) (x:Ext (fun y=>y=b) h h'):tH (fun x=>x=b\/O x) h' p:=k.mv (Mv.cU x fun _ _ ho=>⟨fun q=>ho (.inl q),ho⟩)
theorem D9 {lim:Nat}(hg:Sg h lim) (hlim:lim<=h.size) (htens:rQ h) (hR:lQ h) :
 af Tryz.prog 66 #[] h (bf fun r h'=>tH (fun b=>b<h.size) h' r/\aq h h'):=by
 refine eV ?_;refine ax ?_;refine xp rfl (aE (H.N3 ) rfl) ?_;refine xo rfl (Bu) ?_;rintro _ h1 ⟨rfl,k1,e1,z1⟩;have k1:aH h1 h.size 222 [.slice none 0 0]:=k1;refine ax ?_;refine qS (σ:=Nat×Value) (fun q=>[(2,.int .i64 (q.1:Nat))]) (fun q h'=>q.1<=3/\aq h h'/\aH h' h.size 222 [q.2]/\fB Qy (fun b=>b<=h.size) h' h1.size 227 q.2 (sC q.1)/\h1.size<=h'.size) (fun q=>3-q.1) ((0,.slice none 0 0)) ⟨by decide,e1,k1,fB.nil _ _ _ _ _,Nat.le_refl _⟩ rfl ?_;rintro⟨m,vm⟩ g ⟨hm,eg,kb,hx,hz⟩ ih
 try dsimp only
 dsimp only at hm kb hx;refine ax ?_;refine dM (fun hlt=>?_) (fun hlt=>?_)
 · have hm3:m<3:=by omega
   obtain⟨ss,st,hmk,hdm,hdk,_⟩:=qm m hm3;obtain⟨hnext,hlen⟩:=Eh m hm3;have hok:=kM hdm;have hM:=fe hmk;have hb:=Cz hM
   have hrl:∀s∈gO m,s.length<=1000000:=by
    have:m=0\/m=1\/m=2:=by omega
    rcases this with rfl|rfl|rfl
    · exact of_decide_eq_true rfl
    · exact of_decide_eq_true rfl
    · exact of_decide_eq_true rfl
   refine ax ?_;refine xo rfl (dz rfl (Gw (hR.ak eg) m hm3)) ?_;rintro _ g1 ⟨hr1,f1⟩;have eg1:=eg.trans f1;refine xo rfl (dz rfl (GO (hg.ext eg1 (fun _ k=>k.elim)) (by have:=eg1.size;omega) hr1 hrl)) ?_;rintro _ g2 ⟨⟨p,rfl,hp⟩,f2⟩
   have hp:∃(O:Nat->Prop) (nb:Nat) (v:Value),p= .pointer (some ⟨nb,0,none⟩)/\bV g2 O nb v ss st:=by
    rcases hp with ⟨e,he,_⟩|⟨O,nb,v,ss',st',hp,hn,hm'⟩
    · rw[hmk] at he;cases he
    · rw[hmk] at hm';cases hm';exact⟨O,nb,v,hp,hn⟩
   obtain⟨O,nb,v,rfl,hn⟩:=hp;have eg2:=eg1.trans f2;refine ax ?_;refine xo rfl (dz rfl (CY (htens.ak eg2) hn hM.good hM.len hM.stl hb.2.1 hb.2.2)) ?_;rintro r3 g3 ⟨hr3,f3⟩;unfold Br at hr3;rw[hdk] at hr3;obtain⟨db,rfl,hk⟩:=hr3;have eg3:=eg2.trans f3;have f03:=(f1.trans f2).trans f3;have zz:=f03.size;have kb3:=kb.ak f03;have hx3:=hx.ak f03;obtain⟨css3,_,hw3,_⟩:=id hx3;have vge:∀b,vm.ownBlock=some b->h1.size<=b/\b<g3.size:=fun b hb=>hw3.lt hb
   have hkM:¬(cj vm.ownBlock h.size\/Array.size g3<=h.size):=by
    rintro(k|k)
    · have:=(vge _ k.symm).1;omega
    · omega
   refine ax ?_;refine Bt 12 (fun b=>cj vm.ownBlock b\/Array.size g3<=b) (fun i=>Nat.blt i 11) ?_;refine cS 0 ?_;refine cS 1 ?_;refine cS 2 ?_;refine cS 3 ?_;refine eO 4 rfl (fun h' e=>bJ rfl (e.cell hkM (kb3.cell (i:=0) rfl))) ?_;refine cS 5 ?_;refine nG 6 rfl (dz rfl (JF (htens.ak eg3) hk hok.1 hok.2)) ?_;rintro r4 g4 ⟨⟨b4,rfl,hk4⟩,f4⟩;refine⟨fun _=>f4.mono (fun _ _ k=>k.elim),?_⟩;have hx4:=hx3.ak f4;have kb4:=kb3.ak f4;have z4:=f4.size;obtain⟨css,hc1,hc2,hc3⟩:=id hx4;rw[hlen] at hc2;refine nG 7 rfl (xI [_]) ?_;rintro _ _ ⟨rfl,rfl⟩;refine⟨fun _=>by first|exact Ext.push _ _ _|assumption,?_⟩;refine nG 8 rfl (F9 rfl rfl hc2 rfl rfl) ?_;rintro v5 g5 ⟨ho5,hx5,hx5',hv5⟩;refine⟨fun _=>hx5'.mono (fun _ _ k=>.inl k),?_⟩
   have hnew:ny g4 (fun b=>cj vm.ownBlock b\/b<=h.size) b4 (kF (mg m)):=hk4.mv ⟨Nat.le_refl _,fun b _ hn=>⟨rfl,fun k=>hn (by
    rcases k with k|k
    · exact(vge _ k.symm).2
    · omega)⟩⟩
   have hx5w:=fB.mN (e:=Qy) (h:=g4) (v:=vm) (css:=css) (cs:=[.pointer (some ⟨b4,0,none⟩)]) (y:=kF (mg m)) (O:=fun b=>b<=h.size) hc1 hc3 (by rw[hlen];exact ho5) hx5 hv5 ⟨b4,rfl,hnew⟩;obtain⟨va5,vc5,rfl,_⟩:=ho5.open;have z5:=hx5.size;have kb5:=kb4.ext hx5 (fun k=>by have:=(vge _ k.symm).1;omega);have v5ge:∀b,(Value.slice va5 (m+1) vc5).ownBlock=some b->h1.size<=b:=fun b hb=>(ho5.lt hb).1
   refine LM 9 ?_;refine cS 10 ?_;refine zS 11 rfl (qY rfl rfl kb5) ?_;rintro _ g6 ⟨rfl,kb6,x6,z6⟩;refine⟨nofun,?_⟩;have kb6:aH g6 h.size 222 [.slice va5 (m+1) vc5]:=by simpa using kb6
   have hx6:=hx5w.Fv (O':=fun b=>b<=h.size) x6 (fun b hb k=>by have:=v5ge b hb;omega) (fun b _ k=>Nat.le_of_eq k) (fun b _ k=>k)
   have eg6:aq h g6:=⟨by have:=x6.size;omega,fun b hb _=>by
    rw[x6.block b (by omega) (by omega),hx5.block b (by omega) (fun k=>by have:=(vge _ k.symm).1;omega),f4.block b (by omega) (fun k=>k)];exact eg3.block b hb (fun k=>k)⟩
   refine xM ?_;refine ax ?_;exact ih (m+1,_) ⟨by show m+1<=3;omega,eg6,kb6,by show fB Qy _ g6 h1.size _ _ (sC (m+1));rw[hnext];exact hx6,by have:=x6.size;omega⟩
 · obtain rfl:m=3:=by omega
   refine ax ?_;refine dS ?_;exact⟨_,rfl,⟨h.size,vm,rfl,Nat.lt_irrefl _,kb,hx.IA (fun b hb k=>by obtain⟨_,q⟩:=hx.own;have:=(az.lt q hb).1;omega) (fun b _ k=>Nat.le_of_lt k)⟩,eg⟩
end
end Go.Proofs.YtdihgdeciopfpaaGreatDoor

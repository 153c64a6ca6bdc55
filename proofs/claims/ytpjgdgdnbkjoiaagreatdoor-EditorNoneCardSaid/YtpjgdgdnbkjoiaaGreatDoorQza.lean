/- What the proof of the statement leans on (part 27). -/
import Derived.Lib.LaidTab
import Derived.Test.YtpjgdgdnbkjoiaaGreatDoorQz

namespace Go.Proofs.YtpjgdgdnbkjoiaaGreatDoor
open Go.Proofs.Tryz
open Go Go.Lw Go.ChangeShapes Go.WideShapes Go.ChangeAt Go.RowKit
set_option maxRecDepth 20000
theorem Km {W:World}{g t:Nat}{cs:Array Value}{fuel:Nat}{pl:List MemPlace}{sp:Nat->Bool}{held:Bool}{enc:TypeId×Value->Unit}(hg:Tryz.prog.globalNamed "internal/strconv.uint64pow10" =some g) (ht:(Tryz.prog.globals[g]?).map (·.type)=some t) (hv:W.var? Tryz.prog "internal/strconv.uint64pow10" =some cs)
    (hd:DataW.trod enc Tryz.prog W 0 sp held fuel t cs.toList=some (Rows.laid_internal_strconv_uint64pow10,pl)):tH W.heap:=by
  have gT:Tryz.prog.globalNamed "internal/strconv.uint64pow10" =some 5:=by kernel_rfl
  have tT:(Tryz.prog.globals[5]?).map (·.type)=some 290:=by kernel_rfl
  obtain rfl:=Option.some.inj (gT.symm.trans hg);obtain rfl:=Option.some.inj (tT.symm.trans ht);unfold tH;rw[<-Bz,hv];have hd2:DataW.trod enc Tryz.prog W 0 sp held fuel 290 cs.toList=some (Lib.tabData .u64 Lib.pow10Tab,pl):=hd;rw[<-Lib.cells_of_tab underlying290 underlying146 (by kernel_rfl) (by kernel_rfl) hd2]
end Go.Proofs.YtpjgdgdnbkjoiaaGreatDoor
namespace Go.Proofs.YtpjgdgdnbkjoiaaGreatDoor
open Go.Proofs.Tryz
open Go Go.Lw
set_option maxRecDepth 20000 set_option maxHeartbeats 4000000
section
variable {h:ai}
def iz (m:Int):List By:=if m=0 then DO else if m=1 then DN else if m=2 then DM else []
def qp (m:Int):List (By×Int×Int):=List.zipWith (fun r k=>(r,k.1,k.2)) (iz m) (wL m)
def ko (h:ai):Prop:=∀m:Nat,m<3->∃v,cellAt h ⟨0,m,none⟩=some v/\bC MP h (fun _=>False) v (qp m)
theorem ko.aj {h h':ai}(k:ko h) (e:ak h h'):ko h':=fun m hm=>by
 obtain⟨v,h1,h2⟩:=k m hm;exact⟨v,e.cell (fun k=>k) h1,h2.mv (Mv.aj e)⟩
theorem HX (m:Nat) (hm:m<3):(qp m).length<=10/\(qp m).map (·.1)=iz m:=by
 match m,hm with
 | 0,_=>exact⟨by decide,by decide⟩
 | 1,_=>exact⟨by decide,by decide⟩
 | 2,_=>exact⟨by decide,by decide⟩
theorem rH (r:By×Int×Int):∀v∈eY r,v.oneCell'=true:=fun v hv=>by simp[eY] at hv;rcases hv with rfl|rfl|rfl<;>rfl
theorem EN {l cap:Nat}{oa:Option Addr}{n c:Nat}{J:Nat->ai->Prop}(hn:n<=1000000) (hmono:∀j h g,J j h->ak h g->J j g)
 (hy:∀j h,J j h->j<n->∃(b o:Nat) (r:By×Int×Int),oa=some ⟨b,o,none⟩/\Lw.rowAt h b (o+j*3) (eY r) /\
  ∀g,J j g->mN Tryz.prog l #[.int .i64 (j:Nat),.agg (eY r).toArray] g (aX fun r h'=>r= .bool true/\J (j+1) h')) (h0:J 0 h) (hread:cellAt h ⟨cap,0,none⟩=some (.slice oa n c)) :
 af Tryz.prog 131 #[.func (.yield l) #[] #[],.pointer (some ⟨cap,0,none⟩)] h (aX fun _ h'=>J n h'):=by
 refine cu ?_;refine ah ?_;refine xp rfl (aM rfl hread) ?_;refine ah ?_;refine nq (σ:=Nat) (fun j=>[(7,.int .i64 (j:Nat))]) (fun j h'=>J j h'/\j<=n) (fun j=>n-j) (0) ⟨h0,Nat.zero_le _⟩ rfl ?_;rintro j h1 ⟨hJ,hj⟩ ih;refine ah ?_;refine bN (fun hlt=>?_) (fun hlt=>?_)
 · obtain⟨b,o,r,ha,hrow,hyy⟩:=hy j h1 hJ (by omega)
   iterate 4 refine bZ ?_
   refine eu ?_;refine b7 ?_;refine xp rfl (eK rfl rfl j rfl ha) ?_;refine xp rfl (eN rfl hrow) ?_;refine xo rfl (iT) ?_;rintro _ g1 ⟨rfl,k1,e1,z1⟩;refine ah ?_;refine bQ rfl (er rfl rfl k1 (rH r)) ?_;rintro _ g2 ⟨rfl,k2,x2,z2⟩;refine fu ?_;refine bZ ?_;have e12:ak h1 g2:=e1.only x2 (Nat.le_refl _);have k2:aE g2 h1.size 162 (eY r):=k2;refine G.NW func131 rfl ?_;refine ie.aD rfl rfl rfl rfl rfl (aS rfl) ?_;refine ie.aD rfl rfl rfl rfl rfl (aS rfl) ?_;refine ie.aD rfl rfl rfl rfl rfl (an.aG H.L2 H.H8 rfl k2.row (by first|rfl|(simp;done)|(simp;omega))) ?_;refine zW (vs:=[_,_]) rfl rfl rfl rfl rfl rfl rfl ((hyy g2 (hmono _ _ _ hJ e12))) ?_;rintro _ h2 ⟨rfl,hJ2⟩;refine ie.aD rfl rfl rfl rfl rfl (an.Ms rfl) ?_;refine ie.done rfl ?_;refine mQ rfl (by decide) ?_;refine ah ?_;exact ih (j+1) ⟨hJ2,by omega⟩
 · obtain rfl:j=n:=by omega
   refine ah ?_;refine J7 ?_;exact⟨_,rfl,hJ⟩
theorem Hv (v:Value) (hv:v.oneCell'=true):af Tryz.prog 77 #[v] h (aX fun r h'=>r= .func (.func 131) #[] #[.pointer (some ⟨h.size,0,none⟩)]/\h'=h.push (.cells #[v] 160)):=by
 have hcells:v.cells= #[v]:=by cases v<;>simp[Value.oneCell'] at hv<;>rfl
 refine cu ?_;refine ah ?_;refine xo rfl (az.box rfl) ?_;rintro _ _ ⟨rfl,rfl⟩;refine ah ?_;refine xp rfl (an.makeFunc (vs:=[_]) rfl) ?_;refine ah ?_;refine bE ?_;exact⟨_,rfl,rfl,by rw[hcells]⟩
abbrev KR (s:By):Value:=.string (bs s)
def Ld (h:ai) (d:Nat) (r0:Loop) (base:Nat) (l:List By) (j:Nat) (g:ai):Prop :=
 dU g (d+1) r0/\g[d]? =some (.deferred (some []))/\ak h g/\base<=g.size/\∃w,aE g h.size 22 [w]/\cg KR g base 9 w (l.take j)
theorem Ld.aj {h:ai}{d:Nat}{r0:Loop}{base:Nat}{l:List By}{j:Nat}{g g':ai}(k:Ld h d r0 base l j g) (hd:d<g.size) (e:ak g g'):Ld h d r0 base l j g':=by
 obtain⟨h1,h2,h3,h4,w,h5,h6⟩:=k;exact⟨h1.ext e (fun k=>k),(e.block d hd (fun k=>k)).trans h2,h3.trans e,by have:=e.size;omega,w,h5.aj e,cg.aj h6 e⟩
theorem Gn (hR:ko h) (m:Nat) (hm:m<3) :
 af Tryz.prog 38 #[.int .i64 (m:Nat)] h (aX fun r h'=>bC sx h' (fun _=>False) r (iz m)/\ak h h'):=by
 obtain⟨htl,htm⟩:=HX m hm;generalize hL0:iz (m:Int)=l at *;generalize htb:qp (m:Int)=tb at *;have hll:l.length=tb.length:=by rw[<-htm];simp
 refine cu ?_;refine bZ ?_;refine eu ?_;refine b7 ?_;refine fu ?_
 iterate 2 refine bZ ?_
 refine jR [(11,.bool false)] rfl ?_ ?_
 · refine ah ?_;refine RW.dK (d:=8) (b':=false) rfl ((by simp)) ?_;refine ah ?_;exact bq rfl ⟨aq rfl (by simp;omega),sb rfl⟩
 · refine mQ rfl (by decide) ?_;refine ah ?_;refine xo rfl (iT) ?_;rintro _ h1 ⟨rfl,k3,e1,z1⟩;have k3:aE h1 h.size 22 [.slice none 0 0]:=k3;obtain⟨v,hv,hsl⟩:=hR m hm;rw[htb] at hsl;have hsl1:=hsl.mv (Mv.aj e1);obtain⟨oa,kn,kc,rfl,hsl2⟩:=hsl1.open;have hkn:=hsl2.len;have hv1:cellAt h1 ⟨0,0+m*1,none⟩=some (.slice oa kn kc):=by rw[Nat.mul_one,Nat.zero_add];exact e1.cell (fun k=>k) hv
   refine fu ?_
   iterate 2 refine bZ ?_
   refine eu ?_;refine b7 ?_;refine xp rfl (Dl rfl rfl m rfl (by omega)) ?_;refine xp rfl (aM rfl hv1) ?_;refine xo rfl (bl rfl (Hv (.slice oa kn kc) rfl)) ?_;rintro _ h2 ⟨rfl,hh2⟩;have e2:ak h1 h2:=by rw[hh2];exact Ext.push _ _ _
   have kc2b:aE h2 h1.size 160 [.slice oa kn kc]:=by rw[hh2];exact FV _ _ _
   have kc2:cellAt h2 ⟨h1.size,0,none⟩=some (.slice oa kn kc):=kc2b.cell (i:=0) rfl;have z2:h2.size=h1.size+1:=by rw[hh2];simp
   clear hh2;refine ah ?_;refine G.rangeFunc rfl rfl func131 rfl (by decide +kernel) ?_;intro fid tmps hfits;obtain⟨r0,hr0⟩:∃r0,r0=l9 fid tmps #[16,17] (Ql (Lw.sub (av f38) [0,1,0,1,1,1])) (Qk (Lw.sub (av f38) [0,1,0,1,1,1])) h2.size:=⟨_,rfl⟩
   obtain⟨hL,hhL⟩:∃hL,hL=(h2.push (.deferred (some []))).push (.loop r0):=⟨_,rfl⟩
   suffices hmain:af Tryz.prog 131 #[.func (.yield (h2.size+1)) #[] #[],.pointer (some ⟨h1.size,0,none⟩)] hL _ by rw[hhL,hr0] at hmain;exact hmain
   have hst:r0.state= .ready:=by rw[hr0];rfl
   have hpn:r0.pending=none:=by rw[hr0];rfl
   have hps:r0.params= #[16,17]:=by rw[hr0];rfl
   have htm2:r0.tmps=tmps:=by rw[hr0];rfl
   have eL:ak h2 hL:=by rw[hhL];exact(Ext.push _ _ _).trans (Ext.push _ _ _)
   have hLz:hL.size=h2.size+2:=by rw[hhL];simp
   have hloop0:dU hL (h2.size+1) r0:=by
    have hz:h2.size+1=(h2.push (.deferred (some []))).size:=by simp
    rw[dU,hhL,hz];exact Array.getElem?_push_size
   have hdef0:hL[h2.size]? =some (.deferred (some [])):=by
    rw[hhL,(Ext.push (fun _=>False) (h2.push (.deferred (some []))) _).block h2.size (by simp) (fun k=>k)];exact Array.getElem?_push_size
   clear hhL;have e0L:ak h hL:=(e1.trans e2).trans eL;have hJ0:Ld h h2.size r0 hL.size l 0 hL:=⟨hloop0,hdef0,e0L,Nat.le_refl _,_,(k3.aj e2).aj eL,cg.nil _ _ _ _⟩
   have hcapL:cellAt hL ⟨h1.size,0,none⟩=some (.slice oa kn kc):=eL.cell (fun k=>k) kc2;have hdl:∀j g,Ld h h2.size r0 hL.size l j g->h2.size<g.size:=fun j g k=>by have:=k.2.2.2.1;omega
   refine suff (p:=∀j g,Ld h h2.size r0 hL.size l j g->j<kn->∃(b o:Nat) (r:By×Int×Int),oa=some ⟨b,o,none⟩/\Lw.rowAt g b (o+j*3) (eY r)/\∀g,Ld h h2.size r0 hL.size l j g->mN Tryz.prog (h2.size+1) #[.int .i64 (j:Nat),.agg (eY r).toArray] g (aX fun r h'=>r= .bool true/\Ld h h2.size r0 hL.size l (j+1) h')) ?_ fun hy=>?_
   · intro j g hJg hj;obtain⟨r,hx⟩:∃r,tb[j]? =some r:=⟨_,List.getElem?_eq_getElem (by omega)⟩
     have hslg:=hsl.mv (Mv.aj hJg.2.2.1);obtain⟨oa',n',c',hv',_,_,_,hget⟩:=id hslg;cases hv';obtain⟨b,o,cs,ha,hob,hrow,rfl⟩:=hget j r hx;refine⟨b,o,r,ha,hrow,fun g hJg=>?_⟩;obtain⟨hlp,hdf,ehg,hbg,w,kS,hw⟩:=hJg;have hlj:l[j]? =some r.1:=by rw[<-htm,List.getElem?_map,hx];rfl
     have hfit:=CG (p1:=16) (p2:=17) (v1:=.int .i64 (j:Nat)) (v2:=.agg (eY r).toArray) hfits rfl rfl;rw[<-hps,<-htm2] at hfit;refine mN.of hlp hst (by rw[hps];rfl) hfit ((congrArg Loop.assign hr0).trans rfl) ((congrArg Loop.body hr0).trans rfl) ?_;refine ie.HC rfl rfl rfl rfl rfl (az.cC H.Ln) ?_;rintro _ g1 ⟨rfl,k5,e1',zz1⟩;refine ie.fS rfl rfl rfl rfl (az.aH H.H8 rfl rfl k5 (by first|rfl|(simp;done)|(simp;omega)) (by first|decide|exact of_decide_eq_true rfl|(simp;done)|(simp;omega)) (rH r)) ?_;rintro _ g2 ⟨rfl,k5',e2',zz2⟩;refine ie.done rfl ?_;have e12:ak g g2:=e1'.only e2' (Nat.le_refl _);have k5':aE g2 g.size 162 (eY r):=k5';refine⟨(e12.block _ hlp.lt (fun k=>k)).trans hlp,?_⟩;obtain⟨g3,hg3⟩:∃g3,g3=Lw.eO g2 (h2.size+1) (.loop { r0 with state:=.busy }):=⟨_,rfl⟩
     rw[<-hg3];have hlz:=hlp.lt;have hz2:=e12.size;have hz1:=e1.size;have e23:Ext (fun b=>b=h2.size+1) g2 g3:=by rw[hg3];exact Ext.eO _ _ _ rfl
     have hlp3:dU g3 (h2.size+1) { r0 with state:=.busy }:=by rw[dU,hg3];exact oX (by omega)
     have hz3:=e23.size;have kS3:=(kS.aj e12).ext e23 (show ¬h.size=h2.size+1 by omega);have k53:=k5'.ext e23 (show ¬g.size=h2.size+1 by omega);have hwge:∀b,w.ownBlock=some b->hL.size<=b:=fun b hb=>(ax.lt hw hb).1
     have hw3:ax g3 hL.size 9 1 w (l.take j).length ((l.take j).map KR):=ax.ext e23 (cg.aj hw e12) (fun b hb k=>by have:=hwge b hb;omega);have hjl:(l.take j).length=j:=by rw[List.length_take];omega
     refine ie.aD rfl rfl rfl rfl rfl (au H.Da rfl (kS3.cell (i:=0) rfl)) ?_;refine ie.aD rfl rfl rfl rfl rfl (aa (off:=0) underlying162 rfl rfl H.lS rfl) ?_;refine ie.aD rfl rfl rfl rfl rfl (au H.ve rfl (k53.cell (i:=0) rfl)) ?_;refine ie.HC rfl rfl rfl rfl rfl (az.pz (us:=[_]) underlying22 H.xw rfl rfl (by decide) (by simp[Value.oneCell'])) ?_;rintro _ _ ⟨rfl,rfl⟩;refine ie.HC rfl rfl rfl rfl rfl (az.fM underlying22 H.xw rfl rfl (hw3) rfl rfl (by first|decide|simp[Value.oneCell']) (by omega) (by decide) (by omega)) ?_;rintro v4 g4 ⟨ho4,hx4,hx4',hv4⟩;have kS4:=kS3.ext hx4 (fun k=>by have:=hwge _ k.symm;omega);have hz4:=hx4.size;have hw4:cg KR g4 hL.size 9 v4 (l.take j++[r.1]):=cg.of (ys:=[r.1]) ho4 rfl rfl rfl;obtain⟨va4,vc4,rfl,_⟩:=ho4.open;refine ie.fS rfl rfl rfl rfl (az.aO H.nD rfl rfl kS4 (by first|decide|exact of_decide_eq_true rfl|(simp;done)|(simp;omega)) rfl) ?_;rintro _ g5 ⟨rfl,kS5,e5',zz5⟩;refine ie.done rfl ?_;have kS5:aE g5 h.size 22 [.slice va4 ((l.take j).length+1) vc4]:=by simpa using kS5
     have hlp5:dU g5 (h2.size+1) { r0 with state:=.busy }:=(hlp3.ext hx4 (fun k=>by have:=hwge _ k.symm;omega)).ext e5' (show ¬h2.size+1=h.size by omega);have hr2:({ ({ r0 with state:=.busy }:Loop) with state:=.ready,pending:=none }:Loop)=r0:=by cases r0;simp at hst hpn;simp[hst,hpn]
     have hz5:=e5'.size;refine⟨_,hlp5,rfl,?_⟩;rw[hr2];have e56:Ext (fun b=>b=h2.size+1) g5 (Lw.eO g5 (h2.size+1) (.loop r0)):=Ext.eO _ _ _ rfl;have hlz5:=hlp5.lt
     have hblk:∀b,b<hL.size->¬b=h.size->¬b=h2.size+1->b<g.size->(Lw.eO g5 (h2.size+1) (.loop r0))[b]? =g[b]? :=fun b hb n1 n2 hbg=>by
      rw[e56.block b (by omega) n2,e5'.block b (by omega) n1,hx4.block b (by omega) (fun k=>by have:=hwge _ k.symm;omega),e23.block b (by omega) n2,e12.block b hbg (fun k=>k)]
     have hv4ge:∀b,(Value.slice va4 ((l.take j).length+1) vc4).ownBlock=some b->hL.size<=b:=fun b hb=>(ax.lt hw4 hb).1
     refine⟨oX hlz5,by rw[hblk h2.size (by omega) (by omega) (by omega) (by omega)];exact hdf,⟨by have:=e56.size;have:=ehg.size;omega,fun b hb _=>?_⟩,by have:=e56.size;omega,_,kS5.ext e56 (show ¬h.size=h2.size+1 by omega),?_⟩
     · rw[hblk b (by omega) (by omega) (by omega) (by have:=ehg.size;omega)];exact ehg.block b hb (fun k=>k)
     · rw[List.take_add_one,hlj];exact ax.ext e56 (ax.ext e5' hw4 (fun b hb k=>by have:=hv4ge b hb;omega)) (fun b hb k=>by have:=hv4ge b hb;omega)
   · refine(EN (l:=h2.size+1) (cap:=h1.size) (n:=kn) (c:=kc) (oa:=oa) (J:=Ld h h2.size r0 hL.size l) (by omega) (fun j g g' k e=>k.aj (hdl j g k) e) hy hJ0 hcapL).mono fun e g hJ=>?_
     obtain⟨u,rfl,hlp,hdf,ehg,hbg,w,kS,hw⟩:=hJ;rw[List.take_of_length_le (by omega)] at hw;refine⟨_,rfl,r0,hlp,by rw[hst];decide,hpn,?_⟩;have hz1:=e1.size;have hlz:=hlp.lt;have e6:Ext (fun b=>b=h2.size+1) g (Lw.eO g (h2.size+1) (.loop { r0 with state:=.exhausted })):=Ext.eO _ _ _ rfl;have kSe:=kS.ext e6 (show ¬h.size=h2.size+1 by omega);have hdfe:=(e6.block h2.size (by omega) (show ¬h2.size=h2.size+1 by omega)).trans hdf;have hwge:∀b,w.ownBlock=some b->hL.size<=b:=fun b hb=>(ax.lt hw hb).1
     have hwe:=ax.ext e6 hw (fun b hb k=>by have:=hwge b hb;omega);refine GD.cz ?_;refine qY rfl ?_;refine GD.eM func38 rfl ?_;refine jS.aD rfl rfl rfl rfl (au H.Da rfl (kSe.cell (i:=0) rfl)) ?_;refine jS.aD rfl rfl rfl rfl (an.assign rfl) ?_;refine jS.done rfl ?_;refine GD.sub (ρ':=[(0,_),(2,_),(3,_),(11,_),(15,_)]) ⟨rfl,rfl,rfl,rfl,rfl,trivial⟩ ?_;refine GD.Ff func38 rfl hdfe rfl ?_;have e7:Ext (fun b=>b=h2.size) (Lw.eO g (h2.size+1) (.loop { r0 with state:=.exhausted })) (Lw.eO (Lw.eO g (h2.size+1) (.loop { r0 with state:=.exhausted })) h2.size (.deferred none)):=Ext.eO _ _ _ rfl;have hz6:=e6.size;have hz7:=e7.size;refine⟨_,rfl,cg.read (h1:=fun _=>rfl) (show cg KR _ hL.size 9 w l from ax.ext e7 hwe (fun b hb k=>by have:=hwge b hb;omega)) (fun _ _ k=>k),⟨by have:=ehg.size;omega,fun b hb _=>?_⟩⟩;rw[e7.block b (by have:=ehg.size;omega) (by omega),e6.block b (by have:=ehg.size;omega) (by omega)];exact ehg.block b hb (fun k=>k)
def mY (m:Int):bK:=match mF (iz m) with|.inr d=>d|.inl _=>⟨[],[]⟩
theorem rS (m:Nat) (hm:m<3):∃ss st,fh (iz m)= .inr (ss,st)/\mF (iz m)= .inr (mY m)/\gI ss st= .inr (mY m)/\(∀l,eG m l=cX ss st l)/\∀l,(aL (mY m) l 0 0 (0,-1)).2.2<=(eG m l).1+2:=by
 have key:∀{ss:List bA}{st:Nat},fh (iz m)= .inr (ss,st)->(∀l,eG m l=cX ss st l)->(∃d,gI ss st= .inr d/\(∀l,(aL d l 0 0 (0,-1)).2.2<=(cX ss st l).1+2)/\∀l x:By,(cX ss st l).1+2<l.length->cX ss st (l++x)=cX ss st l)->∃ss st,fh (iz m)= .inr (ss,st)/\mF (iz m)= .inr (mY m)/\gI ss st= .inr (mY m)/\(∀l,eG m l=cX ss st l)/\∀l,(aL (mY m) l 0 0 (0,-1)).2.2<=(eG m l).1+2:=by
  intro ss st h1 h2 ⟨d,h3,h4,_⟩;have h5:mF (iz m)= .inr d:=by unfold mF;rw[h1];exact h3
  have h6:mY m=d:=by unfold mY;rw[h5]
  rw[h6];exact⟨ss,st,h1,h5,h3,h2,fun l=>by rw[h2];exact h4 l⟩
 match m,hm with
 | 0,_=>exact key O0 (fun l=>rfl) (jw O0 LV LY LR o9.1)
 | 1,_=>exact key Kb (fun l=>rfl) (jw Kb LU LX LQ o9.2.1)
 | 2,_=>exact key OZ (fun l=>rfl) (jw OZ LS LW LP o9.2.2)
def Oo:iS bK:=⟨1,by decide,fun h O cs d=>∃db,cs=[.pointer (some ⟨db,0,none⟩)]/\oL h O db d,fun h=>by obtain⟨db,rfl,_⟩:=h;rfl,fun h=>by
 obtain⟨db,rfl,_⟩:=h;intro u hu;simp at hu;subst hu;rfl,fun h m=>by
 obtain⟨db,hc,hv⟩:=h;exact⟨db,hc,hv.mv m⟩⟩
def tX (k:Nat):List bK:=([0,1,2].take k).map fun m:Int=>lA (mY m)
theorem Ea (k:Nat) (hk:k<3):tX (k+1)=tX k++[lA (mY k)]/\(tX k).length=k:=by
 match k,hk with
 | 0,_=>exact⟨rfl,rfl⟩
 | 1,_=>exact⟨rfl,rfl⟩
 | 2,_=>exact⟨rfl,rfl⟩
def oP (h:ai) (p:Value):Prop:=∃lb vm,p= .pointer (some ⟨lb,0,none⟩)/\aE h lb 98 [vm]/\bC Oo h (fun _=>False) vm (tX 3)
theorem oP.aj {h h':ai}{p:Value}(k:oP h p) (e:ak h h'):oP h' p:=by
 obtain⟨lb,vm,h1,h2,h3⟩:=k;exact⟨lb,vm,h1,h2.aj e,h3.mv (Mv.aj e)⟩
def uP (O:Nat->Prop) (h:ai) (p:Value):Prop:=∃lb vm,p= .pointer (some ⟨lb,0,none⟩)/\¬O lb/\aE h lb 98 [vm]/\bC Oo h O vm (tX 3)
theorem uP.mv {O O':Nat->Prop}{h h':ai}{p:Value}(k:uP O h p) (m:Mv O O' h h'):uP O' h' p:=by
 obtain⟨lb,vm,h1,ho,h2,h3⟩:=k;have hm:=m.block lb h2.lt ho;exact⟨lb,vm,h1,hm.2,hm.1.trans h2,h3.mv m⟩
theorem uP.at {O:Nat->Prop}{p:Value}(k:uP O h p):oP h p:=by
 obtain⟨lb,vm,h1,_,h2,h3⟩:=k;exact⟨lb,vm,h1,h2,oM h3 (fun _ q=>q.elim)⟩
theorem uP.pK {O:Nat->Prop}{h':ai}{b:Nat}{p:Value}(k:uP (fun x=>x=b\/O x) h p) (x:Ext (fun y=>y=b) h h'):uP (fun x=>x=b\/O x) h' p:=k.mv (Mv.cL x fun _ _ ho=>⟨fun q=>ho (.inl q),ho⟩)
theorem vZ {lim:Nat}(hg:Sg h lim) (hlim:lim<=h.size) (htens:tH h) (hR:ko h) :
 af Tryz.prog 19 #[] h (aX fun r h'=>uP (fun b=>b<h.size) h' r/\ak h h'):=by
 refine cu ?_;refine ah ?_;refine xp rfl (aB (H.Oz ) rfl) ?_;refine xo rfl (nk) ?_;rintro _ h1 ⟨rfl,k1,e1,z1⟩;have k1:aE h1 h.size 98 [.slice none 0 0]:=k1;refine ah ?_;refine nq (σ:=Nat×Value) (fun q=>[(2,.int .i64 (q.1:Nat))]) (fun q h'=>q.1<=3/\ak h h'/\aE h' h.size 98 [q.2]/\fm Oo (fun b=>b<=h.size) h' h1.size 103 q.2 (tX q.1)/\h1.size<=h'.size) (fun q=>3-q.1) ((0,.slice none 0 0)) ⟨by decide,e1,k1,fm.nil _ _ _ _ _,Nat.le_refl _⟩ rfl ?_;rintro⟨m,vm⟩ g ⟨hm,eg,kb,hx,hz⟩ ih
 try dsimp only
 dsimp only at hm kb hx;refine ah ?_;refine bN (fun hlt=>?_) (fun hlt=>?_)
 · have hm3:m<3:=by omega
   obtain⟨ss,st,hmk,hdm,hdk,_⟩:=rS m hm3;obtain⟨hnext,hlen⟩:=Ea m hm3;have hok:=lJ hdm;have hM:=fC hmk;have hb:=Cl hM
   have hrl:∀s∈iz m,s.length<=1000000:=by
    have:m=0\/m=1\/m=2:=by omega
    rcases this with rfl|rfl|rfl
    · exact of_decide_eq_true rfl
    · exact of_decide_eq_true rfl
    · exact of_decide_eq_true rfl
   refine ah ?_;refine xo rfl (bl rfl (Gn (hR.aj eg) m hm3)) ?_;rintro _ g1 ⟨hr1,f1⟩;have eg1:=eg.trans f1;refine xo rfl (bl rfl (GC (hg.ext eg1 (fun _ k=>k.elim)) (by have:=eg1.size;omega) hr1 hrl)) ?_;rintro _ g2 ⟨⟨p,rfl,hp⟩,f2⟩
   have hp:∃(O:Nat->Prop) (nb:Nat) (v:Value),p= .pointer (some ⟨nb,0,none⟩)/\bO g2 O nb v ss st:=by
    rcases hp with ⟨e,he,_⟩|⟨O,nb,v,ss',st',hp,hn,hm'⟩
    · rw[hmk] at he;cases he
    · rw[hmk] at hm';cases hm';exact⟨O,nb,v,hp,hn⟩
   obtain⟨O,nb,v,rfl,hn⟩:=hp;have eg2:=eg1.trans f2;refine ah ?_;refine xo rfl (bl rfl (CS (htens.aj eg2) hn hM.good hM.len hM.stl hb.2.1 hb.2.2)) ?_;rintro r3 g3 ⟨hr3,f3⟩;unfold Bv at hr3;rw[hdk] at hr3;obtain⟨db,rfl,hk⟩:=hr3;have eg3:=eg2.trans f3;have f03:=(f1.trans f2).trans f3;have zz:=f03.size;have kb3:=kb.aj f03;have hx3:=hx.aj f03;obtain⟨css3,_,hw3,_⟩:=id hx3;have vge:∀b,vm.ownBlock=some b->h1.size<=b/\b<g3.size:=fun b hb=>hw3.lt hb
   have hkM:¬(bV vm.ownBlock h.size\/Array.size g3<=h.size):=by
    rintro(k|k)
    · have:=(vge _ k.symm).1;omega
    · omega
   refine ah ?_;refine vi 12 (fun b=>bV vm.ownBlock b\/Array.size g3<=b) (fun i=>Nat.blt i 11) ?_;refine aZ 0 ?_;refine aZ 1 ?_;refine aZ 2 ?_;refine aZ 3 ?_;refine cA 4 rfl (fun h' e=>aM rfl (e.cell hkM (kb3.cell (i:=0) rfl))) ?_;refine aZ 5 ?_;refine iL 6 rfl (bl rfl (Ju (htens.aj eg3) hk hok.1 hok.2)) ?_;rintro r4 g4 ⟨⟨b4,rfl,hk4⟩,f4⟩;refine⟨fun _=>f4.mono (fun _ _ k=>k.elim),?_⟩;have hx4:=hx3.aj f4;have kb4:=kb3.aj f4;have z4:=f4.size;obtain⟨css,hc1,hc2,hc3⟩:=id hx4;rw[hlen] at hc2;refine iL 7 rfl (sO [_]) ?_;rintro _ _ ⟨rfl,rfl⟩;refine⟨fun _=>by first|exact Ext.push _ _ _|assumption,?_⟩;refine iL 8 rfl (E1 rfl rfl hc2 rfl rfl) ?_;rintro v5 g5 ⟨ho5,hx5,hx5',hv5⟩;refine⟨fun _=>hx5'.mono (fun _ _ k=>.inl k),?_⟩
   have hnew:oL g4 (fun b=>bV vm.ownBlock b\/b<=h.size) b4 (lA (mY m)):=hk4.mv ⟨Nat.le_refl _,fun b _ hn=>⟨rfl,fun k=>hn (by
    rcases k with k|k
    · exact(vge _ k.symm).2
    · omega)⟩⟩
   have hx5w:=fm.nR (e:=Oo) (h:=g4) (v:=vm) (css:=css) (cs:=[.pointer (some ⟨b4,0,none⟩)]) (y:=lA (mY m)) (O:=fun b=>b<=h.size) hc1 hc3 (by rw[hlen];exact ho5) hx5 hv5 ⟨b4,rfl,hnew⟩;obtain⟨va5,vc5,rfl,_⟩:=ho5.open;have z5:=hx5.size;have kb5:=kb4.ext hx5 (fun k=>by have:=(vge _ k.symm).1;omega);have v5ge:∀b,(Value.slice va5 (m+1) vc5).ownBlock=some b->h1.size<=b:=fun b hb=>(ho5.lt hb).1
   refine J8 9 ?_;refine aZ 10 ?_;refine pO 11 rfl (gq rfl rfl kb5) ?_;rintro _ g6 ⟨rfl,kb6,x6,z6⟩;refine⟨nofun,?_⟩;have kb6:aE g6 h.size 98 [.slice va5 (m+1) vc5]:=by simpa using kb6
   have hx6:=hx5w.Fm (O':=fun b=>b<=h.size) x6 (fun b hb k=>by have:=v5ge b hb;omega) (fun b _ k=>Nat.le_of_eq k) (fun b _ k=>k)
   have eg6:ak h g6:=⟨by have:=x6.size;omega,fun b hb _=>by
    rw[x6.block b (by omega) (by omega),hx5.block b (by omega) (fun k=>by have:=(vge _ k.symm).1;omega),f4.block b (by omega) (fun k=>k)];exact eg3.block b hb (fun k=>k)⟩
   refine pQ ?_;refine ah ?_;exact ih (m+1,_) ⟨by show m+1<=3;omega,eg6,kb6,by show fm Oo _ g6 h1.size _ _ (tX (m+1));rw[hnext];exact hx6,by have:=x6.size;omega⟩
 · obtain rfl:m=3:=by omega
   refine ah ?_;refine bE ?_;exact⟨_,rfl,⟨h.size,vm,rfl,Nat.lt_irrefl _,kb,hx.Iu (fun b hb k=>by obtain⟨_,q⟩:=hx.own;have:=(ax.lt q hb).1;omega) (fun b _ k=>Nat.le_of_lt k)⟩,eg⟩
theorem Gz {lim:Nat}(hg:Sg h lim) (hlim:lim<=h.size) (htens:tH h) (hR:ko h) :
 af Tryz.prog 19 #[] h (aX fun r h'=>oP h' r/\ak h h'):=(vZ hg hlim htens hR).ret fun _ _ q=>⟨q.1.at,q.2⟩
end
end Go.Proofs.YtpjgdgdnbkjoiaaGreatDoor

/- What the proof of the statement leans on (part 25). -/
import Derived.Lib.LaidTab
import Derived.Test.YtiigijehmmcfgaaGreatDoorQx

namespace Go.Proofs.YtiigijehmmcfgaaGreatDoor
open Go.Proofs.Tryz
open Go Go.Lw Go.ChangeShapes Go.WideShapes Go.ChangeAt Go.RowKit
set_option maxRecDepth 20000
theorem F9 {W:World}{g t:Nat}{cs:Array Value}{fuel:Nat}{pl:List MemPlace}{sp:Nat->Bool}{held:Bool}{enc:TypeId×Value->Unit}(hg:Tryz.prog.globalNamed "internal/strconv.uint64pow10" =some g) (ht:(Tryz.prog.globals[g]?).map (·.type)=some t) (hv:W.var? Tryz.prog "internal/strconv.uint64pow10" =some cs)
 (hd:DataW.trod enc Tryz.prog W 0 sp held fuel t cs.toList=some (Rows.laid_internal_strconv_uint64pow10,pl)):si W.heap:=by
 have gT:Tryz.prog.globalNamed "internal/strconv.uint64pow10" =some 5:=by kernel_rfl
 have tT:(Tryz.prog.globals[5]?).map (·.type)=some 209:=by kernel_rfl
 obtain rfl:=Option.some.inj (gT.symm.trans hg);obtain rfl:=Option.some.inj (tT.symm.trans ht);unfold si;rw[<-yw,hv];have hd2:DataW.trod enc Tryz.prog W 0 sp held fuel 209 cs.toList=some (Lib.tabData .u64 Lib.pow10Tab,pl):=hd;rw[<-Lib.cells_of_tab underlying209 underlying81 (by kernel_rfl) (by kernel_rfl) hd2]
end Go.Proofs.YtiigijehmmcfgaaGreatDoor
namespace Go.Proofs.YtiigijehmmcfgaaGreatDoor
open Go.Proofs.Tryz
open Go Go.Lw
set_option maxRecDepth 20000
section
variable {h:ay}
def gS (m:Int):List By:=if m=0 then AU else if m=1 then AT else if m=2 then AS else []
def n7 (m:Int):List (By×Int×Int):=List.zipWith (fun r k=>(r,k.1,k.2)) (gS m) (tM m)
def lD (h:ay):Prop:=∀m:Nat,m<3->∃v,cellAt h ⟨3,m,none⟩=some v/\cn Is h (fun _=>False) v (n7 m)
theorem lD.ax {h h':ay}(k:lD h) (e:aD h h'):lD h':=fun m hm=>by
 obtain⟨v,h1,h2⟩:=k m hm;exact⟨v,e.cell (fun k=>k) h1,h2.mv (Mv.ax e)⟩
theorem Em (m:Nat) (hm:m<3):(n7 m).length<=10/\(n7 m).map (·.1)=gS m:=by
 match m,hm with
 | 0,_=>exact⟨by decide,by decide⟩
 | 1,_=>exact⟨by decide,by decide⟩
 | 2,_=>exact⟨by decide,by decide⟩
theorem pE (r:By×Int×Int):∀v∈eT r,v.oneCell'=true:=fun v hv=>by simp[eT] at hv;rcases hv with rfl|rfl|rfl<;>rfl
theorem BO {l cap:Nat}{oa:Option Addr}{n c:Nat}{J:Nat->ay->Prop}(hn:n<=1000000) (hmono:∀j h g,J j h->aD h g->J j g)
 (hy:∀j h,J j h->j<n->∃(b o:Nat) (r:By×Int×Int),oa=some ⟨b,o,none⟩/\Lw.rowAt h b (o+j*3) (eT r) /\
  ∀g,J j g->lC Tryz.prog l #[.int .i64 (j:Nat),.agg (eT r).toArray] g (bX fun r h'=>r= .bool true/\J (j+1) h')) (h0:J 0 h) (hread:cellAt h ⟨cap,0,none⟩=some (.slice oa n c)) :
 ah Tryz.prog 136 #[.func (.yield l) #[] #[],.pointer (some ⟨cap,0,none⟩)] h (bX fun _ h'=>J n h'):=by
 refine ah.of func136 rfl rfl ?_;refine xr func136 rfl ?_;refine xp rfl (af H.CC rfl hread) ?_;refine xp rfl (ak.aN underlying153 rfl) ?_;refine aS 1 [0,1,5,6,7] rfl ?_;refine G.block rfl rfl ?_;refine bT (σ:=Nat) (fun j=>[(0,.func (.yield l) #[] #[]),(1,.pointer (some ⟨cap,0,none⟩)),(5,.slice oa n c),(6,.int .i64 (n:Nat)),(7,.int .i64 (j:Nat))]) (fun j h'=>J j h'/\j<=n) (fun j=>n-j) (0) rfl ⟨rfl,rfl,rfl,rfl,rfl,trivial⟩ ⟨h0,Nat.zero_le _⟩ ?_;rintro j h1 ⟨hJ,hj⟩ ih;refine aY func136 1 [0,1,5,6,7,8] rfl ?_;refine au rfl ?_;refine aG rfl rfl (fun hlt=>?_) (fun hlt=>?_)
 · obtain⟨b,o,r,ha,hrow,hyy⟩:=hy j h1 hJ (by omega);refine aA rfl ?_;refine au rfl ?_;refine G.block rfl rfl ?_;refine bB func136 1 rfl ?_;refine xp rfl (ak.aF underlying153 H.jW rfl rfl j rfl ha (by omega)) ?_;refine xp rfl (ak.aq H.Ar H.jW rfl hrow (by first|rfl|(simp;done)|(simp;omega))) ?_;refine xo rfl (av.aW H.yu) ?_;rintro _ g1 ⟨rfl,k1,e1,z1⟩;refine aV 1 rfl ?_;refine RW.bh rfl rfl rfl (av.an H.jW rfl rfl k1 (by first|rfl|(simp;done)|(simp;omega)) (by first|decide|exact of_decide_eq_true rfl|(simp;done)|(simp;omega)) (pE r)) ?_;rintro _ g2 ⟨rfl,k2,x2,z2⟩;refine xd [0,1,3,4,5,6,7,8] rfl ?_;refine au rfl ?_;have e12:aD h1 g2:=e1.only x2 (Nat.le_refl _);have k2:br g2 h1.size 155 (eT r):=k2;refine G.I6 func136 rfl ?_;refine gJ.aU rfl rfl rfl rfl rfl (bS rfl) ?_;refine gJ.aU rfl rfl rfl rfl rfl (bS rfl) ?_;refine gJ.aU rfl rfl rfl rfl rfl (ak.aq H.Ar H.jW rfl k2.row (by first|rfl|(simp;done)|(simp;omega))) ?_;refine wL (vs:=[_,_]) rfl rfl rfl rfl rfl rfl rfl ((hyy g2 (hmono _ _ _ hJ e12))) ?_;rintro _ h2 ⟨rfl,hJ2⟩;refine gJ.aU rfl rfl rfl rfl rfl (ak.HZ rfl) ?_;refine kF rfl ?_;refine xu [0,1,3,4,5,6,7,8,16] rfl ?_;refine aO rfl rfl (fun hc=>absurd hc (by decide)) (fun _=>?_);refine aA rfl ?_;refine G.aT ?_;refine G.bV func136 rfl ?_;refine xp rfl (ak.bL rfl rfl ⟨by omega,by omega⟩) ?_;refine aS 1 [0,1,3,4,5,6,7,8,16] rfl ?_;exact ih (j+1) _ _ ⟨rfl,rfl,rfl,rfl,rfl,trivial⟩ ⟨hJ2,by omega⟩ (by omega)
 · obtain rfl:j=n:=by omega
   refine bN rfl rfl ?_;refine G.DG func136 rfl ?_;exact⟨_,rfl,hJ⟩
theorem DY (v:Value) (hv:v.oneCell'=true):ah Tryz.prog 116 #[v] h (bX fun r h'=>r= .func (.func 136) #[] #[.pointer (some ⟨h.size,0,none⟩)]/\h'=h.push (.cells #[v] 153)):=by
 have hcells:v.cells= #[v]:=by cases v<;>simp[Value.oneCell'] at hv<;>rfl
 refine ah.of func116 rfl rfl ?_;refine xr func116 rfl ?_;refine xo rfl (av.box rfl) ?_;rintro _ _ ⟨rfl,rfl⟩;refine aS 1 [0,1,2] rfl ?_;refine xr func116 rfl ?_;refine xp rfl (ak.makeFunc (vs:=[_]) rfl) ?_;refine aS 1 [0,1,2] rfl ?_;refine aK func116 rfl rfl ?_;exact⟨_,rfl,rfl,by rw[hcells]⟩
abbrev GA (s:By):Value:=.string (bs s)
def GX (h:ay) (d:Nat) (r0:Loop) (base:Nat) (l:List By) (j:Nat) (g:ay):Prop :=
 ei g (d+1) r0/\g[d]? =some (.deferred (some []))/\aD h g/\base<=g.size/\∃w,br g h.size 24 [w]/\cN GA g base 9 w (l.take j)
theorem GX.ax {h:ay}{d:Nat}{r0:Loop}{base:Nat}{l:List By}{j:Nat}{g g':ay}(k:GX h d r0 base l j g) (hd:d<g.size) (e:aD g g'):GX h d r0 base l j g':=by
 obtain⟨h1,h2,h3,h4,w,h5,h6⟩:=k;exact⟨h1.ext e (fun k=>k),(e.block d hd (fun k=>k)).trans h2,h3.trans e,by have:=e.size;omega,w,h5.ax e,cN.ax h6 e⟩
theorem C7 (hR:lD h) (m:Nat) (hm:m<3) :
 ah Tryz.prog 102 #[.int .i64 (m:Nat)] h (bX fun r h'=>cn xU h' (fun _=>False) r (gS m)/\aD h h'):=by
 obtain⟨htl,htm⟩:=Em m hm;generalize hL0:gS (m:Int)=l at *;generalize htb:n7 (m:Int)=tb at *;have hll:l.length=tb.length:=by rw[<-htm];simp
 refine ah.of func102 rfl rfl ?_;refine aY func102 1 [0,2] rfl ?_;refine au rfl ?_;refine au rfl ?_;refine G.bu [(11,.bool false)] [(0,_),(2,_)] ⟨rfl,rfl,trivial⟩ func102 rfl ?_ ?_
 · refine aV 3 rfl ?_;refine RW.dZ (d:=8) (b':=false) rfl ((by simp)) ?_;refine aV 3 rfl ?_;refine aC rfl ?_;exact⟨rfl,az rfl (by simp;omega),rfl,rfl,trivial⟩
 · refine aO rfl rfl (fun hc=>absurd hc (by decide)) (fun _=>?_);refine aA rfl ?_;refine xr func102 rfl ?_;refine xo rfl (av.aW H.Ku) ?_;rintro _ h1 ⟨rfl,k3,e1,z1⟩;have k3:br h1 h.size 24 [.slice none 0 0]:=k3;obtain⟨v,hv,hsl⟩:=hR m hm;rw[htb] at hsl;have hsl1:=hsl.mv (Mv.ax e1);obtain⟨oa,kn,kc,rfl,hsl2⟩:=hsl1.open;have hkn:=hsl2.len;have hv1:cellAt h1 ⟨3,0+m*1,none⟩=some (.slice oa kn kc):=by rw[Nat.mul_one,Nat.zero_add];exact e1.cell (fun k=>k) hv
   refine xd [0,2,3,11] rfl ?_;refine au rfl ?_;refine bB func102 1 rfl ?_;refine xp rfl (ak.dW underlying156 H.Es rfl rfl m rfl (by omega)) ?_;refine xp rfl (af H.CC rfl hv1) ?_;refine xo rfl (aj (vs:=[_]) func116 rfl H.JI rfl (ah.aX (DY (.slice oa kn kc) rfl))) ?_;rintro _ h2 ⟨rfl,hh2⟩;have e2:aD h1 h2:=by rw[hh2];exact Ext.push _ _ _
   have kc2b:br h2 h1.size 153 [.slice oa kn kc]:=by rw[hh2];exact br.new _ _ _
   have kc2:cellAt h2 ⟨h1.size,0,none⟩=some (.slice oa kn kc):=kc2b.cell (i:=0) rfl;have z2:h2.size=h1.size+1:=by rw[hh2];simp
   clear hh2;refine xd [0,2,3,11,15] rfl ?_;refine G.block rfl rfl ?_;refine G.rangeFunc rfl rfl func136 rfl (by decide +kernel) ?_;intro fid tmps hfits;obtain⟨r0,hr0⟩:∃r0,r0=kR fid tmps #[16,17] (Le (Lw.sub (aI f102) [0,1,0,1,1,1])) (Ld (Lw.sub (aI f102) [0,1,0,1,1,1])) h2.size:=⟨_,rfl⟩
   obtain⟨hL,hhL⟩:∃hL,hL=(h2.push (.deferred (some []))).push (.loop r0):=⟨_,rfl⟩
   suffices hmain:ah Tryz.prog 136 #[.func (.yield (h2.size+1)) #[] #[],.pointer (some ⟨h1.size,0,none⟩)] hL _ by rw[hhL,hr0] at hmain;exact hmain
   have hst:r0.state= .ready:=by rw[hr0];rfl
   have hpn:r0.pending=none:=by rw[hr0];rfl
   have hps:r0.params= #[16,17]:=by rw[hr0];rfl
   have htm2:r0.tmps=tmps:=by rw[hr0];rfl
   have eL:aD h2 hL:=by rw[hhL];exact(Ext.push _ _ _).trans (Ext.push _ _ _)
   have hLz:hL.size=h2.size+2:=by rw[hhL];simp
   have hloop0:ei hL (h2.size+1) r0:=by
    have hz:h2.size+1=(h2.push (.deferred (some []))).size:=by simp
    rw[ei,hhL,hz];exact Array.getElem?_push_size
   have hdef0:hL[h2.size]? =some (.deferred (some [])):=by
    rw[hhL,(Ext.push (fun _=>False) (h2.push (.deferred (some []))) _).block h2.size (by simp) (fun k=>k)];exact Array.getElem?_push_size
   clear hhL;have e0L:aD h hL:=(e1.trans e2).trans eL;have hJ0:GX h h2.size r0 hL.size l 0 hL:=⟨hloop0,hdef0,e0L,Nat.le_refl _,_,(k3.ax e2).ax eL,cN.nil _ _ _ _⟩
   have hcapL:cellAt hL ⟨h1.size,0,none⟩=some (.slice oa kn kc):=eL.cell (fun k=>k) kc2;have hdl:∀j g,GX h h2.size r0 hL.size l j g->h2.size<g.size:=fun j g k=>by have:=k.2.2.2.1;omega
   refine suff (p:=∀j g,GX h h2.size r0 hL.size l j g->j<kn->∃(b o:Nat) (r:By×Int×Int),oa=some ⟨b,o,none⟩/\Lw.rowAt g b (o+j*3) (eT r)/\∀g,GX h h2.size r0 hL.size l j g->lC Tryz.prog (h2.size+1) #[.int .i64 (j:Nat),.agg (eT r).toArray] g (bX fun r h'=>r= .bool true/\GX h h2.size r0 hL.size l (j+1) h')) ?_ fun hy=>?_
   · intro j g hJg hj;obtain⟨r,hx⟩:∃r,tb[j]? =some r:=⟨_,List.getElem?_eq_getElem (by omega)⟩
     have hslg:=hsl.mv (Mv.ax hJg.2.2.1);obtain⟨oa',n',c',hv',_,_,_,hget⟩:=id hslg;cases hv';obtain⟨b,o,cs,ha,hob,hrow,rfl⟩:=hget j r hx;refine⟨b,o,r,ha,hrow,fun g hJg=>?_⟩;obtain⟨hlp,hdf,ehg,hbg,w,kS,hw⟩:=hJg;have hlj:l[j]? =some r.1:=by rw[<-htm,List.getElem?_map,hx];rfl
     have hfit:=zW (p1:=16) (p2:=17) (v1:=.int .i64 (j:Nat)) (v2:=.agg (eT r).toArray) hfits rfl rfl;rw[<-hps,<-htm2] at hfit;refine lC.of hlp hst (by rw[hps];rfl) hfit ((congrArg Loop.assign hr0).trans rfl) ((congrArg Loop.body hr0).trans rfl) ?_;refine gJ.D7 rfl rfl rfl rfl rfl (av.aW H.yu) ?_;rintro _ g1 ⟨rfl,k5,e1',zz1⟩;refine gJ.bh rfl rfl rfl rfl (av.an H.jW rfl rfl k5 (by first|rfl|(simp;done)|(simp;omega)) (by first|decide|exact of_decide_eq_true rfl|(simp;done)|(simp;omega)) (pE r)) ?_;rintro _ g2 ⟨rfl,k5',e2',zz2⟩;refine kF rfl ?_;have e12:aD g g2:=e1'.only e2' (Nat.le_refl _);have k5':br g2 g.size 155 (eT r):=k5';refine⟨(e12.block _ hlp.lt (fun k=>k)).trans hlp,?_⟩;obtain⟨g3,hg3⟩:∃g3,g3=Lw.eH g2 (h2.size+1) (.loop { r0 with state:=.busy }):=⟨_,rfl⟩
     rw[<-hg3];have hlz:=hlp.lt;have hz2:=e12.size;have hz1:=e1.size;have e23:Ext (fun b=>b=h2.size+1) g2 g3:=by rw[hg3];exact Ext.eH _ _ _ rfl
     have hlp3:ei g3 (h2.size+1) { r0 with state:=.busy }:=by rw[ei,hg3];exact nk (by omega)
     have hz3:=e23.size;have kS3:=(kS.ax e12).ext e23 (show ¬h.size=h2.size+1 by omega);have k53:=k5'.ext e23 (show ¬g.size=h2.size+1 by omega);have hwge:∀b,w.ownBlock=some b->hL.size<=b:=fun b hb=>(aM.lt hw hb).1
     have hw3:aM g3 hL.size 9 1 w (l.take j).length ((l.take j).map GA):=aM.ext e23 (cN.ax hw e12) (fun b hb k=>by have:=hwge b hb;omega);have hjl:(l.take j).length=j:=by rw[List.length_take];omega
     refine gJ.aU rfl rfl rfl rfl rfl (af H.gi rfl (kS3.cell (i:=0) rfl)) ?_;refine gJ.aU rfl rfl rfl rfl rfl (aa (off:=0) underlying155 rfl rfl H.ct rfl) ?_;refine gJ.aU rfl rfl rfl rfl rfl (af H.cT rfl (k53.cell (i:=0) rfl)) ?_;refine gJ.D7 rfl rfl rfl rfl rfl (av.bC (us:=[_]) underlying24 H.uV rfl rfl (by decide) (by simp[Value.oneCell'])) ?_;rintro _ _ ⟨rfl,rfl⟩;refine gJ.D7 rfl rfl rfl rfl rfl (av.cH underlying24 H.uV rfl rfl (hw3) rfl rfl (by first|decide|simp[Value.oneCell']) (by omega) (by decide) (by omega)) ?_;rintro v4 g4 ⟨ho4,hx4,hx4',hv4⟩;have kS4:=kS3.ext hx4 (fun k=>by have:=hwge _ k.symm;omega);have hz4:=hx4.size;have hw4:cN GA g4 hL.size 9 v4 (l.take j++[r.1]):=cN.of (ys:=[r.1]) ho4 rfl rfl rfl;obtain⟨va4,vc4,rfl,_⟩:=ho4.open;refine gJ.bh rfl rfl rfl rfl (av.aE H.dQ rfl rfl kS4 (by first|decide|exact of_decide_eq_true rfl|(simp;done)|(simp;omega)) rfl) ?_;rintro _ g5 ⟨rfl,kS5,e5',zz5⟩;refine kF rfl ?_;have kS5:br g5 h.size 24 [.slice va4 ((l.take j).length+1) vc4]:=by simpa using kS5
     have hlp5:ei g5 (h2.size+1) { r0 with state:=.busy }:=(hlp3.ext hx4 (fun k=>by have:=hwge _ k.symm;omega)).ext e5' (show ¬h2.size+1=h.size by omega);have hr2:({ ({ r0 with state:=.busy }:Loop) with state:=.ready,pending:=none }:Loop)=r0:=by cases r0;simp at hst hpn;simp[hst,hpn]
     have hz5:=e5'.size;refine⟨_,hlp5,rfl,?_⟩;rw[hr2];have e56:Ext (fun b=>b=h2.size+1) g5 (Lw.eH g5 (h2.size+1) (.loop r0)):=Ext.eH _ _ _ rfl;have hlz5:=hlp5.lt
     have hblk:∀b,b<hL.size->¬b=h.size->¬b=h2.size+1->b<g.size->(Lw.eH g5 (h2.size+1) (.loop r0))[b]? =g[b]? :=fun b hb n1 n2 hbg=>by
      rw[e56.block b (by omega) n2,e5'.block b (by omega) n1,hx4.block b (by omega) (fun k=>by have:=hwge _ k.symm;omega),e23.block b (by omega) n2,e12.block b hbg (fun k=>k)]
     have hv4ge:∀b,(Value.slice va4 ((l.take j).length+1) vc4).ownBlock=some b->hL.size<=b:=fun b hb=>(aM.lt hw4 hb).1
     refine⟨nk hlz5,by rw[hblk h2.size (by omega) (by omega) (by omega) (by omega)];exact hdf,⟨by have:=e56.size;have:=ehg.size;omega,fun b hb _=>?_⟩,by have:=e56.size;omega,_,kS5.ext e56 (show ¬h.size=h2.size+1 by omega),?_⟩
     · rw[hblk b (by omega) (by omega) (by omega) (by have:=ehg.size;omega)];exact ehg.block b hb (fun k=>k)
     · rw[List.take_add_one,hlj];exact aM.ext e56 (aM.ext e5' hw4 (fun b hb k=>by have:=hv4ge b hb;omega)) (fun b hb k=>by have:=hv4ge b hb;omega)
   · refine(BO (l:=h2.size+1) (cap:=h1.size) (n:=kn) (c:=kc) (oa:=oa) (J:=GX h h2.size r0 hL.size l) (by omega) (fun j g g' k e=>k.ax (hdl j g k) e) hy hJ0 hcapL).mono fun e g hJ=>?_
     obtain⟨u,rfl,hlp,hdf,ehg,hbg,w,kS,hw⟩:=hJ;rw[List.take_of_length_le (by omega)] at hw;refine⟨_,rfl,r0,hlp,by rw[hst];decide,hpn,?_⟩;have hz1:=e1.size;have hlz:=hlp.lt;have e6:Ext (fun b=>b=h2.size+1) g (Lw.eH g (h2.size+1) (.loop { r0 with state:=.exhausted })):=Ext.eH _ _ _ rfl;have kSe:=kS.ext e6 (show ¬h.size=h2.size+1 by omega);have hdfe:=(e6.block h2.size (by omega) (show ¬h2.size=h2.size+1 by omega)).trans hdf;have hwge:∀b,w.ownBlock=some b->hL.size<=b:=fun b hb=>(aM.lt hw hb).1
     have hwe:=aM.ext e6 hw (fun b hb k=>by have:=hwge b hb;omega);refine GD.aT ?_;refine oX rfl ?_;refine GD.bV func102 rfl ?_;refine ju.aU rfl rfl rfl rfl (af H.gi rfl (kSe.cell (i:=0) rfl)) ?_;refine ju.aU rfl rfl rfl rfl (ak.assign rfl) ?_;refine kG rfl ?_;refine GD.sub (ρ':=[(0,_),(2,_),(3,_),(11,_),(15,_)]) ⟨rfl,rfl,rfl,rfl,rfl,trivial⟩ ?_;refine GD.Cc func102 rfl hdfe rfl ?_;have e7:Ext (fun b=>b=h2.size) (Lw.eH g (h2.size+1) (.loop { r0 with state:=.exhausted })) (Lw.eH (Lw.eH g (h2.size+1) (.loop { r0 with state:=.exhausted })) h2.size (.deferred none)):=Ext.eH _ _ _ rfl;have hz6:=e6.size;have hz7:=e7.size;refine⟨_,rfl,cN.read (h1:=fun _=>rfl) (show cN GA _ hL.size 9 w l from aM.ext e7 hwe (fun b hb k=>by have:=hwge b hb;omega)) (fun _ _ k=>k),⟨by have:=ehg.size;omega,fun b hb _=>?_⟩⟩;rw[e7.block b (by have:=ehg.size;omega) (by omega),e6.block b (by have:=ehg.size;omega) (by omega)];exact ehg.block b hb (fun k=>k)
def nG (m:Int):cg:=match lu (gS m) with|.inr d=>d|.inl _=>⟨[],[]⟩
theorem tD (m:Nat) (hm:m<3):∃ss st,eU (gS m)= .inr (ss,st)/\lu (gS m)= .inr (nG m)/\gf ss st= .inr (nG m)/\(∀l,gW m l=dM ss st l)/\∀l,(bz (nG m) l 0 0 (0,-1)).2.2<=(gW m l).1+2:=by
 have key:∀{ss:List bR}{st:Nat},eU (gS m)= .inr (ss,st)->(∀l,gW m l=dM ss st l)->(∃d,gf ss st= .inr d/\(∀l,(bz d l 0 0 (0,-1)).2.2<=(dM ss st l).1+2)/\∀l x:By,(dM ss st l).1+2<l.length->dM ss st (l++x)=dM ss st l)->∃ss st,eU (gS m)= .inr (ss,st)/\lu (gS m)= .inr (nG m)/\gf ss st= .inr (nG m)/\(∀l,gW m l=dM ss st l)/\∀l,(bz (nG m) l 0 0 (0,-1)).2.2<=(gW m l).1+2:=by
  intro ss st h1 h2 ⟨d,h3,h4,_⟩;have h5:lu (gS m)= .inr d:=by unfold lu;rw[h1];exact h3
  have h6:nG m=d:=by unfold nG;rw[h5]
  rw[h6];exact⟨ss,st,h1,h5,h3,h2,fun l=>by rw[h2];exact h4 l⟩
 match m,hm with
 | 0,_=>exact key K4 (fun l=>rfl) (qx K4 J6 J9 J3 xP.1)
 | 1,_=>exact key Gj (fun l=>rfl) (qx Gj J5 J8 J2 xP.2.1)
 | 2,_=>exact key K3 (fun l=>rfl) (qx K3 J4 J7 J1 xP.2.2)
def Kp:iM cg:=⟨1,by decide,fun h O cs d=>∃db,cs=[.pointer (some ⟨db,0,none⟩)]/\mT h O db d,fun h=>by obtain⟨db,rfl,_⟩:=h;rfl,fun h=>by
 obtain⟨db,rfl,_⟩:=h;intro u hu;simp at hu;subst hu;rfl,fun h m=>by
 obtain⟨db,hc,hv⟩:=h;exact⟨db,hc,hv.mv m⟩⟩
def tE (k:Nat):List cg:=([0,1,2].take k).map fun m:Int=>kT (nG m)
theorem Bg (k:Nat) (hk:k<3):tE (k+1)=tE k++[kT (nG k)]/\(tE k).length=k:=by
 match k,hk with
 | 0,_=>exact⟨rfl,rfl⟩
 | 1,_=>exact⟨rfl,rfl⟩
 | 2,_=>exact⟨rfl,rfl⟩
def nY (h:ay) (p:Value):Prop:=∃lb vm,p= .pointer (some ⟨lb,0,none⟩)/\br h lb 111 [vm]/\cn Kp h (fun _=>False) vm (tE 3)
theorem nY.ax {h h':ay}{p:Value}(k:nY h p) (e:aD h h'):nY h' p:=by
 obtain⟨lb,vm,h1,h2,h3⟩:=k;exact⟨lb,vm,h1,h2.ax e,h3.mv (Mv.ax e)⟩
theorem Dj {lim:Nat}(hg:Sg h lim) (hlim:lim<=h.size) (htens:si h) (hR:lD h) :
 ah Tryz.prog 85 #[] h (bX fun r h'=>nY h' r/\aD h h'):=by
 refine ah.of func85 rfl rfl ?_;refine aY func85 1 [0] rfl ?_;refine xr func85 rfl ?_;refine xp rfl (aP (H.ID ) rfl) ?_;refine xo rfl (av.cR rfl) ?_;rintro _ h1 ⟨rfl,k1,e1,z1⟩;have k1:br h1 h.size 111 [.slice none 0 0]:=k1;refine aS 1 [0,1] rfl ?_;refine au rfl ?_;refine aY func85 1 [0,1,2] rfl ?_;refine G.block rfl rfl ?_;refine bT (σ:=Nat×Value) (fun q=>[(1,.pointer (some ⟨h.size,0,none⟩)),(2,.int .i64 (q.1:Nat))]) (fun q h'=>q.1<=3/\aD h h'/\br h' h.size 111 [q.2]/\gO Kp (fun b=>b=h.size) h' h1.size 117 q.2 (tE q.1)/\h1.size<=h'.size) (fun q=>3-q.1) ((0,.slice none 0 0)) rfl ⟨rfl,rfl,trivial⟩ ⟨by decide,e1,k1,gO.nil _ _ _ _ _,Nat.le_refl _⟩ ?_;rintro⟨m,vm⟩ g ⟨hm,eg,kb,hx,hz⟩ ih
 try dsimp only
 dsimp only at hm kb hx;refine au rfl ?_;refine aY func85 2 [1,2,10] rfl ?_;refine aG rfl rfl (fun hlt=>?_) (fun hlt=>?_)
 · have hm3:m<3:=by omega
   obtain⟨ss,st,hmk,hdm,hdk,_⟩:=tD m hm3;obtain⟨hnext,hlen⟩:=Bg m hm3;have hok:=nC hdm;have hM:=fX hmk;have hb:=zA hM
   have hrl:∀s∈gS m,s.length<=1000000:=by
    have:m=0\/m=1\/m=2:=by omega
    rcases this with rfl|rfl|rfl
    · exact of_decide_eq_true rfl
    · exact of_decide_eq_true rfl
    · exact of_decide_eq_true rfl
   refine aA rfl ?_;refine au rfl ?_;refine G.block rfl rfl ?_;refine bB func85 1 rfl ?_;refine xo rfl (aj (vs:=[_]) func102 rfl H.JM rfl (ah.aX (C7 (hR.ax eg) m hm3))) ?_;rintro _ g1 ⟨hr1,f1⟩;have eg1:=eg.trans f1;refine xo rfl (aj (vs:=[_]) func101 rfl H.JN rfl (ah.aX (Dl (hg.ext eg1 (fun _ k=>k.elim)) (by have:=eg1.size;omega) hr1 hrl))) ?_;rintro _ g2 ⟨⟨p,rfl,hp⟩,f2⟩
   have hp:∃(O:Nat->Prop) (nb:Nat) (v:Value),p= .pointer (some ⟨nb,0,none⟩)/\cu g2 O nb v ss st:=by
    rcases hp with ⟨e,he,_⟩|⟨O,nb,v,ss',st',hp,hn,hm'⟩
    · rw[hmk] at he;cases he
    · rw[hmk] at hm';cases hm';exact⟨O,nb,v,hp,hn⟩
   obtain⟨O,nb,v,rfl,hn⟩:=hp;have eg2:=eg1.trans f2;refine aS 5 [1,2,3,10] rfl ?_;refine bB func85 1 rfl ?_;refine xo rfl (aj (vs:=[_]) func103 rfl H.JL rfl (ah.aX (Ad (htens.ax eg2) hn hM.good hM.len hM.stl hb.2.1 hb.2.2))) ?_;rintro r3 g3 ⟨hr3,f3⟩;unfold yo at hr3;rw[hdk] at hr3;obtain⟨db,rfl,hk⟩:=hr3;have eg3:=eg2.trans f3;have f03:=(f1.trans f2).trans f3;have zz:=f03.size;have kb3:=kb.ax f03;have hx3:=hx.ax f03;obtain⟨css3,_,hw3,_⟩:=id hx3;have vge:∀b,vm.ownBlock=some b->h1.size<=b/\b<g3.size:=fun b hb=>hw3.lt hb
   have hkM:¬(dn vm.ownBlock h.size\/Array.size g3<=h.size):=by
    rintro(k|k)
    · have:=(vge _ k.symm).1;omega
    · omega
   refine aS 5 [1,2,3,5,10] rfl ?_;refine bU (fun b=>dn vm.ownBlock b\/Array.size g3<=b) (fun i=>Nat.blt i 11) (sz:=12) (listed:= #[false,false,false,false,false,false,false,false,false,false,false,false]) func85 H.mixed rfl rfl rfl ?_;refine bF 0 1 (by kernel_rfl) rfl ?_;refine bF 1 3 (by kernel_rfl) rfl ?_;refine bF 2 7 (by kernel_rfl) rfl ?_;refine bf 3 15 (by kernel_rfl) rfl (fun h' e=>aa (off:=0) underlying111 rfl rfl H.vG rfl) ?_;refine bf 4 31 (by kernel_rfl) rfl (fun h' e=>af H.CD rfl (e.cell hkM (kb3.cell (i:=0) rfl))) ?_;refine bF 5 63 (by kernel_rfl) rfl ?_;refine dK 6 127 (by kernel_rfl) rfl (aj (vs:=[_]) func104 rfl H.JK rfl (ah.aX (Fx (htens.ax eg3) hk hok.1 hok.2))) ?_;rintro r4 g4 ⟨⟨b4,rfl,hk4⟩,f4⟩;refine⟨fun _=>f4.mono (fun _ _ k=>k.elim),?_⟩;have hx4:=hx3.ax f4;have kb4:=kb3.ax f4;have z4:=f4.size;obtain⟨css,hc1,hc2,hc3⟩:=id hx4;rw[hlen] at hc2;refine dK 7 255 (by kernel_rfl) rfl (av.bC (us:=[_]) underlying109 H.HF rfl rfl (by decide) (by simp[Value.oneCell'])) ?_;rintro _ _ ⟨rfl,rfl⟩;refine⟨fun _=>by first|exact Ext.push _ _ _|assumption,?_⟩;refine dK 8 511 (by kernel_rfl) rfl (av.cH underlying109 H.HF rfl rfl (hc2) rfl rfl (by first|decide|simp[Value.oneCell']) (by omega) (by decide) (by omega)) ?_;rintro v5 g5 ⟨ho5,hx5,hx5',hv5⟩;refine⟨fun _=>hx5'.mono (fun _ _ k=>.inl k),?_⟩
   have hnew:mT g4 (fun b=>dn vm.ownBlock b\/b=h.size) b4 (kT (nG m)):=hk4.mv ⟨Nat.le_refl _,fun b _ hn=>⟨rfl,fun k=>hn (by
    rcases k with k|k
    · exact(vge _ k.symm).2
    · omega)⟩⟩
   have hx5w:=gO.om (e:=Kp) (h:=g4) (v:=vm) (css:=css) (cs:=[.pointer (some ⟨b4,0,none⟩)]) (y:=kT (nG m)) (O:=fun b=>b=h.size) hc1 hc3 (by rw[hlen];exact ho5) hx5 hv5 ⟨b4,rfl,hnew⟩;obtain⟨va5,vc5,rfl,_⟩:=ho5.open;have z5:=hx5.size;have kb5:=kb4.ext hx5 (fun k=>by have:=(vge _ k.symm).1;omega);have v5ge:∀b,(Value.slice va5 (m+1) vc5).ownBlock=some b->h1.size<=b:=fun b hb=>(ho5.lt hb).1
   refine dK 9 1023 (by kernel_rfl) rfl (ak.aX (cB rfl)) ?_;rintro _ hq_ ⟨rfl,hqe_⟩;replace hqe_:=hqe_.symm;subst hqe_;refine⟨fun _=>Ext.refl _ _,?_⟩;refine bf 10 2047 (by kernel_rfl) rfl (fun h' e=>aa (off:=0) underlying111 rfl rfl H.vG rfl) ?_;refine iF 11 4095 (by kernel_rfl) rfl (av.aE H.vG rfl rfl kb5 (by first|decide|exact of_decide_eq_true rfl|(simp;done)|(simp;omega)) rfl) ?_;rintro _ g6 ⟨rfl,kb6,x6,z6⟩;refine⟨fun hk=>(nomatch hk),?_⟩;have kb6:br g6 h.size 111 [.slice va5 (m+1) vc5]:=by simpa using kb6
   have hx6:=hx5w.D8 (O':=fun b=>b=h.size) x6 (fun b hb k=>by have:=v5ge b hb;omega) (fun b _ k=>k) (fun b _ k=>k)
   have eg6:aD h g6:=⟨by have:=x6.size;omega,fun b hb _=>by
    rw[x6.block b (by omega) (by omega),hx5.block b (by omega) (fun k=>by have:=(vge _ k.symm).1;omega),f4.block b (by omega) (fun k=>k)];exact eg3.block b hb (fun k=>k)⟩
   refine aR (by kernel_rfl) ?_;refine xu [1,2,3,5,10] rfl ?_;refine G.aT ?_;refine G.bV func85 rfl ?_;refine cx 1 rfl rfl (ak.bL rfl rfl ⟨by omega,by omega⟩) ?_;refine aS 1 [1,2,3,5,10] rfl ?_;exact ih (m+1,_) _ _ ⟨rfl,rfl,trivial⟩ ⟨by show m+1<=3;omega,eg6,kb6,by show gO Kp _ g6 h1.size _ _ (tE (m+1));rw[hnext];exact hx6,by have:=x6.size;omega⟩ (by show 3-(m+1)<3-m;omega)
 · obtain rfl:m=3:=by omega
   refine bN rfl rfl ?_;refine aY func85 2 [0,1,2,10] rfl ?_;refine aK func85 rfl rfl ?_;exact⟨_,rfl,⟨h.size,vm,rfl,kb,hx.ED (fun b hb k=>k) (fun b _ k=>k.elim)⟩,eg⟩
end
end Go.Proofs.YtiigijehmmcfgaaGreatDoor

/- What the proof of the statement leans on (part 25). -/
import Derived.Lib.LaidTab
import Derived.Test.YtdihgdeciopfpaaGreatDoorQx

namespace Go.Proofs.YtdihgdeciopfpaaGreatDoor
open Go.Proofs.Tryz
open Go Go.Lw Go.ChangeShapes Go.WideShapes Go.ChangeAt Go.RowKit
set_option maxRecDepth 20000
theorem HD {W:World}{g t:Nat}{cs:Array Value}{fuel:Nat}{pl:List MemPlace}{sp:Nat->Bool}{held:Bool}{enc:TypeId×Value->Unit}(hg:Tryz.prog.globalNamed "internal/strconv.uint64pow10" =some g) (ht:(Tryz.prog.globals[g]?).map (·.type)=some t) (hv:W.var? Tryz.prog "internal/strconv.uint64pow10" =some cs)
 (hd:DataW.trod enc Tryz.prog W 0 sp held fuel t cs.toList=some (Rows.laid_internal_strconv_uint64pow10,pl)):lE W.heap:=by
 have gT:Tryz.prog.globalNamed "internal/strconv.uint64pow10" =some 11:=by kernel_rfl
 have tT:(Tryz.prog.globals[11]?).map (·.type)=some 403:=by kernel_rfl
 obtain rfl:=Option.some.inj (gT.symm.trans hg);obtain rfl:=Option.some.inj (tT.symm.trans ht);unfold lE;rw[<-yh,hv];have hd2:DataW.trod enc Tryz.prog W 0 sp held fuel 403 cs.toList=some (Lib.tabData .u64 Lib.pow10Tab,pl):=hd;rw[<-Lib.cells_of_tab underlying403 underlying236 (by kernel_rfl) (by kernel_rfl) hd2]
end Go.Proofs.YtdihgdeciopfpaaGreatDoor
namespace Go.Proofs.YtdihgdeciopfpaaGreatDoor
open Go.Proofs.Tryz
open Go Go.Lw
set_option maxRecDepth 20000
section
variable {h:au}
def gu (m:Int):List By:=if m=0 then Bp else if m=1 then Bo else if m=2 then Bn else []
def qH (m:Int):List (By×Int×Int):=List.zipWith (fun r k=>(r,k.1,k.2)) (gu m) (JH m)
def jN (h:au):Prop:=∀m:Nat,m<3->∃v,cellAt h ⟨1,m,none⟩=some v/\bF M7 h (fun _=>False) v (qH m)
theorem jN.aq {h h':au}(k:jN h) (e:av h h'):jN h':=fun m hm=>by
 obtain⟨v,h1,h2⟩:=k m hm;exact⟨v,e.cell (fun k=>k) h1,h2.mv (Mv.aq e)⟩
theorem Fc (m:Nat) (hm:m<3):(qH m).length<=10/\(qH m).map (·.1)=gu m:=by
 match m,hm with
 | 0,_=>exact⟨by decide,by decide⟩
 | 1,_=>exact⟨by decide,by decide⟩
 | 2,_=>exact⟨by decide,by decide⟩
theorem CQ (r:By×Int×Int):∀v∈fO r,v.oneCell'=true:=fun v hv=>by simp[fO] at hv;rcases hv with rfl|rfl|rfl<;>rfl
theorem Cr {l cap:Nat}{oa:Option Addr}{n c:Nat}{J:Nat->au->Prop}(hn:n<=1000000) (hmono:∀j h g,J j h->av h g->J j g)
 (hy:∀j h,J j h->j<n->∃(b o:Nat) (r:By×Int×Int),oa=some ⟨b,o,none⟩/\Lw.rowAt h b (o+j*3) (fO r) /\
  ∀g,J j g->dn Tryz.prog l #[.int .i64 (j:Nat),.agg (fO r).toArray] g (bC fun r h'=>r= .bool true/\J (j+1) h')) (h0:J 0 h) (hread:cellAt h ⟨cap,0,none⟩=some (.slice oa n c)) :
 af Tryz.prog 241 #[.func (.yield l) #[] #[],.pointer (some ⟨cap,0,none⟩)] h (bC fun _ h'=>J n h'):=by
 refine af.of func241 rfl rfl ?_;refine xr func241 rfl ?_;refine xp rfl (ah H.J9 rfl hread) ?_;refine xp rfl (ai.aI underlying301 rfl) ?_;refine aM 1 [0,1,5,6,7] rfl ?_;refine G.block rfl rfl ?_;refine bf (σ:=Nat) (fun j=>[(0,.func (.yield l) #[] #[]),(1,.pointer (some ⟨cap,0,none⟩)),(5,.slice oa n c),(6,.int .i64 (n:Nat)),(7,.int .i64 (j:Nat))]) (fun j h'=>J j h'/\j<=n) (fun j=>n-j) (0) rfl ⟨rfl,rfl,rfl,rfl,rfl,trivial⟩ ⟨h0,Nat.zero_le _⟩ ?_;rintro j h1 ⟨hJ,hj⟩ ih;refine aQ func241 1 [0,1,5,6,7,8] rfl ?_;refine ak rfl ?_;refine aN rfl rfl (fun hlt=>?_) (fun hlt=>?_)
 · obtain⟨b,o,r,ha,hrow,hyy⟩:=hy j h1 hJ (by omega);refine az rfl ?_;refine ak rfl ?_;refine G.block rfl rfl ?_;refine bg func241 1 rfl ?_;refine xp rfl (ai.aA underlying301 H.yz rfl rfl j rfl ha (by omega)) ?_;refine xp rfl (ai.aD H.J8 H.yz rfl hrow (by first|rfl|(simp;done)|(simp;omega))) ?_;refine xo rfl (ax.aO H.I0) ?_;rintro _ g1 ⟨rfl,k1,e1,z1⟩;refine br 1 rfl ?_;refine RW.bT rfl rfl rfl (ax.aB H.yz rfl rfl k1 (by first|rfl|(simp;done)|(simp;omega)) (by first|decide|exact of_decide_eq_true rfl|(simp;done)|(simp;omega)) (CQ r)) ?_;rintro _ g2 ⟨rfl,k2,x2,z2⟩;refine xd [0,1,3,4,5,6,7,8] rfl ?_;refine ak rfl ?_;have e12:av h1 g2:=e1.only x2 (Nat.le_refl _);have k2:aL g2 h1.size 303 (fO r):=k2;refine G.DP func241 rfl ?_;refine bh.an rfl rfl rfl rfl rfl (aF rfl) ?_;refine bh.an rfl rfl rfl rfl rfl (aF rfl) ?_;refine bh.an rfl rfl rfl rfl rfl (ai.aD H.J8 H.yz rfl k2.row (by first|rfl|(simp;done)|(simp;omega))) ?_;refine bh.yield (vs:=[_,_]) rfl rfl rfl rfl rfl rfl rfl ((hyy g2 (hmono _ _ _ hJ e12))) ?_;rintro _ h2 ⟨rfl,hJ2⟩;refine bh.an rfl rfl rfl rfl rfl (ai.rI rfl) ?_;refine bh.done rfl ?_;refine xu [0,1,3,4,5,6,7,8,16] rfl ?_;refine ay rfl rfl (fun hc=>absurd hc (by decide)) (fun _=>?_);refine az rfl ?_;refine G.aJ ?_;refine G.bB func241 rfl ?_;refine xp rfl (ai.aT rfl rfl ⟨by omega,by omega⟩) ?_;refine aM 1 [0,1,3,4,5,6,7,8,16] rfl ?_;exact ih (j+1) _ _ ⟨rfl,rfl,rfl,rfl,rfl,trivial⟩ ⟨hJ2,by omega⟩ (by omega)
 · obtain rfl:j=n:=by omega
   refine aW rfl rfl ?_;refine G.gN func241 rfl ?_;exact⟨_,rfl,hJ⟩
theorem EE (v:Value) (hv:v.oneCell'=true):af Tryz.prog 188 #[v] h (bC fun r h'=>r= .func (.func 241) #[] #[.pointer (some ⟨h.size,0,none⟩)]/\h'=h.push (.cells #[v] 301)):=by
 have hcells:v.cells= #[v]:=by cases v<;>simp[Value.oneCell'] at hv<;>rfl
 refine af.of func188 rfl rfl ?_;refine xr func188 rfl ?_;refine xo rfl (ax.box rfl) ?_;rintro _ _ ⟨rfl,rfl⟩;refine aM 1 [0,1,2] rfl ?_;refine xr func188 rfl ?_;refine xp rfl (ai.makeFunc (vs:=[_]) rfl) ?_;refine aM 1 [0,1,2] rfl ?_;refine G.ret func188 rfl rfl ?_;exact⟨_,rfl,rfl,by rw[hcells]⟩
abbrev Io (s:By):Value:=.string (bs s)
def IS (h:au) (d:Nat) (r0:Loop) (base:Nat) (l:List By) (j:Nat) (g:au):Prop :=
 cy g (d+1) r0/\g[d]? =some (.deferred (some []))/\av h g/\base<=g.size/\∃w,aL g h.size 59 [w]/\cj Io g base 9 w (l.take j)
theorem IS.aq {h:au}{d:Nat}{r0:Loop}{base:Nat}{l:List By}{j:Nat}{g g':au}(k:IS h d r0 base l j g) (hd:d<g.size) (e:av g g'):IS h d r0 base l j g':=by
 obtain⟨h1,h2,h3,h4,w,h5,h6⟩:=k;exact⟨h1.ext e (fun k=>k),(e.block d hd (fun k=>k)).trans h2,h3.trans e,by have:=e.size;omega,w,h5.aq e,cj.aq h6 e⟩
theorem DO (hR:jN h) (m:Nat) (hm:m<3) :
 af Tryz.prog 120 #[.int .i64 (m:Nat)] h (bC fun r h'=>bF Iv h' (fun _=>False) r (gu m)/\av h h'):=by
 obtain⟨htl,htm⟩:=Fc m hm;generalize hL0:gu (m:Int)=l at *;generalize htb:qH (m:Int)=tb at *;have hll:l.length=tb.length:=by rw[<-htm];simp
 refine af.of func120 rfl rfl ?_;refine aQ func120 1 [0,2] rfl ?_;refine ak rfl ?_;refine ak rfl ?_;refine G.bH [(11,.bool false)] [(0,_),(2,_)] ⟨rfl,rfl,trivial⟩ func120 rfl ?_ ?_
 · refine br 3 rfl ?_;refine RW.b7 (d:=8) (b':=false) rfl ((by simp)) ?_;refine br 3 rfl ?_;refine RW.done rfl ?_;exact⟨rfl,aK rfl (by simp;omega),rfl,rfl,trivial⟩
 · refine ay rfl rfl (fun hc=>absurd hc (by decide)) (fun _=>?_);refine az rfl ?_;refine xr func120 rfl ?_;refine xo rfl (ax.aO H.NP) ?_;rintro _ h1 ⟨rfl,k3,e1,z1⟩;have k3:aL h1 h.size 59 [.slice none 0 0]:=k3;obtain⟨v,hv,hsl⟩:=hR m hm;rw[htb] at hsl;have hsl1:=hsl.mv (Mv.aq e1);obtain⟨oa,kn,kc,rfl,hsl2⟩:=hsl1.open;have hkn:=hsl2.len;have hv1:cellAt h1 ⟨1,0+m*1,none⟩=some (.slice oa kn kc):=by rw[Nat.mul_one,Nat.zero_add];exact e1.cell (fun k=>k) hv
   refine xd [0,2,3,11] rfl ?_;refine ak rfl ?_;refine bg func120 1 rfl ?_;refine xp rfl (ai.dZ underlying304 H.Ls rfl rfl m rfl (by omega)) ?_;refine xp rfl (ah H.J9 rfl hv1) ?_;refine xo rfl (aj (vs:=[_]) func188 rfl H.Ml rfl (af.aX (EE (.slice oa kn kc) rfl))) ?_;rintro _ h2 ⟨rfl,hh2⟩;have e2:av h1 h2:=by rw[hh2];exact Ext.push _ _ _
   have kc2b:aL h2 h1.size 301 [.slice oa kn kc]:=by rw[hh2];exact qA _ _ _
   have kc2:cellAt h2 ⟨h1.size,0,none⟩=some (.slice oa kn kc):=kc2b.cell (i:=0) rfl;have z2:h2.size=h1.size+1:=by rw[hh2];simp
   clear hh2;refine xd [0,2,3,11,15] rfl ?_;refine G.block rfl rfl ?_;refine G.rangeFunc rfl rfl func241 rfl (by decide +kernel) ?_;intro fid tmps hfits;obtain⟨r0,hr0⟩:∃r0,r0=ct fid tmps #[16,17] (HM (Lw.sub (aG Tryz.f120) [0,1,0,1,1,1])) (HL (Lw.sub (aG Tryz.f120) [0,1,0,1,1,1])) h2.size:=⟨_,rfl⟩
   obtain⟨hL,hhL⟩:∃hL,hL=(h2.push (.deferred (some []))).push (.loop r0):=⟨_,rfl⟩
   suffices hmain:af Tryz.prog 241 #[.func (.yield (h2.size+1)) #[] #[],.pointer (some ⟨h1.size,0,none⟩)] hL _ by rw[hhL,hr0] at hmain;exact hmain
   have hst:r0.state= .ready:=by rw[hr0];rfl
   have hpn:r0.pending=none:=by rw[hr0];rfl
   have hps:r0.params= #[16,17]:=by rw[hr0];rfl
   have htm2:r0.tmps=tmps:=by rw[hr0];rfl
   have eL:av h2 hL:=by rw[hhL];exact(Ext.push _ _ _).trans (Ext.push _ _ _)
   have hLz:hL.size=h2.size+2:=by rw[hhL];simp
   have hloop0:cy hL (h2.size+1) r0:=by
    have hz:h2.size+1=(h2.push (.deferred (some []))).size:=by simp
    rw[cy,hhL,hz];exact Array.getElem?_push_size
   have hdef0:hL[h2.size]? =some (.deferred (some [])):=by
    rw[hhL,(Ext.push (fun _=>False) (h2.push (.deferred (some []))) _).block h2.size (by simp) (fun k=>k)];exact Array.getElem?_push_size
   clear hhL;have e0L:av h hL:=(e1.trans e2).trans eL;have hJ0:IS h h2.size r0 hL.size l 0 hL:=⟨hloop0,hdef0,e0L,Nat.le_refl _,_,(k3.aq e2).aq eL,cj.nil _ _ _ _⟩
   have hcapL:cellAt hL ⟨h1.size,0,none⟩=some (.slice oa kn kc):=eL.cell (fun k=>k) kc2;have hdl:∀j g,IS h h2.size r0 hL.size l j g->h2.size<g.size:=fun j g k=>by have:=k.2.2.2.1;omega
   refine suff (p:=∀j g,IS h h2.size r0 hL.size l j g->j<kn->∃(b o:Nat) (r:By×Int×Int),oa=some ⟨b,o,none⟩/\Lw.rowAt g b (o+j*3) (fO r)/\∀g,IS h h2.size r0 hL.size l j g->dn Tryz.prog (h2.size+1) #[.int .i64 (j:Nat),.agg (fO r).toArray] g (bC fun r h'=>r= .bool true/\IS h h2.size r0 hL.size l (j+1) h')) ?_ fun hy=>?_
   · intro j g hJg hj;obtain⟨r,hx⟩:∃r,tb[j]? =some r:=⟨_,List.getElem?_eq_getElem (by omega)⟩
     have hslg:=hsl.mv (Mv.aq hJg.2.2.1);obtain⟨oa',n',c',hv',_,_,_,hget⟩:=id hslg;cases hv';obtain⟨b,o,cs,ha,hob,hrow,rfl⟩:=hget j r hx;refine⟨b,o,r,ha,hrow,fun g hJg=>?_⟩;obtain⟨hlp,hdf,ehg,hbg,w,kS,hw⟩:=hJg;have hlj:l[j]? =some r.1:=by rw[<-htm,List.getElem?_map,hx];rfl
     have hfit:=zW (p1:=16) (p2:=17) (v1:=.int .i64 (j:Nat)) (v2:=.agg (fO r).toArray) hfits rfl rfl;rw[<-hps,<-htm2] at hfit;refine dn.of hlp hst (by rw[hps];rfl) hfit ((congrArg Loop.assign hr0).trans rfl) ((congrArg Loop.body hr0).trans rfl) ?_;refine bh.ou rfl rfl rfl rfl rfl (ax.aO H.I0) ?_;rintro _ g1 ⟨rfl,k5,e1',zz1⟩;refine bh.bT rfl rfl rfl rfl (ax.aB H.yz rfl rfl k5 (by first|rfl|(simp;done)|(simp;omega)) (by first|decide|exact of_decide_eq_true rfl|(simp;done)|(simp;omega)) (CQ r)) ?_;rintro _ g2 ⟨rfl,k5',e2',zz2⟩;refine bh.done rfl ?_;have e12:av g g2:=e1'.only e2' (Nat.le_refl _);have k5':aL g2 g.size 303 (fO r):=k5';refine⟨(e12.block _ hlp.lt (fun k=>k)).trans hlp,?_⟩;obtain⟨g3,hg3⟩:∃g3,g3=Lw.bW g2 (h2.size+1) (.loop { r0 with state:=.busy }):=⟨_,rfl⟩
     rw[<-hg3];have hlz:=hlp.lt;have hz2:=e12.size;have hz1:=e1.size;have e23:Ext (fun b=>b=h2.size+1) g2 g3:=by rw[hg3];exact Ext.bW _ _ _ rfl
     have hlp3:cy g3 (h2.size+1) { r0 with state:=.busy }:=by rw[cy,hg3];exact fI (by omega)
     have hz3:=e23.size;have kS3:=(kS.aq e12).ext e23 (show ¬h.size=h2.size+1 by omega);have k53:=k5'.ext e23 (show ¬g.size=h2.size+1 by omega);have hwge:∀b,w.ownBlock=some b->hL.size<=b:=fun b hb=>(aC.lt hw hb).1
     have hw3:aC g3 hL.size 9 1 w (l.take j).length ((l.take j).map Io):=aC.ext e23 (cj.aq hw e12) (fun b hb k=>by have:=hwge b hb;omega);have hjl:(l.take j).length=j:=by rw[List.length_take];omega
     refine bh.an rfl rfl rfl rfl rfl (ah H.G3 rfl (kS3.cell (i:=0) rfl)) ?_;refine bh.an rfl rfl rfl rfl rfl (aa (off:=0) underlying303 rfl rfl H.gU rfl) ?_;refine bh.an rfl rfl rfl rfl rfl (ah H.gr rfl (k53.cell (i:=0) rfl)) ?_;refine bh.ou rfl rfl rfl rfl rfl (ax.bA (us:=[_]) underlying59 H.KR rfl rfl (by decide) (by simp[Value.oneCell'])) ?_;rintro _ _ ⟨rfl,rfl⟩;refine bh.ou rfl rfl rfl rfl rfl (ax.bN underlying59 H.KR rfl rfl (hw3) rfl rfl (by first|decide|simp[Value.oneCell']) (by omega) (by decide) (by omega)) ?_;rintro v4 g4 ⟨ho4,hx4,hx4',hv4⟩;have kS4:=kS3.ext hx4 (fun k=>by have:=hwge _ k.symm;omega);have hz4:=hx4.size;have hw4:cj Io g4 hL.size 9 v4 (l.take j++[r.1]):=cj.of (ys:=[r.1]) ho4 rfl rfl rfl;obtain⟨va4,vc4,rfl,_⟩:=ho4.open;refine bh.bT rfl rfl rfl rfl (ax.aH H.tZ rfl rfl kS4 (by first|decide|exact of_decide_eq_true rfl|(simp;done)|(simp;omega)) rfl) ?_;rintro _ g5 ⟨rfl,kS5,e5',zz5⟩;refine bh.done rfl ?_;have kS5:aL g5 h.size 59 [.slice va4 ((l.take j).length+1) vc4]:=by simpa using kS5
     have hlp5:cy g5 (h2.size+1) { r0 with state:=.busy }:=(hlp3.ext hx4 (fun k=>by have:=hwge _ k.symm;omega)).ext e5' (show ¬h2.size+1=h.size by omega);have hr2:({ ({ r0 with state:=.busy }:Loop) with state:=.ready,pending:=none }:Loop)=r0:=by cases r0;simp at hst hpn;simp[hst,hpn]
     have hz5:=e5'.size;refine⟨_,hlp5,rfl,?_⟩;rw[hr2];have e56:Ext (fun b=>b=h2.size+1) g5 (Lw.bW g5 (h2.size+1) (.loop r0)):=Ext.bW _ _ _ rfl;have hlz5:=hlp5.lt
     have hblk:∀b,b<hL.size->¬b=h.size->¬b=h2.size+1->b<g.size->(Lw.bW g5 (h2.size+1) (.loop r0))[b]? =g[b]? :=fun b hb n1 n2 hbg=>by
      rw[e56.block b (by omega) n2,e5'.block b (by omega) n1,hx4.block b (by omega) (fun k=>by have:=hwge _ k.symm;omega),e23.block b (by omega) n2,e12.block b hbg (fun k=>k)]
     have hv4ge:∀b,(Value.slice va4 ((l.take j).length+1) vc4).ownBlock=some b->hL.size<=b:=fun b hb=>(aC.lt hw4 hb).1
     refine⟨fI hlz5,by rw[hblk h2.size (by omega) (by omega) (by omega) (by omega)];exact hdf,⟨by have:=e56.size;have:=ehg.size;omega,fun b hb _=>?_⟩,by have:=e56.size;omega,_,kS5.ext e56 (show ¬h.size=h2.size+1 by omega),?_⟩
     · rw[hblk b (by omega) (by omega) (by omega) (by have:=ehg.size;omega)];exact ehg.block b hb (fun k=>k)
     · rw[List.take_add_one,hlj];exact aC.ext e56 (aC.ext e5' hw4 (fun b hb k=>by have:=hv4ge b hb;omega)) (fun b hb k=>by have:=hv4ge b hb;omega)
   · refine(Cr (l:=h2.size+1) (cap:=h1.size) (n:=kn) (c:=kc) (oa:=oa) (J:=IS h h2.size r0 hL.size l) (by omega) (fun j g g' k e=>k.aq (hdl j g k) e) hy hJ0 hcapL).mono fun e g hJ=>?_
     obtain⟨u,rfl,hlp,hdf,ehg,hbg,w,kS,hw⟩:=hJ;rw[List.take_of_length_le (by omega)] at hw;refine⟨_,rfl,r0,hlp,by rw[hst];decide,hpn,?_⟩;have hz1:=e1.size;have hlz:=hlp.lt;have e6:Ext (fun b=>b=h2.size+1) g (Lw.bW g (h2.size+1) (.loop { r0 with state:=.exhausted })):=Ext.bW _ _ _ rfl;have kSe:=kS.ext e6 (show ¬h.size=h2.size+1 by omega);have hdfe:=(e6.block h2.size (by omega) (show ¬h2.size=h2.size+1 by omega)).trans hdf;have hwge:∀b,w.ownBlock=some b->hL.size<=b:=fun b hb=>(aC.lt hw hb).1
     have hwe:=aC.ext e6 hw (fun b hb k=>by have:=hwge b hb;omega);refine GD.aJ ?_;refine fc rfl ?_;refine GD.bB func120 rfl ?_;refine eo.an rfl rfl rfl rfl (ah H.G3 rfl (kSe.cell (i:=0) rfl)) ?_;refine eo.an rfl rfl rfl rfl (ai.assign rfl) ?_;refine eo.done rfl ?_;refine GD.sub (ρ':=[(0,_),(2,_),(3,_),(11,_),(15,_)]) ⟨rfl,rfl,rfl,rfl,rfl,trivial⟩ ?_;refine GD.CW func120 rfl hdfe rfl ?_;have e7:Ext (fun b=>b=h2.size) (Lw.bW g (h2.size+1) (.loop { r0 with state:=.exhausted })) (Lw.bW (Lw.bW g (h2.size+1) (.loop { r0 with state:=.exhausted })) h2.size (.deferred none)):=Ext.bW _ _ _ rfl;have hz6:=e6.size;have hz7:=e7.size;refine⟨_,rfl,cj.read (h1:=fun _=>rfl) (show cj Io _ hL.size 9 w l from aC.ext e7 hwe (fun b hb k=>by have:=hwge b hb;omega)) (fun _ _ k=>k),⟨by have:=ehg.size;omega,fun b hb _=>?_⟩⟩;rw[e7.block b (by have:=ehg.size;omega) (by omega),e6.block b (by have:=ehg.size;omega) (by omega)];exact ehg.block b hb (fun k=>k)
def qb (m:Int):cV:=match mM (gu m) with|.inr d=>d|.inl _=>⟨[],[]⟩
theorem FU (m:Nat) (hm:m<3):∃ss st,dV (gu m)= .inr (ss,st)/\mM (gu m)= .inr (qb m)/\eY ss st= .inr (qb m)/\(∀l,gi m l=cQ ss st l)/\∀l,(cv (qb m) l 0 0 (0,-1)).2.2<=(gi m l).1+2:=by
 have key:∀{ss:List bM}{st:Nat},dV (gu m)= .inr (ss,st)->(∀l,gi m l=cQ ss st l)->(∃d,eY ss st= .inr d/\(∀l,(cv d l 0 0 (0,-1)).2.2<=(cQ ss st l).1+2)/\∀l x:By,(cQ ss st l).1+2<l.length->cQ ss st (l++x)=cQ ss st l)->∃ss st,dV (gu m)= .inr (ss,st)/\mM (gu m)= .inr (qb m)/\eY ss st= .inr (qb m)/\(∀l,gi m l=cQ ss st l)/\∀l,(cv (qb m) l 0 0 (0,-1)).2.2<=(gi m l).1+2:=by
  intro ss st h1 h2 ⟨d,h3,h4,_⟩;have h5:mM (gu m)= .inr d:=by unfold mM;rw[h1];exact h3
  have h6:qb m=d:=by unfold qb;rw[h5]
  rw[h6];exact⟨ss,st,h1,h5,h3,h2,fun l=>by rw[h2];exact h4 l⟩
 match m,hm with
 | 0,_=>exact key NB (fun l=>rfl) (gV NB J0 J3 JX lK.1)
 | 1,_=>exact key Hr (fun l=>rfl) (gV Hr JZ J2 JW lK.2.1)
 | 2,_=>exact key NA (fun l=>rfl) (gV NA JY J1 JV lK.2.2)
def M8:fF cV:=⟨1,by decide,fun h O cs d=>∃db,cs=[.pointer (some ⟨db,0,none⟩)]/\oL h O db d,fun h=>by obtain⟨db,rfl,_⟩:=h;rfl,fun h=>by
 obtain⟨db,rfl,_⟩:=h;intro u hu;simp at hu;subst hu;rfl,fun h m=>by
 obtain⟨db,hc,hv⟩:=h;exact⟨db,hc,hv.mv m⟩⟩
def rW (k:Nat):List cV:=([0,1,2].take k).map fun m:Int=>BG (qb m)
theorem BN (k:Nat) (hk:k<3):rW (k+1)=rW k++[BG (qb k)]/\(rW k).length=k:=by
 match k,hk with
 | 0,_=>exact⟨rfl,rfl⟩
 | 1,_=>exact⟨rfl,rfl⟩
 | 2,_=>exact⟨rfl,rfl⟩
def Nu (h:au) (p:Value):Prop:=∃lb vm,p= .pointer (some ⟨lb,0,none⟩)/\aL h lb 222 [vm]/\bF M8 h (fun _=>False) vm (rW 3)
def qn (O:Nat->Prop) (h:au) (p:Value):Prop:=∃lb vm,p= .pointer (some ⟨lb,0,none⟩)/\¬O lb/\aL h lb 222 [vm]/\bF M8 h O vm (rW 3)
theorem qn.mv {O O':Nat->Prop}{h h':au}{p:Value}(k:qn O h p) (m:Mv O O' h h'):qn O' h' p:=by
 obtain⟨lb,vm,h1,ho,h2,h3⟩:=k;have hm:=m.block lb h2.lt ho;exact⟨lb,vm,h1,hm.2,hm.1.trans h2,h3.mv m⟩
theorem qn.at {O:Nat->Prop}{p:Value}(k:qn O h p):Nu h p:=by
 obtain⟨lb,vm,h1,_,h2,h3⟩:=k;exact⟨lb,vm,h1,h2,tL h3 (fun _ q=>q.elim)⟩
theorem qn.qk {O:Nat->Prop}{h':au}{b:Nat}{p:Value}(k:qn (fun x=>x=b\/O x) h p) (x:Ext (fun y=>y=b) h h'):qn (fun x=>x=b\/O x) h' p:=k.mv (Mv.eE x fun _ _ ho=>⟨fun q=>ho (.inl q),ho⟩)
theorem BC {lim:Nat}(hg:Sg h lim) (hlim:lim<=h.size) (htens:lE h) (hR:jN h) :
 af Tryz.prog 66 #[] h (bC fun r h'=>qn (fun b=>b<h.size) h' r/\av h h'):=by
 refine af.of func66 rfl rfl ?_;refine aQ func66 1 [0] rfl ?_;refine xr func66 rfl ?_;refine xp rfl (aE (H.KY ) rfl) ?_;refine xo rfl (ax.cq rfl) ?_;rintro _ h1 ⟨rfl,k1,e1,z1⟩;have k1:aL h1 h.size 222 [.slice none 0 0]:=k1;refine aM 1 [0,1] rfl ?_;refine ak rfl ?_;refine aQ func66 1 [0,1,2] rfl ?_;refine G.block rfl rfl ?_;refine bf (σ:=Nat×Value) (fun q=>[(1,.pointer (some ⟨h.size,0,none⟩)),(2,.int .i64 (q.1:Nat))]) (fun q h'=>q.1<=3/\av h h'/\aL h' h.size 222 [q.2]/\eM M8 (fun b=>b<=h.size) h' h1.size 227 q.2 (rW q.1)/\h1.size<=h'.size) (fun q=>3-q.1) ((0,.slice none 0 0)) rfl ⟨rfl,rfl,trivial⟩ ⟨by decide,e1,k1,eM.nil _ _ _ _ _,Nat.le_refl _⟩ ?_;rintro⟨m,vm⟩ g ⟨hm,eg,kb,hx,hz⟩ ih
 try dsimp only
 dsimp only at hm kb hx;refine ak rfl ?_;refine aQ func66 2 [1,2,10] rfl ?_;refine aN rfl rfl (fun hlt=>?_) (fun hlt=>?_)
 · have hm3:m<3:=by omega
   obtain⟨ss,st,hmk,hdm,hdk,_⟩:=FU m hm3;obtain⟨hnext,hlen⟩:=BN m hm3;have hok:=El hdm;have hM:=ie hmk;have hb:=zA hM
   have hrl:∀s∈gu m,s.length<=1000000:=by
    have:m=0\/m=1\/m=2:=by omega
    rcases this with rfl|rfl|rfl
    · exact of_decide_eq_true rfl
    · exact of_decide_eq_true rfl
    · exact of_decide_eq_true rfl
   refine az rfl ?_;refine ak rfl ?_;refine G.block rfl rfl ?_;refine bg func66 1 rfl ?_;refine xo rfl (aj (vs:=[_]) func120 rfl H.MK rfl (af.aX (DO (hR.aq eg) m hm3))) ?_;rintro _ g1 ⟨hr1,f1⟩;have eg1:=eg.trans f1;refine xo rfl (aj (vs:=[_]) func119 rfl H.MM rfl (af.aX (D0 (hg.ext eg1 (fun _ k=>k.elim)) (by have:=eg1.size;omega) hr1 hrl))) ?_;rintro _ g2 ⟨⟨p,rfl,hp⟩,f2⟩
   have hp:∃(O:Nat->Prop) (nb:Nat) (v:Value),p= .pointer (some ⟨nb,0,none⟩)/\b6 g2 O nb v ss st:=by
    rcases hp with ⟨e,he,_⟩|⟨O,nb,v,ss',st',hp,hn,hm'⟩
    · rw[hmk] at he;cases he
    · rw[hmk] at hm';cases hm';exact⟨O,nb,v,hp,hn⟩
   obtain⟨O,nb,v,rfl,hn⟩:=hp;have eg2:=eg1.trans f2;refine aM 5 [1,2,3,10] rfl ?_;refine bg func66 1 rfl ?_;refine xo rfl (aj (vs:=[_]) func121 rfl H.MJ rfl (af.aX (Ad (htens.aq eg2) hn hM.good hM.len hM.stl hb.2.1 hb.2.2))) ?_;rintro r3 g3 ⟨hr3,f3⟩;unfold xX at hr3;rw[hdk] at hr3;obtain⟨db,rfl,hk⟩:=hr3;have eg3:=eg2.trans f3;have f03:=(f1.trans f2).trans f3;have zz:=f03.size;have kb3:=kb.aq f03;have hx3:=hx.aq f03;obtain⟨css3,_,hw3,_⟩:=id hx3;have vge:∀b,vm.ownBlock=some b->h1.size<=b/\b<g3.size:=fun b hb=>hw3.lt hb
   have hkM:¬(cC vm.ownBlock h.size\/Array.size g3<=h.size):=by
    rintro(k|k)
    · have:=(vge _ k.symm).1;omega
    · omega
   refine aM 5 [1,2,3,5,10] rfl ?_;refine bK (fun b=>cC vm.ownBlock b\/Array.size g3<=b) (fun i=>Nat.blt i 11) (sz:=12) (listed:= #[false,false,false,false,false,false,false,false,false,false,false,false]) func66 H.mixed rfl rfl rfl ?_;refine bu 0 1 (by kernel_rfl) rfl ?_;refine bu 1 3 (by kernel_rfl) rfl ?_;refine bu 2 7 (by kernel_rfl) rfl ?_;refine bn 3 15 (by kernel_rfl) rfl (fun h' e=>aa (off:=0) underlying222 rfl rfl H.Fg rfl) ?_;refine bn 4 31 (by kernel_rfl) rfl (fun h' e=>ah H.Nl rfl (e.cell hkM (kb3.cell (i:=0) rfl))) ?_;refine bu 5 63 (by kernel_rfl) rfl ?_;refine cE 6 127 (by kernel_rfl) rfl (aj (vs:=[_]) func122 rfl H.MH rfl (af.aX (GC (htens.aq eg3) hk hok.1 hok.2))) ?_;rintro r4 g4 ⟨⟨b4,rfl,hk4⟩,f4⟩;refine⟨fun _=>f4.mono (fun _ _ k=>k.elim),?_⟩;have hx4:=hx3.aq f4;have kb4:=kb3.aq f4;have z4:=f4.size;obtain⟨css,hc1,hc2,hc3⟩:=id hx4;rw[hlen] at hc2;refine cE 7 255 (by kernel_rfl) rfl (ax.bA (us:=[_]) underlying220 H.JR rfl rfl (by decide) (by simp[Value.oneCell'])) ?_;rintro _ _ ⟨rfl,rfl⟩;refine⟨fun _=>by first|exact Ext.push _ _ _|assumption,?_⟩;refine cE 8 511 (by kernel_rfl) rfl (ax.bN underlying220 H.JR rfl rfl (hc2) rfl rfl (by first|decide|simp[Value.oneCell']) (by omega) (by decide) (by omega)) ?_;rintro v5 g5 ⟨ho5,hx5,hx5',hv5⟩;refine⟨fun _=>hx5'.mono (fun _ _ k=>.inl k),?_⟩
   have hnew:oL g4 (fun b=>cC vm.ownBlock b\/b<=h.size) b4 (BG (qb m)):=hk4.mv ⟨Nat.le_refl _,fun b _ hn=>⟨rfl,fun k=>hn (by
    rcases k with k|k
    · exact(vge _ k.symm).2
    · omega)⟩⟩
   have hx5w:=eM.mB (e:=M8) (h:=g4) (v:=vm) (css:=css) (cs:=[.pointer (some ⟨b4,0,none⟩)]) (y:=BG (qb m)) (O:=fun b=>b<=h.size) hc1 hc3 (by rw[hlen];exact ho5) hx5 hv5 ⟨b4,rfl,hnew⟩;obtain⟨va5,vc5,rfl,_⟩:=ho5.open;have z5:=hx5.size;have kb5:=kb4.ext hx5 (fun k=>by have:=(vge _ k.symm).1;omega);have v5ge:∀b,(Value.slice va5 (m+1) vc5).ownBlock=some b->h1.size<=b:=fun b hb=>(ho5.lt hb).1
   refine cE 9 1023 (by kernel_rfl) rfl (ai.aX (aV rfl)) ?_;rintro _ hq_ ⟨rfl,hqe_⟩;replace hqe_:=hqe_.symm;subst hqe_;refine⟨fun _=>Ext.refl _ _,?_⟩;refine bn 10 2047 (by kernel_rfl) rfl (fun h' e=>aa (off:=0) underlying222 rfl rfl H.Fg rfl) ?_;refine jP 11 4095 (by kernel_rfl) rfl (ax.aH H.Fg rfl rfl kb5 (by first|decide|exact of_decide_eq_true rfl|(simp;done)|(simp;omega)) rfl) ?_;rintro _ g6 ⟨rfl,kb6,x6,z6⟩;refine⟨fun hk=>(nomatch hk),?_⟩;have kb6:aL g6 h.size 222 [.slice va5 (m+1) vc5]:=by simpa using kb6
   have hx6:=hx5w.DZ (O':=fun b=>b<=h.size) x6 (fun b hb k=>by have:=v5ge b hb;omega) (fun b _ k=>Nat.le_of_eq k) (fun b _ k=>k)
   have eg6:av h g6:=⟨by have:=x6.size;omega,fun b hb _=>by
    rw[x6.block b (by omega) (by omega),hx5.block b (by omega) (fun k=>by have:=(vge _ k.symm).1;omega),f4.block b (by omega) (fun k=>k)];exact eg3.block b hb (fun k=>k)⟩
   refine RD.done (by kernel_rfl) ?_;refine xu [1,2,3,5,10] rfl ?_;refine G.aJ ?_;refine G.bB func66 rfl ?_;refine bO 1 rfl rfl (ai.aT rfl rfl ⟨by omega,by omega⟩) ?_;refine aM 1 [1,2,3,5,10] rfl ?_;exact ih (m+1,_) _ _ ⟨rfl,rfl,trivial⟩ ⟨by show m+1<=3;omega,eg6,kb6,by show eM M8 _ g6 h1.size _ _ (rW (m+1));rw[hnext];exact hx6,by have:=x6.size;omega⟩ (by show 3-(m+1)<3-m;omega)
 · obtain rfl:m=3:=by omega
   refine aW rfl rfl ?_;refine aQ func66 2 [0,1,2,10] rfl ?_;refine G.ret func66 rfl rfl ?_;exact⟨_,rfl,⟨h.size,vm,rfl,Nat.lt_irrefl _,kb,hx.Fu (fun b hb k=>by obtain⟨_,q⟩:=hx.own;have:=(aC.lt q hb).1;omega) (fun b _ k=>Nat.le_of_lt k)⟩,eg⟩
end
end Go.Proofs.YtdihgdeciopfpaaGreatDoor

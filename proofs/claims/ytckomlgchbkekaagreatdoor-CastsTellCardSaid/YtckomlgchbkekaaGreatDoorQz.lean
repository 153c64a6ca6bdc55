/- What the proof of the statement leans on (part 26). -/
import Derived.Lib.LaidTab
import Derived.Test.YtckomlgchbkekaaGreatDoorQy

namespace Go.Proofs.YtckomlgchbkekaaGreatDoor
open Go.Proofs.Tryz
open Go Go.Lw Go.ChangeShapes Go.WideShapes Go.ChangeAt Go.RowKit
set_option maxRecDepth 20000
theorem Ix {W:World}{g t:Nat}{cs:Array Value}{fuel:Nat}{pl:List MemPlace}{sp:Nat->Bool}{held:Bool}{enc:TypeId×Value->Unit}(hg:Tryz.prog.globalNamed "internal/strconv.uint64pow10" =some g) (ht:(Tryz.prog.globals[g]?).map (·.type)=some t) (hv:W.var? Tryz.prog "internal/strconv.uint64pow10" =some cs)
 (hd:DataW.trod enc Tryz.prog W 0 sp held fuel t cs.toList=some (Rows.laid_internal_strconv_uint64pow10,pl)):kY W.heap:=by
 have gT:Tryz.prog.globalNamed "internal/strconv.uint64pow10" =some 2:=by kernel_rfl
 have tT:(Tryz.prog.globals[2]?).map (·.type)=some 288:=by kernel_rfl
 obtain rfl:=Option.some.inj (gT.symm.trans hg);obtain rfl:=Option.some.inj (tT.symm.trans ht);unfold kY;rw[<-zG,hv];have hd2:DataW.trod enc Tryz.prog W 0 sp held fuel 288 cs.toList=some (Lib.tabData .u64 Lib.pow10Tab,pl):=hd;rw[<-Lib.cells_of_tab underlying288 underlying106 (by kernel_rfl) (by kernel_rfl) hd2]
end Go.Proofs.YtckomlgchbkekaaGreatDoor
namespace Go.Proofs.YtckomlgchbkekaaGreatDoor
open Go.Proofs.Tryz
open Go Go.Lw
set_option maxRecDepth 20000 set_option maxHeartbeats 4000000
section
variable {h:ai}
def gS (m:Int):List By:=if m=0 then Gi else if m=1 then Gh else if m=2 then Gg else []
def rF (m:Int):List (By×Int×Int):=List.zipWith (fun r k=>(r,k.1,k.2)) (gS m) (J6 m)
def kH (h:ai):Prop:=∀m:Nat,m<3->∃v,cellAt h ⟨6,m,none⟩=some v/\aR Nk h (fun _=>False) v (rF m)
theorem kH.af {h h':ai}(k:kH h) (e:ah h h'):kH h':=fun m hm=>by
 obtain⟨v,h1,h2⟩:=k m hm;exact⟨v,e.cell (fun k=>k) h1,h2.mv (Mv.af e)⟩
theorem FZ (m:Nat) (hm:m<3):(rF m).length<=10/\(rF m).map (·.1)=gS m:=by
 match m,hm with
 | 0,_=>exact⟨by decide,by decide⟩
 | 1,_=>exact⟨by decide,by decide⟩
 | 2,_=>exact⟨by decide,by decide⟩
theorem DC (r:By×Int×Int):∀v∈gq r,v.oneCell'=true:=fun v hv=>by simp[gq] at hv;rcases hv with rfl|rfl|rfl<;>rfl
theorem Dh {l cap:Nat}{oa:Option Addr}{n c:Nat}{J:Nat->ai->Prop}(hn:n<=1000000) (hmono:∀j h g,J j h->ah h g->J j g)
 (hy:∀j h,J j h->j<n->∃(b o:Nat) (r:By×Int×Int),oa=some ⟨b,o,none⟩/\Lw.rowAt h b (o+j*3) (gq r) /\
  ∀g,J j g->cV Tryz.prog l #[.int .i64 (j:Nat),.agg (gq r).toArray] g (aN fun r h'=>r= .bool true/\J (j+1) h')) (h0:J 0 h) (hread:cellAt h ⟨cap,0,none⟩=some (.slice oa n c)) :
 aj Tryz.prog 269 #[.func (.yield l) #[] #[],.pointer (some ⟨cap,0,none⟩)] h (aN fun _ h'=>J n h'):=by
 refine bf ?_;refine aa ?_;refine xp rfl (aA rfl hread) ?_;refine aa ?_;refine eR (σ:=Nat) (fun j=>[(7,.int .i64 (j:Nat))]) (fun j h'=>J j h'/\j<=n) (fun j=>n-j) (0) ⟨h0,Nat.zero_le _⟩ rfl ?_;rintro j h1 ⟨hJ,hj⟩ ih;refine aa ?_;refine aQ (fun hlt=>?_) (fun hlt=>?_)
 · obtain⟨b,o,r,ha,hrow,hyy⟩:=hy j h1 hJ (by omega)
   iterate 4 refine aI ?_
   refine bU ?_;refine aU ?_;refine xp rfl (bT rfl rfl j rfl ha) ?_;refine xp rfl (bI rfl hrow) ?_;refine xo rfl (cC) ?_;rintro _ g1 ⟨rfl,k1,e1,z1⟩;refine aa ?_;refine aY rfl (bM rfl rfl k1 (DC r)) ?_;rintro _ g2 ⟨rfl,k2,x2,z2⟩;refine bJ ?_;refine aI ?_;have e12:ah h1 g2:=e1.only x2 (Nat.le_refl _);have k2:az g2 h1.size 330 (gq r):=k2;refine G.Cf func269 rfl ?_;refine aV.aB rfl rfl rfl rfl rfl (aD rfl) ?_;refine aV.aB rfl rfl rfl rfl rfl (aD rfl) ?_;refine aV.aB rfl rfl rfl rfl rfl (an.bB H.Ku H.F4 rfl k2.row (by first|rfl|(simp;done)|(simp;omega))) ?_;refine aV.yield (vs:=[_,_]) rfl rfl rfl rfl rfl rfl rfl ((hyy g2 (hmono _ _ _ hJ e12))) ?_;rintro _ h2 ⟨rfl,hJ2⟩;refine aV.aB rfl rfl rfl rfl rfl (an.se rfl) ?_;refine aX rfl ?_;refine bV rfl (by decide) ?_;refine aa ?_;exact ih (j+1) ⟨hJ2,by omega⟩
 · obtain rfl:j=n:=by omega
   refine aa ?_;refine gE ?_;exact⟨_,rfl,hJ⟩
theorem Fz (v:Value) (hv:v.oneCell'=true):aj Tryz.prog 210 #[v] h (aN fun r h'=>r= .func (.func 269) #[] #[.pointer (some ⟨h.size,0,none⟩)]/\h'=h.push (.cells #[v] 328)):=by
 have hcells:v.cells= #[v]:=by cases v<;>simp[Value.oneCell'] at hv<;>rfl
 refine bf ?_;refine aa ?_;refine xo rfl (aH.box rfl) ?_;rintro _ _ ⟨rfl,rfl⟩;refine aa ?_;refine xp rfl (an.makeFunc (vs:=[_]) rfl) ?_;refine aa ?_;refine aW ?_;exact⟨_,rfl,rfl,by rw[hcells]⟩
abbrev I2 (s:By):Value:=.string (bs s)
def Jv (h:ai) (d:Nat) (r0:Loop) (base:Nat) (l:List By) (j:Nat) (g:ai):Prop :=
 bY g (d+1) r0/\g[d]? =some (.deferred (some []))/\ah h g/\base<=g.size/\∃w,az g h.size 47 [w]/\bF I2 g base 9 w (l.take j)
theorem Jv.af {h:ai}{d:Nat}{r0:Loop}{base:Nat}{l:List By}{j:Nat}{g g':ai}(k:Jv h d r0 base l j g) (hd:d<g.size) (e:ah g g'):Jv h d r0 base l j g':=by
 obtain⟨h1,h2,h3,h4,w,h5,h6⟩:=k;exact⟨h1.ext e (fun k=>k),(e.block d hd (fun k=>k)).trans h2,h3.trans e,by have:=e.size;omega,w,h5.af e,bF.af h6 e⟩
theorem EG (hR:kH h) (m:Nat) (hm:m<3) :
 aj Tryz.prog 155 #[.int .i64 (m:Nat)] h (aN fun r h'=>aR I4 h' (fun _=>False) r (gS m)/\ah h h'):=by
 obtain⟨htl,htm⟩:=FZ m hm;generalize hL0:gS (m:Int)=l at *;generalize htb:rF (m:Int)=tb at *;have hll:l.length=tb.length:=by rw[<-htm];simp
 refine bf ?_;refine aI ?_;refine bU ?_;refine aU ?_;refine bJ ?_
 iterate 2 refine aI ?_
 refine dM [(11,.bool false)] rfl ?_ ?_
 · refine aa ?_;refine RW.aO (d:=8) (b':=false) rfl ((by simp)) ?_;refine aa ?_;exact aL rfl ⟨ak rfl (by simp;omega),sb rfl⟩
 · refine bV rfl (by decide) ?_;refine aa ?_;refine xo rfl (cC) ?_;rintro _ h1 ⟨rfl,k3,e1,z1⟩;have k3:az h1 h.size 47 [.slice none 0 0]:=k3;obtain⟨v,hv,hsl⟩:=hR m hm;rw[htb] at hsl;have hsl1:=hsl.mv (Mv.af e1);obtain⟨oa,kn,kc,rfl,hsl2⟩:=hsl1.open;have hkn:=hsl2.len;have hv1:cellAt h1 ⟨6,0+m*1,none⟩=some (.slice oa kn kc):=by rw[Nat.mul_one,Nat.zero_add];exact e1.cell (fun k=>k) hv
   refine bJ ?_
   iterate 2 refine aI ?_
   refine bU ?_;refine aU ?_;refine xp rfl (Ds rfl rfl m rfl (by omega)) ?_;refine xp rfl (aA rfl hv1) ?_;refine xo rfl (aG rfl (Fz (.slice oa kn kc) rfl)) ?_;rintro _ h2 ⟨rfl,hh2⟩;have e2:ah h1 h2:=by rw[hh2];exact Ext.push _ _ _
   have kc2b:az h2 h1.size 328 [.slice oa kn kc]:=by rw[hh2];exact cl _ _ _
   have kc2:cellAt h2 ⟨h1.size,0,none⟩=some (.slice oa kn kc):=kc2b.cell (i:=0) rfl;have z2:h2.size=h1.size+1:=by rw[hh2];simp
   clear hh2;refine aa ?_;refine G.rangeFunc rfl rfl func269 rfl (by decide +kernel) ?_;intro fid tmps hfits;obtain⟨r0,hr0⟩:∃r0,r0=bK fid tmps #[16,17] (FG (Lw.sub (aq f155) [0,1,0,1,1,1])) (FF (Lw.sub (aq f155) [0,1,0,1,1,1])) h2.size:=⟨_,rfl⟩
   obtain⟨hL,hhL⟩:∃hL,hL=(h2.push (.deferred (some []))).push (.loop r0):=⟨_,rfl⟩
   suffices hmain:aj Tryz.prog 269 #[.func (.yield (h2.size+1)) #[] #[],.pointer (some ⟨h1.size,0,none⟩)] hL _ by rw[hhL,hr0] at hmain;exact hmain
   have hst:r0.state= .ready:=by rw[hr0];rfl
   have hpn:r0.pending=none:=by rw[hr0];rfl
   have hps:r0.params= #[16,17]:=by rw[hr0];rfl
   have htm2:r0.tmps=tmps:=by rw[hr0];rfl
   have eL:ah h2 hL:=by rw[hhL];exact(Ext.push _ _ _).trans (Ext.push _ _ _)
   have hLz:hL.size=h2.size+2:=by rw[hhL];simp
   have hloop0:bY hL (h2.size+1) r0:=by
    have hz:h2.size+1=(h2.push (.deferred (some []))).size:=by simp
    rw[bY,hhL,hz];exact Array.getElem?_push_size
   have hdef0:hL[h2.size]? =some (.deferred (some [])):=by
    rw[hhL,(Ext.push (fun _=>False) (h2.push (.deferred (some []))) _).block h2.size (by simp) (fun k=>k)];exact Array.getElem?_push_size
   clear hhL;have e0L:ah h hL:=(e1.trans e2).trans eL;have hJ0:Jv h h2.size r0 hL.size l 0 hL:=⟨hloop0,hdef0,e0L,Nat.le_refl _,_,(k3.af e2).af eL,bF.nil _ _ _ _⟩
   have hcapL:cellAt hL ⟨h1.size,0,none⟩=some (.slice oa kn kc):=eL.cell (fun k=>k) kc2;have hdl:∀j g,Jv h h2.size r0 hL.size l j g->h2.size<g.size:=fun j g k=>by have:=k.2.2.2.1;omega
   refine suff (p:=∀j g,Jv h h2.size r0 hL.size l j g->j<kn->∃(b o:Nat) (r:By×Int×Int),oa=some ⟨b,o,none⟩/\Lw.rowAt g b (o+j*3) (gq r)/\∀g,Jv h h2.size r0 hL.size l j g->cV Tryz.prog (h2.size+1) #[.int .i64 (j:Nat),.agg (gq r).toArray] g (aN fun r h'=>r= .bool true/\Jv h h2.size r0 hL.size l (j+1) h')) ?_ fun hy=>?_
   · intro j g hJg hj;obtain⟨r,hx⟩:∃r,tb[j]? =some r:=⟨_,List.getElem?_eq_getElem (by omega)⟩
     have hslg:=hsl.mv (Mv.af hJg.2.2.1);obtain⟨oa',n',c',hv',_,_,_,hget⟩:=id hslg;cases hv';obtain⟨b,o,cs,ha,hob,hrow,rfl⟩:=hget j r hx;refine⟨b,o,r,ha,hrow,fun g hJg=>?_⟩;obtain⟨hlp,hdf,ehg,hbg,w,kS,hw⟩:=hJg;have hlj:l[j]? =some r.1:=by rw[<-htm,List.getElem?_map,hx];rfl
     have hfit:=A5 (p1:=16) (p2:=17) (v1:=.int .i64 (j:Nat)) (v2:=.agg (gq r).toArray) hfits rfl rfl;rw[<-hps,<-htm2] at hfit;refine cV.of hlp hst (by rw[hps];rfl) hfit ((congrArg Loop.assign hr0).trans rfl) ((congrArg Loop.body hr0).trans rfl) ?_;refine aV.r9 rfl rfl rfl rfl rfl (aH.lW H.JF) ?_;rintro _ g1 ⟨rfl,k5,e1',zz1⟩;refine aV.mL rfl rfl rfl rfl (aH.bZ H.F4 rfl rfl k5 (by first|rfl|(simp;done)|(simp;omega)) (by first|decide|exact of_decide_eq_true rfl|(simp;done)|(simp;omega)) (DC r)) ?_;rintro _ g2 ⟨rfl,k5',e2',zz2⟩;refine aX rfl ?_;have e12:ah g g2:=e1'.only e2' (Nat.le_refl _);have k5':az g2 g.size 330 (gq r):=k5';refine⟨(e12.block _ hlp.lt (fun k=>k)).trans hlp,?_⟩;obtain⟨g3,hg3⟩:∃g3,g3=Lw.bA g2 (h2.size+1) (.loop { r0 with state:=.busy }):=⟨_,rfl⟩
     rw[<-hg3];have hlz:=hlp.lt;have hz2:=e12.size;have hz1:=e1.size;have e23:Ext (fun b=>b=h2.size+1) g2 g3:=by rw[hg3];exact Ext.bA _ _ _ rfl
     have hlp3:bY g3 (h2.size+1) { r0 with state:=.busy }:=by rw[bY,hg3];exact gi (by omega)
     have hz3:=e23.size;have kS3:=(kS.af e12).ext e23 (show ¬h.size=h2.size+1 by omega);have k53:=k5'.ext e23 (show ¬g.size=h2.size+1 by omega);have hwge:∀b,w.ownBlock=some b->hL.size<=b:=fun b hb=>(ay.lt hw hb).1
     have hw3:ay g3 hL.size 9 1 w (l.take j).length ((l.take j).map I2):=ay.ext e23 (bF.af hw e12) (fun b hb k=>by have:=hwge b hb;omega);have hjl:(l.take j).length=j:=by rw[List.length_take];omega
     refine aV.aB rfl rfl rfl rfl rfl (bn H.Lp rfl (kS3.cell (i:=0) rfl)) ?_;refine aV.aB rfl rfl rfl rfl rfl (aM (off:=0) underlying330 rfl rfl H.BP rfl) ?_;refine aV.aB rfl rfl rfl rfl rfl (bn H.Ov rfl (k53.cell (i:=0) rfl)) ?_;refine aV.r9 rfl rfl rfl rfl rfl (aH.pq (us:=[_]) underlying47 H.Kg rfl rfl (by decide) (by simp[Value.oneCell'])) ?_;rintro _ _ ⟨rfl,rfl⟩;refine aV.r9 rfl rfl rfl rfl rfl (aH.dO underlying47 H.Kg rfl rfl (hw3) rfl rfl (by first|decide|simp[Value.oneCell']) (by omega) (by decide) (by omega)) ?_;rintro v4 g4 ⟨ho4,hx4,hx4',hv4⟩;have kS4:=kS3.ext hx4 (fun k=>by have:=hwge _ k.symm;omega);have hz4:=hx4.size;have hw4:bF I2 g4 hL.size 9 v4 (l.take j++[r.1]):=bF.of (ys:=[r.1]) ho4 rfl rfl rfl;obtain⟨va4,vc4,rfl,_⟩:=ho4.open;refine aV.mL rfl rfl rfl rfl (aH.br H.F3 rfl rfl kS4 (by first|decide|exact of_decide_eq_true rfl|(simp;done)|(simp;omega)) rfl) ?_;rintro _ g5 ⟨rfl,kS5,e5',zz5⟩;refine aX rfl ?_;have kS5:az g5 h.size 47 [.slice va4 ((l.take j).length+1) vc4]:=by simpa using kS5
     have hlp5:bY g5 (h2.size+1) { r0 with state:=.busy }:=(hlp3.ext hx4 (fun k=>by have:=hwge _ k.symm;omega)).ext e5' (show ¬h2.size+1=h.size by omega);have hr2:({ ({ r0 with state:=.busy }:Loop) with state:=.ready,pending:=none }:Loop)=r0:=by cases r0;simp at hst hpn;simp[hst,hpn]
     have hz5:=e5'.size;refine⟨_,hlp5,rfl,?_⟩;rw[hr2];have e56:Ext (fun b=>b=h2.size+1) g5 (Lw.bA g5 (h2.size+1) (.loop r0)):=Ext.bA _ _ _ rfl;have hlz5:=hlp5.lt
     have hblk:∀b,b<hL.size->¬b=h.size->¬b=h2.size+1->b<g.size->(Lw.bA g5 (h2.size+1) (.loop r0))[b]? =g[b]? :=fun b hb n1 n2 hbg=>by
      rw[e56.block b (by omega) n2,e5'.block b (by omega) n1,hx4.block b (by omega) (fun k=>by have:=hwge _ k.symm;omega),e23.block b (by omega) n2,e12.block b hbg (fun k=>k)]
     have hv4ge:∀b,(Value.slice va4 ((l.take j).length+1) vc4).ownBlock=some b->hL.size<=b:=fun b hb=>(ay.lt hw4 hb).1
     refine⟨gi hlz5,by rw[hblk h2.size (by omega) (by omega) (by omega) (by omega)];exact hdf,⟨by have:=e56.size;have:=ehg.size;omega,fun b hb _=>?_⟩,by have:=e56.size;omega,_,kS5.ext e56 (show ¬h.size=h2.size+1 by omega),?_⟩
     · rw[hblk b (by omega) (by omega) (by omega) (by have:=ehg.size;omega)];exact ehg.block b hb (fun k=>k)
     · rw[List.take_add_one,hlj];exact ay.ext e56 (ay.ext e5' hw4 (fun b hb k=>by have:=hv4ge b hb;omega)) (fun b hb k=>by have:=hv4ge b hb;omega)
   · refine(Dh (l:=h2.size+1) (cap:=h1.size) (n:=kn) (c:=kc) (oa:=oa) (J:=Jv h h2.size r0 hL.size l) (by omega) (fun j g g' k e=>k.af (hdl j g k) e) hy hJ0 hcapL).mono fun e g hJ=>?_
     obtain⟨u,rfl,hlp,hdf,ehg,hbg,w,kS,hw⟩:=hJ;rw[List.take_of_length_le (by omega)] at hw;refine⟨_,rfl,r0,hlp,by rw[hst];decide,hpn,?_⟩;have hz1:=e1.size;have hlz:=hlp.lt;have e6:Ext (fun b=>b=h2.size+1) g (Lw.bA g (h2.size+1) (.loop { r0 with state:=.exhausted })):=Ext.bA _ _ _ rfl;have kSe:=kS.ext e6 (show ¬h.size=h2.size+1 by omega);have hdfe:=(e6.block h2.size (by omega) (show ¬h2.size=h2.size+1 by omega)).trans hdf;have hwge:∀b,w.ownBlock=some b->hL.size<=b:=fun b hb=>(ay.lt hw hb).1
     have hwe:=ay.ext e6 hw (fun b hb k=>by have:=hwge b hb;omega);refine GD.gr ?_;refine GD.seq rfl ?_;refine GD.eE func155 rfl ?_;refine fE.aB rfl rfl rfl rfl (bn H.Lp rfl (kSe.cell (i:=0) rfl)) ?_;refine fE.aB rfl rfl rfl rfl (an.assign rfl) ?_;refine eD rfl ?_;refine GD.sub (ρ':=[(0,_),(2,_),(3,_),(11,_),(15,_)]) ⟨rfl,rfl,rfl,rfl,rfl,trivial⟩ ?_;refine GD.DH func155 rfl hdfe rfl ?_;have e7:Ext (fun b=>b=h2.size) (Lw.bA g (h2.size+1) (.loop { r0 with state:=.exhausted })) (Lw.bA (Lw.bA g (h2.size+1) (.loop { r0 with state:=.exhausted })) h2.size (.deferred none)):=Ext.bA _ _ _ rfl;have hz6:=e6.size;have hz7:=e7.size;refine⟨_,rfl,bF.read (h1:=fun _=>rfl) (show bF I2 _ hL.size 9 w l from ay.ext e7 hwe (fun b hb k=>by have:=hwge b hb;omega)) (fun _ _ k=>k),⟨by have:=ehg.size;omega,fun b hb _=>?_⟩⟩;rw[e7.block b (by have:=ehg.size;omega) (by omega),e6.block b (by have:=ehg.size;omega) (by omega)];exact ehg.block b hb (fun k=>k)
def nY (m:Int):gY:=match tG (gS m) with|.inr d=>d|.inl _=>⟨[],[]⟩
theorem B1 {ss:List cL}(h1:ss.length<=30000) (h2:wQ ss<=110000) :  ss.length<=1000000/\1+rV ss (List.replicate ss.length false)<=1000000/\∀c now,List.Sublist now (List.range ss.length)->(stepG ss c now []).length+rV ss (List.replicate ss.length false)<=1000000:=by
 have h3:=Gx ss (List.replicate ss.length false);refine⟨by omega,by omega,fun c now hs=>?_⟩;have:=Ew c hs;omega
abbrev HX (ss:List cL) (st:Nat):Prop:=(∀x∈ss,∀j∈x.to,j<ss.length)/\st<ss.length/\ss.length<=30000/\wQ ss<=110000/\∀x∈ss,x.rule<=1000000
theorem K1 (m:Nat) (hm:m<3):∃ss st,fV (gS m)= .inr (ss,st)/\tG (gS m)= .inr (nY m)/\iH ss st= .inr (nY m)/\((nY m).Ok/\0<(nY m).next.length)/\HX ss st:=by
 have key:∀{ss st}{H:List (List Nat×Nat)}{tab reps:List UInt8},fV (gS m)= .inr (ss,st)->iW ss tab reps=true->o8 ss H reps=true->(yj H (b9 ss st)=some 0/\b9 ss st≠[]/\¬0<=bQ ss (b9 ss st))->H.length<=2000->HX ss st->∃ss st,fV (gS m)= .inr (ss,st)/\tG (gS m)= .inr (nY m)/\iH ss st= .inr (nY m)/\((nY m).Ok/\0<(nY m).next.length)/\HX ss st:=fun {ss st H _ _} hm hr ha hs hH h9=>by
  obtain⟨d,hd⟩:=Bf (Hz hr ha) (by simpa using hH) (fun e=>hs.2.1 (List.length_eq_zero_iff.1 e)) (List.mem_map.2 ⟨_,sX hs.1,rfl⟩);have h5:tG (gS m)= .inr d:=by unfold tG;rw[hm];exact hd
  have h6:nY m=d:=by unfold nY;rw[h5]
  rw[h6];obtain⟨_,L,k1,h2,h3⟩:=yE hd;exact⟨ss,st,hm,h5,hd,⟨k1.ok h2 h9.2.2.2.2,by omega⟩,h9⟩
 match m,hm with
 | 0,_=>exact key Qf Nv Nz Ns yh.1 (by decide +kernel)
 | 1,_=>exact key KY Nu Ny Nr yh.2.1 (by decide +kernel)
 | 2,_=>exact key Qe Nt Nw Nq yh.2.2 (by decide +kernel)
def Oo:fS gY:=⟨1,by decide,fun h O cs d=>∃db,cs=[.pointer (some ⟨db,0,none⟩)]/\pI h O db d,fun h=>by obtain⟨db,rfl,_⟩:=h;rfl,fun h=>by
 obtain⟨db,rfl,_⟩:=h;intro u hu;simp at hu;subst hu;rfl,fun h m=>by
 obtain⟨db,hc,hv⟩:=h;exact⟨db,hc,hv.mv m⟩⟩
def vY (k:Nat):List gY:=([0,1,2].take k).map fun m:Int=>Cs (nY m)
theorem CA (k:Nat) (hk:k<3):vY (k+1)=vY k++[Cs (nY k)]/\(vY k).length=k:=by
 match k,hk with
 | 0,_=>exact⟨rfl,rfl⟩
 | 1,_=>exact⟨rfl,rfl⟩
 | 2,_=>exact⟨rfl,rfl⟩
def vB (O:Nat->Prop) (h:ai) (p:Value):Prop:=∃lb vm,p= .pointer (some ⟨lb,0,none⟩)/\¬O lb/\az h lb 242 [vm]/\aR Oo h O vm (vY 3)
theorem vB.mv {O O':Nat->Prop}{h h':ai}{p:Value}(k:vB O h p) (m:Mv O O' h h'):vB O' h' p:=by
 obtain⟨lb,vm,h1,ho,h2,h3⟩:=k;have hm:=m.block lb h2.lt ho;exact⟨lb,vm,h1,hm.2,hm.1.trans h2,h3.mv m⟩
theorem vB.tP {O:Nat->Prop}{h':ai}{b:Nat}{p:Value}(k:vB (fun x=>x=b\/O x) h p) (x:Ext (fun y=>y=b) h h'):vB (fun x=>x=b\/O x) h' p:=k.mv (Mv.dI x fun _ _ ho=>⟨fun q=>ho (.inl q),ho⟩)
theorem Co {lim:Nat}(hg:Sg h lim) (hlim:lim<=h.size) (htens:kY h) (hR:kH h) :
 aj Tryz.prog 108 #[] h (aN fun r h'=>vB (fun b=>b<h.size) h' r/\ah h h'):=by
 refine bf ?_;refine aa ?_;refine xp rfl (au (H.Lm ) rfl) ?_;refine xo rfl (cM) ?_;rintro _ h1 ⟨rfl,k1,e1,z1⟩;have k1:az h1 h.size 242 [.slice none 0 0]:=k1;refine aa ?_;refine eR (σ:=Nat×Value) (fun q=>[(2,.int .i64 (q.1:Nat))]) (fun q h'=>q.1<=3/\ah h h'/\az h' h.size 242 [q.2]/\eY Oo (fun b=>b<=h.size) h' h1.size 247 q.2 (vY q.1)/\h1.size<=h'.size) (fun q=>3-q.1) ((0,.slice none 0 0)) ⟨by decide,e1,k1,eY.nil _ _ _ _ _,Nat.le_refl _⟩ rfl ?_;rintro⟨m,vm⟩ g ⟨hm,eg,kb,hx,hz⟩ ih
 try dsimp only
 dsimp only at hm kb hx;refine aa ?_;refine aQ (fun hlt=>?_) (fun hlt=>?_)
 · have hm3:m<3:=by omega
   obtain⟨ss,st,hmk,hdm,hdk,hok,hMg,hMs,hMl,hMt,_⟩:=K1 m hm3;obtain⟨hnext,hlen⟩:=CA m hm3
   skip
   skip
   have hb:=B1 hMl hMt
   have hrl:∀s∈gS m,s.length<=1000000:=by
    have:m=0\/m=1\/m=2:=by omega
    rcases this with rfl|rfl|rfl
    · exact of_decide_eq_true rfl
    · exact of_decide_eq_true rfl
    · exact of_decide_eq_true rfl
   refine aa ?_;refine xo rfl (aG rfl (EG (hR.af eg) m hm3)) ?_;rintro _ g1 ⟨hr1,f1⟩;have eg1:=eg.trans f1;refine xo rfl (aG rfl (EP (hg.ext eg1 (fun _ k=>k.elim)) (by have:=eg1.size;omega) hr1 hrl)) ?_;rintro _ g2 ⟨⟨p,rfl,hp⟩,f2⟩
   have hp:∃(O:Nat->Prop) (nb:Nat) (v:Value),p= .pointer (some ⟨nb,0,none⟩)/\bD g2 O nb v ss st:=by
    rcases hp with ⟨e,he,_⟩|⟨O,nb,v,ss',st',hp,hn,hm'⟩
    · rw[hmk] at he;cases he
    · rw[hmk] at hm';cases hm';exact⟨O,nb,v,hp,hn⟩
   obtain⟨O,nb,v,rfl,hn⟩:=hp;have eg2:=eg1.trans f2;refine aa ?_;refine xo rfl (aG rfl (Be (htens.af eg2) hn hMg hMl hMs hb.2.1 hb.2.2)) ?_;rintro r3 g3 ⟨hr3,f3⟩;unfold zv at hr3;rw[hdk] at hr3;obtain⟨db,rfl,hk⟩:=hr3;have eg3:=eg2.trans f3;have f03:=(f1.trans f2).trans f3;have zz:=f03.size;have kb3:=kb.af f03;have hx3:=hx.af f03;obtain⟨css3,_,hw3,_⟩:=id hx3;have vge:∀b,vm.ownBlock=some b->h1.size<=b/\b<g3.size:=fun b hb=>hw3.lt hb
   have hkM:¬(b8 vm.ownBlock h.size\/Array.size g3<=h.size):=by
    rintro(k|k)
    · have:=(vge _ k.symm).1;omega
    · omega
   refine aa ?_;refine uq 12 (fun b=>b8 vm.ownBlock b\/Array.size g3<=b) (fun i=>Nat.blt i 11) ?_;refine ax 0 ?_;refine ax 1 ?_;refine ax 2 ?_;refine ax 3 ?_;refine aS 4 rfl (fun h' e=>aA rfl (e.cell hkM (kb3.cell (i:=0) rfl))) ?_;refine ax 5 ?_;refine ct 6 rfl (aG rfl (Hv (htens.af eg3) hk hok.1 hok.2)) ?_;rintro r4 g4 ⟨⟨b4,rfl,hk4⟩,f4⟩;refine⟨fun _=>f4.mono (fun _ _ k=>k.elim),?_⟩;have hx4:=hx3.af f4;have kb4:=kb3.af f4;have z4:=f4.size;obtain⟨css,hc1,hc2,hc3⟩:=id hx4;rw[hlen] at hc2;refine ct 7 rfl (kI [_]) ?_;rintro _ _ ⟨rfl,rfl⟩;refine⟨fun _=>by first|exact Ext.push _ _ _|assumption,?_⟩;refine ct 8 rfl (Dr rfl rfl hc2 rfl rfl) ?_;rintro v5 g5 ⟨ho5,hx5,hx5',hv5⟩;refine⟨fun _=>hx5'.mono (fun _ _ k=>.inl k),?_⟩
   have hnew:pI g4 (fun b=>b8 vm.ownBlock b\/b<=h.size) b4 (Cs (nY m)):=hk4.mv ⟨Nat.le_refl _,fun b _ hn=>⟨rfl,fun k=>hn (by
    rcases k with k|k
    · exact(vge _ k.symm).2
    · omega)⟩⟩
   have hx5w:=eY.mZ (e:=Oo) (h:=g4) (v:=vm) (css:=css) (cs:=[.pointer (some ⟨b4,0,none⟩)]) (y:=Cs (nY m)) (O:=fun b=>b<=h.size) hc1 hc3 (by rw[hlen];exact ho5) hx5 hv5 ⟨b4,rfl,hnew⟩;obtain⟨va5,vc5,rfl,_⟩:=ho5.open;have z5:=hx5.size;have kb5:=kb4.ext hx5 (fun k=>by have:=(vge _ k.symm).1;omega);have v5ge:∀b,(Value.slice va5 (m+1) vc5).ownBlock=some b->h1.size<=b:=fun b hb=>(ho5.lt hb).1
   refine BO 9 ?_;refine ax 10 ?_;refine eK 11 rfl (b7 rfl rfl kb5) ?_;rintro _ g6 ⟨rfl,kb6,x6,z6⟩;refine⟨nofun,?_⟩;have kb6:az g6 h.size 242 [.slice va5 (m+1) vc5]:=by simpa using kb6
   have hx6:=hx5w.EO (O':=fun b=>b<=h.size) x6 (fun b hb k=>by have:=v5ge b hb;omega) (fun b _ k=>Nat.le_of_eq k) (fun b _ k=>k)
   have eg6:ah h g6:=⟨by have:=x6.size;omega,fun b hb _=>by
    rw[x6.block b (by omega) (by omega),hx5.block b (by omega) (fun k=>by have:=(vge _ k.symm).1;omega),f4.block b (by omega) (fun k=>k)];exact eg3.block b hb (fun k=>k)⟩
   refine dP ?_;refine aa ?_;exact ih (m+1,_) ⟨by show m+1<=3;omega,eg6,kb6,by show eY Oo _ g6 h1.size _ _ (vY (m+1));rw[hnext];exact hx6,by have:=x6.size;omega⟩
 · obtain rfl:m=3:=by omega
   refine aa ?_;refine aW ?_;exact⟨_,rfl,⟨h.size,vm,rfl,Nat.lt_irrefl _,kb,hx.Gp (fun b hb k=>by obtain⟨_,q⟩:=hx.own;have:=(ay.lt q hb).1;omega) (fun b _ k=>Nat.le_of_lt k)⟩,eg⟩
end
end Go.Proofs.YtckomlgchbkekaaGreatDoor

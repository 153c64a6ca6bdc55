/- Part 24. -/
import Derived.Deep.Fields
import Derived.OpenShut
import Derived.Test.YtnjahnbpnpkmhaaGreatDoorQw

namespace Go.Lw
open Go.ChangeShapes Go.WideShapes Go.ChangeAt Go.RowKit
section
variable {W:World}{fuel:Nat}{sp:Nat->Bool}{held:Bool}{t:TypeId}{cs:List Value}{pl:List MemPlace}
variable {H:Type}{enc:TypeId×Value->H}{P:Program}
theorem rW {base:Nat}{l:List UInt8}(I:P.underlying t=some .string)
 (h:DataW.trod enc P W base sp held fuel t cs=some (.lit (.string l),pl)):cs=[.string ⟨l.toArray⟩]:=by
 cases fuel with
 |zero=>simp[DataW.trod] at h
 |succ n =>
  rw[DataW.trod_step] at h;unfold DataW.trodStep at h;rw[I] at h;split at h<;>try (first|cases h|(simp at *;done))
  rename_i s _ _;split at h
  · simp only[Option.some.injEq,Prod.mk.injEq,DataW.lit.injEq,Lit.string.injEq] at h;rw[<-h.1]
  · cases h
theorem jL {base:Nat}{k k':IntKind}{i:Int}(I:P.underlying t=some (.int k))
 (h:DataW.trod enc P W base sp held fuel t cs=some (.lit (.int k' i),pl)):cs=[.int k i]:=by
 cases fuel with
 |zero=>simp[DataW.trod] at h
 |succ n =>
  rw[DataW.trod_step] at h;unfold DataW.trodStep at h;rw[I] at h;split at h<;>simp_all
def fC (r:List UInt8×Int×Int):List Value:=[.string ⟨r.1.toArray⟩,.int .i64 r.2.1,.int .i64 r.2.2]
def MW:gW (List UInt8×Int×Int):=.record 3 (by decide) fC (λ_=>rfl) (λx v hv=>by simp[fC] at hv;rcases hv with rfl|rfl|rfl<;>rfl)
def je (r:List UInt8×Int×Int):DataW H:=.agg [.lit (.string r.1),.lit (.int .i64 r.2.1),.lit (.int .i64 r.2.2)]
theorem Hh {e:TypeId}{f0 f1 f2:Field}{L:List (List UInt8×Int×Int)}{rest:List (DataW H)}
 (ht:P.underlying t=some (.slice e)) (he:P.underlying e=some (.struct #[f0,f1,f2])) (hC:P.cellsOf e=3)
 (o0:f0.offset=0) (o1:f1.offset=1) (o2:f2.offset=2) (t0:P.underlying f0.type=some .string) (t1:P.underlying f1.type=some (.int .i64)) (t2:P.underlying f2.type=some (.int .i64)) (c0:P.cellsOf f0.type=1) (c1:P.cellsOf f1.type=1) (c2:P.cellsOf f2.type=1)
 (h:DataW.trod enc P W 0 sp held fuel t cs=some (.slice (L.map je) rest,pl)):∃v,cs=[v]/\aL MW W.heap (λ_=>False) v L:=by
 rcases Deep.open_slice ht h with ⟨_,hx⟩|⟨a,len,cap,m,n,D,Pl,rfl,_,hle,hm,am,hx,ac⟩
 · simp at hx
 · simp only[Prod.mk.injEq,DataW.slice.injEq] at hx;have hlen:L.length=len:=by have:=congrArg List.length hx.1.1;simpa using this
   have hlm:len<=m:=by rw[am];split<;>omega
   have hD:∀(i:Nat) (r:List UInt8×Int×Int),L[i]? =some r->D i=je r:=λi r hr=>by
    have ab:i<len:=by rw[<-hlen];exact(List.getElem?_eq_some_iff.1 hr).1
    have:=congrArg (λz=>z[i]?) hx.1.1;simp only[List.getElem?_map,hr,Option.map_some,List.getElem?_range ab,Option.some.injEq] at this;exact this.symm
   refine⟨_,rfl,some a,len,cap,rfl,hlen,hle,hm,λi r hr=>?_⟩;have ab:i<len:=by rw[<-hlen];exact(List.getElem?_eq_some_iff.1 hr).1
   obtain⟨ap,ae,ad⟩:=ac i (by omega);rw[hC] at ae;rw[hD i r hr] at ad;obtain⟨_,ao,Z⟩:=World.cells?_some ae;obtain⟨xs,k,_,U,_,ak,Y⟩:=DataW.trod_struct he ad;simp only[Prod.mk.injEq,je,DataW.agg.injEq] at U;have al:xs.length=3:=ak
   match ap,ao,xs,al with
   | [u0,u1,u2],_,[x0,x1,x2],_ =>
    have g0:=Y 0 f0 rfl;have g1:=Y 1 f1 rfl;have g2:=Y 2 f2 rfl;rw[o0,c0] at g0;rw[o1,c1] at g1;rw[o2,c2] at g2;simp only[List.map_cons,List.map_nil,List.cons.injEq,and_true] at U;obtain⟨⟨e0,e1,e2⟩,_⟩:=U;have q0:[u0]=[.string ⟨r.1.toArray⟩]:=rW t0 (pl:=x0.2) (by rw[e0];exact g0);have q1:[u1]=[.int .i64 r.2.1]:=jL t1 (pl:=x1.2) (k':=.i64) (by rw[e1];exact g1);have q2:[u2]=[.int .i64 r.2.2]:=jL t2 (pl:=x2.2) (k':=.i64) (by rw[e2];exact g2);simp only[List.cons.injEq,and_true] at q0 q1 q2;subst q0;subst q1;subst q2;obtain⟨cs0,ag,_⟩:=ac 0 (by omega);rw[hC] at ag;obtain⟨_,hcl0,J⟩:=World.cells?_some ag;have aa:=J 0 (by omega);rw[List.getElem?_eq_getElem (by omega)] at aa;have I:a.spot=none:=by simpa [Addr.add] using World.cell?_spot aa
    obtain⟨b,o,spot⟩:=a;have I:spot=none:=I;subst I;refine⟨b,o,fC r,rfl,λk=>k,λj u hj=>?_,rfl⟩
    have an:j<3:=by
     rcases Nat.lt_or_ge j 3 with h2|h2
     · exact h2
     · rw[List.getElem?_eq_none (by simpa [fC] using h2)] at hj;cases hj
    have:=Z j an;rw[Deep.add_add,Addr.add_mid,dX] at this
    show cellAt W.heap ⟨b,o+i*3+j,none⟩=some u
    rw[Nat.add_assoc,this];exact hj
end
end Go.Lw
namespace Go.Proofs.YtnjahnbpnpkmhaaGreatDoor
open Go.Proofs.Tryz
open Go Go.Lw
set_option maxRecDepth 20000 set_option maxHeartbeats 4000000
section
variable {h:aq}
def bX (m:Int):List By:=if m=0 then wK else if m=1 then wJ else if m=2 then wI else []
def qQ (m:Int):List (By×Int×Int):=List.zipWith (λr k=>(r,k.1,k.2)) (bX m) (qE m)
def n5 (h:aq):Prop:=∀m:Nat,m<3->∃v,cellAt h ⟨0,m,none⟩=some v/\aL MW h (λ_=>False) v (qQ m)
theorem n5.ah {h h':aq}(k:n5 h) (e:aj h h'):n5 h':=λm hm=>by
 obtain⟨v,h1,I⟩:=k m hm;exact⟨v,e.cell (λk=>k) h1,I.mv (Mv.ah e)⟩
theorem Il (m:Nat) (hm:m<3):(qQ m).length<=10/\(qQ m).map (·.1)=bX m:=by
 match m,hm with
 | 0,_=>exact⟨by decide,by decide⟩
 | 1,_=>exact⟨by decide,by decide⟩
 | 2,_=>exact⟨by decide,by decide⟩
theorem sd (r:By×Int×Int):∀v∈fC r,v.oneCell'=true:=λv I=>by simp[fC] at I;rcases I with rfl|rfl|rfl<;>rfl
theorem Fe {l cap:Nat}{oa:Option Addr}{n c:Nat}{J:Nat->aq->Prop}(hn:n<=1000000) (hmono:∀j h g,J j h->aj h g->J j g)
 (hy:∀j h,J j h->j<n->∃(b o:Nat) (r:By×Int×Int),oa=some ⟨b,o,none⟩/\Lw.rowAt h b (o+j*3) (fC r) /\
  ∀g,J j g->nX prog l #[.int .i64 (j:Nat),.agg (fC r).toArray] g (bK λr h'=>r= .bool true/\J (j+1) h')) (h0:J 0 h) (hread:cellAt h ⟨cap,0,none⟩=some (.slice oa n c)) :
 au prog 80 #[.func (.yield l) #[] #[],.pointer (some ⟨cap,0,none⟩)] h (bK λ_ h'=>J n h'):=by
 refine bJ ?_;refine af ?_;refine xp rfl (aA rfl hread) ?_;refine af ?_;refine fK (σ:=Nat) (λj=>[(7,.int .i64 (j:Nat))]) (λj h'=>J j h'/\j<=n) (λj=>n-j) (0) ⟨h0,Nat.zero_le _⟩ rfl ?_;rintro j h1 ⟨hJ,hj⟩ ih;refine af ?_;refine aN (λhlt=>?_) (λhlt=>?_)
 · obtain⟨b,o,r,ha,hrow,hyy⟩:=hy j h1 hJ (by omega)
   iterate 4 refine aQ ?_
   refine cI ?_;refine aR ?_;refine xp rfl (bZ rfl rfl j rfl ha) ?_;refine xp rfl (cj rfl hrow) ?_;refine xo rfl (cL) ?_;rintro _ g1 ⟨rfl,k1,e1,z1⟩;refine af ?_;refine aO rfl (aZ rfl rfl k1 (sd r)) ?_;rintro _ g2 ⟨rfl,k2,x2,z2⟩;refine cO ?_;refine aQ ?_;have e12:aj h1 g2:=e1.only x2 (Nat.le_refl _);have k2:aC g2 h1.size 117 (fC r):=k2;refine G.NZ func80 rfl ?_;refine iF.cC rfl rfl rfl rfl rfl (fu rfl) ?_;refine iF.cC rfl rfl rfl rfl rfl (fu rfl) ?_;refine iF.cC rfl rfl rfl rfl rfl (az.kD H.Mf H.Ir rfl k2.row (by first|rfl|(simp;done)|(simp;omega))) ?_;refine Av (vs:=[_,_]) rfl rfl rfl rfl rfl rfl rfl ((hyy g2 (hmono _ _ _ hJ e12))) ?_;rintro _ h2 ⟨rfl,hJ2⟩;refine iF.cC rfl rfl rfl rfl rfl (az.MH rfl) ?_;refine mT rfl ?_;refine dB rfl (by decide) ?_;refine af ?_;exact ih (j+1) ⟨hJ2,by omega⟩
 · obtain rfl:j=n:=by omega
   refine af ?_;refine D4 ?_;exact⟨_,rfl,hJ⟩
theorem HM (v:Value) (J:v.oneCell'=true):au prog 44 #[v] h (bK λr h'=>r= .func (.func 80) #[] #[.pointer (some ⟨h.size,0,none⟩)]/\h'=h.push (.cells #[v] 115)):=by
 have I:v.cells= #[v]:=by cases v<;>simp[Value.oneCell'] at J<;>rfl
 refine bJ ?_;refine af ?_;refine xo rfl (B2 rfl) ?_;rintro _ _ ⟨rfl,rfl⟩;refine af ?_;refine xp rfl (jR (vs:=[_]) rfl) ?_;refine af ?_;refine aP ?_;exact⟨_,rfl,rfl,by rw[I]⟩
abbrev BI (s:By):Value:=.string (bs s)
def Lt (h:aq) (d:Nat) (r0:Loop) (base:Nat) (l:List By) (j:Nat) (g:aq):Prop :=
 eG g (d+1) r0/\g[d]? =some (.deferred (some []))/\aj h g/\base<=g.size/\∃w,aC g h.size 73 [w]/\bN BI g base 9 w (l.take j)
theorem Lt.ah {h:aq}{d:Nat}{I:Loop}{base:Nat}{l:List By}{j:Nat}{g J:aq}(k:Lt h d I base l j g) (U:d<g.size) (e:aj g J):Lt h d I base l j J:=by
 obtain⟨h1,h2,h3,h4,w,Z,Y⟩:=k;exact⟨h1.ext e (λk=>k),(e.block d U (λk=>k)).trans h2,h3.trans e,by have:=e.size;omega,w,Z.ah e,bN.ah Y e⟩
theorem GQ (hR:n5 h) (m:Nat) (hm:m<3) :
 au prog 24 #[.int .i64 (m:Nat)] h (bK λr h'=>aL oA h' (λ_=>False) r (bX m)/\aj h h'):=by
 obtain⟨htl,htm⟩:=Il m hm;generalize hL0:bX (m:Int)=l at *;generalize htb:qQ (m:Int)=tb at *;have hll:l.length=tb.length:=by rw[<-htm];simp
 refine bJ ?_;refine aQ ?_;refine cI ?_;refine aR ?_;refine cO ?_
 iterate 2 refine aQ ?_
 refine dU [(11,.bool false)] rfl ?_ ?_
 · refine af ?_;refine RW.bw (d:=8) (b':=false) rfl ((by simp)) ?_;refine af ?_;exact aD rfl ⟨ai rfl (by simp;omega),sb rfl⟩
 · refine dB rfl (by decide) ?_;refine af ?_;refine xo rfl (cL) ?_;rintro _ h1 ⟨rfl,k3,e1,z1⟩;have k3:aC h1 h.size 73 [.slice none 0 0]:=k3;obtain⟨v,hv,hsl⟩:=hR m hm;rw[htb] at hsl;have hsl1:=hsl.mv (Mv.ah e1);obtain⟨oa,kn,kc,rfl,hsl2⟩:=hsl1.open;have hkn:=hsl2.len;have hv1:cellAt h1 ⟨0,0+m*1,none⟩=some (.slice oa kn kc):=by rw[Nat.mul_one,Nat.zero_add];exact e1.cell (λk=>k) hv
   refine cO ?_
   iterate 2 refine aQ ?_
   refine cI ?_;refine aR ?_;refine xp rfl (y8 rfl rfl m rfl (by omega)) ?_;refine xp rfl (aA rfl hv1) ?_;refine xo rfl (aE rfl (HM (.slice oa kn kc) rfl)) ?_;rintro _ h2 ⟨rfl,hh2⟩;have e2:aj h1 h2:=by rw[hh2];exact Ext.push _ _ _
   have kc2b:aC h2 h1.size 115 [.slice oa kn kc]:=by rw[hh2];exact Gm _ _ _
   have kc2:cellAt h2 ⟨h1.size,0,none⟩=some (.slice oa kn kc):=kc2b.cell (i:=0) rfl;have z2:h2.size=h1.size+1:=by rw[hh2];simp
   clear hh2;refine af ?_;refine vj rfl rfl func80 rfl (by decide +kernel) ?_;intro fid tmps hfits;obtain⟨r0,hr0⟩:∃r0,r0=nD fid tmps #[16,17] (QA (Lw.sub (ax f24) [0,1,0,1,1,1])) (Qz (Lw.sub (ax f24) [0,1,0,1,1,1])) h2.size:=⟨_,rfl⟩
   obtain⟨hL,hhL⟩:∃hL,hL=(h2.push (.deferred (some []))).push (.loop r0):=⟨_,rfl⟩
   suffices hmain:au prog 80 #[.func (.yield (h2.size+1)) #[] #[],.pointer (some ⟨h1.size,0,none⟩)] hL _ by rw[hhL,hr0] at hmain;exact hmain
   have hst:r0.state= .ready:=by rw[hr0];rfl
   have hpn:r0.pending=none:=by rw[hr0];rfl
   have hps:r0.params= #[16,17]:=by rw[hr0];rfl
   have htm2:r0.tmps=tmps:=by rw[hr0];rfl
   have eL:aj h2 hL:=by rw[hhL];exact(Ext.push _ _ _).trans (Ext.push _ _ _)
   have hLz:hL.size=h2.size+2:=by rw[hhL];simp
   have hloop0:eG hL (h2.size+1) r0:=by
    have hz:h2.size+1=(h2.push (.deferred (some []))).size:=by simp
    rw[eG,hhL,hz];exact Array.getElem?_push_size
   have hdef0:hL[h2.size]? =some (.deferred (some [])):=by
    rw[hhL,(Ext.push (λ_=>False) (h2.push (.deferred (some []))) _).block h2.size (by simp) (λk=>k)];exact Array.getElem?_push_size
   clear hhL;have e0L:aj h hL:=(e1.trans e2).trans eL;have hJ0:Lt h h2.size r0 hL.size l 0 hL:=⟨hloop0,hdef0,e0L,Nat.le_refl _,_,(k3.ah e2).ah eL,bN.nil _ _ _ _⟩
   have hcapL:cellAt hL ⟨h1.size,0,none⟩=some (.slice oa kn kc):=eL.cell (λk=>k) kc2;have hdl:∀j g,Lt h h2.size r0 hL.size l j g->h2.size<g.size:=λj g k=>by have:=k.2.2.2.1;omega
   refine suff (p:=∀j g,Lt h h2.size r0 hL.size l j g->j<kn->∃(b o:Nat) (r:By×Int×Int),oa=some ⟨b,o,none⟩/\Lw.rowAt g b (o+j*3) (fC r)/\∀g,Lt h h2.size r0 hL.size l j g->nX prog (h2.size+1) #[.int .i64 (j:Nat),.agg (fC r).toArray] g (bK λr h'=>r= .bool true/\Lt h h2.size r0 hL.size l (j+1) h')) ?_ λhy=>?_
   · intro j g hJg hj;obtain⟨r,hx⟩:∃r,tb[j]? =some r:=⟨_,List.getElem?_eq_getElem (by omega)⟩
     have hslg:=hsl.mv (Mv.ah hJg.2.2.1);obtain⟨oa',n',c',hv',_,_,_,hget⟩:=id hslg;cases hv';obtain⟨b,o,cs,ha,hob,hrow,rfl⟩:=hget j r hx;refine⟨b,o,r,ha,hrow,λg hJg=>?_⟩;obtain⟨hlp,hdf,ehg,hbg,w,kS,hw⟩:=hJg;have hlj:l[j]? =some r.1:=by rw[<-htm,List.getElem?_map,hx];rfl
     have hfit:=Dy (p1:=16) (p2:=17) (v1:=.int .i64 (j:Nat)) (v2:=.agg (fC r).toArray) hfits rfl rfl;rw[<-hps,<-htm2] at hfit;refine nX.of hlp hst (by rw[hps];rfl) hfit ((congrArg Loop.assign hr0).trans rfl) ((congrArg Loop.body hr0).trans rfl) ?_;refine iF.HZ rfl rfl rfl rfl rfl (aV.BV H.LJ) ?_;rintro _ g1 ⟨rfl,k5,e1',zz1⟩;refine iF.FN rfl rfl rfl rfl (aV.jZ H.Ir rfl rfl k5 (by first|rfl|(simp;done)|(simp;omega)) (by first|decide|exact of_decide_eq_true rfl|(simp;done)|(simp;omega)) (sd r)) ?_;rintro _ g2 ⟨rfl,k5',e2',zz2⟩;refine mT rfl ?_;have e12:aj g g2:=e1'.only e2' (Nat.le_refl _);have k5':aC g2 g.size 117 (fC r):=k5';refine⟨(e12.block _ hlp.lt (λk=>k)).trans hlp,?_⟩;obtain⟨g3,hg3⟩:∃g3,g3=Lw.fk g2 (h2.size+1) (.loop { r0 with state:=.busy }):=⟨_,rfl⟩
     rw[<-hg3];have hlz:=hlp.lt;have hz2:=e12.size;have hz1:=e1.size;have e23:Ext (λb=>b=h2.size+1) g2 g3:=by rw[hg3];exact Ext.fk _ _ _ rfl
     have hlp3:eG g3 (h2.size+1) { r0 with state:=.busy }:=by rw[eG,hg3];exact pY (by omega)
     have hz3:=e23.size;have kS3:=(kS.ah e12).ext e23 (show ¬h.size=h2.size+1 by omega);have k53:=k5'.ext e23 (show ¬g.size=h2.size+1 by omega);have hwge:∀b,w.ownBlock=some b->hL.size<=b:=λb hb=>(aB.lt hw hb).1
     have hw3:aB g3 hL.size 9 1 w (l.take j).length ((l.take j).map BI):=aB.ext e23 (bN.ah hw e12) (λb hb k=>by have:=hwge b hb;omega);have hjl:(l.take j).length=j:=by rw[List.length_take];omega
     refine iF.cC rfl rfl rfl rfl rfl (eB H.M5 rfl (kS3.cell (i:=0) rfl)) ?_;refine iF.cC rfl rfl rfl rfl rfl (gm (off:=0) underlying117 rfl rfl H.D6 rfl) ?_;refine iF.cC rfl rfl rfl rfl rfl (eB H.Nl rfl (k53.cell (i:=0) rfl)) ?_;refine iF.HZ rfl rfl rfl rfl rfl (aV.uf (us:=[_]) underlying73 H.Qa rfl rfl (by decide) (by simp[Value.oneCell'])) ?_;rintro _ _ ⟨rfl,rfl⟩;refine iF.HZ rfl rfl rfl rfl rfl (aV.dA underlying73 H.Qa rfl rfl (hw3) rfl rfl (by first|decide|simp[Value.oneCell']) (by omega) (by decide) (by omega)) ?_;rintro v4 g4 ⟨ho4,hx4,hx4',hv4⟩;have kS4:=kS3.ext hx4 (λk=>by have:=hwge _ k.symm;omega);have hz4:=hx4.size;have hw4:bN BI g4 hL.size 9 v4 (l.take j++[r.1]):=bN.of (ys:=[r.1]) ho4 rfl rfl rfl;obtain⟨va4,vc4,rfl,_⟩:=ho4.open;refine iF.FN rfl rfl rfl rfl (aV.oI H.PL rfl rfl kS4 (by first|decide|exact of_decide_eq_true rfl|(simp;done)|(simp;omega)) rfl) ?_;rintro _ g5 ⟨rfl,kS5,e5',zz5⟩;refine mT rfl ?_;have kS5:aC g5 h.size 73 [.slice va4 ((l.take j).length+1) vc4]:=by simpa using kS5
     have hlp5:eG g5 (h2.size+1) { r0 with state:=.busy }:=(hlp3.ext hx4 (λk=>by have:=hwge _ k.symm;omega)).ext e5' (show ¬h2.size+1=h.size by omega);have hr2:({ ({ r0 with state:=.busy }:Loop) with state:=.ready,pending:=none }:Loop)=r0:=by cases r0;simp at hst hpn;simp[hst,hpn]
     have hz5:=e5'.size;refine⟨_,hlp5,rfl,?_⟩;rw[hr2];have e56:Ext (λb=>b=h2.size+1) g5 (Lw.fk g5 (h2.size+1) (.loop r0)):=Ext.fk _ _ _ rfl;have hlz5:=hlp5.lt
     have hblk:∀b,b<hL.size->¬b=h.size->¬b=h2.size+1->b<g.size->(Lw.fk g5 (h2.size+1) (.loop r0))[b]? =g[b]? :=λb hb n1 n2 hbg=>by
      rw[e56.block b (by omega) n2,e5'.block b (by omega) n1,hx4.block b (by omega) (λk=>by have:=hwge _ k.symm;omega),e23.block b (by omega) n2,e12.block b hbg (λk=>k)]
     have hv4ge:∀b,(Value.slice va4 ((l.take j).length+1) vc4).ownBlock=some b->hL.size<=b:=λb hb=>(aB.lt hw4 hb).1
     refine⟨pY hlz5,by rw[hblk h2.size (by omega) (by omega) (by omega) (by omega)];exact hdf,⟨by have:=e56.size;have:=ehg.size;omega,λb hb _=>?_⟩,by have:=e56.size;omega,_,kS5.ext e56 (show ¬h.size=h2.size+1 by omega),?_⟩
     · rw[hblk b (by omega) (by omega) (by omega) (by have:=ehg.size;omega)];exact ehg.block b hb (λk=>k)
     · rw[List.take_add_one,hlj];exact aB.ext e56 (aB.ext e5' hw4 (λb hb k=>by have:=hv4ge b hb;omega)) (λb hb k=>by have:=hv4ge b hb;omega)
   · refine(Fe (l:=h2.size+1) (cap:=h1.size) (n:=kn) (c:=kc) (oa:=oa) (J:=Lt h h2.size r0 hL.size l) (by omega) (λj g g' k e=>k.ah (hdl j g k) e) hy hJ0 hcapL).mono λe g hJ=>?_
     obtain⟨u,rfl,hlp,hdf,ehg,hbg,w,kS,hw⟩:=hJ;rw[List.take_of_length_le (by omega)] at hw;refine⟨_,rfl,r0,hlp,by rw[hst];decide,hpn,?_⟩;have hz1:=e1.size;have hlz:=hlp.lt;have e6:Ext (λb=>b=h2.size+1) g (Lw.fk g (h2.size+1) (.loop { r0 with state:=.exhausted })):=Ext.fk _ _ _ rfl;have kSe:=kS.ext e6 (show ¬h.size=h2.size+1 by omega);have hdfe:=(e6.block h2.size (by omega) (show ¬h2.size=h2.size+1 by omega)).trans hdf;have hwge:∀b,w.ownBlock=some b->hL.size<=b:=λb hb=>(aB.lt hw hb).1
     have hwe:=aB.ext e6 hw (λb hb k=>by have:=hwge b hb;omega);refine GD.pL ?_;refine rN rfl ?_;refine GD.mE func24 rfl ?_;refine kV.cC rfl rfl rfl rfl (eB H.M5 rfl (kSe.cell (i:=0) rfl)) ?_;refine kV.cC rfl rfl rfl rfl (az.assign rfl) ?_;refine mU rfl ?_;refine GD.sub (ρ':=[(0,_),(2,_),(3,_),(11,_),(15,_)]) ⟨rfl,rfl,rfl,rfl,rfl,trivial⟩ ?_;refine GD.FK func24 rfl hdfe rfl ?_;have e7:Ext (λb=>b=h2.size) (Lw.fk g (h2.size+1) (.loop { r0 with state:=.exhausted })) (Lw.fk (Lw.fk g (h2.size+1) (.loop { r0 with state:=.exhausted })) h2.size (.deferred none)):=Ext.fk _ _ _ rfl;have hz6:=e6.size;have hz7:=e7.size;refine⟨_,rfl,bN.read (h1:=λ_=>rfl) (show bN BI _ hL.size 9 w l from aB.ext e7 hwe (λb hb k=>by have:=hwge b hb;omega)) (λ_ _ k=>k),⟨by have:=ehg.size;omega,λb hb _=>?_⟩⟩;rw[e7.block b (by have:=ehg.size;omega) (by omega),e6.block b (by have:=ehg.size;omega) (by omega)];exact ehg.block b hb (λk=>k)
end
end Go.Proofs.YtnjahnbpnpkmhaaGreatDoor
namespace Go.Proofs.YtnjahnbpnpkmhaaGreatDoor
open Go Go.Lw
section
variable {h:aq}{O:Nat->Prop}{cs:List Value}{k:Int}{t:By}{l:List Tr}{v:Value}{x:Tr}
def qA:Nat->aq->(Nat->Prop)->List Value->Tr->Prop
  | 0,_,_,_,_=>False
  |d+1,h,O,cs,x=>∃oa n c,cs=[.int .i64 x.kind,.string (bs x.text),.slice oa n c]/\x.kids.length=n/\n<=c/\c<=maxLen /\
      ∀i y,x.kids[i]? =some y->∃b o cs',oa=some ⟨b,o,none⟩/\¬O b/\Lw.rowAt h b (o+i*3) cs'/\qA d h O cs' y
theorem zV:∀{d:Nat}{h:aq}{O:Nat->Prop}{cs:List Value}{x:Tr},qA d h O cs x->cs.length=3
  | 0,_,_,_,_,k=>k.elim
  |_+1,_,_,_,_,⟨_,_,_,hc,_⟩=>by rw[hc];rfl
theorem G0:∀{d:Nat}{h:aq}{O:Nat->Prop}{cs:List Value}{x:Tr},qA d h O cs x->∀v∈cs,v.oneCell'=true
  | 0,_,_,_,_,k=>k.elim
  |_+1,_,_,_,_,⟨_,_,_,hc,_⟩=>by
    intro v I;rw[hc] at I;simp at I;rcases I with rfl|rfl|rfl<;>rfl
theorem CY:∀{d:Nat}{h h':aq}{O O':Nat->Prop}{cs:List Value}{x:Tr},qA d h O cs x->Mv O O' h h'->qA d h' O' cs x
  | 0,_,_,_,_,_,_,k,_=>k.elim
  |d+1,h,h',O,O',cs,x,⟨oa,n,c,hc,hl,hn,hm,hk⟩,m=>by
    refine⟨oa,n,c,hc,hl,hn,hm,λi y hy=>?_⟩;obtain⟨b,o,I,h1,Z,Y,U⟩:=hk i y hy;have J:I≠[]:=λe0=>by have:=zV U;rw[e0] at this;simp at this
    exact⟨b,o,I,h1,(m.block b (eT Y J) Z).2,m.rowAt Z Y,CY U m⟩
theorem wV:∀{d I:Nat}{h:aq}{O:Nat->Prop}{cs:List Value}{x:Tr},qA d h O cs x->d<=I->qA I h O cs x
  | 0,_,_,_,_,_,k,_=>k.elim
  |d+1,0,_,_,_,_,_,Z=>by omega
  |d+1,I+1,h,O,cs,x,⟨oa,n,c,hc,hl,Y,hm,hk⟩,Z=>by
    refine⟨oa,n,c,hc,hl,Y,hm,λi y U=>?_⟩;obtain⟨b,o,J,h1,h2,h3,h4⟩:=hk i y U;exact⟨b,o,J,h1,h2,h3,wV h4 (by omega)⟩
def eN:gW Tr where
  sz:=3
  pos:=by decide
  R:=λh O cs x=>∃d,qA d h O cs x
  len:=fun⟨_,k⟩=>zV k
  one:=fun⟨_,k⟩=>G0 k
  mv:=fun⟨d,k⟩ m=>⟨d,CY k m⟩
theorem lJ (q:eN.R h O cs (.mk k t l)):∃v,cs=[.int .i64 k,.string (bs t),v]/\aL eN h O v l:=by
  obtain⟨d,q⟩:=q;cases d with
  |zero=>exact q.elim
  |succ d =>
    obtain⟨oa,n,c,hc,hl,U,hm,hk⟩:=q;refine⟨_,hc,oa,n,c,rfl,hl,U,hm,λi y J=>?_⟩;obtain⟨b,o,I,h1,h2,Z,Y⟩:=hk i y J;exact⟨b,o,I,h1,h2,Z,d,Y⟩
theorem sO (q:aL eN h O v l):eN.R h O [.int .i64 k,.string (bs t),v] (.mk k t l):=by
  obtain⟨oa,n,c,rfl,hl,hn,hm,hk⟩:=q
  have:∃d,∀i y,l[i]? =some y->∃b o cs,oa=some ⟨b,o,none⟩/\¬O b/\Lw.rowAt h b (o+i*3) cs/\qA d h O cs y:=by
    have key:∀j:Nat,∃d,∀i y,i<j->l[i]? =some y->∃b o cs,oa=some ⟨b,o,none⟩/\¬O b/\Lw.rowAt h b (o+i*3) cs/\qA d h O cs y:=by
      intro j
      induction j with
      |zero=>exact⟨0,λi y hi=>by omega⟩
      |succ j ih =>
        obtain⟨d,J⟩:=ih;cases U:l[j]? with
        |none =>
          refine⟨d,λi y hi I=>J i y ?_ I⟩
          rcases Nat.lt_or_ge i j with q|q
          · exact q
          · have:i=j:=by omega
            subst this;rw[U] at I;cases I
        |some z =>
          obtain⟨b,o,cs,h1,h2,h3,d2,h4⟩:=hk j z U;refine⟨max d d2,λi y hi I=>?_⟩
          rcases Nat.lt_or_ge i j with q|q
          · obtain⟨b',Z,Y,g1,g2,g3,g4⟩:=J i y q I;exact⟨b',Z,Y,g1,g2,g3,wV g4 (by omega)⟩
          · have:i=j:=by omega
            subst this;rw[U] at I;cases I;exact⟨b,o,cs,h1,h2,h3,wV h4 (by omega)⟩
    obtain⟨d,J⟩:=key l.length;exact⟨d,λi y I=>J i y (List.getElem?_eq_some_iff.1 I).1 I⟩
  obtain⟨d,J⟩:=this;exact⟨d+1,oa,n,c,rfl,hl,hn,hm,J⟩
def dK (h:aq) (O:Nat->Prop) (v:Value) (x:Tr):Prop:=∃cs,v= .agg cs.toArray/\eN.R h O cs x
theorem dK.open (q:dK h O v (.mk k t l)):∃w,v= .agg #[.int .i64 k,.string (bs t),w]/\aL eN h O w l:=by
  obtain⟨cs,rfl,q⟩:=q;obtain⟨w,rfl,I⟩:=lJ q;exact⟨w,rfl,I⟩
theorem dK.shut {w:Value}(q:aL eN h O w l):dK h O (.agg #[.int .i64 k,.string (bs t),w]) (.mk k t l):=⟨_,rfl,sO q⟩
theorem dK.mv {h h':aq}{O O':Nat->Prop}{v:Value}{x:Tr}(q:dK h O v x) (m:Mv O O' h h'):dK h' O' v x:=by
  obtain⟨cs,rfl,q⟩:=q;exact⟨cs,rfl,eN.mv q m⟩
theorem Sl.nd {oa:Option Addr}{n c:Nat}(k:Sl eN h O oa n c l){i:Nat}(hi:i<n) :
    ∃b o x cs,oa=some ⟨b,o,none⟩/\¬O b/\l[i]? =some x/\Lw.rowAt h b (o+i*3) cs/\eN.R h O cs x:=by
  have I:i<l.length:=by rw[k.len];exact hi
  obtain⟨b,o,cs,U,J,hr,Y⟩:=k.get i l[i] (List.getElem?_eq_getElem I);exact⟨b,o,l[i],cs,U,J,List.getElem?_eq_getElem I,hr,Y⟩
theorem uV {α:Type}{sz:Nat}:∀css:List (List α),(∀c∈css,c.length=sz)->css.flatten.length=css.length*sz
  | [],_=>by simp
  |c::css,h=>by
    rw[List.flatten_cons,List.length_append,h c (by simp),uV css (λc hc=>h c (by simp[hc])),List.length_cons,Nat.add_mul];omega
theorem cH.LZ {α:Type}{e:gW α}{css:List (List Value)}{xs:List α}{t:TypeId}{base n:Nat}(hl:css.length=xs.length)
    (Y:∀(i:Nat) (cs:List Value) (x:α),css[i]? =some cs->xs[i]? =some x->e.R h O cs x) (hb:base<=h.size) (hn:xs.length=n) (hm:n<=maxLen) :
    cH e O (h.push (.cells css.flatten.toArray t)) base t (.slice (some ⟨h.size,0,none⟩) n n) xs:=by
  subst hn
  have hlen:∀c∈css,c.length=e.sz:=λc hc=>by
    obtain⟨i,hi⟩:=List.getElem?_of_mem hc;have J:i<xs.length:=by rw[<-hl];exact(List.getElem?_eq_some_iff.1 hi).1
    exact e.len (Y i c xs[i] hi (List.getElem?_eq_getElem J))
  have I:css.flatten.length=xs.length*e.sz:=by rw[uV css hlen,hl]
  refine⟨css,hl,⟨I,.inr ⟨h.size,xs.length,css.flatten.toArray,rfl,hb,by simp,Nat.le_refl _,hm,by rw[List.size_toArray,I],by rw[<-I];exact List.take_length⟩⟩,λi cs x h1 h2=>?_⟩
  exact e.mv (Y i cs x h1 h2) ⟨by simp,λb U Z=>⟨(Ext.push (λ_=>False) h _).block b U (λk=>k),λk=>by
    rcases k with k|k
    · simp[bU,Value.ownBlock] at k;omega
    · exact Z k⟩⟩
theorem dK.get (q:dK h O v x):∃k t a n c,v= .agg #[.int .i64 k,.string (bs t),.slice a n c]/\eN.R h O [.int .i64 k,.string (bs t),.slice a n c] x:=by
  obtain⟨cs,rfl,q⟩:=q;cases x with
  |mk k t l =>
    obtain⟨w,rfl,I⟩:=lJ q;obtain⟨a,n,c,rfl,_⟩:=I.open;exact⟨k,t,a,n,c,rfl,q⟩
theorem dK.of (q:eN.R h O cs x):dK h O (.agg cs.toArray) x:=⟨cs,rfl,q⟩
theorem dK.ext {h':aq}{M O':Nat->Prop}(q:dK h O v x) (e:Ext M h h') (hm:∀b,b<h.size->¬O b->¬M b/\¬O' b):dK h' O' v x:=q.mv (Mv.bY e hm)
theorem aK {h':aq}{M O':Nat->Prop}(q:eN.R h O cs x) (e:Ext M h h') (hm:∀b,b<h.size->¬O b->¬M b/\¬O' b):eN.R h' O' cs x:=eN.mv q (Mv.bY e hm)
theorem ij {T:TypeId}(q:eN.R h O cs x) (I:¬O h.size):aL eN (h.push (.cells cs.toArray T)) O (.slice (some ⟨h.size,0,none⟩) 1 1) [x]:=aL.kC q I
theorem mG {U J:List Value}{y:Tr}{T:TypeId}(Z:eN.R h O U x) (Y:eN.R h O J y){base:Nat}(hb:base<=h.size):cH eN O (h.push (.cells (U++J).toArray T)) base T (.slice (some ⟨h.size,0,none⟩) 2 2) [x,y]:=by
  have:=cH.LZ (e:=eN) (O:=O) (h:=h) (css:=[U,J]) (xs:=[x,y]) (t:=T) (base:=base) (n:=2) rfl (λi cs z h1 I=>by
    match i with
    | 0=>simp at h1 I;subst h1 I;exact Z
    | 1=>simp at h1 I;subst h1 I;exact Y
    |i+2=>simp at h1) hb rfl (by decide)
  simpa using this
end
end Go.Proofs.YtnjahnbpnpkmhaaGreatDoor
namespace Go.Proofs.YtnjahnbpnpkmhaaGreatDoor
open Go.Proofs.Tryz
open Go Go.Lw
set_option maxRecDepth 20000 set_option maxHeartbeats 4000000
section
variable {n b3:Nat}{h g:aq}{O:Nat->Prop}{v:Value}{ts:List By}{T:TypeId}{eU:gW Un}{s s' s1:PS}{u:Un}{t:Tr}{e k:Int}
theorem bR (h:aq) (ts:List By) (T:TypeId) (I:ts.length=n) (hm:n<=maxLen){us:List Value}(hu:us=ts.map BI):aL oA (h.push (.cells us.toArray T)) (λ_=>False) (.slice (some ⟨h.size,0,none⟩) n n) ts :=
 bN.read (h1:=λ_=>rfl) (iA BI h T ts n I hm 0 (Nat.zero_le _) hu) (λ_ _ k=>k)
theorem BD (hv:aL oA h O v ts) (s:By) :
 au prog 71 #[v,.string (bs s)] h (bK λr h'=>(∃i:Int,r= .int .i64 i/\decide (0<=i)=decide (s∈ts))/\h'=h):=by
 obtain⟨va,vn,vc,rfl,hvs⟩:=hv.open;have hvl:ts.length=vn:=hvs.len;subst hvl;have hvm:=hvs.cap;have hvc:=hvs.le;simp only[maxLen] at hvm;refine bJ ?_;refine af ?_;refine fK (σ:=Nat) (λi=>[(8,.int .i64 (i:Nat))]) (λi h'=>h'=h/\i<=ts.length/\s∉ts.take i) (λi=>ts.length-i) (0) ⟨rfl,Nat.zero_le _,by simp⟩ rfl ?_;rintro i g ⟨rfl,hi,hin⟩ ih;refine af ?_;refine aN (λhlt=>?_) (λhlt=>?_)
 · have hil:i<ts.length:=by omega
   obtain⟨b,o,x,ha,_,hx,hc⟩:=hvs.at hil
   iterate 4 refine aQ ?_
   refine cI ?_
   iterate 2 refine aR ?_
   refine cO ?_;refine aQ ?_;refine cI ?_
   iterate 3 refine aR ?_
   refine xp rfl (bZ rfl rfl i rfl ha) ?_;refine xp rfl (aA rfl hc) ?_;refine af ?_;refine aN (λhe=>?_) (λhe=>?_)
   · have he:s=x:=dF he;refine af ?_;refine aP ?_;exact⟨_,rfl,⟨i,rfl,by rw[decide_eq_true (by omega),decide_eq_true (by rw[he];exact List.mem_of_getElem? hx)]⟩,rfl⟩
   · refine af ?_;exact ih (i+1) ⟨rfl,by omega,by rw[List.take_add_one,hx,List.mem_append,not_or];exact⟨hin,by simpa using λq=>he (by rw[q])⟩⟩
 · refine af ?_;refine aP ?_;have hil:i=ts.length:=by omega
   rw[hil,List.take_length] at hin;exact⟨_,rfl,⟨-1,rfl,by rw[decide_eq_false hin];rfl⟩,rfl⟩
theorem rz (I:aL oA h O v ts) (s:By) :
 au prog 36 #[v,.string (bs s)] h (bK λr h'=>r= .bool (decide (s∈ts))/\h'=h):=by
 refine bJ ?_;refine af ?_;refine xo rfl (aE rfl (BD I s)) ?_;rintro _ h ⟨⟨i,rfl,hi⟩,rfl⟩;refine af ?_;refine aP ?_;exact⟨_,rfl,by rw[hi];rfl,rfl⟩
def tZ (u:Un):List Value:=[.int .i64 u.1,.string (bs u.2.1),.int .i64 u.2.2]
theorem AQ (u:Un):∀v∈tZ u,v.oneCell'=true:=λv I=>by simp[tZ] at I;rcases I with rfl|rfl|rfl<;>rfl
abbrev QF:gW Un:=.record 3 (by decide) tZ (λ_=>rfl) AQ
def Qt (us:List Un) (i:Nat) (b:Bool) (m:Int):PS->Prop
 |.ok r=>b=false/\r=us.drop i
 |.bad k=>b=true/\m=k
structure PC where
 pb:Nat
 lv:Value
 n0:Nat
 us:List Un
 e:Int
def B1 (T:TypeId) (eU:gW Un) (c:PC) (h:aq) (s:PS):Prop :=
 ∃i b m,aC h c.pb T [c.lv,.int .i64 (i:Nat),.int .i64 c.e,.bool b,.int .i64 m]/\aL eU h (λx=>x=c.pb\/c.n0<=x) c.lv c.us/\i<=c.us.length/\Qt c.us i b m s/\c.pb<c.n0/\c.n0<=h.size/\c.us.length<=1000
theorem B1.ext {T:TypeId}{eU:gW Un}{c:PC}{h h':aq}{s:PS}{M:Nat->Prop}(k:B1 T eU c h s) (x:Ext M h h') (U:∀b,b<c.n0->¬M b):B1 T eU c h' s:=by
 obtain⟨i,b,m,hk,hl,hi,hs,I,J⟩:=k;exact⟨i,b,m,hk.ext x (U _ I),hl.mv (Mv.bY x λb _ Y=>⟨U b (by omega),Y⟩),hi,hs,I,Nat.le_trans J.1 x.size,J.2⟩
theorem B1.ah {c:PC}{h':aq}(k:B1 T eU c h s) (x:aj h h'):B1 T eU c h' s:=k.ext x (λ_ _ k=>k)
theorem B1.lt {T:TypeId}{eU:gW Un}{c:PC}{h:aq}{s:PS}(k:B1 T eU c h s):c.pb<h.size:=by
 obtain⟨i,b,m,hk,_⟩:=k;exact hk.lt
theorem B1.old {c:PC}(k:B1 T eU c h s):c.pb<c.n0/\c.n0<=h.size:=by
 obtain⟨i,b,m,_,_,_,_,h1,I⟩:=k;exact⟨h1,I.1⟩
theorem B1.short {c:PC}(k:B1 T eU c h s):c.us.length<=1000/\s.len<=c.us.length:=by
 obtain⟨i,b,m,_,_,_,hs,_,I⟩:=k;refine⟨I.2,?_⟩;cases s with
 |bad q=>exact Nat.zero_le _
 |ok r=>obtain⟨_,rfl⟩:=hs;simp[PS.len]
abbrev tj:=B1 51 QF
theorem rV {oa:Option Addr}{c:Nat}{us:List Un}{i:Nat}{r:List Un}(_:Sl eU h O oa n c us) (hi:u::r=us.drop i):us[i]? =some u/\i<us.length/\r=us.drop (i+1):=by
 have h0:(us.drop i)[0]? =some u:=by rw[<-hi];rfl
 rw[List.getElem?_drop,Nat.add_zero] at h0;refine⟨h0,(List.getElem?_eq_some_iff.1 h0).1,?_⟩;rw[<-List.tail_drop,<-hi];rfl
theorem qP {us:List Un}{i:Nat}(hi:[]=us.drop i) (hl:i<=us.length):i=us.length:=by
 have:=List.drop_eq_nil_iff.1 hi.symm;omega
abbrev ptr (b:Nat):Value:=.pointer (some ⟨b,0,none⟩)
abbrev Rc (o:Option By):Value:=packed [.string (bs (o.getD [])),.bool o.isSome]
theorem bQ {c:PC}(hp:tj c h s) (k:Int){tv:Value}(ht:aL oA h O tv ts) :
 au prog 15 #[ptr c.pb,.int .i64 k,tv] h (bK λr h'=>r=Rc (bM k ts s).1/\tj c h' (bM k ts s).2/\Ext (λb=>b=c.pb) h h'):=by
 obtain⟨pb,lv,n0,us,e⟩:=c;obtain⟨i,b,m,hk,hl,hi,hs,hpn,hn0⟩:=id hp;dsimp only at hk hl hi hs hpn hn0 ⊢;obtain⟨la,ln,lc,rfl,hls⟩:=hl.open;have hln:us.length=ln:=hls.len;subst hln;have hlm:=hls.cap;have hlc:=hls.le;simp only[maxLen] at hlm;cases s with
 |bad q =>
  obtain⟨rfl,rfl⟩:=hs;refine bJ ?_;refine aQ ?_;refine cI ?_
  iterate 2 refine aR ?_
  refine cO ?_
  iterate 2 refine aQ ?_
  refine rP ?_
  iterate 3 refine jD ?_
  refine bF rfl (aA rfl (hk.cell (i:=3) rfl)) ?_;refine jD ?_;refine RQ.bw (d:=12) (b':=true) rfl (rfl) ?_;refine af ?_;refine dc rfl (by simp) ?_;refine af ?_;refine aP ?_;exact⟨_,rfl,rfl,hp,Ext.refl _ _⟩
  |ok r =>
  obtain⟨rfl,hr⟩:=hs;cases r with
  |nil =>
   have hie:=qP hr hi;refine bJ ?_;refine aQ ?_;refine cI ?_
   iterate 2 refine aR ?_
   refine cO ?_
   iterate 2 refine aQ ?_
   refine rP ?_;refine af ?_;refine bF rfl (aA rfl (hk.cell (i:=3) rfl)) ?_;refine af ?_;refine RQ.bw (d:=12) (b':=false) rfl (rfl) ?_;refine af ?_;refine bF rfl (aA rfl (hk.cell (i:=1) rfl)) ?_;refine af ?_;refine bF rfl (aA rfl (hk.cell (i:=0) rfl)) ?_;refine af ?_;refine RQ.bw (d:=24) (b':=true) rfl (decide_eq_true ((by omega))) ?_;refine af ?_;refine dc rfl (by simp) ?_;refine af ?_;refine aP ?_;exact⟨_,rfl,rfl,hp,Ext.refl _ _⟩
   |cons u r =>
   obtain⟨hu,hil,hr'⟩:=rV hls hr;obtain⟨b1,o1,u',hua,hub,hu',hrow⟩:=hls.nA hil;rw[hu] at hu';cases hu';have c0:=hrow 0 _ rfl;have c1:=hrow 1 _ rfl;refine bJ ?_;refine aQ ?_;refine cI ?_
   iterate 2 refine aR ?_
   refine cO ?_
   iterate 2 refine aQ ?_
   refine rP ?_;refine af ?_;refine bF rfl (aA rfl (hk.cell (i:=3) rfl)) ?_;refine af ?_;refine RQ.bw (d:=12) (b':=false) rfl (rfl) ?_;refine af ?_;refine bF rfl (aA rfl (hk.cell (i:=1) rfl)) ?_;refine af ?_;refine bF rfl (aA rfl (hk.cell (i:=0) rfl)) ?_;refine af ?_;refine RQ.bw (d:=24) (b':=false) rfl (decide_eq_false ((by omega))) ?_;refine af ?_;refine bF rfl (aA rfl (hk.cell (i:=0) rfl)) ?_;refine af ?_;refine bF rfl (aA rfl (hk.cell (i:=1) rfl)) ?_;refine bF rfl (bZ rfl rfl i rfl hua) ?_;refine af ?_;refine bF rfl (aA rfl c0) ?_;refine af ?_;refine Pc 39 (λhkk=>?_) (λhkk=>?_)
   · have hkk:=of_decide_eq_true hkk;refine af ?_;refine dc rfl (by simp[hkk]) ?_;refine af ?_;refine aP ?_;have hno:bM k ts (.ok (u::r))=(none,.ok (u::r)):=by rw[cm,if_neg (λq=>hkk (by rw[q.1]))]
     exact⟨_,rfl,by rw[hno];rfl,by rw[hno];exact hp,Ext.refl _ _⟩
   · have hkk:=of_decide_eq_false hkk;have hkk:u.1=k:=by simpa using hkk
     refine af ?_;refine bF rfl (aA rfl (hk.cell (i:=0) rfl)) ?_;refine af ?_;refine bF rfl (aA rfl (hk.cell (i:=1) rfl)) ?_;refine bF rfl (bZ rfl rfl i rfl hua) ?_;refine af ?_;refine bF rfl (aA rfl c1) ?_;refine Pd (rz ht u.2.1) ?_;refine af ?_;refine jS (λhin=>?_) (λhin=>?_)
     · have hin:u.2.1∉ts:=by simpa using hin
       refine af ?_;refine aP ?_;have hno:bM k ts (.ok (u::r))=(none,.ok (u::r)):=by rw[cm,if_neg (λq=>hin q.2)]
       exact⟨_,rfl,by rw[hno];rfl,by rw[hno];exact hp,Ext.refl _ _⟩
     · have hin:u.2.1∈ts:=by simpa using hin
       refine af ?_;refine xp rfl (aA rfl (hk.cell (i:=1) rfl)) ?_;refine af ?_;refine aO rfl (iG rfl rfl hk) ?_;rintro _ h1 ⟨rfl,k1,x1,z1⟩;refine af ?_;have hls1:=hls.mv (Mv.bY x1 λb _ ho=>⟨λq=>ho (.inl q),ho⟩);obtain⟨b2,o2,u2,hua2,hub2,hu2,hrow2⟩:=hls1.nA hil;rw[hu] at hu2;cases hu2;refine bF rfl (aA rfl (k1.cell (i:=0) rfl)) ?_;refine af ?_;refine bF rfl (aA rfl (k1.cell (i:=1) rfl)) ?_;refine jD ?_;refine bF rfl (bZ rfl rfl i (by omega) hua2) ?_;refine af ?_;refine bF rfl (aA rfl (hrow2 1 _ rfl)) ?_;refine af ?_;refine aP ?_;have hyes:bM k ts (.ok (u::r))=(some u.2.1,.ok r):=by rw[cm,if_pos ⟨hkk,hin⟩]
       refine⟨_,rfl,by rw[hyes];rfl,?_,x1⟩;rw[hyes];exact⟨i+1,false,m,k1,hls1.shut,hil,⟨rfl,hr'⟩,hpn,by have:=x1.size;dsimp only;omega⟩
abbrev QC:Value:=.agg #[.int .i64 0,.string (bs []),.slice none 0 0]
theorem eS {c:PC}(hp:tj c h s) :
 au prog 16 #[ptr c.pb] h (bK λr h'=>r=QC/\tj c h' (cu c.e s)/\Ext (λb=>b=c.pb) h h'):=by
 obtain⟨pb,lv,n0,us,e⟩:=c;obtain⟨i,b,m,hk,hl,hi,hs,hpn,hn0⟩:=id hp;dsimp only at hk hl hi hs hpn hn0 ⊢;obtain⟨la,ln,lc,rfl,hls⟩:=hl.open;have hln:us.length=ln:=hls.len;subst hln;have hlm:=hls.cap;have hlc:=hls.le;simp only[maxLen] at hlm;have hpl:=hk.lt;cases s with
 |bad q =>
  obtain⟨rfl,rfl⟩:=hs;refine bJ ?_;refine af ?_;refine xo rfl (cL) ?_;rintro _ h1 ⟨rfl,k1,e1,z1⟩;refine af ?_;refine xp rfl (aA rfl ((hk.ah e1).cell (i:=3) rfl)) ?_;refine af ?_;refine dB rfl (by simp) ?_;refine af ?_;refine xp rfl (av (H.J5 ) rfl) ?_;refine aO rfl (aZ rfl rfl k1) ?_;rintro _ h2 ⟨rfl,k2,x2,z2⟩;refine af ?_;refine cE (cz rfl k2.row cD) ?_;exact⟨_,rfl,rfl,(hp.ah e1).ext x2 (λy (hy:y<n0) q=>by omega),e1.of.cZ x2 (λy _ q=>by omega)⟩
  |ok r =>
  obtain⟨rfl,hr⟩:=hs;refine bJ ?_;refine af ?_;refine xo rfl (cL) ?_;rintro _ h1 ⟨rfl,k1,e1,z1⟩;refine af ?_;refine xp rfl (aA rfl ((hk.ah e1).cell (i:=3) rfl)) ?_;refine af ?_;have hk1:=hk.ah e1;refine dc rfl (by simp) ?_;refine af ?_;refine xp rfl (aA rfl (hk1.cell (i:=2) rfl)) ?_;refine af ?_;refine aO rfl (iG rfl rfl hk1) ?_;rintro _ h2 ⟨rfl,k2,x2,z2⟩;refine af ?_;refine aO rfl (iG rfl rfl k2) ?_;rintro _ h3 ⟨rfl,k3,x3,z3⟩;refine af ?_;have x13:=x2.trans x3;have hls3:=(hls.mv (Mv.ah e1)).mv (Mv.bY x13 λb _ ho=>⟨λq=>ho (.inl q),ho⟩);have k13:=k1.ext x13 (show ¬h.size=pb by omega);refine bF rfl (aA rfl (k3.cell (i:=1) rfl)) ?_;refine af ?_;refine bF rfl (aA rfl (k3.cell (i:=0) rfl)) ?_;refine af ?_;refine aN (λhlt=>?_) (λhlt=>?_)
  · have hil:i<us.length:=by omega
    obtain⟨b1,o1,u,hua,hub,hu,hrow⟩:=hls3.nA hil;refine Gn 15 14 ?_;refine aF 0 ?_;refine aF 1 ?_;refine aF 2 ?_;refine aF 3 ?_;refine bq 4 rfl (λh' e=>aA rfl (e.old (k3.cell (i:=0) rfl))) ?_;refine aF 5 ?_;refine aF 6 ?_;refine aF 7 ?_;refine bq 8 rfl (λh' e=>aA rfl (e.old (k3.cell (i:=1) rfl))) ?_;refine bq 9 rfl (λh' e=>bZ rfl rfl i rfl hua) ?_;refine aF 10 ?_;refine bq 11 rfl (λh' e=>aA rfl (e.old (hrow 2 _ rfl))) ?_;refine H8 12 ?_;refine aF 13 ?_;refine gU 14 rfl (iG rfl rfl k3) ?_;rintro _ h4 ⟨rfl,k4,x4,z4⟩;refine⟨nofun,?_⟩;refine fV ?_;refine af ?_;refine xp rfl (av (H.J5 ) rfl) ?_;refine aO rfl (aZ rfl rfl ((k13.ext x4 (show ¬h.size=pb by omega)))) ?_;rintro _ h5 ⟨rfl,k5,x5,z5⟩;refine af ?_;refine cE (cz rfl k5.row cD) ?_;have hr2:r=u::us.drop (i+1):=by rw[hr,List.drop_eq_getElem_cons hil];congr 1;rw[List.getElem?_eq_getElem hil] at hu;exact Option.some.inj hu
    subst hr2;have hls4:=hls3.mv (Mv.bY x4 λb _ ho=>⟨λq=>ho (.inl q),ho⟩);refine⟨_,rfl,rfl,B1.ext (c:=⟨pb,_,n0,us,e⟩) (M:=λb=>b=h.size) ⟨i,true,u.2.2,k4,hls4.shut,hi,⟨rfl,rfl⟩,hpn,by dsimp only;omega⟩ x5 (λy (hy:y<n0) q=>by omega),((e1.of.trans x13).trans x4).cZ x5 (λy _ q=>by omega)⟩
  · refine af ?_;refine xp rfl (av (H.J5 ) rfl) ?_;refine aO rfl (aZ rfl rfl k13) ?_;rintro _ h5 ⟨rfl,k5,x5,z5⟩;refine af ?_;refine cE (cz rfl k5.row cD) ?_;have hil:i=us.length:=by omega
    have hr2:r=[]:=by rw[hr,hil,List.drop_length]
    subst hr2;refine⟨_,rfl,rfl,B1.ext (c:=⟨pb,_,n0,us,e⟩) (M:=λb=>b=h.size) ⟨i,true,e,k3,hls3.shut,hi,⟨rfl,rfl⟩,hpn,by dsimp only;omega⟩ x5 (λy (hy:y<n0) q=>by omega),(e1.of.trans x13).cZ x5 (λy _ q=>by omega)⟩
theorem gP {c:PC}(hp:tj c h s) (k:Int) (t:By) :
 au prog 67 #[ptr c.pb,.int .i64 k,.string (bs t)] h (bK λr h'=>tj c h' (bV c.e k t s)/\Ext (λb=>b=c.pb) h h'):=by
 have hpl:=hp.lt;refine bJ ?_;refine af ?_;refine xo rfl (iD [_]) ?_;rintro _ h1 ⟨rfl,U⟩;have Z:aj h h1:=by rw[U];exact Ext.push _ _ _
 have Oh:aL oA h1 (λ_=>False) (.slice (some ⟨h.size,0,none⟩) 1 1) [t]:=by rw[U];exact bR h [t] _ rfl (by simp[maxLen]) rfl
 refine xo rfl (aE rfl (bQ (hp.ah Z) k Oh)) ?_;rintro _ h2 ⟨rfl,J,x2⟩;refine af ?_;refine jS (λI=>?_) (λI=>?_)
 · have I:(bM k [t] s).1=none:=by simpa using I
   have hm:bV c.e k t s=cu c.e (bM k [t] s).2:=by unfold bV;rw[I]
   refine af ?_;refine xo rfl (aE rfl (eS J)) ?_;rintro _ h3 ⟨rfl,Y,x3⟩;refine af ?_;refine D4 ?_;exact⟨_,rfl,by rw[hm];exact Y,Z.of.trans (x2.trans x3)⟩
 · refine af ?_;refine D4 ?_
   have hm:bV c.e k t s=(bM k [t] s).2:=by
    unfold bV;cases hs:(bM k [t] s).1 with
    |some x=>rfl
    |none=>rw[hs] at I;simp at I
   exact⟨_,rfl,by rw[hm];exact J,Z.of.trans x2⟩
theorem uz {c:PC}(hp:tj c h s) :
 au prog 66 #[ptr c.pb] h (bK λr h'=>r= .string (bs (cg c.e s).1)/\tj c h' (cg c.e s).2/\Ext (λb=>b=c.pb) h h'):=by
 obtain⟨pb,lv,n0,us,e⟩:=c;obtain⟨i,b,m,hk,hl,hi,hs,hpn,hn0⟩:=id hp;dsimp only at hk hl hi hs hpn hn0 ⊢;obtain⟨la,ln,lc,rfl,hls⟩:=hl.open;have hln:us.length=ln:=hls.len;subst hln;have hlm:=hls.cap;have hlc:=hls.le;simp only[maxLen] at hlm;have hf:=eS hp;dsimp only at hf;cases s with
 |bad q =>
  obtain⟨rfl,rfl⟩:=hs;refine bJ ?_;refine aQ ?_;refine cI ?_;refine aR ?_;refine cO ?_
  iterate 2 refine aQ ?_
  refine rP ?_
  iterate 3 refine jD ?_
  refine bF rfl (aA rfl (hk.cell (i:=3) rfl)) ?_;refine jD ?_;refine RQ.bw (d:=7) (b':=true) rfl (rfl) ?_;refine af ?_;refine dc rfl (by simp) ?_;refine af ?_;refine xo rfl (aE rfl hf) ?_;rintro _ h2 ⟨rfl,hp2,x2⟩;refine af ?_;refine aP ?_;exact⟨_,rfl,rfl,hp2,x2⟩
  |ok r =>
  obtain⟨rfl,hr⟩:=hs;cases r with
  |nil =>
   have hie:=qP hr hi;refine bJ ?_;refine aQ ?_;refine cI ?_;refine aR ?_;refine cO ?_
   iterate 2 refine aQ ?_
   refine rP ?_
   iterate 3 refine jD ?_
   refine bF rfl (aA rfl (hk.cell (i:=3) rfl)) ?_;refine af ?_;refine RQ.bw (d:=7) (b':=false) rfl (rfl) ?_;refine af ?_;refine bF rfl (aA rfl (hk.cell (i:=1) rfl)) ?_;refine af ?_;refine bF rfl (aA rfl (hk.cell (i:=0) rfl)) ?_;refine af ?_;refine RQ.bw (d:=19) (b':=true) rfl (decide_eq_true ((by omega))) ?_;refine af ?_;refine dc rfl (by simp) ?_;refine af ?_;refine xo rfl (aE rfl hf) ?_;rintro _ h2 ⟨rfl,hp2,x2⟩;refine af ?_;refine aP ?_;exact⟨_,rfl,rfl,hp2,x2⟩
   |cons u r =>
   obtain⟨hu,hil,hr'⟩:=rV hls hr;obtain⟨b1,o1,u',hua,hub,hu',hrow⟩:=hls.nA hil;rw[hu] at hu';cases hu';have c0:=hrow 0 _ rfl;refine bJ ?_;refine aQ ?_;refine cI ?_;refine aR ?_;refine cO ?_
   iterate 2 refine aQ ?_
   refine rP ?_
   iterate 3 refine jD ?_
   refine bF rfl (aA rfl (hk.cell (i:=3) rfl)) ?_;refine af ?_;refine RQ.bw (d:=7) (b':=false) rfl (rfl) ?_;refine af ?_;refine bF rfl (aA rfl (hk.cell (i:=1) rfl)) ?_;refine af ?_;refine bF rfl (aA rfl (hk.cell (i:=0) rfl)) ?_;refine af ?_;refine RQ.bw (d:=19) (b':=false) rfl (decide_eq_false ((by omega))) ?_;refine af ?_;refine bF rfl (aA rfl (hk.cell (i:=0) rfl)) ?_;refine af ?_;refine bF rfl (aA rfl (hk.cell (i:=1) rfl)) ?_;refine bF rfl (bZ rfl rfl i rfl hua) ?_;refine af ?_;refine bF rfl (aA rfl c0) ?_;refine af ?_;refine jS (λhkk=>?_) (λhkk=>?_)
   · have hkk:¬u.1=3:=by simpa using hkk
     refine af ?_;refine xo rfl (aE rfl hf) ?_;rintro _ h2 ⟨rfl,hp2,x2⟩;refine af ?_;refine aP ?_;have hno:cg e (.ok (u::r))=([],cu e (.ok (u::r))):=by rw[iR,if_neg hkk]
     rw[hno];exact⟨_,rfl,rfl,hp2,x2⟩
   · have hkk:u.1=3:=by simpa using hkk
     refine af ?_;refine xp rfl (aA rfl (hk.cell (i:=1) rfl)) ?_;refine af ?_;refine aO rfl (iG rfl rfl hk) ?_;rintro _ h1 ⟨rfl,k1,x1,z1⟩;refine af ?_;have hls1:=hls.mv (Mv.bY x1 λb _ ho=>⟨λq=>ho (.inl q),ho⟩);obtain⟨b2,o2,u2,hua2,hub2,hu2,hrow2⟩:=hls1.nA hil;rw[hu] at hu2;cases hu2;refine bF rfl (aA rfl (k1.cell (i:=0) rfl)) ?_;refine af ?_;refine bF rfl (aA rfl (k1.cell (i:=1) rfl)) ?_;refine jD ?_;refine bF rfl (bZ rfl rfl i (by omega) hua2) ?_;refine af ?_;refine bF rfl (aA rfl (hrow2 1 _ rfl)) ?_;refine af ?_;refine aP ?_;have hyes:cg e (.ok (u::r))=(u.2.1,.ok r):=by rw[iR,if_pos hkk]
     rw[hyes];exact⟨_,rfl,rfl,⟨i+1,false,m,k1,hls1.shut,hil,⟨rfl,hr'⟩,hpn,by have:=x1.size;dsimp only;omega⟩,x1⟩
def eI (c:PC) (h h':aq) (s':PS) (t:Tr) (r:Value):Prop :=
 Ext (λb=>b=c.pb) h h'/\tj c h' s'/\∃t',dK h' (λb=>b<h.size) r t'/\(s'.bB=false->t'=t)
def Ct (f:FuncId) (ex:List Value) (j:H6) (n:Nat):Prop :=
 ∀(c:PC) (h:aq) (s:PS) (t:Tr) (s':PS),tj c h s->pM c.e n j s=some (t,s')->au prog f (ptr c.pb::ex).toArray h (bK λr h'=>eI c h h' s' t r)
structure B9 (n:Nat):Prop where
 stmt:Ct 14 [] .stmt n
 expr:Ct 35 [] .expr n
 lt:∀a,Ct 34 [.bool a] (.lt a) n
 choice:Ct 68 [] .choice n
 fn:Ct 69 [] .fn n
 block:Ct 108 [] .block n
 p0:Ct 70 [] (.part 0) n
 p1:Ct 109 [] (.part 1) n
 p2:Ct 133 [] (.part 2) n
 p3:Ct 150 [] (.part 3) n
 p4:Ct 164 [] (.part 4) n
 p5:Ct 185 [] (.part 5) n
 p6:Ct 195 [] (.part 6) n
 p7:Ct 197 [] (.part 7) n
 atom:Ct 199 [] .atom n
theorem eI.ret {c:PC}{g2 g3:aq}{J:Nat}{Y:PS}{r:Value}(k:eI c g g2 s' t r) (hp:tj c h Y) (x:Ext (λb=>b=c.pb) h g) (I:Ext (λb=>b=J) g2 g3) (h1:h.size<=J) (h2:J<g.size):eI c h g3 s' t r:=by
 obtain⟨U,k1,t',k2,k3⟩:=k;obtain⟨o1,o2⟩:=hp.old;have:=x.size;have:=U.size;exact⟨(x.trans U).cZ I (λi hi q=>by omega),k1.ext I (λb hb q=>by omega),t',k2.ext I (λb hb q=>⟨λZ=>q (by omega),λZ=>q (by omega)⟩),k3⟩
theorem Ce (ih:∀m,m<=n->B9 m):Ct 14 [] .stmt (n+1):=by
 intro c h s t s' hp hm;have hpl:=hp.lt;rw[pM] at hm;refine bJ ?_;refine af ?_;refine xo rfl (cL) ?_;rintro _ h1 ⟨rfl,k1,e1,z1⟩;refine af ?_;refine xo rfl (iD [_]) ?_;rintro _ w2 ⟨rfl,ac⟩;have y2:aj h1 w2:=by rw[ac];exact Ext.push _ _ _
 have ae:aL oA w2 (λ_=>False) (.slice (some ⟨Array.size h1,0,none⟩) 1 1) [oy]:=by rw[ac];exact bR _ [oy] _ rfl (by simp[maxLen]) rfl
 refine xo rfl (aE rfl (bQ ((hp.ah e1).ah y2) 4 ae)) ?_;rintro _ h2 ⟨rfl,aa,x2⟩;have x2:=y2.of.trans x2
 rcases ag:bM 4 [oy] s with ⟨o2,s2⟩
 rw[ag] at aa hm;have k2:=k1.ext x2 (show ¬h.size=c.pb by omega);have ab:=e1.of.trans x2
 rcases o2 with _|v2
 · simp only at hm;refine af ?_;refine dB rfl (by simp) ?_;refine af ?_;refine xo rfl (aE rfl ((ih n (Nat.le_refl _)).expr _ _ _ _ _ aa hm)) ?_;rintro r9 g9 ⟨y9,Z,t9,I,Y⟩;have k9:=(k2).ext y9 (show ¬h.size=c.pb by omega);obtain⟨nk,nt,na,nn,nc,rfl,_⟩:=I.get;refine aO rfl (aZ rfl rfl k9) ?_;rintro _ g10 ⟨rfl,U,J,ad⟩;refine af ?_;refine cE (cz rfl U.row cD) ?_;exact⟨_,rfl,eI.ret ⟨y9,Z,t9,I,Y⟩ hp (ab) J (Nat.le_refl _) (k2).lt⟩
 · simp only at hm;refine af ?_;refine dc rfl (by simp) ?_;refine af ?_;refine xo rfl (aE rfl ((ih n (Nat.le_refl _)).lt true _ _ _ _ _ aa hm)) ?_;rintro r9 g9 ⟨y9,Z,t9,I,Y⟩;have k9:=(k2).ext y9 (show ¬h.size=c.pb by omega);obtain⟨nk,nt,na,nn,nc,rfl,_⟩:=I.get;refine aO rfl (aZ rfl rfl k9) ?_;rintro _ g10 ⟨rfl,U,J,ad⟩;refine af ?_;refine cE (cz rfl U.row cD) ?_;exact⟨_,rfl,eI.ret ⟨y9,Z,t9,I,Y⟩ hp (ab) J (Nat.le_refl _) (k2).lt⟩
theorem Cf (ih:∀m,m<=n->B9 m):Ct 35 [] .expr (n+1):=by
 intro c h s t s' hp hm;have hpl:=hp.lt;rw[pM] at hm;refine bJ ?_;refine af ?_;refine xo rfl (cL) ?_;rintro _ h1 ⟨rfl,k1,e1,z1⟩;refine af ?_;refine xo rfl (iD [_]) ?_;rintro _ w2 ⟨rfl,an⟩;have y2:aj h1 w2:=by rw[an];exact Ext.push _ _ _
 have ar:aL oA w2 (λ_=>False) (.slice (some ⟨Array.size h1,0,none⟩) 1 1) [oy]:=by rw[an];exact bR _ [oy] _ rfl (by simp[maxLen]) rfl
 refine xo rfl (aE rfl (bQ ((hp.ah e1).ah y2) 4 ar)) ?_;rintro _ h2 ⟨rfl,ad,x2⟩;have x2:=y2.of.trans x2
 rcases a6:bM 4 [oy] s with ⟨o2,s2⟩
 rw[a6] at ad hm;have k2:=k1.ext x2 (show ¬h.size=c.pb by omega);have ak:=e1.of.trans x2
 rcases o2 with _|v2
 · simp only at hm;refine af ?_;refine dB rfl (by simp) ?_;refine af ?_;refine xo rfl (iD [_]) ?_;rintro _ w3 ⟨rfl,am⟩;have y3:aj h2 w3:=by rw[am];exact Ext.push _ _ _
   have ap:aL oA w3 (λ_=>False) (.slice (some ⟨Array.size h2,0,none⟩) 1 1) [zJ]:=by rw[am];exact bR _ [zJ] _ rfl (by simp[maxLen]) rfl
   refine xo rfl (aE rfl (bQ (ad.ah y3) 4 ap)) ?_;rintro _ h3 ⟨rfl,ac,x3⟩;have x3:=y3.of.trans x3
   rcases a1:bM 4 [zJ] s2 with ⟨o3,s3⟩
   rw[a1] at ac hm;have k3:=k2.ext x3 (show ¬h.size=c.pb by omega);have ag:=ak.trans x3
   rcases o3 with _|v3
   · simp only at hm;refine af ?_;refine dB rfl (by simp) ?_;refine af ?_;refine xo rfl (iD [_]) ?_;rintro _ w4 ⟨rfl,al⟩;have y4:aj h3 w4:=by rw[al];exact Ext.push _ _ _
     have ao:aL oA w4 (λ_=>False) (.slice (some ⟨Array.size h3,0,none⟩) 1 1) [AR]:=by rw[al];exact bR _ [AR] _ rfl (by simp[maxLen]) rfl
     refine xo rfl (aE rfl (bQ (ac.ah y4) 4 ao)) ?_;rintro _ h4 ⟨rfl,ab,x4⟩;have x4:=y4.of.trans x4
     rcases aw:bM 4 [AR] s3 with ⟨o4,s4⟩
     rw[aw] at ab hm;have k4:=k3.ext x4 (show ¬h.size=c.pb by omega);have ae:=ag.trans x4
     rcases o4 with _|v4
     · simp only at hm;refine af ?_;refine dB rfl (by simp) ?_;refine af ?_;refine xo rfl (aE rfl ((ih n (Nat.le_refl _)).p0 _ _ _ _ _ ab hm)) ?_;rintro r9 g9 ⟨y9,Z,t9,I,Y⟩;have k9:=(k4).ext y9 (show ¬h.size=c.pb by omega);obtain⟨nk,nt,na,nn,nc,rfl,_⟩:=I.get;refine aO rfl (aZ rfl rfl k9) ?_;rintro _ g10 ⟨rfl,U,J,aa⟩;refine af ?_;refine cE (cz rfl U.row cD) ?_;exact⟨_,rfl,eI.ret ⟨y9,Z,t9,I,Y⟩ hp (ae) J (Nat.le_refl _) (k4).lt⟩
     · simp only at hm;refine af ?_;refine dc rfl (by simp) ?_;refine af ?_;refine xo rfl (aE rfl ((ih n (Nat.le_refl _)).fn _ _ _ _ _ ab hm)) ?_;rintro r9 g9 ⟨y9,Z,t9,I,Y⟩;have k9:=(k4).ext y9 (show ¬h.size=c.pb by omega);obtain⟨nk,nt,na,nn,nc,rfl,_⟩:=I.get;refine aO rfl (aZ rfl rfl k9) ?_;rintro _ g10 ⟨rfl,U,J,aa⟩;refine af ?_;refine cE (cz rfl U.row cD) ?_;exact⟨_,rfl,eI.ret ⟨y9,Z,t9,I,Y⟩ hp (ae) J (Nat.le_refl _) (k4).lt⟩
   · simp only at hm;refine af ?_;refine dc rfl (by simp) ?_;refine af ?_;refine xo rfl (aE rfl ((ih n (Nat.le_refl _)).choice _ _ _ _ _ ac hm)) ?_;rintro r9 g9 ⟨y9,Z,t9,I,Y⟩;have k9:=(k3).ext y9 (show ¬h.size=c.pb by omega);obtain⟨nk,nt,na,nn,nc,rfl,_⟩:=I.get;refine aO rfl (aZ rfl rfl k9) ?_;rintro _ g10 ⟨rfl,U,J,aa⟩;refine af ?_;refine cE (cz rfl U.row cD) ?_;exact⟨_,rfl,eI.ret ⟨y9,Z,t9,I,Y⟩ hp (ag) J (Nat.le_refl _) (k3).lt⟩
 · simp only at hm;refine af ?_;refine dc rfl (by simp) ?_;refine af ?_;refine xo rfl (aE rfl ((ih n (Nat.le_refl _)).lt false _ _ _ _ _ ad hm)) ?_;rintro r9 g9 ⟨y9,Z,t9,I,Y⟩;have k9:=(k2).ext y9 (show ¬h.size=c.pb by omega);obtain⟨nk,nt,na,nn,nc,rfl,_⟩:=I.get;refine aO rfl (aZ rfl rfl k9) ?_;rintro _ g10 ⟨rfl,U,J,aa⟩;refine af ?_;refine cE (cz rfl U.row cD) ?_;exact⟨_,rfl,eI.ret ⟨y9,Z,t9,I,Y⟩ hp (ak) J (Nat.le_refl _) (k2).lt⟩
theorem bE {j:H6}(h:pM e n j s=some (t,s')) (I:s'.bB=false):s.bB=false:=by
 cases s with
 |ok r=>rfl
 |bad m=>rw[IY h] at I;cases I
theorem aS {o:Option By}(h:bM k ts s=(o,s')) (I:s'.bB=false):s.bB=false:=by
 cases s with
 |ok r=>rfl
 |bad m=>rw[K1] at h;cases h;cases I
theorem dQ:(cu e s).bB=true:=by cases s<;>rfl
theorem dM {t:By}(I:(bV e k t s).bB=false):s.bB=false:=by
 cases s with
 |ok r=>rfl
 |bad m=>cases I
theorem bT {c:PC}{g3:aq}{J:PS}{t':Tr}(Z:tj c h J) (x:Ext (λb=>b=c.pb) h g) (k:tj c g s') (hn:dK g (λb=>b<=h.size) v t') (Y:s'.bB=false->t'=t) (I:Ext (λb=>b=h.size) g g3):eI c h g3 s' t v:=by
 obtain⟨o1,o2⟩:=Z.old;have:=x.size;exact⟨x.cZ I (λi hi q=>by omega),k.ext I (λb hb q=>by omega),t',hn.ext I (λb hb q=>⟨λU=>q (by omega),λU=>q (by omega)⟩),Y⟩
theorem eD {g c b:Nat}(h:(Value.slice (some ⟨g,0,none⟩) n c).ownBlock=some b):b=g:=(Option.some.inj h).symm
theorem eY {t:ByteArray}{a:Option Addr}{c:Nat}:∀v∈[Value.int .i64 k,.string t,.slice a n c],v.oneCell'=true:=λv I=>by simp at I;rcases I with rfl|rfl|rfl<;>rfl
theorem pZ {base:Nat}{e:TypeId}{size:Nat}{xs:List Value}(k:aB h base e size v n xs):∃a m c,v= .slice a m c:=by
 rcases k.2 with ⟨rfl,_⟩|⟨g,cap,cur,rfl,_⟩
 · exact⟨_,_,_,rfl⟩
 · exact⟨_,_,_,rfl⟩
theorem Ee (ih:∀m,m<=n->B9 m) (al:Bool):Ct 34 [.bool al] (.lt al) (n+1):=by
 intro c h s t s' hp hm;have hpl:=hp.lt;obtain⟨o1,o2⟩:=hp.old;rw[pM] at hm;obtain⟨v,s1,hv,hm⟩:=ay hm;refine bJ ?_;refine af ?_;refine xo rfl (cL) ?_;rintro _ h1 ⟨rfl,k1,e1,z1⟩;refine af ?_;refine xo rfl (aE rfl (uz (hp.ah e1))) ?_;rintro _ h2 ⟨rfl,hp2,x2⟩;refine xp rfl (av (H.mQ _ _) rfl) ?_;refine xo rfl (cL) ?_;rintro _ h3 ⟨rfl,k3,e3,z3⟩;refine aO rfl (aZ rfl rfl k3) ?_;rintro _ h4 ⟨rfl,k4,x4,z4⟩;have z2:=x2.size;have hp4:=(hp2.ah e3).ext x4 (λb hb q=>by omega);refine af ?_;refine xo rfl (aE rfl (gP hp4 6 [61])) ?_;rintro _ h5 ⟨hp5,x5⟩;have z5:=x5.size;refine af ?_;refine xo rfl (aE rfl ((ih n (Nat.le_refl _)).expr _ _ _ _ _ hp5 hv)) ?_;rintro r6 h6 ⟨y6,hp6,t6,hn6,ht6⟩;have z6:=y6.size;obtain⟨nk,nt,na,nn,nc,rfl,hr6⟩:=hn6.get;have k6:=(k4.ext x5 (show ¬h2.size=c.pb by omega)).ext y6 (show ¬h2.size=c.pb by omega);refine xo rfl (lg) ?_;rintro _ h7 ⟨rfl,hh7⟩;have e7:aj h6 h7:=by rw[hh7];exact Ext.push _ _ _
 have z7:h7.size=h6.size+1:=by rw[hh7];simp
 have ho7:cH eN (λb=>b<h5.size) h7 h6.size 41 (.slice (some ⟨h6.size,0,none⟩) 1 1) [t6]:=by rw[hh7];exact cH.kC hr6 (Nat.le_refl _)
 refine af ?_;refine aO rfl (iG rfl rfl ((k6.ah e7))) ?_;rintro _ h8 ⟨rfl,k8,x8,z8⟩;have k8:aC h8 h2.size 41 [.int .i64 7,.string (bs (cg c.e s).1),.slice (some ⟨h6.size,0,none⟩) 1 1]:=k8;have ho8:cH eN (λb=>b<h5.size) h8 h6.size 41 (.slice (some ⟨h6.size,0,none⟩) 1 1) [t6]:=ho7.kU x8 (λb q q2=>by have:=eD q;omega) (λb hb q=>by omega) (λ_ _ q=>q);have hp8:=(hp6.ah e7).ext x8 (λb hb q=>by omega);have x08:Ext (λb=>b=c.pb) h h8:=((((((e1.of.trans x2).trans e3.of).cZ x4 (λi hi q=>by omega)).trans x5).trans y6).trans e7.of).cZ x8 (λi hi q=>by omega);have q8:=(((((((k1.ext x2 (show ¬h.size=c.pb by omega)).ah e3).ext x4 (show ¬h.size=h2.size by omega)).ext x5 (show ¬h.size=c.pb by omega)).ext y6 (show ¬h.size=c.pb by omega)).ah e7).ext x8 (show ¬h.size=h2.size by omega))
 refine af ?_;refine xo rfl (iD [_]) ?_;rintro _ w9 ⟨rfl,hw9⟩;have y9:aj h8 w9:=by rw[hw9];exact Ext.push _ _ _
 have ts9:aL oA w9 (λ_=>False) (.slice (some ⟨Array.size h8,0,none⟩) 1 1) [Kv]:=by rw[hw9];exact bR _ [Kv] _ rfl (by simp[maxLen]) rfl
 refine xo rfl (aE rfl (bQ (hp8.ah y9) 4 ts9)) ?_;rintro _ h9 ⟨rfl,hp9,x9⟩;have x9:=y9.of.trans x9
 rcases hq9:bM 4 [Kv] s1 with ⟨o9,s9⟩
 rw[hq9] at hp9 hm;have z9:=x9.size;have k9:=k8.ext x9 (show ¬h2.size=c.pb by omega);have q9:=q8.ext x9 (show ¬h.size=c.pb by omega);have x09:=x08.trans x9;have ho9:cH eN (λb=>b<h5.size) h9 h6.size 41 (.slice (some ⟨h6.size,0,none⟩) 1 1) [t6]:=ho8.kU x9 (λb q q2=>by have:=eD q;omega) (λb hb q=>by omega) (λ_ _ q=>q)
 rcases o9 with _|v9
 · simp only at hm;have e9:=aM hq9;have hs9:aL eN h9 (λb=>b<=h.size) _ [t6]:=ho9.wO (λb q q2=>by have:=eD q;omega) (λb hb q=>by omega);refine af ?_;refine dB rfl (by simp) ?_;refine af ?_;refine jS (λha=>?_) (λha=>?_)
   · have ha:al=false:=by simpa using ha
     subst ha;simp only[Bool.false_eq_true,if_false] at hm;obtain⟨rfl,rfl⟩:Tr.mk 7 (cg c.e s).1 [v]=t/\cu c.e s9=s':=by cases hm;exact⟨rfl,rfl⟩
     refine af ?_;refine xo rfl (aE rfl (eS hp9)) ?_;rintro _ h10 ⟨rfl,hp10,x10⟩;refine af ?_;refine xp rfl (cj rfl (k9.ext x10 (show ¬h2.size=c.pb by omega)).row) ?_;refine aO rfl (aZ rfl rfl ((q9.ext x10 (show ¬h.size=c.pb by omega))) eY) ?_;rintro _ hz ⟨rfl,kz,xz,zz⟩;refine af ?_;refine cE (cz rfl kz.row cD) ?_;exact⟨_,rfl,bT hp (x09.trans x10) hp10 (dK.shut (hs9.mv (Mv.bY x10 λb hb q=>⟨λq2=>q (by omega),q⟩))) (λq=>by rw[dQ] at q;cases q) xz⟩
   · have ha:al=true:=by simpa using ha
     subst ha;simp only[if_true] at hm;obtain⟨rfl,rfl⟩:Tr.mk 7 (cg c.e s).1 [v]=t/\s9=s':=by cases hm;exact⟨rfl,rfl⟩
     refine af ?_;refine xp rfl (cj rfl k9.row) ?_;refine aO rfl (aZ rfl rfl q9 eY) ?_;rintro _ hz ⟨rfl,kz,xz,zz⟩;refine af ?_;refine cE (cz rfl kz.row cD) ?_;exact⟨_,rfl,bT hp x09 hp9 (dK.shut hs9) (λq=>by rw[ht6 (aS hq9 q)]) xz⟩
 · simp only at hm;obtain⟨w,s3,hw,hm⟩:=ay hm;obtain⟨rfl,rfl⟩:Tr.mk 7 (cg c.e s).1 [v,w]=t/\s3=s':=by cases hm;exact⟨rfl,rfl⟩
   refine af ?_;refine dc rfl (by simp) ?_;refine jK 8 (λb=>b=c.pb\/b=h6.size\/Array.size h9<=b) (λi=>Nat.blt i 7) ?_;refine aF 0 ?_;refine bq 1 rfl (λh' e=>aA rfl (e.cell (by dsimp only;omega) (k9.cell (i:=2) rfl))) ?_;refine aF 2 ?_;refine cV 3 rfl (aE rfl ((ih n (Nat.le_refl _)).expr _ _ _ _ _ hp9 hw)) ?_;rintro r10 h10 ⟨y10,hp10,t10,hn10,ht10⟩;refine⟨λ_=>y10.mono (λ_ _ q=>.inl q),?_⟩;have z10:=y10.size;obtain⟨mk,mt,ma,mn,mc,rfl,hr10⟩:=hn10.get;have ho10:cH eN (λb=>b<h5.size) h10 h6.size 41 (.slice (some ⟨h6.size,0,none⟩) 1 1) [t6]:=ho9.kU y10 (λb q q2=>by have:=eD q;omega) (λb hb q=>by omega) (λ_ _ q=>q);obtain⟨css,hc1,hc2,hc3⟩:=id ho10;have hc2:aB h10 h6.size 41 3 (.slice (some ⟨h6.size,0,none⟩) 1 1) 1 css.flatten:=hc2;refine cV 4 rfl (lg) ?_;rintro _ _ ⟨rfl,rfl⟩;refine⟨λ_=>by first|exact Ext.push _ _ _|assumption,?_⟩;refine cV 5 rfl (vL rfl rfl hc2 rfl rfl) ?_;rintro v12 h12 ⟨ho12,hx12,hx12',hv12⟩;refine⟨λ_=>hx12'.mono (λb _ q=>.inr (.inl (Option.some.inj q))),?_⟩;have k12:=(k9.ext y10 (show ¬h2.size=c.pb by omega)).ext hx12 (λq=>by have:=eD (Eq.symm q);omega);obtain⟨va,vm,vc,rfl⟩:=pZ ho12;refine aF 6 ?_;refine gU 7 rfl (iG rfl rfl k12) ?_;rintro _ h13 ⟨rfl,k13,x13,z13⟩;refine⟨nofun,?_⟩;refine fV ?_;refine af ?_;have k13:aC h13 h2.size 41 [.int .i64 7,.string (bs (cg c.e s).1),.slice va vm vc]:=k13;have z12:=hx12.size
   have hr10':eN.R h10 (λb=>bU (Value.slice (some ⟨h6.size,0,none⟩) 1 1).ownBlock b\/b<h5.size) [.int .i64 mk,.string (bs mt),.slice ma mn mc] t10:=aK hr10 (Ext.refl (λ_=>False) _) (λb hb q=>⟨λk=>k,λq2=>by
    rcases q2 with q2|q2
    · have:=eD (Eq.symm q2);omega
    · omega⟩)
   have ho12x:cH eN (λb=>b<h5.size) h12 h6.size 41 (.slice va vm vc) [t6,t10]:=cH.eC hc1 hc3 ho12 hx12 hv12 hr10';have q13:=((q9.ext y10 (show ¬h.size=c.pb by omega)).ext hx12 (λq=>by have:=eD (Eq.symm q);omega)).ext x13 (show ¬h.size=h2.size by omega);have hs13:aL eN h13 (λb=>b<=h.size) (.slice va vm vc) [t6,t10]:=(ho12x.kU x13 (λb q q2=>by have:=(ho12.lt q).1;omega) (λb hb q=>by omega) (λ_ _ q=>q)).read (λb hb q=>by omega) (λb hb q=>by omega);have x013:Ext (λb=>b=c.pb) h h13:=((x09.trans y10).cZ hx12 (λi hi q=>by have:=eD (Eq.symm q);omega)).cZ x13 (λi hi q=>by omega);have hp13:tj c h13 s3:=(hp10.ext hx12 (λb hb q=>by have:=eD (Eq.symm q);omega)).ext x13 (λb hb q=>by omega);refine xp rfl (cj rfl k13.row) ?_;refine aO rfl (aZ rfl rfl q13 eY) ?_;rintro _ hz ⟨rfl,kz,xz,zz⟩;refine af ?_;refine cE (cz rfl kz.row cD) ?_;exact⟨_,rfl,bT hp x013 hp13 (dK.shut hs13) (λq=>by rw[ht6 (aS hq9 (bE hw q)),ht10 q]) xz⟩
theorem Ef (ih:∀m,m<=n->B9 m):Ct 69 [] .fn (n+1):=by
 intro c h s t s' hp hm;have hpl:=hp.lt;obtain⟨o1,o2⟩:=hp.old;rw[pM] at hm;refine bJ ?_;refine af ?_;refine xo rfl (cL) ?_;rintro _ h1 ⟨rfl,k1,e1,z1⟩;refine af ?_;refine xo rfl (aE rfl (uz (hp.ah e1))) ?_;rintro _ Y ⟨rfl,aw,x2⟩;refine xp rfl (av (H.mQ _ _) rfl) (xo rfl (cL) ?_);rintro _ h3 ⟨rfl,k3,e3,z3⟩;refine aO rfl (aZ rfl rfl k3) ?_;rintro _ h4 ⟨rfl,k4,x4,z4⟩;have z2:=x2.size;have ar:=(aw.ah e3).ext x4 (λb hb q=>by omega);have am:Ext (λb=>b=c.pb) h h4:=((e1.of.trans x2).trans e3.of).cZ x4 (λi hi q=>by omega);have q4:=((k1.ext x2 (show ¬h.size=c.pb by omega)).ah e3).ext x4 (show ¬h.size=Y.size by omega);refine af ?_;refine xo rfl (iD [_]) ?_;rintro _ w5 ⟨rfl,al⟩;have y5:aj h4 w5:=by rw[al];exact Ext.push _ _ _
 have an:aL oA w5 (λ_=>False) (.slice (some ⟨Array.size h4,0,none⟩) 1 1) [[44]]:=by rw[al];exact bR _ [[44]] _ rfl (by simp[maxLen]) rfl
 refine xo rfl (aE rfl (bQ (ar.ah y5) 6 an)) ?_;rintro _ h5 ⟨rfl,ae,x5⟩;have x5:=y5.of.trans x5
 rcases ao:bM 6 [[44]] (cg c.e s).2 with ⟨o5,s5⟩
 rw[ao] at ae hm;have z5:=x5.size;have k5:=k4.ext x5 (show ¬Y.size=c.pb by omega);have q5:=q4.ext x5 (show ¬h.size=c.pb by omega);have ak:=am.trans x5
 rcases o5 with _|v5
 · simp only at hm;obtain⟨v,s1,hv,hm⟩:=ay hm;obtain⟨rfl,rfl⟩:Tr.mk 8 (cg c.e s).1 [v]=t/\s1=s':=by cases hm;exact⟨rfl,rfl⟩
   refine af ?_;refine dB rfl (by simp) ?_;refine af ?_;refine xo rfl (aE rfl (gP ae 6 [45,62])) ?_;rintro _ hb ⟨ap,xb⟩;have zb:=xb.size;refine af ?_;refine xo rfl (aE rfl ((ih n (Nat.le_refl _)).expr _ _ _ _ _ ap hv)) ?_;rintro r6 U ⟨y6,ad,t6,ag,aa⟩;have z6:=y6.size;obtain⟨nk,nt,na,nn,nc,rfl,ac⟩:=ag.get;refine xo rfl (lg) ?_;rintro _ h7 ⟨rfl,I⟩;have Z:aj U h7:=by rw[I];exact Ext.push _ _ _
   have z7:h7.size=U.size+1:=by rw[I];simp
   have ab:aL eN h7 (λb=>b<Array.size hb) (.slice (some ⟨U.size,0,none⟩) 1 1) [t6]:=by rw[I];exact ij ac (by omega)
   refine af ?_;refine aO rfl (iG rfl rfl ((((k5.ext xb (show ¬Y.size=c.pb by omega)).ext y6 (show ¬Y.size=c.pb by omega)).ah Z))) ?_;rintro _ h8 ⟨rfl,k8,J,z8⟩;have k8:aC h8 Y.size 41 [.int .i64 8,.string (bs (cg c.e s).1),.slice (some ⟨U.size,0,none⟩) 1 1]:=k8;refine af ?_;refine xp rfl (cj rfl k8.row) (aO rfl (aZ rfl rfl (((((q5.ext xb (show ¬h.size=c.pb by omega)).ext y6 (show ¬h.size=c.pb by omega)).ah Z).ext J (show ¬h.size=Y.size by omega))) eY) ?_);rintro _ hz ⟨rfl,kz,xz,zz⟩;refine af ?_;refine cE (cz rfl kz.row cD) ?_;exact⟨_,rfl,bT hp ((((ak.trans xb).trans y6).trans Z.of).cZ J (λi hi q=>by omega)) ((ad.ah Z).ext J (λb hb q=>by omega)) (dK.shut (ab.mv (Mv.bY J λb hb q=>⟨λq2=>q (by omega),λq2=>q (by omega)⟩))) (λq=>by rw[aa q]) xz⟩
 · simp only at hm;obtain⟨v,s1,hv,hm⟩:=ay hm;obtain⟨rfl,rfl⟩:Tr.mk 8 (cg c.e s).1 [v]=t/\s1=s':=by cases hm;exact⟨rfl,rfl⟩
   refine af ?_;refine dc rfl (by simp) ?_;refine af ?_;refine xo rfl (aE rfl ((ih n (Nat.le_refl _)).fn _ _ _ _ _ ae hv)) ?_;rintro r6 U ⟨y6,ad,t6,ag,aa⟩;have z6:=y6.size;obtain⟨nk,nt,na,nn,nc,rfl,ac⟩:=ag.get;refine xo rfl (lg) ?_;rintro _ h7 ⟨rfl,I⟩;have Z:aj U h7:=by rw[I];exact Ext.push _ _ _
   have z7:h7.size=U.size+1:=by rw[I];simp
   have ab:aL eN h7 (λb=>b<Array.size h5) (.slice (some ⟨U.size,0,none⟩) 1 1) [t6]:=by rw[I];exact ij ac (by omega)
   refine af ?_;refine aO rfl (iG rfl rfl (((k5.ext y6 (show ¬Y.size=c.pb by omega)).ah Z))) ?_;rintro _ h8 ⟨rfl,k8,J,z8⟩;have k8:aC h8 Y.size 41 [.int .i64 8,.string (bs (cg c.e s).1),.slice (some ⟨U.size,0,none⟩) 1 1]:=k8;refine af ?_;refine xp rfl (cj rfl k8.row) (aO rfl (aZ rfl rfl ((((q5.ext y6 (show ¬h.size=c.pb by omega)).ah Z).ext J (show ¬h.size=Y.size by omega))) eY) ?_);rintro _ hz ⟨rfl,kz,xz,zz⟩;refine af ?_;refine cE (cz rfl kz.row cD) ?_;exact⟨_,rfl,bT hp (((ak.trans y6).trans Z.of).cZ J (λi hi q=>by omega)) ((ad.ah Z).ext J (λb hb q=>by omega)) (dK.shut (ab.mv (Mv.bY J λb hb q=>⟨λq2=>q (by omega),λq2=>q (by omega)⟩))) (λq=>by rw[aa q]) xz⟩
theorem gx {va vb:Value}{a b:Tr}(op:By) (hO:∀b,O b->b<h.size) (ha:dK h O va a) (hb:dK h O vb b) :
 au prog 110 #[.string (bs op),va,vb] h (bK λr h'=>dK h' O r (.mk 5 op [a,b])/\aj h h'):=by
 obtain⟨k1,t1,a1,n1,c1,rfl,ac⟩:=ha.get;obtain⟨k2,t2,a2,n2,c2,rfl,ab⟩:=hb.get;refine bJ ?_;refine af ?_;refine xo rfl (mh) ?_;rintro _ h1 ⟨rfl,b1,e1,z1⟩;refine xo rfl (mh) ?_;rintro _ h2 ⟨rfl,b2,e2,z2⟩;refine xo rfl (cL) ?_;rintro _ J ⟨rfl,b3,e3,z3⟩;have ae:aC J h.size 41 [.int .i64 k1,.string (bs t1),.slice a1 n1 c1]:=(b1.ah e2).ah e3;have ad:aC J h1.size 41 [.int .i64 k2,.string (bs t2),.slice a2 n2 c2]:=b2.ah e3;have U:=(e1.trans e2).trans e3;refine af ?_;refine xp rfl (cj rfl ae.row) (xp rfl (cj rfl ad.row) (xo rfl (aV.gS underlying28 H.K6 ([[.int .i64 k1,.string (bs t1),.slice a1 n1 c1],[.int .i64 k2,.string (bs t2),.slice a2 n2 c2]]) rfl rfl (by decide) (by simp<;>repeat' (first|rfl|constructor))) ?_));rintro _ h4 ⟨rfl,Z⟩;have e4:aj J h4:=by rw[Z];exact Ext.push _ _ _
 have g1:=e1.size;have g2:=e2.size;have m3:Mv O (λx=>O x\/h.size<=x) h J:=⟨U.size,λx hx q=>⟨U.block x hx (λk=>k),λI=>by rcases I with I|I;exact q I;omega⟩⟩
 have aa:cH eN (λx=>O x\/h.size<=x) h4 J.size 41 (.slice (some ⟨J.size,0,none⟩) 2 2) [a,b]:=by
  rw[Z];exact mG (eN.mv ac m3) (eN.mv ab m3) (Nat.le_refl _)
 refine xp rfl (av (H.nT _ _ _ _ _) rfl) (aO rfl (aZ rfl rfl ((b3.ah e4)) eY) ?_);rintro _ h5 ⟨rfl,b5,x5,z5⟩;refine af ?_;refine cE (cz rfl b5.row cD) ?_
 have Y:aL eN h4 (λx=>O x\/x=h2.size) (.slice (some ⟨J.size,0,none⟩) 2 2) [a,b]:=aa.read (λx hx q=>by
  rcases q with q|q
  · have:=hO x q;omega
  · omega) (λx hx q=>by
  rcases q with q|q
  · exact .inl q
  · exact .inr (by omega))
 exact⟨_,rfl,dK.shut (Y.mv (Mv.bY x5 λx hx q=>⟨λI=>q (.inr I),λI=>q (.inl I)⟩)),aj.only (U.trans e4) x5 (by omega)⟩
theorem AJ (ih:∀m,m<=n->B9 m):Ct 195 [] (.part 6) (n+1):=by
 intro c h s t s' Z hm;have hpl:=Z.lt;obtain⟨o1,o2⟩:=Z.old;rw[pM,if_neg (by decide),if_neg (by decide),if_pos rfl] at hm;refine bJ ?_;refine af ?_;refine xo rfl (cL) ?_;rintro _ h1 ⟨rfl,k1,e1,z1⟩;refine af ?_;refine xo rfl (iD [_]) ?_;rintro _ w2 ⟨rfl,Y⟩;have y2:aj h1 w2:=by rw[Y];exact Ext.push _ _ _
 have ac:aL oA w2 (λ_=>False) (.slice (some ⟨Array.size h1,0,none⟩) 1 1) [ia]:=by rw[Y];exact bR _ [ia] _ rfl (by simp[maxLen]) rfl
 refine xo rfl (aE rfl (bQ ((Z.ah e1).ah y2) 6 ac)) ?_;rintro _ h2 ⟨rfl,I,x2⟩;have x2:=y2.of.trans x2
 rcases am:bM 6 [ia] s with ⟨o2,s2⟩
 rw[am] at I hm;have k2:=k1.ext x2 (show ¬h.size=c.pb by omega);have U:=e1.of.trans x2
 rcases o2 with _|v2
 · simp only at hm;refine af ?_;refine dB rfl (by simp) ?_;refine af ?_;refine xo rfl (aE rfl ((ih n (Nat.le_refl _)).p7 _ _ _ _ _ I hm)) ?_;rintro r9 g9 ⟨y9,an,t9,aa,ae⟩;have k9:=(k2).ext y9 (show ¬h.size=c.pb by omega);obtain⟨nk,nt,na,nn,nc,rfl,_⟩:=aa.get;refine aO rfl (aZ rfl rfl k9) ?_;rintro _ g10 ⟨rfl,ad,ab,z10⟩;refine af ?_;refine cE (cz rfl ad.row cD) ?_;exact⟨_,rfl,eI.ret ⟨y9,an,t9,aa,ae⟩ Z (U) ab (Nat.le_refl _) (k2).lt⟩
 · simp only at hm;obtain⟨v,s1,hv,hm⟩:=ay hm;obtain⟨rfl,rfl⟩:Tr.mk 4 ia [v]=t/\s1=s':=by cases hm;exact⟨rfl,rfl⟩
   refine af ?_;refine dc rfl (by simp) ?_;refine af ?_;refine xo rfl (aE rfl ((ih n (Nat.le_refl _)).p6 _ _ _ _ _ I hv)) ?_;rintro r6 h6 ⟨y6,ao,t6,ap,ag⟩;have z6:=y6.size;obtain⟨nk,nt,na,nn,nc,rfl,al⟩:=ap.get;refine xo rfl (lg) ?_;rintro _ h7 ⟨rfl,J⟩;have e7:aj h6 h7:=by rw[J];exact Ext.push _ _ _
   have z7:h7.size=h6.size+1:=by rw[J];simp
   have ak:aL eN h7 (λb=>b<Array.size h2) (.slice (some ⟨h6.size,0,none⟩) 1 1) [t6]:=by rw[J];exact ij al (by omega)
   have zk:=(k2).lt;refine xp rfl (av (H.nT _ _ _ _ _) rfl) (aO rfl (aZ rfl rfl (((k2.ext y6 (show ¬h.size=c.pb by omega)).ah e7)) eY) ?_);rintro _ hz ⟨rfl,kz,xz,zz⟩;refine af ?_;refine cE (cz rfl kz.row cD) ?_;exact⟨_,rfl,bT Z (((U).trans y6).trans e7.of) (ao.ah e7) (dK.shut (ak.mv (Mv.bY (Ext.refl (λ_=>False) _) λb hb q=>⟨λq2=>q2,λq2=>q (by omega)⟩))) (λq=>by rw[ag q]) xz⟩
theorem Ed (ih:∀m,m<=n->B9 m):Ct 133 [] (.part 2) (n+1):=by
 intro c h s t s' hp hm;have hpl:=hp.lt;obtain⟨o1,o2⟩:=hp.old;rw[pM,if_neg (by decide),if_pos rfl] at hm;refine bJ ?_;refine af ?_;refine xo rfl (cL) ?_;rintro _ h1 ⟨rfl,k1,e1,z1⟩;refine af ?_;refine xo rfl (iD [_]) ?_;rintro _ w2 ⟨rfl,ak⟩;have y2:aj h1 w2:=by rw[ak];exact Ext.push _ _ _
 have ao:aL oA w2 (λ_=>False) (.slice (some ⟨Array.size h1,0,none⟩) 1 1) [kW]:=by rw[ak];exact bR _ [kW] _ rfl (by simp[maxLen]) rfl
 refine xo rfl (aE rfl (bQ ((hp.ah e1).ah y2) 4 ao)) ?_;rintro _ h2 ⟨rfl,ab,x2⟩;have x2:=y2.of.trans x2
 rcases a1:bM 4 [kW] s with ⟨o2,s2⟩
 rw[a1] at ab hm;have k2:=k1.ext x2 (show ¬h.size=c.pb by omega);have ae:=e1.of.trans x2
 rcases o2 with _|v2
 · simp only at hm;refine af ?_;refine dc rfl (by simp) ?_;refine af ?_;refine xo rfl (iD [_]) ?_;rintro _ w3 ⟨rfl,ag⟩;have y3:aj h2 w3:=by rw[ag];exact Ext.push _ _ _
   have an:aL oA w3 (λ_=>False) (.slice (some ⟨Array.size h2,0,none⟩) 1 1) [oG]:=by rw[ag];exact bR _ [oG] _ rfl (by simp[maxLen]) rfl
   refine xo rfl (aE rfl (bQ (ab.ah y3) 6 an)) ?_;rintro _ h3 ⟨rfl,aa,x3⟩;have x3:=y3.of.trans x3
   rcases aw:bM 6 [oG] s2 with ⟨o3,s3⟩
   rw[aw] at aa hm;have k3:=k2.ext x3 (show ¬h.size=c.pb by omega);have ad:=ae.trans x3
   rcases o3 with _|v3
   · simp only at hm;refine af ?_;refine dc rfl (by simp) ?_;refine af ?_;refine xo rfl (aE rfl ((ih n (Nat.le_refl _)).p3 _ _ _ _ _ aa hm)) ?_;rintro r9 g9 ⟨y9,a6,t9,al,ar⟩;have k9:=(k3).ext y9 (show ¬h.size=c.pb by omega);obtain⟨nk,nt,na,nn,nc,rfl,_⟩:=al.get;refine aO rfl (aZ rfl rfl k9) ?_;rintro _ g10 ⟨rfl,ap,am,z10⟩;refine af ?_;refine cE (cz rfl ap.row cD) ?_;exact⟨_,rfl,eI.ret ⟨y9,a6,t9,al,ar⟩ hp (ad) am (Nat.le_refl _) (k3).lt⟩
   · simp only at hm;obtain⟨v,s1,hv,hm⟩:=ay hm;obtain⟨rfl,rfl⟩:Tr.mk 4 kW [v]=t/\s1=s':=by cases hm;exact⟨rfl,rfl⟩
     refine af ?_;refine dB rfl (by simp) ?_;refine af ?_;refine xo rfl (aE rfl ((ih n (Nat.le_refl _)).p2 _ _ _ _ _ aa hv)) ?_;rintro r6 h6 ⟨y6,Z,t6,ac,J⟩;have z6:=y6.size;obtain⟨nk,nt,na,nn,nc,rfl,Y⟩:=ac.get;refine xo rfl (lg) ?_;rintro _ h7 ⟨rfl,I⟩;have e7:aj h6 h7:=by rw[I];exact Ext.push _ _ _
     have z7:h7.size=h6.size+1:=by rw[I];simp
     have U:aL eN h7 (λb=>b<Array.size h3) (.slice (some ⟨h6.size,0,none⟩) 1 1) [t6]:=by rw[I];exact ij Y (by omega)
     have zk:=(k3).lt;refine xp rfl (av (H.nT _ _ _ _ _) rfl) (aO rfl (aZ rfl rfl (((k3.ext y6 (show ¬h.size=c.pb by omega)).ah e7)) eY) ?_);rintro _ hz ⟨rfl,kz,xz,zz⟩;refine af ?_;refine cE (cz rfl kz.row cD) ?_;exact⟨_,rfl,bT hp (((ad).trans y6).trans e7.of) (Z.ah e7) (dK.shut (U.mv (Mv.bY (Ext.refl (λ_=>False) _) λb hb q=>⟨λq2=>q2,λq2=>q (by omega)⟩))) (λq=>by rw[J q]) xz⟩
 · simp only at hm;obtain⟨v,s1,hv,hm⟩:=ay hm;obtain⟨rfl,rfl⟩:Tr.mk 4 kW [v]=t/\s1=s':=by cases hm;exact⟨rfl,rfl⟩
   refine af ?_;refine dB rfl (by simp) ?_;refine af ?_;refine xo rfl (aE rfl ((ih n (Nat.le_refl _)).p2 _ _ _ _ _ ab hv)) ?_;rintro r6 h6 ⟨y6,Z,t6,ac,J⟩;have z6:=y6.size;obtain⟨nk,nt,na,nn,nc,rfl,Y⟩:=ac.get;refine xo rfl (lg) ?_;rintro _ h7 ⟨rfl,I⟩;have e7:aj h6 h7:=by rw[I];exact Ext.push _ _ _
   have z7:h7.size=h6.size+1:=by rw[I];simp
   have U:aL eN h7 (λb=>b<Array.size h2) (.slice (some ⟨h6.size,0,none⟩) 1 1) [t6]:=by rw[I];exact ij Y (by omega)
   have zk:=(k2).lt;refine xp rfl (av (H.nT _ _ _ _ _) rfl) (aO rfl (aZ rfl rfl (((k2.ext y6 (show ¬h.size=c.pb by omega)).ah e7)) eY) ?_);rintro _ hz ⟨rfl,kz,xz,zz⟩;refine af ?_;refine cE (cz rfl kz.row cD) ?_;exact⟨_,rfl,bT hp (((ae).trans y6).trans e7.of) (Z.ah e7) (dK.shut (U.mv (Mv.bY (Ext.refl (λ_=>False) _) λb hb q=>⟨λq2=>q2,λq2=>q (by omega)⟩))) (λq=>by rw[J q]) xz⟩
structure D8 (c:PC) (h g:aq) (b3:Nat) (t1:Tr) (s1:PS):Prop where
 st:tj c g s1
 ext:Ext (λb=>b=c.pb) h g
 res:aC g h.size 41 [.int .i64 0,.string (bs []),.slice none 0 0]
 lt:h.size<b3
 nd:∃k x a n cc u,aC g b3 41 [.int .i64 k,.string (bs x),.slice a n cc]/\eN.R g (λb=>b<=h.size\/b=b3) [.int .i64 k,.string (bs x),.slice a n cc] u/\(s1.bB=false->u=t1)
theorem D8.mv {c:PC}{I:aq}{t1:Tr}{s2:PS}(k:D8 c h g b3 t1 s1) (hp:c.pb<h.size) (x:Ext (λb=>b=c.pb) g I) (hs:tj c I s2) (hg:s2.bB=false->s1.bB=false):D8 c h I b3 t1 s2:=by
 obtain⟨k1,k2,Z,k4,kk,J,a,n,cc,u,Y,k6,U⟩:=k;exact⟨hs,k2.trans x,Z.ext x (by omega),k4,kk,J,a,n,cc,u,Y.ext x (by omega),aK k6 x (λb hb q=>⟨λq2=>q (by omega),q⟩),λq=>U (hg q)⟩
theorem I6 (s:PS):yX 0 s=(match bM 4 [tA] s with|(some _,s)=>(some tA,s)|(none,s)=>match bM 6 [oe] s with|(some _,s)=>(some tA,s)|(none,s)=>(none,s)):=rfl
theorem I5 (s:PS):yX 1 s=(match bM 4 [iL] s with|(some _,s)=>(some iL,s)|(none,s)=>match bM 6 [og] s with|(some _,s)=>(some iL,s)|(none,s)=>(none,s)):=rfl
theorem I4 (s:PS):yX 3 s=bM 6 mq s:=rfl
theorem I3 (s:PS):yX 4 s=bM 6 qo s:=rfl
theorem I2 (s:PS):yX 5 s=bM 6 jh s:=rfl
theorem Gs (ih:∀m,m<=n->B9 m):Ct 70 [] (.part 0) (n+1):=by
 intro c h s t s' hp hm;have ak:=hp.lt;obtain⟨o1,o2⟩:=hp.old;rw[pM,if_neg (by decide),if_neg (by decide),if_neg (by decide)] at hm;obtain⟨v,s1,hv,hm⟩:=ay hm;refine bJ ?_;refine af ?_;refine xo rfl (cL) ?_;rintro _ h1 ⟨rfl,k1,e1,z1⟩;refine af ?_;refine xo rfl (aE rfl ((ih n (Nat.le_refl _)).p1 _ _ _ _ _ (hp.ah e1) hv)) ?_;rintro r2 h2 ⟨y2,a',t2,ba,qu⟩;obtain⟨nk,nt,na,nn,nc,rfl,a_⟩:=ba.get;refine xo rfl (cL) ?_;rintro _ h3 ⟨rfl,k3,e3,z3⟩;refine aO rfl (aZ rfl rfl k3 eY) ?_;rintro _ h4 ⟨rfl,k4,x4,z4⟩;have z2:=y2.size;have aw:Ext (λb=>b=h2.size) h2 h4:=e3.of.trans x4;have hI:D8 c h h4 h2.size v s1:=⟨(a'.ah e3).ext x4 (λb U q=>by omega),((e1.of.trans y2).trans e3.of).cZ x4 (λb U q=>by omega),((k1.ext y2 (by omega)).ah e3).ext x4 (show ¬h.size=h2.size by omega),by omega,nk,nt,na,nn,nc,t2,k4,aK a_ aw (λb U q=>⟨λI=>by omega,λI=>q (by omega)⟩),qu⟩
 refine af ?_;refine fK (σ:=Nat×Tr×PS) (λ_=>[]) (λw g=>w.1<=n/\pM c.e w.1 (.opL 0 w.2.1) w.2.2=some (t,s')/\D8 c h g h2.size w.2.1 w.2.2) (λw=>w.1) ((n,v,s1)) ⟨Nat.le_refl _,hm,hI⟩ rfl ?_;rintro⟨m,u,sI⟩ g ⟨hmn,hm,hI⟩ ao
 try dsimp only
 obtain⟨m,rfl⟩:∃m',m=m'+1:=by cases m with|zero=>cases hm|succ m=>exact⟨m,rfl⟩
 rw[pM,I6] at hm;refine af ?_;refine xo rfl (iD [_]) ?_;rintro _ w5 ⟨rfl,ar⟩;have y5:aj g w5:=by rw[ar];exact Ext.push _ _ _
 have a6:aL oA w5 (λ_=>False) (.slice (some ⟨Array.size g,0,none⟩) 1 1) [tA]:=by rw[ar];exact bR _ [tA] _ rfl (by simp[maxLen]) rfl
 refine xo rfl (aE rfl (bQ (hI.st.ah y5) 4 a6)) ?_;rintro _ h5 ⟨rfl,ac,x5⟩;have x5:=y5.of.trans x5
 rcases ab:bM 4 [tA] sI with ⟨o5,s5⟩
 rw[ab] at ac hm
 rcases o5 with _|v5
 · simp only at hm;refine af ?_;refine dc rfl (by simp) ?_;refine af ?_;refine xo rfl (iD [_]) ?_;rintro _ w6 ⟨rfl,ap⟩;have y6:aj h5 w6:=by rw[ap];exact Ext.push _ _ _
   have a1:aL oA w6 (λ_=>False) (.slice (some ⟨Array.size h5,0,none⟩) 1 1) [oe]:=by rw[ap];exact bR _ [oe] _ rfl (by simp[maxLen]) rfl
   refine xo rfl (aE rfl (bQ (ac.ah y6) 6 a1)) ?_;rintro _ h6 ⟨rfl,J,x6⟩;have x6:=y6.of.trans x6
   rcases ag:bM 6 [oe] s5 with ⟨o6,s6⟩
   rw[ag] at J hm;have an:=x5.trans x6
   rcases o6 with _|v6
   · simp only at hm;obtain⟨rfl,rfl⟩:u=t/\s6=s':=by cases hm;exact⟨rfl,rfl⟩
     refine af ?_;refine dc rfl (by simp) ?_;have aa:=hI.mv ak an J (λq=>aS ab (aS ag q));obtain⟨j1,j2,j3,j4,jk,jx,ja,jn,jc,ju,j5,j6,j7⟩:=aa;refine af ?_;refine xp rfl (cj rfl j5.row) (aO rfl (aZ rfl rfl j3 eY) ?_);rintro _ hz ⟨rfl,kz,xz,zz⟩;refine af ?_;refine cE (cz rfl kz.row cD) ?_;exact⟨_,rfl,bT hp j2 j1 (dK.of (aK j6 (Ext.refl (λ_=>False) _) (λb U q=>⟨λI=>I,λI=>q (.inl I)⟩))) j7 xz⟩
   · simp only at hm;obtain⟨v2,s3,Z,hm⟩:=ay hm;rw[if_neg (by decide)] at hm;refine af ?_;refine dB rfl (by simp) ?_;have aa:=hI.mv ak an J (λq=>aS ab (aS ag q));obtain⟨j1,j2,j3,j4,jk,jx,ja,jn,jc,ju,j5,j6,j7⟩:=aa;have a7:=j5.lt;have a8:=j2.size;refine af ?_;refine jK 5 (λb=>b=c.pb\/Array.size h6<=b) (λi=>Nat.blt i 4) (bq 0 rfl (λh' e=>cj rfl (e.rowAt (by omega) j5.row)) (aF 1 (cV 2 rfl (aE rfl ((ih m (by omega)).p1 _ _ _ _ _ J Z)) ?_)));rintro r6 h6 ⟨y6,J,t6,am,ad⟩;refine⟨λ_=>y6.mono (λ_ _ q=>.inl q),?_⟩;have z6:=y6.size;refine cV 3 rfl (aE rfl (gx (O:=λb=>b<=h.size\/b=h2.size) tA (λb q=>by omega) (dK.of (aK j6 y6 (λb U q=>⟨λI=>q (by omega),q⟩))) (am.ext (Ext.refl (λ_=>False) _) (λb U q=>⟨λI=>I,λI=>q (by omega)⟩)))) ?_;rintro r8 h8 ⟨al,Y⟩;refine⟨λ_=>Y.of,?_⟩;have z8:=Y.size;obtain⟨mk,mt,ma,mn,mc,rfl,ae⟩:=al.get;refine gU 4 rfl (aZ rfl rfl (((j5.ext y6 (show ¬h2.size=c.pb by omega)).ah Y)) eY) ?_;rintro _ h9 ⟨rfl,k9,x9,z9⟩;refine⟨nofun,?_⟩;refine fV ?_;refine af ?_;exact ao (m,.mk 5 tA [u,v2],s3) ⟨by omega,hm,⟨(J.ah Y).ext x9 (λb U q=>by omega),((j2.trans y6).trans Y.of).cZ x9 (λb U q=>by omega),((j3.ext y6 (show ¬h.size=c.pb by omega)).ah Y).ext x9 (show ¬h.size=h2.size by omega),j4,mk,mt,ma,mn,mc,_,k9,aK ae x9 (λb U q=>⟨λI=>q (.inr I),q⟩),λq=>by rw[j7 (bE Z q),ad q]⟩⟩ (Nat.lt_succ_self _)
 · simp only at hm;obtain⟨v2,s3,Z,hm⟩:=ay hm;rw[if_neg (by decide)] at hm;refine af ?_;refine dB rfl (by simp) ?_;have aa:=hI.mv ak x5 ac (λq=>aS ab q);obtain⟨j1,j2,j3,j4,jk,jx,ja,jn,jc,ju,j5,j6,j7⟩:=aa;have a7:=j5.lt;have a8:=j2.size;refine af ?_;refine jK 5 (λb=>b=c.pb\/Array.size h5<=b) (λi=>Nat.blt i 4) (bq 0 rfl (λh' e=>cj rfl (e.rowAt (by omega) j5.row)) (aF 1 (cV 2 rfl (aE rfl ((ih m (by omega)).p1 _ _ _ _ _ ac Z)) ?_)));rintro r6 h6 ⟨y6,J,t6,am,ad⟩;refine⟨λ_=>y6.mono (λ_ _ q=>.inl q),?_⟩;have z6:=y6.size;refine cV 3 rfl (aE rfl (gx (O:=λb=>b<=h.size\/b=h2.size) tA (λb q=>by omega) (dK.of (aK j6 y6 (λb U q=>⟨λI=>q (by omega),q⟩))) (am.ext (Ext.refl (λ_=>False) _) (λb U q=>⟨λI=>I,λI=>q (by omega)⟩)))) ?_;rintro r8 h8 ⟨al,Y⟩;refine⟨λ_=>Y.of,?_⟩;have z8:=Y.size;obtain⟨mk,mt,ma,mn,mc,rfl,ae⟩:=al.get;refine gU 4 rfl (aZ rfl rfl (((j5.ext y6 (show ¬h2.size=c.pb by omega)).ah Y)) eY) ?_;rintro _ h9 ⟨rfl,k9,x9,z9⟩;refine⟨nofun,?_⟩;refine fV ?_;refine af ?_;exact ao (m,.mk 5 tA [u,v2],s3) ⟨by omega,hm,⟨(J.ah Y).ext x9 (λb U q=>by omega),((j2.trans y6).trans Y.of).cZ x9 (λb U q=>by omega),((j3.ext y6 (show ¬h.size=c.pb by omega)).ah Y).ext x9 (show ¬h.size=h2.size by omega),j4,mk,mt,ma,mn,mc,_,k9,aK ae x9 (λb U q=>⟨λI=>q (.inr I),q⟩),λq=>by rw[j7 (bE Z q),ad q]⟩⟩ (Nat.lt_succ_self _)
theorem Eg (ih:∀m,m<=n->B9 m):Ct 109 [] (.part 1) (n+1):=by
 intro c h s t s' hp hm;have ak:=hp.lt;obtain⟨o1,o2⟩:=hp.old;rw[pM,if_neg (by decide),if_neg (by decide),if_neg (by decide)] at hm;obtain⟨v,s1,hv,hm⟩:=ay hm;refine bJ ?_;refine af ?_;refine xo rfl (cL) ?_;rintro _ h1 ⟨rfl,k1,e1,z1⟩;refine af ?_;refine xo rfl (aE rfl ((ih n (Nat.le_refl _)).p2 _ _ _ _ _ (hp.ah e1) hv)) ?_;rintro r2 h2 ⟨y2,a',t2,ba,qu⟩;obtain⟨nk,nt,na,nn,nc,rfl,a_⟩:=ba.get;refine xo rfl (cL) ?_;rintro _ h3 ⟨rfl,k3,e3,z3⟩;refine aO rfl (aZ rfl rfl k3 eY) ?_;rintro _ h4 ⟨rfl,k4,x4,z4⟩;have z2:=y2.size;have aw:Ext (λb=>b=h2.size) h2 h4:=e3.of.trans x4;have hI:D8 c h h4 h2.size v s1:=⟨(a'.ah e3).ext x4 (λb U q=>by omega),((e1.of.trans y2).trans e3.of).cZ x4 (λb U q=>by omega),((k1.ext y2 (by omega)).ah e3).ext x4 (show ¬h.size=h2.size by omega),by omega,nk,nt,na,nn,nc,t2,k4,aK a_ aw (λb U q=>⟨λI=>by omega,λI=>q (by omega)⟩),qu⟩
 refine af ?_;refine fK (σ:=Nat×Tr×PS) (λ_=>[]) (λw g=>w.1<=n/\pM c.e w.1 (.opL 1 w.2.1) w.2.2=some (t,s')/\D8 c h g h2.size w.2.1 w.2.2) (λw=>w.1) ((n,v,s1)) ⟨Nat.le_refl _,hm,hI⟩ rfl ?_;rintro⟨m,u,sI⟩ g ⟨hmn,hm,hI⟩ ao
 try dsimp only
 obtain⟨m,rfl⟩:∃m',m=m'+1:=by cases m with|zero=>cases hm|succ m=>exact⟨m,rfl⟩
 rw[pM,I5] at hm;refine af ?_;refine xo rfl (iD [_]) ?_;rintro _ w5 ⟨rfl,ar⟩;have y5:aj g w5:=by rw[ar];exact Ext.push _ _ _
 have a6:aL oA w5 (λ_=>False) (.slice (some ⟨Array.size g,0,none⟩) 1 1) [iL]:=by rw[ar];exact bR _ [iL] _ rfl (by simp[maxLen]) rfl
 refine xo rfl (aE rfl (bQ (hI.st.ah y5) 4 a6)) ?_;rintro _ h5 ⟨rfl,ac,x5⟩;have x5:=y5.of.trans x5
 rcases ab:bM 4 [iL] sI with ⟨o5,s5⟩
 rw[ab] at ac hm
 rcases o5 with _|v5
 · simp only at hm;refine af ?_;refine dc rfl (by simp) ?_;refine af ?_;refine xo rfl (iD [_]) ?_;rintro _ w6 ⟨rfl,ap⟩;have y6:aj h5 w6:=by rw[ap];exact Ext.push _ _ _
   have a1:aL oA w6 (λ_=>False) (.slice (some ⟨Array.size h5,0,none⟩) 1 1) [og]:=by rw[ap];exact bR _ [og] _ rfl (by simp[maxLen]) rfl
   refine xo rfl (aE rfl (bQ (ac.ah y6) 6 a1)) ?_;rintro _ h6 ⟨rfl,J,x6⟩;have x6:=y6.of.trans x6
   rcases ag:bM 6 [og] s5 with ⟨o6,s6⟩
   rw[ag] at J hm;have an:=x5.trans x6
   rcases o6 with _|v6
   · simp only at hm;obtain⟨rfl,rfl⟩:u=t/\s6=s':=by cases hm;exact⟨rfl,rfl⟩
     refine af ?_;refine dc rfl (by simp) ?_;have aa:=hI.mv ak an J (λq=>aS ab (aS ag q));obtain⟨j1,j2,j3,j4,jk,jx,ja,jn,jc,ju,j5,j6,j7⟩:=aa;refine af ?_;refine xp rfl (cj rfl j5.row) (aO rfl (aZ rfl rfl j3 eY) ?_);rintro _ hz ⟨rfl,kz,xz,zz⟩;refine af ?_;refine cE (cz rfl kz.row cD) ?_;exact⟨_,rfl,bT hp j2 j1 (dK.of (aK j6 (Ext.refl (λ_=>False) _) (λb U q=>⟨λI=>I,λI=>q (.inl I)⟩))) j7 xz⟩
   · simp only at hm;obtain⟨v2,s3,Z,hm⟩:=ay hm;rw[if_neg (by decide)] at hm;refine af ?_;refine dB rfl (by simp) ?_;have aa:=hI.mv ak an J (λq=>aS ab (aS ag q));obtain⟨j1,j2,j3,j4,jk,jx,ja,jn,jc,ju,j5,j6,j7⟩:=aa;have a7:=j5.lt;have a8:=j2.size;refine af ?_;refine jK 5 (λb=>b=c.pb\/Array.size h6<=b) (λi=>Nat.blt i 4) (bq 0 rfl (λh' e=>cj rfl (e.rowAt (by omega) j5.row)) (aF 1 (cV 2 rfl (aE rfl ((ih m (by omega)).p2 _ _ _ _ _ J Z)) ?_)));rintro r6 h6 ⟨y6,J,t6,am,ad⟩;refine⟨λ_=>y6.mono (λ_ _ q=>.inl q),?_⟩;have z6:=y6.size;refine cV 3 rfl (aE rfl (gx (O:=λb=>b<=h.size\/b=h2.size) iL (λb q=>by omega) (dK.of (aK j6 y6 (λb U q=>⟨λI=>q (by omega),q⟩))) (am.ext (Ext.refl (λ_=>False) _) (λb U q=>⟨λI=>I,λI=>q (by omega)⟩)))) ?_;rintro r8 h8 ⟨al,Y⟩;refine⟨λ_=>Y.of,?_⟩;have z8:=Y.size;obtain⟨mk,mt,ma,mn,mc,rfl,ae⟩:=al.get;refine gU 4 rfl (aZ rfl rfl (((j5.ext y6 (show ¬h2.size=c.pb by omega)).ah Y)) eY) ?_;rintro _ h9 ⟨rfl,k9,x9,z9⟩;refine⟨nofun,?_⟩;refine fV ?_;refine af ?_;exact ao (m,.mk 5 iL [u,v2],s3) ⟨by omega,hm,⟨(J.ah Y).ext x9 (λb U q=>by omega),((j2.trans y6).trans Y.of).cZ x9 (λb U q=>by omega),((j3.ext y6 (show ¬h.size=c.pb by omega)).ah Y).ext x9 (show ¬h.size=h2.size by omega),j4,mk,mt,ma,mn,mc,_,k9,aK ae x9 (λb U q=>⟨λI=>q (.inr I),q⟩),λq=>by rw[j7 (bE Z q),ad q]⟩⟩ (Nat.lt_succ_self _)
 · simp only at hm;obtain⟨v2,s3,Z,hm⟩:=ay hm;rw[if_neg (by decide)] at hm;refine af ?_;refine dB rfl (by simp) ?_;have aa:=hI.mv ak x5 ac (λq=>aS ab q);obtain⟨j1,j2,j3,j4,jk,jx,ja,jn,jc,ju,j5,j6,j7⟩:=aa;have a7:=j5.lt;have a8:=j2.size;refine af ?_;refine jK 5 (λb=>b=c.pb\/Array.size h5<=b) (λi=>Nat.blt i 4) (bq 0 rfl (λh' e=>cj rfl (e.rowAt (by omega) j5.row)) (aF 1 (cV 2 rfl (aE rfl ((ih m (by omega)).p2 _ _ _ _ _ ac Z)) ?_)));rintro r6 h6 ⟨y6,J,t6,am,ad⟩;refine⟨λ_=>y6.mono (λ_ _ q=>.inl q),?_⟩;have z6:=y6.size;refine cV 3 rfl (aE rfl (gx (O:=λb=>b<=h.size\/b=h2.size) iL (λb q=>by omega) (dK.of (aK j6 y6 (λb U q=>⟨λI=>q (by omega),q⟩))) (am.ext (Ext.refl (λ_=>False) _) (λb U q=>⟨λI=>I,λI=>q (by omega)⟩)))) ?_;rintro r8 h8 ⟨al,Y⟩;refine⟨λ_=>Y.of,?_⟩;have z8:=Y.size;obtain⟨mk,mt,ma,mn,mc,rfl,ae⟩:=al.get;refine gU 4 rfl (aZ rfl rfl (((j5.ext y6 (show ¬h2.size=c.pb by omega)).ah Y)) eY) ?_;rintro _ h9 ⟨rfl,k9,x9,z9⟩;refine⟨nofun,?_⟩;refine fV ?_;refine af ?_;exact ao (m,.mk 5 iL [u,v2],s3) ⟨by omega,hm,⟨(J.ah Y).ext x9 (λb U q=>by omega),((j2.trans y6).trans Y.of).cZ x9 (λb U q=>by omega),((j3.ext y6 (show ¬h.size=c.pb by omega)).ah Y).ext x9 (show ¬h.size=h2.size by omega),j4,mk,mt,ma,mn,mc,_,k9,aK ae x9 (λb U q=>⟨λI=>q (.inr I),q⟩),λq=>by rw[j7 (bE Z q),ad q]⟩⟩ (Nat.lt_succ_self _)
theorem Ec (ih:∀m,m<=n->B9 m):Ct 164 [] (.part 4) (n+1):=by
 intro c h s t s' hp hm;have hpl:=hp.lt;obtain⟨o1,o2⟩:=hp.old;rw[pM,if_neg (by decide),if_neg (by decide),if_neg (by decide)] at hm;obtain⟨v,s1,hv,hm⟩:=ay hm;refine bJ ?_;refine af ?_;refine xo rfl (cL) ?_;rintro _ h1 ⟨rfl,k1,e1,z1⟩;refine af ?_;refine xo rfl (aE rfl ((ih n (Nat.le_refl _)).p5 _ _ _ _ _ (hp.ah e1) hv)) ?_;rintro r2 h2 ⟨y2,hp2,t2,hn2,qu⟩;obtain⟨nk,nt,na,nn,nc,rfl,hr2⟩:=hn2.get;refine xo rfl (cL) ?_;rintro _ h3 ⟨rfl,k3,e3,z3⟩;refine aO rfl (aZ rfl rfl k3 eY) ?_;rintro _ h4 ⟨rfl,k4,x4,z4⟩;have z2:=y2.size;have x24:Ext (λb=>b=h2.size) h2 h4:=e3.of.trans x4;have hI:D8 c h h4 h2.size v s1:=⟨(hp2.ah e3).ext x4 (λb hb q=>by omega),((e1.of.trans y2).trans e3.of).cZ x4 (λb hb q=>by omega),((k1.ext y2 (by omega)).ah e3).ext x4 (show ¬h.size=h2.size by omega),by omega,nk,nt,na,nn,nc,t2,k4,aK hr2 x24 (λb hb q=>⟨λq2=>by omega,λq2=>q (by omega)⟩),qu⟩
 refine af ?_;refine fK (σ:=Nat×Tr×PS) (λ_=>[]) (λw g=>w.1<=n/\pM c.e w.1 (.opL 4 w.2.1) w.2.2=some (t,s')/\D8 c h g h2.size w.2.1 w.2.2) (λw=>w.1) ((n,v,s1)) ⟨Nat.le_refl _,hm,hI⟩ rfl ?_;rintro⟨m,u,sI⟩ g ⟨hmn,hm,hI⟩ ihL
 try dsimp only
 obtain⟨m,rfl⟩:∃m',m=m'+1:=by cases m with|zero=>cases hm|succ m=>exact⟨m,rfl⟩
 rw[pM,I3] at hm;refine af ?_;refine xo rfl (iD [_,_]) ?_;rintro _ w5 ⟨rfl,hw5⟩;have y5:aj g w5:=by rw[hw5];exact Ext.push _ _ _
 have ts5:aL oA w5 (λ_=>False) (.slice (some ⟨Array.size g,0,none⟩) 2 2) qo:=by rw[hw5];exact bR _ qo _ rfl (by simp[maxLen]) rfl
 refine xo rfl (aE rfl (bQ (hI.st.ah y5) 6 ts5)) ?_;rintro _ h5 ⟨rfl,hp5,x5⟩;have x5:=y5.of.trans x5
 rcases hq5:bM 6 qo sI with ⟨o5,s5⟩
 rw[hq5] at hp5 hm
 rcases o5 with _|v5
 · simp only at hm;obtain⟨rfl,rfl⟩:u=t/\s5=s':=by cases hm;exact⟨rfl,rfl⟩
   refine af ?_;refine dc rfl (by simp) ?_;have hI2:=hI.mv hpl x5 hp5 (λq=>aS hq5 q);obtain⟨j1,j2,j3,j4,jk,jx,ja,jn,jc,ju,j5,j6,j7⟩:=hI2;refine af ?_;refine xp rfl (cj rfl j5.row) ?_;refine aO rfl (aZ rfl rfl j3 eY) ?_;rintro _ hz ⟨rfl,kz,xz,zz⟩;refine af ?_;refine cE (cz rfl kz.row cD) ?_;exact⟨_,rfl,bT hp j2 j1 (dK.of (aK j6 (Ext.refl (λ_=>False) _) (λb hb q=>⟨λq2=>q2,λq2=>q (.inl q2)⟩))) j7 xz⟩
 · simp only at hm;obtain⟨v2,s3,hv2,hm⟩:=ay hm;rw[if_neg (by decide)] at hm;refine af ?_;refine dB rfl (by simp) ?_;have hI2:=hI.mv hpl x5 hp5 (λq=>aS hq5 q);obtain⟨j1,j2,j3,j4,jk,jx,ja,jn,jc,ju,j5,j6,j7⟩:=hI2;have j5l:=j5.lt;have j2z:=j2.size;refine af ?_;refine jK 6 (λb=>b=c.pb\/Array.size h5<=b) (λi=>Nat.blt i 5) ?_;refine aF 0 ?_;refine bq 1 rfl (λh' e=>cj rfl (e.rowAt (by omega) j5.row)) ?_;refine aF 2 ?_;refine cV 3 rfl (aE rfl ((ih m (by omega)).p5 _ _ _ _ _ hp5 hv2)) ?_;rintro r6 h6 ⟨y6,hp6,t6,hn6,ht6⟩;refine⟨λ_=>y6.mono (λ_ _ q=>.inl q),?_⟩;have z6:=y6.size;refine cV 4 rfl (aE rfl (gx (O:=λb=>b<=h.size\/b=h2.size) v5 (λb q=>by omega) (dK.of (aK j6 y6 (λb hb q=>⟨λq2=>q (by omega),q⟩))) (hn6.ext (Ext.refl (λ_=>False) _) (λb hb q=>⟨λq2=>q2,λq2=>q (by omega)⟩)))) ?_;rintro r8 h8 ⟨hn8,e8⟩;refine⟨λ_=>e8.of,?_⟩;have z8:=e8.size;obtain⟨mk,mt,ma,mn,mc,rfl,hr8⟩:=hn8.get;refine gU 5 rfl (aZ rfl rfl (((j5.ext y6 (show ¬h2.size=c.pb by omega)).ah e8)) eY) ?_;rintro _ h9 ⟨rfl,k9,x9,z9⟩;refine⟨nofun,?_⟩;refine fV ?_;refine af ?_;exact ihL (m,.mk 5 v5 [u,v2],s3) ⟨by omega,hm,⟨(hp6.ah e8).ext x9 (λb hb q=>by omega),((j2.trans y6).trans e8.of).cZ x9 (λb hb q=>by omega),((j3.ext y6 (show ¬h.size=c.pb by omega)).ah e8).ext x9 (show ¬h.size=h2.size by omega),j4,mk,mt,ma,mn,mc,_,k9,aK hr8 x9 (λb hb q=>⟨λq2=>q (.inr q2),q⟩),λq=>by rw[j7 (bE hv2 q),ht6 q]⟩⟩ (Nat.lt_succ_self _)
theorem Cd (ih:∀m,m<=n->B9 m):Ct 185 [] (.part 5) (n+1):=by
 intro c h s t s' hp hm;have hpl:=hp.lt;obtain⟨o1,o2⟩:=hp.old;rw[pM,if_neg (by decide),if_neg (by decide),if_neg (by decide)] at hm;obtain⟨v,s1,hv,hm⟩:=ay hm;refine bJ ?_;refine af ?_;refine xo rfl (cL) ?_;rintro _ h1 ⟨rfl,k1,e1,z1⟩;refine af ?_;refine xo rfl (aE rfl ((ih n (Nat.le_refl _)).p6 _ _ _ _ _ (hp.ah e1) hv)) ?_;rintro r2 h2 ⟨y2,hp2,t2,hn2,qu⟩;obtain⟨nk,nt,na,nn,nc,rfl,hr2⟩:=hn2.get;refine xo rfl (cL) ?_;rintro _ h3 ⟨rfl,k3,e3,z3⟩;refine aO rfl (aZ rfl rfl k3 eY) ?_;rintro _ h4 ⟨rfl,k4,x4,z4⟩;have z2:=y2.size;have x24:Ext (λb=>b=h2.size) h2 h4:=e3.of.trans x4;have hI:D8 c h h4 h2.size v s1:=⟨(hp2.ah e3).ext x4 (λb hb q=>by omega),((e1.of.trans y2).trans e3.of).cZ x4 (λb hb q=>by omega),((k1.ext y2 (by omega)).ah e3).ext x4 (show ¬h.size=h2.size by omega),by omega,nk,nt,na,nn,nc,t2,k4,aK hr2 x24 (λb hb q=>⟨λq2=>by omega,λq2=>q (by omega)⟩),qu⟩
 refine af ?_;refine fK (σ:=Nat×Tr×PS) (λ_=>[]) (λw g=>w.1<=n/\pM c.e w.1 (.opL 5 w.2.1) w.2.2=some (t,s')/\D8 c h g h2.size w.2.1 w.2.2) (λw=>w.1) ((n,v,s1)) ⟨Nat.le_refl _,hm,hI⟩ rfl ?_;rintro⟨m,u,sI⟩ g ⟨hmn,hm,hI⟩ ihL
 try dsimp only
 obtain⟨m,rfl⟩:∃m',m=m'+1:=by cases m with|zero=>cases hm|succ m=>exact⟨m,rfl⟩
 rw[pM,I2] at hm;refine af ?_;refine xo rfl (iD [_,_,_]) ?_;rintro _ w5 ⟨rfl,hw5⟩;have y5:aj g w5:=by rw[hw5];exact Ext.push _ _ _
 have ts5:aL oA w5 (λ_=>False) (.slice (some ⟨Array.size g,0,none⟩) 3 3) jh:=by rw[hw5];exact bR _ jh _ rfl (by simp[maxLen]) rfl
 refine xo rfl (aE rfl (bQ (hI.st.ah y5) 6 ts5)) ?_;rintro _ h5 ⟨rfl,hp5,x5⟩;have x5:=y5.of.trans x5
 rcases hq5:bM 6 jh sI with ⟨o5,s5⟩
 rw[hq5] at hp5 hm
 rcases o5 with _|v5
 · simp only at hm;obtain⟨rfl,rfl⟩:u=t/\s5=s':=by cases hm;exact⟨rfl,rfl⟩
   refine af ?_;refine dc rfl (by simp) ?_;have hI2:=hI.mv hpl x5 hp5 (λq=>aS hq5 q);obtain⟨j1,j2,j3,j4,jk,jx,ja,jn,jc,ju,j5,j6,j7⟩:=hI2;refine af ?_;refine xp rfl (cj rfl j5.row) ?_;refine aO rfl (aZ rfl rfl j3 eY) ?_;rintro _ hz ⟨rfl,kz,xz,zz⟩;refine af ?_;refine cE (cz rfl kz.row cD) ?_;exact⟨_,rfl,bT hp j2 j1 (dK.of (aK j6 (Ext.refl (λ_=>False) _) (λb hb q=>⟨λq2=>q2,λq2=>q (.inl q2)⟩))) j7 xz⟩
 · simp only at hm;obtain⟨v2,s3,hv2,hm⟩:=ay hm;rw[if_neg (by decide)] at hm;refine af ?_;refine dB rfl (by simp) ?_;have hI2:=hI.mv hpl x5 hp5 (λq=>aS hq5 q);obtain⟨j1,j2,j3,j4,jk,jx,ja,jn,jc,ju,j5,j6,j7⟩:=hI2;have j5l:=j5.lt;have j2z:=j2.size;refine af ?_;refine jK 6 (λb=>b=c.pb\/Array.size h5<=b) (λi=>Nat.blt i 5) ?_;refine aF 0 ?_;refine bq 1 rfl (λh' e=>cj rfl (e.rowAt (by omega) j5.row)) ?_;refine aF 2 ?_;refine cV 3 rfl (aE rfl ((ih m (by omega)).p6 _ _ _ _ _ hp5 hv2)) ?_;rintro r6 h6 ⟨y6,hp6,t6,hn6,ht6⟩;refine⟨λ_=>y6.mono (λ_ _ q=>.inl q),?_⟩;have z6:=y6.size;refine cV 4 rfl (aE rfl (gx (O:=λb=>b<=h.size\/b=h2.size) v5 (λb q=>by omega) (dK.of (aK j6 y6 (λb hb q=>⟨λq2=>q (by omega),q⟩))) (hn6.ext (Ext.refl (λ_=>False) _) (λb hb q=>⟨λq2=>q2,λq2=>q (by omega)⟩)))) ?_;rintro r8 h8 ⟨hn8,e8⟩;refine⟨λ_=>e8.of,?_⟩;have z8:=e8.size;obtain⟨mk,mt,ma,mn,mc,rfl,hr8⟩:=hn8.get;refine gU 5 rfl (aZ rfl rfl (((j5.ext y6 (show ¬h2.size=c.pb by omega)).ah e8)) eY) ?_;rintro _ h9 ⟨rfl,k9,x9,z9⟩;refine⟨nofun,?_⟩;refine fV ?_;refine af ?_;exact ihL (m,.mk 5 v5 [u,v2],s3) ⟨by omega,hm,⟨(hp6.ah e8).ext x9 (λb hb q=>by omega),((j2.trans y6).trans e8.of).cZ x9 (λb hb q=>by omega),((j3.ext y6 (show ¬h.size=c.pb by omega)).ah e8).ext x9 (show ¬h.size=h2.size by omega),j4,mk,mt,ma,mn,mc,_,k9,aK hr8 x9 (λb hb q=>⟨λq2=>q (.inr q2),q⟩),λq=>by rw[j7 (bE hv2 q),ht6 q]⟩⟩ (Nat.lt_succ_self _)
theorem we (ih:∀m,m<=n->B9 m):Ct 150 [] (.part 3) (n+1):=by
 intro c h s t s' hp hm;have hpl:=hp.lt;obtain⟨o1,o2⟩:=hp.old;rw[pM,if_neg (by decide),if_neg (by decide),if_neg (by decide)] at hm;obtain⟨v,s1,hv,hm⟩:=ay hm;refine bJ ?_;refine af ?_;refine xo rfl (cL) ?_;rintro _ h1 ⟨rfl,k1,e1,z1⟩;refine af ?_;refine xo rfl (aE rfl ((ih n (Nat.le_refl _)).p4 _ _ _ _ _ (hp.ah e1) hv)) ?_;rintro r2 h2 ⟨y2,hp2,t2,hn2,qu⟩;obtain⟨nk,nt,na,nn,nc,rfl,hr2⟩:=hn2.get;refine xo rfl (cL) ?_;rintro _ h3 ⟨rfl,k3,e3,z3⟩;refine aO rfl (aZ rfl rfl k3 eY) ?_;rintro _ h4 ⟨rfl,k4,x4,z4⟩;have z2:=y2.size;have x24:Ext (λb=>b=h2.size) h2 h4:=e3.of.trans x4;have hI:D8 c h h4 h2.size v s1:=⟨(hp2.ah e3).ext x4 (λb hb q=>by omega),((e1.of.trans y2).trans e3.of).cZ x4 (λb hb q=>by omega),((k1.ext y2 (by omega)).ah e3).ext x4 (show ¬h.size=h2.size by omega),by omega,nk,nt,na,nn,nc,t2,k4,aK hr2 x24 (λb hb q=>⟨λq2=>by omega,λq2=>q (by omega)⟩),qu⟩
 obtain⟨m,rfl⟩:∃m',n=m'+1:=by cases n with|zero=>cases hm|succ m=>exact⟨m,rfl⟩
 rw[pM,I4] at hm;refine af ?_;refine xo rfl (iD [_,_,_,_,_,_]) ?_;rintro _ w5 ⟨rfl,hw5⟩;have y5:aj h4 w5:=by rw[hw5];exact Ext.push _ _ _
 have ts5:aL oA w5 (λ_=>False) (.slice (some ⟨Array.size h4,0,none⟩) 6 6) mq:=by rw[hw5];exact bR _ mq _ rfl (by simp[maxLen]) rfl
 refine xo rfl (aE rfl (bQ (hI.st.ah y5) 6 ts5)) ?_;rintro _ h5 ⟨rfl,hp5,x5⟩;have x5:=y5.of.trans x5
 rcases hq5:bM 6 mq s1 with ⟨o5,s5⟩
 rw[hq5] at hp5 hm
 rcases o5 with _|v5
 · simp only at hm;obtain⟨rfl,rfl⟩:v=t/\s5=s':=by cases hm;exact⟨rfl,rfl⟩
   refine af ?_;refine dB rfl (by simp) ?_;have hI2:=hI.mv hpl x5 hp5 (λq=>aS hq5 q);obtain⟨j1,j2,j3,j4,jk,jx,ja,jn,jc,ju,j5,j6,j7⟩:=hI2;refine af ?_;refine xp rfl (cj rfl j5.row) ?_;refine aO rfl (aZ rfl rfl j3 eY) ?_;rintro _ hz ⟨rfl,kz,xz,zz⟩;refine af ?_;refine cE (cz rfl kz.row cD) ?_;exact⟨_,rfl,bT hp j2 j1 (dK.of (aK j6 (Ext.refl (λ_=>False) _) (λb hb q=>⟨λq2=>q2,λq2=>q (.inl q2)⟩))) j7 xz⟩
 · simp only at hm;obtain⟨v2,s3,hv2,hm⟩:=ay hm;rw[if_pos trivial] at hm;obtain⟨rfl,rfl⟩:Tr.mk 5 v5 [v,v2]=t/\s3=s':=by cases hm;exact⟨rfl,rfl⟩
   refine af ?_;refine dc rfl (by simp) ?_;have hI2:=hI.mv hpl x5 hp5 (λq=>aS hq5 q);obtain⟨j1,j2,j3,j4,jk,jx,ja,jn,jc,ju,j5,j6,j7⟩:=hI2;have j5l:=j5.lt;have j2z:=j2.size;refine af ?_;refine jK 6 (λb=>b=c.pb\/Array.size h5<=b) (λi=>Nat.blt i 5) ?_;refine aF 0 ?_;refine bq 1 rfl (λh' e=>cj rfl (e.rowAt (by omega) j5.row)) ?_;refine aF 2 ?_;refine cV 3 rfl (aE rfl ((ih m (by omega)).p4 _ _ _ _ _ hp5 hv2)) ?_;rintro r6 h6 ⟨y6,hp6,t6,hn6,ht6⟩;refine⟨λ_=>y6.mono (λ_ _ q=>.inl q),?_⟩;have z6:=y6.size;refine cV 4 rfl (aE rfl (gx (O:=λb=>b<=h.size\/b=h2.size) v5 (λb q=>by omega) (dK.of (aK j6 y6 (λb hb q=>⟨λq2=>q (by omega),q⟩))) (hn6.ext (Ext.refl (λ_=>False) _) (λb hb q=>⟨λq2=>q2,λq2=>q (by omega)⟩)))) ?_;rintro r8 h8 ⟨hn8,e8⟩;refine⟨λ_=>e8.of,?_⟩;have z8:=e8.size;obtain⟨mk,mt,ma,mn,mc,rfl,hr8⟩:=hn8.get;refine gU 5 rfl (aZ rfl rfl (((j3.ext y6 (show ¬h.size=c.pb by omega)).ah e8)) eY) ?_;rintro _ h9 ⟨rfl,k9,x9,z9⟩;refine⟨nofun,?_⟩;refine fV ?_;refine cE (cz rfl k9.row cD) ?_;exact⟨_,rfl,bT hp ((j2.trans y6).trans e8.of) (hp6.ah e8) (dK.of (aK hr8 (Ext.refl (λ_=>False) _) (λb hb q=>⟨λq2=>q2,λq2=>q (.inl q2)⟩))) (λq=>by rw[j7 (bE hv2 q),ht6 q]) x9⟩
theorem Cg (ih:∀m,m<=n->B9 m):Ct 197 [] (.part 7) (n+1):=by
 intro c h s t s' hp hm;have Z:=hp.lt;obtain⟨o1,o2⟩:=hp.old;rw[pM,if_pos rfl] at hm;obtain⟨v,s1,hv,hm⟩:=ay hm;refine bJ ?_;refine af ?_;refine xo rfl (cL) ?_;rintro _ h1 ⟨rfl,k1,e1,z1⟩;refine af ?_;refine xo rfl (aE rfl ((ih n (Nat.le_refl _)).atom _ _ _ _ _ (hp.ah e1) hv)) ?_;rintro r2 I ⟨y2,bj,t2,bl,qu⟩;obtain⟨nk,nt,na,nn,nc,rfl,bh⟩:=bl.get;refine xo rfl (cL) ?_;rintro _ h3 ⟨rfl,k3,e3,z3⟩;refine aO rfl (aZ rfl rfl k3 eY) ?_;rintro _ h4 ⟨rfl,k4,x4,z4⟩;have z2:=y2.size;have a7:Ext (λb=>b=I.size) I h4:=e3.of.trans x4;have hI:D8 c h h4 I.size v s1:=⟨(bj.ah e3).ext x4 (λb Y q=>by omega),((e1.of.trans y2).trans e3.of).cZ x4 (λb Y q=>by omega),((k1.ext y2 (by omega)).ah e3).ext x4 (show ¬h.size=I.size by omega),by omega,nk,nt,na,nn,nc,t2,k4,aK bh a7 (λb Y q=>⟨λJ=>by omega,λJ=>q (by omega)⟩),qu⟩
 refine af ?_;refine fK (σ:=Nat×Tr×PS) (λ_=>[]) (λw g=>w.1<=n/\pM c.e w.1 (.callL w.2.1) w.2.2=some (t,s')/\D8 c h g I.size w.2.1 w.2.2) (λw=>w.1) ((n,v,s1)) ⟨Nat.le_refl _,hm,hI⟩ rfl ?_;rintro⟨m,u,sI⟩ g ⟨hmn,hm,hI⟩ ba
 try dsimp only
 obtain⟨m,rfl⟩:∃m',m=m'+1:=by cases m with|zero=>cases hm|succ m=>exact⟨m,rfl⟩
 rw[pM] at hm;refine af ?_;refine xo rfl (iD [_]) ?_;rintro _ w5 ⟨rfl,ao⟩;have y5:aj g w5:=by rw[ao];exact Ext.push _ _ _
 have a_:aL oA w5 (λ_=>False) (.slice (some ⟨Array.size g,0,none⟩) 1 1) [[40]]:=by rw[ao];exact bR _ [[40]] _ rfl (by simp[maxLen]) rfl
 refine xo rfl (aE rfl (bQ (hI.st.ah y5) 7 a_)) ?_;rintro _ h5 ⟨rfl,ak,x5⟩;have x5:=y5.of.trans x5
 rcases ag:bM 7 [[40]] sI with ⟨o5,s5⟩
 rw[ag] at ak hm
 rcases o5 with _|v5
 · simp only at hm;obtain⟨rfl,rfl⟩:u=t/\s5=s':=by cases hm;exact⟨rfl,rfl⟩
   refine af ?_;refine dc rfl (by simp) ?_;have bn:=hI.mv Z x5 ak (λq=>aS ag q);obtain⟨j1,j2,j3,j4,jk,jx,ja,jn,jc,ju,j5,j6,j7⟩:=bn;refine af ?_;refine xp rfl (cj rfl j5.row) (aO rfl (aZ rfl rfl j3 eY) ?_);rintro _ hz ⟨rfl,kz,xz,zz⟩;refine af ?_;refine cE (cz rfl kz.row cD) ?_;exact⟨_,rfl,bT hp j2 j1 (dK.of (aK j6 (Ext.refl (λ_=>False) _) (λb Y q=>⟨λJ=>J,λJ=>q (.inl J)⟩))) j7 xz⟩
 · simp only at hm;refine af ?_;refine dB rfl (by simp) ?_;have bm:=hI.mv Z x5 ak (λq=>aS ag q);refine af ?_;refine fK (σ:=Nat×Tr×PS) (λ_=>[]) (λw g=>w.1<=m/\pM c.e w.1 (.argL w.2.1) w.2.2=some (t,s')/\D8 c h g I.size w.2.1 w.2.2) (λw=>w.1) ((m,u,s5)) ⟨Nat.le_refl _,hm,bm⟩ rfl ?_;rintro⟨m2,u2,sJ⟩ g2 ⟨hmn2,hm,hJ⟩ bb
   try dsimp only
   obtain⟨m2,rfl⟩:∃m',m2=m'+1:=by cases m2 with|zero=>cases hm|succ m=>exact⟨m,rfl⟩
   rw[pM] at hm;obtain⟨v2,s3,ap,hm⟩:=ay hm;obtain⟨j1,j2,j3,j4,jk,jx,ja,jn,jc,ju,j5,j6,j7⟩:=hJ;have j5l:=j5.lt;have j2z:=j2.size;refine af ?_;refine jK 6 (λb=>b=c.pb\/Array.size g2<=b) (λi=>Nat.blt i 5) (bq 0 rfl (λh' e=>cj rfl (e.rowAt (by omega) j5.row)) (aF 1 (cV 2 rfl (aE rfl ((ih m2 (by omega)).expr _ _ _ _ _ j1 ap)) ?_)));rintro r6 h6 ⟨y6,bi,t6,bk,bc⟩;refine⟨λ_=>y6.mono (λ_ _ q=>.inl q),?_⟩;have z6:=y6.size;obtain⟨mk,mt,ma,mn,mc,rfl,be⟩:=bk.get;refine cV 3 rfl (aV.gS underlying28 H.K6 ([[.int .i64 jk,.string (bs jx),.slice ja jn jc],[.int .i64 mk,.string (bs mt),.slice ma mn mc]]) rfl rfl (by decide) (by simp<;>repeat' (first|rfl|constructor))) ?_;rintro _ h8 ⟨rfl,aa⟩;refine⟨λ_=>(by rw[aa];exact Ext.push _ _ _),?_⟩;have e8:aj h6 h8:=by rw[aa];exact Ext.push _ _ _
   have z8:h8.size=h6.size+1:=by rw[aa];simp
   have bd:cH eN (λb=>b<=h.size\/b=I.size) h8 h6.size 41 (.slice (some ⟨h6.size,0,none⟩) 2 2) [ju,t6]:=by
    rw[aa];exact mG (aK j6 y6 (λb Y q=>⟨λJ=>q (by omega),q⟩)) (aK be (Ext.refl (λ_=>False) _) (λb Y q=>⟨λJ=>J,λJ=>q (by omega)⟩)) (Nat.le_refl _)
   have ar:aL eN h8 (λb=>b<=h.size\/b=I.size) (.slice (some ⟨h6.size,0,none⟩) 2 2) [ju,t6]:=bd.read (λb Y q=>by omega) (λb Y q=>q);refine bq 4 rfl (λh' e=>av (H.DR _ _ _ _) rfl) (gU 5 rfl (aZ rfl rfl (((j5.ext y6 (show ¬I.size=c.pb by omega)).ah e8)) eY) ?_);rintro _ h9 ⟨rfl,k9,x9,z9⟩;refine⟨nofun,?_⟩;have k9:aC h9 I.size 41 [.int .i64 9,.string (bs []),.slice (some ⟨h6.size,0,none⟩) 2 2]:=k9;have a1:D8 c h h9 I.size (.mk 9 [] [u2,v2]) s3:=⟨(bi.ah e8).ext x9 (λb Y q=>by omega),((j2.trans y6).trans e8.of).cZ x9 (λb Y q=>by omega),((j3.ext y6 (show ¬h.size=c.pb by omega)).ah e8).ext x9 (show ¬h.size=I.size by omega),j4,_,_,_,_,_,_,k9,sO (ar.mv (Mv.bY x9 λb Y q=>⟨λJ=>q (.inr J),q⟩)),λq=>by rw[j7 (bE ap q),bc q]⟩
   refine fV ?_;refine af ?_;refine xo rfl (iD [_]) ?_;rintro _ am ⟨rfl,ab⟩;have al:aj h9 am:=by rw[ab];exact Ext.push _ _ _
   have an:aL oA am (λ_=>False) (.slice (some ⟨Array.size h9,0,none⟩) 1 1) [[44]]:=by rw[ab];exact bR _ [[44]] _ rfl (by simp[maxLen]) rfl
   refine xo rfl (aE rfl (bQ (a1.st.ah al) 6 an)) ?_;rintro _ h10 ⟨rfl,U,ae⟩;have ae:=al.of.trans ae
   rcases ac:bM 6 [[44]] s3 with ⟨a',s10⟩
   rw[ac] at U hm;have ad:=a1.mv Z ae U (λq=>aS ac q)
   rcases a' with _|v10
   · simp only at hm;refine af ?_;refine dc rfl (by simp) ?_;refine af ?_;refine xo rfl (aE rfl (gP U 8 [41])) ?_;rintro _ h11 ⟨aw,a8⟩;have a6:=ad.mv Z a8 aw (λq=>dM q);refine af ?_;exact ba (m2,.mk 9 [] [u2,v2],_) ⟨by omega,hm,a6⟩
   · simp only at hm;refine af ?_;refine dB rfl (by simp) ?_;refine af ?_;exact bb (m2,.mk 9 [] [u2,v2],_) ⟨by omega,hm,ad⟩
structure Gk (c:PC) (h g:aq) (b3:Nat) (K:Int) (l:List Tr) (kv:Value) (s1:PS):Prop where
 st:tj c g s1
 ext:Ext (λb=>b=c.pb) h g
 res:aC g h.size 41 [.int .i64 0,.string (bs []),.slice none 0 0]
 lt:h.size<b3
 nd:aC g b3 41 [.int .i64 K,.string (bs []),kv]
 row:cH eN (λb=>b<=h.size\/b=b3) g (h.size+1) 41 kv l
 own:∀b,kv.ownBlock=some b->h.size<b/\b≠b3/\b<g.size
 sl:∃a m d,kv= .slice a m d
theorem Gk.mv {c:PC}{I:aq}{K:Int}{l:List Tr}{kv:Value}{s2:PS}(k:Gk c h g b3 K l kv s1) (hp:c.pb<h.size) (x:Ext (λb=>b=c.pb) g I) (hs:tj c I s2):Gk c h I b3 K l kv s2:=by
 obtain⟨k1,k2,Z,k4,Y,k6,J,U⟩:=k;have:=x.size;exact⟨hs,k2.trans x,Z.ext x (by omega),k4,Y.ext x (by omega),k6.kU x (λb q q2=>by have:=J b q;omega) (λb hb q=>by omega) (λ_ _ q=>q),λb q=>by have:=J b q;omega,U⟩
theorem Gk.tell {c:PC}{K:Int}{l:List Tr}{kv:Value}(k:Gk c h g b3 K l kv s1):dK g (λb=>b<=h.size) (.agg #[.int .i64 K,.string (bs []),kv]) (.mk K [] l) :=
 dK.shut (k.row.read (λb I q=>by omega) (λb I q=>.inl q))
theorem AL (ih:∀m,m<=n->B9 m):Ct 108 [] .block (n+1):=by
 intro c h s t s' hp hm;have hpl:=hp.lt;obtain⟨o1,o2⟩:=hp.old;rw[pM] at hm;refine bJ ?_;refine af ?_;refine xo rfl (cL) ?_;rintro _ h1 ⟨rfl,k1,e1,z1⟩;refine af ?_;refine xo rfl (aE rfl (gP (hp.ah e1) 7 [123])) ?_;rintro _ h2 ⟨hp2,x2⟩;have z2:=x2.size;refine af ?_;refine xp rfl (av (H.M3 _) rfl) ?_;refine xo rfl (cL) ?_;rintro _ h3 ⟨rfl,k3,e3,z3⟩;refine aO rfl (aZ rfl rfl k3) ?_;rintro _ h4 ⟨rfl,k4,x4,z4⟩;have hs4:=hp2.short
 have hsl:(bV c.e 7 [123] s).bB=false->(bV c.e 7 [123] s).len+1<=c.us.length:=λq=>by
  have:=hp.short;unfold bV at q ⊢
  rcases hq:bM 7 [[123]] s with ⟨o,s1⟩
  rw[hq] at q;cases o with
  |none=>rw[dQ] at q;cases q
  |some x=>have:=cW hq;simp only;omega
 have hK4:Gk c h h4 h2.size 10 [] (.slice none 0 0) (bV c.e 7 [123] s):=⟨(hp2.ah e3).ext x4 (λb hb q=>by omega),((e1.of.trans x2).trans e3.of).cZ x4 (λi hi q=>by omega),((k1.ext x2 (show ¬h.size=c.pb by omega)).ah e3).ext x4 (show ¬h.size=h2.size by omega),by omega,k4,cH.nil _ _ _ _ _,λb q=>(by cases q),⟨_,_,_,rfl⟩⟩
 refine af ?_;refine fK (σ:=Nat×List Tr×Value×PS) (λ_=>[]) (λw g=>Gk c h g h2.size 10 w.2.1 w.2.2.1 w.2.2.2/\(w.2.2.2.bB=true->w.2.2.2=s')/\(w.2.2.2.bB=false->w.1<=n/\pM c.e w.1 (.blockL w.2.1) w.2.2.2=some (t,s')/\w.2.1.length+w.2.2.2.len+1<=c.us.length)) (λw=>w.1) ((n,[],.slice none 0 0,bV c.e 7 [123] s)) ⟨hK4,λq=>by obtain⟨k,hk⟩:∃k,bV c.e 7 [123] s= .bad k:=by { cases hq:bV c.e 7 [123] s with|ok r=>rw[hq] at q;cases q|bad k=>exact⟨k,rfl⟩ };rw[hk] at hm ⊢;exact(IY hm).symm,λq=>⟨Nat.le_refl _,hm,by have:=hsl q;simp only[List.length_nil];omega⟩⟩ rfl ?_;rintro⟨m,l,kv,sI⟩ g ⟨hI,hbad,hok⟩ ihL
 try dsimp only
 obtain⟨pi,pbb,pm,pk,_,_,ps,_⟩:=id hI.st;refine af ?_;refine xp rfl (aA rfl (pk.cell (i:=3) rfl)) ?_;refine af ?_
 rcases sI with r|q
 · obtain⟨rfl,_⟩:=ps;obtain⟨hmn,hm,hlen⟩:=hok rfl;obtain⟨m,rfl⟩:∃m',m=m'+1:=by cases m with|zero=>cases hm|succ m=>exact⟨m,rfl⟩
   rw[pM] at hm;obtain⟨v,s2,hv,hm⟩:=ay hm;have hsh:=hI.st.short;refine dc rfl (by simp) ?_;obtain⟨i1,i2,i3,i4,i5,i6,i7,_⟩:=id hI;have i5l:=i5.lt;have i2z:=i2.size
   have hM:¬(h2.size=c.pb\/bU (kv).ownBlock h2.size\/Array.size g<=h2.size):=λq=>by
    rcases q with q|q|q
    · omega
    · have:=i7 _ q.symm;omega
    · omega
   refine af ?_;refine jK 8 (λb=>b=c.pb\/bU (kv).ownBlock b\/Array.size g<=b) (λi=>Nat.blt i 7) ?_;refine aF 0 ?_;refine bq 1 rfl (λh' e=>aA rfl (e.cell hM (i5.cell (i:=2) rfl))) ?_;refine aF 2 ?_;refine cV 3 rfl (aE rfl ((ih m (by omega)).stmt _ _ _ _ _ i1 hv)) ?_;rintro r6 h6 ⟨y6,hp6,t6,hn6,ht6⟩;refine⟨λ_=>y6.mono (λ_ _ q=>.inl q),?_⟩;have z6:=y6.size;obtain⟨mk,mt,ma,mn,mc,rfl,hr6⟩:=hn6.get;have ho6:=i6.kU y6 (λb q q2=>by have:=i7 b q;omega) (λb hb q=>by omega) (λ_ _ q=>q);obtain⟨css,hc1,hc2,hc3⟩:=id ho6;refine cV 4 rfl (lg) ?_;rintro _ _ ⟨rfl,rfl⟩;refine⟨λ_=>by first|exact Ext.push _ _ _|assumption,?_⟩;refine cV 5 rfl (vL rfl rfl hc2 rfl rfl) ?_;rintro v7 h7 ⟨ho7,hx7,hx7',hv7⟩;refine⟨λ_=>hx7'.mono (λb _ q=>.inr (.inl q)),?_⟩;have z7:=hx7.size;obtain⟨va,vm,vc,rfl⟩:=pZ ho7;refine aF 6 ?_;refine gU 7 rfl (iG rfl rfl (((i5.ext y6 (show ¬h2.size=c.pb by omega)).ext hx7 (λq=>by have:=i7 _ q.symm;omega)))) ?_;rintro _ h8 ⟨rfl,k8,x8,z8⟩;refine⟨nofun,?_⟩
   have hr6':eN.R h6 (λb=>bU (kv).ownBlock b\/(b<=h.size\/b=h2.size)) [.int .i64 mk,.string (bs mt),.slice ma mn mc] t6:=aK hr6 (Ext.refl (λ_=>False) _) (λb hb q=>⟨λk=>k,λq2=>by
    rcases q2 with q2|q2
    · have:=i7 _ q2.symm;omega
    · omega⟩)
   have ho7x:cH eN (λb=>b<=h.size\/b=h2.size) h7 (h.size+1) 41 (.slice va vm vc) (l++[t6]):=cH.eC hc1 hc3 ho7 hx7 hv7 hr6'
   have hown7:∀b,(Value.slice va vm vc).ownBlock=some b->h.size<b/\b≠h2.size/\b<h7.size:=λb q=>by
    have hl:=(ho7.lt q).2
    rcases hv7 b q with q2|q2
    · have:=i7 b q2;omega
    · omega
   have hK:Gk c h h8 h2.size 10 (l++[t6]) (.slice va vm vc) s2:=Gk.mk ((hp6.ext hx7 (λb hb q=>by have:=i7 _ q.symm;omega)).ext x8 (λb hb q=>by omega)) (((i2.trans y6).cZ hx7 (λi hi q=>by have:=i7 _ q.symm;omega)).cZ x8 (λi hi q=>by omega)) (((i3.ext y6 (show ¬h.size=c.pb by omega)).ext hx7 (λq=>by have:=i7 _ q.symm;omega)).ext x8 (show ¬h.size=h2.size by omega)) i4 k8 (ho7x.kU x8 (λb q q2=>by have:=hown7 b q;omega) (λb hb q=>.inr q) (λ_ _ q=>q)) (λb q=>by have:=hown7 b q;omega) ⟨_,_,_,rfl⟩;have hvl:=tL hv;refine fV ?_;refine af ?_;refine xo rfl (iD [_]) ?_;rintro _ w9 ⟨rfl,hw9⟩;have y9:aj h8 w9:=by rw[hw9];exact Ext.push _ _ _
   have ts9:aL oA w9 (λ_=>False) (.slice (some ⟨Array.size h8,0,none⟩) 1 1) [[59]]:=by rw[hw9];exact bR _ [[59]] _ rfl (by simp[maxLen]) rfl
   refine xo rfl (aE rfl (bQ (hK.st.ah y9) 6 ts9)) ?_;rintro _ h9 ⟨rfl,hp9,x9⟩;have x9:=y9.of.trans x9
   rcases hq9:bM 6 [[59]] s2 with ⟨o9,s9⟩
   rw[hq9] at hp9 hm;have hK9:=hK.mv hpl x9 hp9;simp only at hm;refine af ?_;refine xo rfl (iD [_]) ?_;rintro _ w10 ⟨rfl,hw10⟩;have y10:aj h9 w10:=by rw[hw10];exact Ext.push _ _ _
   have ts10:aL oA w10 (λ_=>False) (.slice (some ⟨Array.size h9,0,none⟩) 1 1) [[125]]:=by rw[hw10];exact bR _ [[125]] _ rfl (by simp[maxLen]) rfl
   refine xo rfl (aE rfl (bQ (hK9.st.ah y10) 8 ts10)) ?_;rintro _ h10 ⟨rfl,hp10,x10⟩;have x10:=y10.of.trans x10
   rcases hq10:bM 8 [[125]] s9 with ⟨o10,s10⟩
   rw[hq10] at hp10 hm;have hK10:=hK9.mv hpl x10 hp10
   rcases o10 with _|v10
   · simp only at hm;have e10:=aM hq10;refine af ?_;refine dB rfl (by simp) ?_
     rcases o9 with _|v9
     · simp only[Option.isSome_none,Bool.false_and,Bool.false_eq_true,if_false] at hm;refine af ?_;refine dc rfl (by simp) ?_;refine af ?_;refine xo rfl (aE rfl (eS hK10.st)) ?_;rintro _ h11 ⟨rfl,hp11,x11⟩;have hK11:=hK10.mv hpl x11 hp11;have hs':cu c.e s10=s':=by cases hm;rfl
       refine af ?_;exact ihL (m,l++[t6],_,_) ⟨hK11,λ_=>hs',λq=>by have q:(cu c.e s10).bB=false:=q;rw[dQ] at q;cases q⟩
     · obtain⟨u0,r0,hs2,hs9,_⟩:=oZ hq9;subst hs9;subst e10;simp only[Option.isSome_some,PS.bB,Bool.not_false,Bool.and_true,if_true] at hm;refine af ?_;refine dB rfl (by simp) ?_;refine af ?_;exact ihL (m,l++[t6],_,_) ⟨hK10,λq=>(by cases q),λ_=>⟨by show m<=n;omega,by rw[ht6 (by rw[hs2];rfl)];exact hm,by have:=cW hq9;simp only[List.length_append,List.length_singleton,PS.len] at this hvl hlen ⊢;omega⟩⟩
   · simp only at hm;obtain⟨rfl,rfl⟩:Tr.mk 10 [] (l++[v])=t/\s10=s':=by cases hm;exact⟨rfl,rfl⟩
     refine af ?_;refine dc rfl (by simp) ?_;refine af ?_;refine xp rfl (cj rfl hK10.nd.row) ?_;refine aO rfl (aZ rfl rfl hK10.res eY) ?_;rintro _ hz ⟨rfl,kz,xz,zz⟩;refine af ?_;refine cE (cz rfl kz.row cD) ?_;exact⟨_,rfl,bT hp hK10.ext hK10.st hK10.tell (λq=>by rw[ht6 (aS hq9 (aS hq10 q))]) xz⟩
 · obtain⟨rfl,_⟩:=ps;obtain rfl:=hbad rfl;obtain⟨ka,km,kd,rfl⟩:=hI.sl;refine dB rfl (by simp) ?_;refine af ?_;refine xp rfl (cj rfl hI.nd.row) ?_;refine aO rfl (aZ rfl rfl hI.res eY) ?_;rintro _ hz ⟨rfl,kz,xz,zz⟩;refine af ?_;refine cE (cz rfl kz.row cD) ?_;exact⟨_,rfl,bT hp hI.ext hI.st hI.tell (λq=>by cases q) xz⟩
theorem zh (ih:∀m,m<=n->B9 m):Ct 68 [] .choice (n+1):=by
 intro c h s t s' hp hm;have hpl:=hp.lt;obtain⟨o1,o2⟩:=hp.old;rw[pM] at hm;obtain⟨va0,s1,hva,hm⟩:=ay hm;obtain⟨vb0,s2,hvb,hm⟩:=ay hm;refine bJ ?_;refine af ?_;refine xo rfl (cL) ?_;rintro _ h1 ⟨rfl,k1,e1,z1⟩;refine af ?_;refine xo rfl (aE rfl ((ih n (Nat.le_refl _)).expr _ _ _ _ _ (hp.ah e1) hva)) ?_;rintro r2 h2 ⟨y2,hp2,t2,hn2,qu⟩;obtain⟨ak,at_,aa,an,ac,rfl,hr2⟩:=hn2.get;have z2:=y2.size;refine af ?_;refine xo rfl (aE rfl ((ih n (Nat.le_refl _)).block _ _ _ _ _ hp2 hvb)) ?_;rintro r3 h3 ⟨y3,hp3,t3,hn3,ht3⟩;obtain⟨bk,bt,ba,bn,bc,rfl,hr3⟩:=hn3.get;have z3:=y3.size;refine xo rfl (aV.gS underlying28 H.K6 ([[.int .i64 ak,.string (bs at_),.slice aa an ac],[.int .i64 bk,.string (bs bt),.slice ba bn bc]]) rfl rfl (by decide) (by simp<;>repeat' (first|rfl|constructor))) ?_;rintro _ h4 ⟨rfl,hh4⟩;have e4:aj h3 h4:=by rw[hh4];exact Ext.push _ _ _
 have z4:h4.size=h3.size+1:=by rw[hh4];simp
 have hs4:cH eN (λb=>b<=h.size\/h3.size<=b) h4 (h.size+1) 41 (.slice (some ⟨h3.size,0,none⟩) 2 2) [t2,t3]:=by
  rw[hh4];exact mG (aK hr2 y3 (λb hb q=>⟨λq2=>q (by omega),λq2=>q (by omega)⟩)) (aK hr3 (Ext.refl (λ_=>False) _) (λb hb q=>⟨λq2=>q2,λq2=>q (by omega)⟩)) (by omega)
 refine xp rfl (av (H.DR _ _ _ _) rfl) ?_;refine xo rfl (cL) ?_;rintro _ h5 ⟨rfl,k5,e5,z5⟩;refine aO rfl (aZ rfl rfl k5) ?_;rintro _ h6 ⟨rfl,k6,x6,z6⟩;have x26:Ext (λb=>b=h4.size) h4 h6:=e5.of.trans x6;have x06:Ext (λb=>b=c.pb) h h6:=(((e1.of.trans y2).trans y3).trans e4.of).cZ x26 (λi hi q=>by omega);have hK6:Gk c h h6 h4.size 6 [t2,t3] (.slice (some ⟨h3.size,0,none⟩) 2 2) s2:=⟨(hp3.ah e4).ext x26 (λb hb q=>by omega),x06,(((k1.ext y2 (show ¬h.size=c.pb by omega)).ext y3 (show ¬h.size=c.pb by omega)).ah e4).ext x26 (show ¬h.size=h4.size by omega),by omega,k6,hs4.kU x26 (λb q q2=>by have:=eD q;omega) (λb hb q=>by omega) (λb hb q=>by omega),λb q=>(by have:=eD q;omega),⟨_,_,_,rfl⟩⟩
 refine af ?_;refine xo rfl (aE rfl (gP hK6.st 4 mo)) ?_;rintro _ h7 ⟨hp7,x7⟩;have hK7:=hK6.mv hpl x7 hp7;refine af ?_;refine xo rfl (iD [_]) ?_;rintro _ w9 ⟨rfl,hw9⟩;have y9:aj h7 w9:=by rw[hw9];exact Ext.push _ _ _
 have ts9:aL oA w9 (λ_=>False) (.slice (some ⟨Array.size h7,0,none⟩) 1 1) [zJ]:=by rw[hw9];exact bR _ [zJ] _ rfl (by simp[maxLen]) rfl
 refine xo rfl (aE rfl (bQ (hK7.st.ah y9) 4 ts9)) ?_;rintro _ h9 ⟨rfl,hp9,x9⟩;have x9:=y9.of.trans x9
 rcases hq9:bM 4 [zJ] (bV c.e 4 mo s2) with ⟨o9,s9⟩
 rw[hq9] at hp9 hm;have hK9:=hK7.mv hpl x9 hp9
 have hgood:s9.bB=false->t2=va0/\t3=vb0:=λq=>by
  have q2:=dM (aS hq9 q);exact⟨qu (bE hvb q2),ht3 q2⟩
 rcases o9 with _|v9
 · simp only at hm;obtain⟨vc0,s3,hvc,hm⟩:=ay hm;obtain⟨rfl,rfl⟩:Tr.mk 6 [] [va0,vb0,vc0]=t/\s3=s':=by cases hm;exact⟨rfl,rfl⟩
   refine af ?_;refine dB rfl (by simp) ?_;obtain⟨i1,i2,i3,i4,i5,i6,i7,_⟩:=id hK9;have i5l:=i5.lt;have i2z:=i2.size
   have hM:¬(h4.size=c.pb\/bU ((Value.slice (some ⟨h3.size,0,none⟩) 2 2)).ownBlock h4.size\/Array.size h9<=h4.size):=λq=>by
    rcases q with q|q|q
    · omega
    · have:=i7 _ q.symm;omega
    · omega
   refine jK 8 (λb=>b=c.pb\/bU ((Value.slice (some ⟨h3.size,0,none⟩) 2 2)).ownBlock b\/Array.size h9<=b) (λi=>Nat.blt i 7) ?_;refine aF 0 ?_;refine bq 1 rfl (λh' e=>aA rfl (e.cell hM (i5.cell (i:=2) rfl))) ?_;refine aF 2 ?_;refine cV 3 rfl (aE rfl ((ih n (Nat.le_refl _)).block _ _ _ _ _ i1 hvc)) ?_;rintro r6 h6 ⟨y6,hp6,t6,hn6,ht6⟩;refine⟨λ_=>y6.mono (λ_ _ q=>.inl q),?_⟩;have z6:=y6.size;obtain⟨mk,mt,ma,mn,mc,rfl,hr6⟩:=hn6.get;have ho6:=i6.kU y6 (λb q q2=>by have:=i7 b q;omega) (λb hb q=>by omega) (λ_ _ q=>q);obtain⟨css,hc1,hc2,hc3⟩:=id ho6;refine cV 4 rfl (lg) ?_;rintro _ _ ⟨rfl,rfl⟩;refine⟨λ_=>by first|exact Ext.push _ _ _|assumption,?_⟩;refine cV 5 rfl (vL rfl rfl hc2 rfl rfl (by simp) (by omega)) ?_;rintro v7 h7 ⟨ho7,hx7,hx7',hv7⟩;refine⟨λ_=>hx7'.mono (λb _ q=>.inr (.inl q)),?_⟩;have z7:=hx7.size;obtain⟨va,vm,vc,rfl⟩:=pZ ho7;refine aF 6 ?_;refine gU 7 rfl (iG rfl rfl (((i5.ext y6 (show ¬h4.size=c.pb by omega)).ext hx7 (λq=>by have:=i7 _ q.symm;omega)))) ?_;rintro _ h8 ⟨rfl,k8,x8,z8⟩;refine⟨nofun,?_⟩
   have hr6':eN.R h6 (λb=>bU ((Value.slice (some ⟨h3.size,0,none⟩) 2 2)).ownBlock b\/(b<=h.size\/b=h4.size)) [.int .i64 mk,.string (bs mt),.slice ma mn mc] t6:=aK hr6 (Ext.refl (λ_=>False) _) (λb hb q=>⟨λk=>k,λq2=>by
    rcases q2 with q2|q2
    · have:=i7 _ q2.symm;omega
    · omega⟩)
   have ho7x:cH eN (λb=>b<=h.size\/b=h4.size) h7 (h.size+1) 41 (.slice va vm vc) ([t2,t3]++[t6]):=cH.eC hc1 hc3 ho7 hx7 hv7 hr6'
   have hown7:∀b,(Value.slice va vm vc).ownBlock=some b->h.size<b/\b≠h4.size/\b<h7.size:=λb q=>by
    have hl:=(ho7.lt q).2
    rcases hv7 b q with q2|q2
    · have:=i7 b q2;omega
    · omega
   have hK:Gk c h h8 h4.size 6 ([t2,t3]++[t6]) (.slice va vm vc) s3:=Gk.mk ((hp6.ext hx7 (λb hb q=>by have:=i7 _ q.symm;omega)).ext x8 (λb hb q=>by omega)) (((i2.trans y6).cZ hx7 (λi hi q=>by have:=i7 _ q.symm;omega)).cZ x8 (λi hi q=>by omega)) (((i3.ext y6 (show ¬h.size=c.pb by omega)).ext hx7 (λq=>by have:=i7 _ q.symm;omega)).ext x8 (show ¬h.size=h4.size by omega)) i4 k8 (ho7x.kU x8 (λb q q2=>by have:=hown7 b q;omega) (λb hb q=>.inr q) (λ_ _ q=>q)) (λb q=>by have:=hown7 b q;omega) ⟨_,_,_,rfl⟩;refine fV ?_;refine af ?_;refine xp rfl (cj rfl hK.nd.row) ?_;refine aO rfl (aZ rfl rfl hK.res eY) ?_;rintro _ hz ⟨rfl,kz,xz,zz⟩;refine af ?_;refine cE (cz rfl kz.row cD) ?_;exact⟨_,rfl,bT hp hK.ext hK.st hK.tell (λq=>by rw[ht6 q,(hgood (bE hvc q)).1,(hgood (bE hvc q)).2];rfl) xz⟩
 · simp only at hm;obtain⟨vc0,s3,hvc,hm⟩:=ay hm;obtain⟨rfl,rfl⟩:Tr.mk 6 [] [va0,vb0,vc0]=t/\s3=s':=by cases hm;exact⟨rfl,rfl⟩
   refine af ?_;refine dc rfl (by simp) ?_;obtain⟨i1,i2,i3,i4,i5,i6,i7,_⟩:=id hK9;have i5l:=i5.lt;have i2z:=i2.size
   have hM:¬(h4.size=c.pb\/bU ((Value.slice (some ⟨h3.size,0,none⟩) 2 2)).ownBlock h4.size\/Array.size h9<=h4.size):=λq=>by
    rcases q with q|q|q
    · omega
    · have:=i7 _ q.symm;omega
    · omega
   refine jK 8 (λb=>b=c.pb\/bU ((Value.slice (some ⟨h3.size,0,none⟩) 2 2)).ownBlock b\/Array.size h9<=b) (λi=>Nat.blt i 7) ?_;refine aF 0 ?_;refine bq 1 rfl (λh' e=>aA rfl (e.cell hM (i5.cell (i:=2) rfl))) ?_;refine aF 2 ?_;refine cV 3 rfl (aE rfl ((ih n (Nat.le_refl _)).choice _ _ _ _ _ i1 hvc)) ?_;rintro r6 h6 ⟨y6,hp6,t6,hn6,ht6⟩;refine⟨λ_=>y6.mono (λ_ _ q=>.inl q),?_⟩;have z6:=y6.size;obtain⟨mk,mt,ma,mn,mc,rfl,hr6⟩:=hn6.get;have ho6:=i6.kU y6 (λb q q2=>by have:=i7 b q;omega) (λb hb q=>by omega) (λ_ _ q=>q);obtain⟨css,hc1,hc2,hc3⟩:=id ho6;refine cV 4 rfl (lg) ?_;rintro _ _ ⟨rfl,rfl⟩;refine⟨λ_=>by first|exact Ext.push _ _ _|assumption,?_⟩;refine cV 5 rfl (vL rfl rfl hc2 rfl rfl (by simp) (by omega)) ?_;rintro v7 h7 ⟨ho7,hx7,hx7',hv7⟩;refine⟨λ_=>hx7'.mono (λb _ q=>.inr (.inl q)),?_⟩;have z7:=hx7.size;obtain⟨va,vm,vc,rfl⟩:=pZ ho7;refine aF 6 ?_;refine gU 7 rfl (iG rfl rfl (((i5.ext y6 (show ¬h4.size=c.pb by omega)).ext hx7 (λq=>by have:=i7 _ q.symm;omega)))) ?_;rintro _ h8 ⟨rfl,k8,x8,z8⟩;refine⟨nofun,?_⟩
   have hr6':eN.R h6 (λb=>bU ((Value.slice (some ⟨h3.size,0,none⟩) 2 2)).ownBlock b\/(b<=h.size\/b=h4.size)) [.int .i64 mk,.string (bs mt),.slice ma mn mc] t6:=aK hr6 (Ext.refl (λ_=>False) _) (λb hb q=>⟨λk=>k,λq2=>by
    rcases q2 with q2|q2
    · have:=i7 _ q2.symm;omega
    · omega⟩)
   have ho7x:cH eN (λb=>b<=h.size\/b=h4.size) h7 (h.size+1) 41 (.slice va vm vc) ([t2,t3]++[t6]):=cH.eC hc1 hc3 ho7 hx7 hv7 hr6'
   have hown7:∀b,(Value.slice va vm vc).ownBlock=some b->h.size<b/\b≠h4.size/\b<h7.size:=λb q=>by
    have hl:=(ho7.lt q).2
    rcases hv7 b q with q2|q2
    · have:=i7 b q2;omega
    · omega
   have hK:Gk c h h8 h4.size 6 ([t2,t3]++[t6]) (.slice va vm vc) s3:=Gk.mk ((hp6.ext hx7 (λb hb q=>by have:=i7 _ q.symm;omega)).ext x8 (λb hb q=>by omega)) (((i2.trans y6).cZ hx7 (λi hi q=>by have:=i7 _ q.symm;omega)).cZ x8 (λi hi q=>by omega)) (((i3.ext y6 (show ¬h.size=c.pb by omega)).ext hx7 (λq=>by have:=i7 _ q.symm;omega)).ext x8 (show ¬h.size=h4.size by omega)) i4 k8 (ho7x.kU x8 (λb q q2=>by have:=hown7 b q;omega) (λb hb q=>.inr q) (λ_ _ q=>q)) (λb q=>by have:=hown7 b q;omega) ⟨_,_,_,rfl⟩;refine fV ?_;refine af ?_;refine xp rfl (cj rfl hK.nd.row) ?_;refine aO rfl (aZ rfl rfl hK.res eY) ?_;rintro _ hz ⟨rfl,kz,xz,zz⟩;refine af ?_;refine cE (cz rfl kz.row cD) ?_;exact⟨_,rfl,bT hp hK.ext hK.st hK.tell (λq=>by rw[ht6 q,(hgood (bE hvc q)).1,(hgood (bE hvc q)).2];rfl) xz⟩
theorem mH (h:aq) (O:Nat->Prop):dK h O QC B7:=dK.shut (aL.nil _ _ _)
theorem Ga (h:u.1=5):mR u=some (.mk 0 u.2.1 []):=by unfold mR;rw[if_pos h]
theorem F9 (h:u.1=9):mR u=some (.mk 1 u.2.1 []):=by unfold mR;rw[if_neg (by omega),if_pos h]
theorem Gc (h:u.1=3):mR u=some (.mk 3 u.2.1 []):=by unfold mR;rw[if_neg (by omega),if_neg (by omega),if_pos h]
theorem Gb (h:u.1=4) (I:u.2.1=gZ\/u.2.1=gC):mR u=some (.mk 2 u.2.1 []):=by unfold mR;rw[if_neg (by omega),if_neg (by omega),if_neg (by omega),if_pos ⟨h,I⟩]
theorem yC (J:¬u.1=5) (I:¬u.1=9) (Y:¬u.1=3) (U:¬(u.1=4/\(u.2.1=gZ\/u.2.1=gC))):mR u=none:=by unfold mR;rw[if_neg J,if_neg I,if_neg Y,if_neg U]
theorem Ch (ih:∀m,m<=n->B9 m):Ct 199 [] .atom (n+1):=by
 intro c h s t s' hp hm;have hpl:=hp.lt;obtain⟨pb,lv,n0,us,e⟩:=c;obtain⟨i,b,m,hk,hl,hi,hs,hpn,hn0⟩:=id hp;dsimp only at hk hl hi hs hpn hn0 hpl hm ⊢;obtain⟨la,ln,lc,rfl,hls⟩:=hl.open;have hln:us.length=ln:=hls.len;subst hln;have hlm:=hls.cap;have hlc:=hls.le;simp only[maxLen] at hlm;cases s with
 |bad q =>
  obtain⟨rfl,rfl⟩:=hs;have hm:some (B7,PS.bad m)=some (t,s'):=hm;refine bJ ?_;refine af ?_;refine xo rfl (cL) ?_;rintro _ h1 ⟨rfl,k1,e1,z1⟩;have hf:=eS (hp.ah e1);dsimp only at hf;refine cO ?_
  iterate 2 refine aQ ?_
  refine rP ?_
  iterate 3 refine jD ?_
  refine bF rfl (aA rfl ((hk.ah e1).cell (i:=3) rfl)) ?_;refine jD ?_;refine RQ.bw (d:=9) (b':=true) rfl (rfl) ?_;refine af ?_;refine dc rfl (by simp) ?_;refine af ?_;refine xo rfl (aE rfl hf) ?_;rintro _ h2 ⟨rfl,hp2,x2⟩;refine aO rfl (aZ rfl rfl ((k1.ext x2 (show ¬h.size=pb by omega)))) ?_;rintro _ h3 ⟨rfl,k3,x3,z3⟩;refine af ?_;refine cE (cz rfl k3.row cD) ?_;obtain⟨rfl,rfl⟩:B7=t/\PS.bad m=s':=by cases hm;exact⟨rfl,rfl⟩
  exact⟨_,rfl,bT hp (e1.of.trans x2) hp2 (mH _ _) (λ_=>rfl) x3⟩
  |ok r =>
  obtain⟨rfl,hr⟩:=hs;cases r with
  |nil =>
   have hie:=qP hr hi;have hm:some (B7,cu e (.ok []))=some (t,s'):=hm;refine bJ ?_;refine af ?_;refine xo rfl (cL) ?_;rintro _ h1 ⟨rfl,k1,e1,z1⟩;have hf:=eS (hp.ah e1);dsimp only at hf;have hk1:=hk.ah e1;refine cO ?_
   iterate 2 refine aQ ?_
   refine rP ?_
   iterate 3 refine jD ?_
   refine bF rfl (aA rfl (hk1.cell (i:=3) rfl)) ?_;refine af ?_;refine RQ.bw (d:=9) (b':=false) rfl (rfl) ?_;refine af ?_;refine bF rfl (aA rfl (hk1.cell (i:=1) rfl)) ?_;refine af ?_;refine bF rfl (aA rfl (hk1.cell (i:=0) rfl)) ?_;refine af ?_;refine dc rfl (by simp;omega) ?_;refine af ?_;refine xo rfl (aE rfl hf) ?_;rintro _ h2 ⟨rfl,hp2,x2⟩;refine aO rfl (aZ rfl rfl ((k1.ext x2 (show ¬h.size=pb by omega)))) ?_;rintro _ h3 ⟨rfl,k3,x3,z3⟩;refine af ?_;refine cE (cz rfl k3.row cD) ?_;obtain⟨rfl,rfl⟩:B7=t/\cu e (.ok [])=s':=by cases hm;exact⟨rfl,rfl⟩
   exact⟨_,rfl,bT hp (e1.of.trans x2) hp2 (mH _ _) (λ_=>rfl) x3⟩
   |cons u r =>
   obtain⟨hu,hil,hr'⟩:=rV hls hr;rw[pM] at hm;refine bJ ?_;refine af ?_;refine xo rfl (cL) ?_;rintro _ h1 ⟨rfl,k1,e1,z1⟩;have hk1:=hk.ah e1;have hls1:=hls.mv (Mv.ah e1);obtain⟨b1,o1,u',hua,hub,hu',hrow⟩:=hls1.nA hil;rw[hu] at hu';cases hu';refine cO ?_
   iterate 2 refine aQ ?_
   refine rP ?_
   iterate 3 refine jD ?_
   refine bF rfl (aA rfl (hk1.cell (i:=3) rfl)) ?_;refine af ?_;refine RQ.bw (d:=9) (b':=false) rfl (rfl) ?_;refine af ?_;refine bF rfl (aA rfl (hk1.cell (i:=1) rfl)) ?_;refine af ?_;refine bF rfl (aA rfl (hk1.cell (i:=0) rfl)) ?_;refine af ?_;refine dB rfl (by simp;omega) ?_;refine af ?_;refine Gn 12 11 ?_;refine aF 0 ?_;refine aF 1 ?_;refine aF 2 ?_;refine bq 3 rfl (λh' e=>aA rfl (e.old (hk1.cell (i:=0) rfl))) ?_;refine aF 4 ?_;refine aF 5 ?_;refine aF 6 ?_;refine bq 7 rfl (λh' e=>aA rfl (e.old (hk1.cell (i:=1) rfl))) ?_;refine bq 8 rfl (λh' e=>bZ rfl rfl i rfl hua) ?_;refine bq 9 rfl (λh' e=>cj rfl (e.Bk hrow)) ?_;refine cV 10 rfl (cL) ?_;rintro _ h2 ⟨rfl,k2,e2,z2⟩;refine⟨λ_=>e2.of,?_⟩;refine gU 11 rfl (aZ rfl rfl k2 (by simpa using AQ u)) ?_;rintro _ h4 ⟨rfl,hku,x4,z4⟩;refine⟨nofun,?_⟩;have x14:Ext (λb=>b=h1.size) h1 h4:=e2.of.trans x4;have x04:Ext (λb=>b=pb) h h4:=e1.of.cZ x14 (λi hi q=>by omega);have hku:aC h4 h1.size 88 (tZ u):=hku;have hk4:=hk1.ext x14 (show ¬pb=h1.size by omega);have hkr:=k1.ext x14 (show ¬h.size=h1.size by omega);have hls4:=hls1.mv (Mv.bY x14 λb hb ho=>⟨λq=>ho (by omega),ho⟩);have hp4:tj ⟨pb,_,n0,us,e⟩ h4 (.ok (u::r)):=⟨i,false,m,hk4,hls4.shut,hi,⟨rfl,hr⟩,hpn,by have:=x04.size;dsimp only;omega⟩
   refine fV ?_;refine af ?_;refine xp rfl (aA rfl (hku.cell (i:=0) rfl)) ?_;refine af ?_;refine aN (λc5=>?_) (λc5=>?_)
   · refine af ?_;refine xp rfl (aA rfl (hk4.cell (i:=1) rfl)) ?_;refine af ?_;refine aO rfl (iG rfl rfl hk4) ?_;rintro _ h5 ⟨rfl,k5,x5,z5⟩;have hu5:=hku.ext x5 (show ¬h1.size=pb by omega);refine af ?_;refine xp rfl (aA rfl (hu5.cell (i:=1) rfl)) ?_;refine xp rfl (av (H.mQ _ _) rfl) ?_;refine aO rfl (aZ rfl rfl ((hkr.ext x5 (show ¬h.size=pb by omega))) eY) ?_;rintro _ h6 ⟨rfl,k6,x6,z6⟩;refine af ?_;refine cE (cz rfl k6.row cD) ?_;rw[Ga c5] at hm;obtain⟨rfl,rfl⟩:Tr.mk 0 u.2.1 []=t/\PS.ok r=s':=by cases hm;exact⟨rfl,rfl⟩
     have hp5:tj ⟨pb,_,n0,us,e⟩ h5 (.ok r):=⟨i+1,false,m,k5,(hls4.mv (Mv.bY x5 λb _ ho=>⟨λq=>ho (.inl q),ho⟩)).shut,hil,⟨rfl,hr'⟩,hpn,by have:=x5.size;dsimp only;omega⟩
     exact⟨_,rfl,bT hp (x04.trans x5) hp5 (dK.shut (aL.nil _ _ _)) (λ_=>rfl) x6⟩
   · refine af ?_;refine xp rfl (aA rfl (hku.cell (i:=0) rfl)) ?_;refine af ?_;refine aN (λc9=>?_) (λc9=>?_)
     · refine af ?_;refine xp rfl (aA rfl (hk4.cell (i:=1) rfl)) ?_;refine af ?_;refine aO rfl (iG rfl rfl hk4) ?_;rintro _ h5 ⟨rfl,k5,x5,z5⟩;have hu5:=hku.ext x5 (show ¬h1.size=pb by omega);refine af ?_;refine xp rfl (aA rfl (hu5.cell (i:=1) rfl)) ?_;refine xp rfl (av (H.mQ _ _) rfl) ?_;refine aO rfl (aZ rfl rfl ((hkr.ext x5 (show ¬h.size=pb by omega))) eY) ?_;rintro _ h6 ⟨rfl,k6,x6,z6⟩;refine af ?_;refine cE (cz rfl k6.row cD) ?_;rw[F9 c9] at hm;obtain⟨rfl,rfl⟩:Tr.mk 1 u.2.1 []=t/\PS.ok r=s':=by cases hm;exact⟨rfl,rfl⟩
       have hp5:tj ⟨pb,_,n0,us,e⟩ h5 (.ok r):=⟨i+1,false,m,k5,(hls4.mv (Mv.bY x5 λb _ ho=>⟨λq=>ho (.inl q),ho⟩)).shut,hil,⟨rfl,hr'⟩,hpn,by have:=x5.size;dsimp only;omega⟩
       exact⟨_,rfl,bT hp (x04.trans x5) hp5 (dK.shut (aL.nil _ _ _)) (λ_=>rfl) x6⟩
     · refine af ?_;refine xp rfl (aA rfl (hku.cell (i:=0) rfl)) ?_;refine af ?_;refine aN (λc3=>?_) (λc3=>?_)
       · refine af ?_;refine xp rfl (aA rfl (hk4.cell (i:=1) rfl)) ?_;refine af ?_;refine aO rfl (iG rfl rfl hk4) ?_;rintro _ h5 ⟨rfl,k5,x5,z5⟩;have hu5:=hku.ext x5 (show ¬h1.size=pb by omega);refine af ?_;refine xp rfl (aA rfl (hu5.cell (i:=1) rfl)) ?_;refine xp rfl (av (H.mQ _ _) rfl) ?_;refine aO rfl (aZ rfl rfl ((hkr.ext x5 (show ¬h.size=pb by omega))) eY) ?_;rintro _ h6 ⟨rfl,k6,x6,z6⟩;refine af ?_;refine cE (cz rfl k6.row cD) ?_;rw[Gc c3] at hm;obtain⟨rfl,rfl⟩:Tr.mk 3 u.2.1 []=t/\PS.ok r=s':=by cases hm;exact⟨rfl,rfl⟩
         have hp5:tj ⟨pb,_,n0,us,e⟩ h5 (.ok r):=⟨i+1,false,m,k5,(hls4.mv (Mv.bY x5 λb _ ho=>⟨λq=>ho (.inl q),ho⟩)).shut,hil,⟨rfl,hr'⟩,hpn,by have:=x5.size;dsimp only;omega⟩
         exact⟨_,rfl,bT hp (x04.trans x5) hp5 (dK.shut (aL.nil _ _ _)) (λ_=>rfl) x6⟩
       · refine aQ ?_;refine dU [(75,.bool (decide (u.1=4/\(u.2.1=gZ\/u.2.1=gC))))] rfl ?_ ?_
         · refine af ?_;refine xp rfl (aA rfl (hku.cell (i:=0) rfl)) ?_;refine af ?_;refine cX 79 (λg4=>?_) (λg4=>?_)
           · have g4:=of_decide_eq_true g4;refine af ?_;refine xp rfl (aA rfl (hku.cell (i:=1) rfl)) ?_;refine af ?_;refine cX 83 (λgt=>?_) (λgt=>?_)
             · have gt:u.2.1=gZ:=dF (of_decide_eq_true gt);refine af ?_;exact aD rfl ⟨ai rfl (by rw[decide_eq_true ⟨g4,.inl gt⟩]),sb rfl⟩
             · have gt:¬u.2.1=gZ:=λq=>of_decide_eq_false gt (congrArg bs q)
               refine af ?_;refine xp rfl (aA rfl (hku.cell (i:=1) rfl)) ?_;refine af ?_;exact aD rfl ⟨ai rfl (by rw[Bool.eq_iff_iff,decide_eq_true_iff,decide_eq_true_iff];exact⟨λq=>⟨g4,.inr (dF q)⟩,λq=>congrArg bs (q.2.resolve_left gt)⟩),sb rfl⟩
           · have g4:=of_decide_eq_false g4;refine af ?_;exact aD rfl ⟨ai rfl (by rw[decide_eq_false (λq=>g4 q.1)]),sb rfl⟩
         · refine aN (λc4=>?_) (λc4=>?_)
           · refine af ?_;refine xp rfl (aA rfl (hk4.cell (i:=1) rfl)) ?_;refine af ?_;refine aO rfl (iG rfl rfl hk4) ?_;rintro _ h5 ⟨rfl,k5,x5,z5⟩;have hu5:=hku.ext x5 (show ¬h1.size=pb by omega);refine af ?_;refine xp rfl (aA rfl (hu5.cell (i:=1) rfl)) ?_;refine xp rfl (av (H.mQ _ _) rfl) ?_;refine aO rfl (aZ rfl rfl ((hkr.ext x5 (show ¬h.size=pb by omega))) eY) ?_;rintro _ h6 ⟨rfl,k6,x6,z6⟩;refine af ?_;refine cE (cz rfl k6.row cD) ?_;rw[Gb c4.1 c4.2] at hm;obtain⟨rfl,rfl⟩:Tr.mk 2 u.2.1 []=t/\PS.ok r=s':=by cases hm;exact⟨rfl,rfl⟩
             have hp5:tj ⟨pb,_,n0,us,e⟩ h5 (.ok r):=⟨i+1,false,m,k5,(hls4.mv (Mv.bY x5 λb _ ho=>⟨λq=>ho (.inl q),ho⟩)).shut,hil,⟨rfl,hr'⟩,hpn,by have:=x5.size;dsimp only;omega⟩
             exact⟨_,rfl,bT hp (x04.trans x5) hp5 (dK.shut (aL.nil _ _ _)) (λ_=>rfl) x6⟩
           · have hno:=yC c5 c9 c3 c4;rw[hno] at hm;simp only at hm;refine aQ ?_;refine dU [(99,.bool (decide (u.1=7/\u.2.1=[123])))] rfl ?_ ?_
             · refine af ?_;refine xp rfl (aA rfl (hku.cell (i:=0) rfl)) ?_;refine af ?_;refine cX 103 (λg4=>?_) (λg4=>?_)
               · have g4:=of_decide_eq_true g4;refine af ?_;refine xp rfl (aA rfl (hku.cell (i:=1) rfl)) ?_;refine af ?_;exact aD rfl ⟨ai rfl (by rw[Bool.eq_iff_iff,decide_eq_true_iff,decide_eq_true_iff];exact⟨λq=>⟨g4,dF q⟩,λq=>congrArg bs q.2⟩),sb rfl⟩
               · have g4:=of_decide_eq_false g4;refine af ?_;exact aD rfl ⟨ai rfl (by rw[decide_eq_false (λq=>g4 q.1)]),sb rfl⟩
             · refine aN (λcb=>?_) (λcb=>?_)
               · rw[if_pos cb] at hm;have hcall:=(ih n (Nat.le_refl _)).block ⟨pb,_,n0,us,e⟩ _ _ _ _ hp4 hm;refine af ?_;refine xo rfl (aE rfl hcall) ?_;rintro r9 g9 ⟨y9,hp9,t9,hn9,ht9⟩;have k9:=hkr.ext y9 (show ¬h.size=pb by omega);obtain⟨nk,nt,na,nn,nc,rfl,_⟩:=hn9.get;refine aO rfl (aZ rfl rfl k9) ?_;rintro _ g10 ⟨rfl,k10,x10,z10⟩;refine af ?_;refine cE (cz rfl k10.row cD) ?_;exact⟨_,rfl,eI.ret ⟨y9,hp9,t9,hn9,ht9⟩ hp x04 x10 (Nat.le_refl _) hkr.lt⟩
               · rw[if_neg cb] at hm;refine aQ ?_;refine dU [(110,.bool (decide (u.1=7/\u.2.1=[40])))] rfl ?_ ?_
                 · refine af ?_;refine xp rfl (aA rfl (hku.cell (i:=0) rfl)) ?_;refine af ?_;refine cX 114 (λg4=>?_) (λg4=>?_)
                   · have g4:=of_decide_eq_true g4;refine af ?_;refine xp rfl (aA rfl (hku.cell (i:=1) rfl)) ?_;refine af ?_;exact aD rfl ⟨ai rfl (by rw[Bool.eq_iff_iff,decide_eq_true_iff,decide_eq_true_iff];exact⟨λq=>⟨g4,dF q⟩,λq=>congrArg bs q.2⟩),sb rfl⟩
                   · have g4:=of_decide_eq_false g4;refine af ?_;exact aD rfl ⟨ai rfl (by rw[decide_eq_false (λq=>g4 q.1)]),sb rfl⟩
                 · refine aN (λcp=>?_) (λcp=>?_)
                   · rw[if_pos cp] at hm;obtain⟨v,s1,hv,hm⟩:=ay hm;obtain⟨rfl,rfl⟩:v=t/\bV e 8 [41] s1=s':=by cases hm;exact⟨rfl,rfl⟩
                     refine af ?_;refine xp rfl (aA rfl (hk4.cell (i:=1) rfl)) ?_;refine af ?_;refine aO rfl (iG rfl rfl hk4) ?_;rintro _ h5 ⟨rfl,k5,x5,z5⟩;have hp5:tj ⟨pb,_,n0,us,e⟩ h5 (.ok r):=⟨i+1,false,m,k5,(hls4.mv (Mv.bY x5 λb _ ho=>⟨λq=>ho (.inl q),ho⟩)).shut,hil,⟨rfl,hr'⟩,hpn,by have:=x5.size;dsimp only;omega⟩
                     have hcall:=(ih n (Nat.le_refl _)).expr ⟨pb,_,n0,us,e⟩ _ _ _ _ hp5 hv;refine af ?_;refine xo rfl (aE rfl hcall) ?_;rintro r6 h6 ⟨y6,hp6,t6,hn6,ht6⟩;obtain⟨nk,nt,na,nn,nc,rfl,hr6⟩:=hn6.get;have z6:=y6.size;have z4':=x04.size;refine xo rfl (cL) ?_;rintro _ h7 ⟨rfl,k7,e7,z7⟩;refine aO rfl (aZ rfl rfl k7 eY) ?_;rintro _ h8 ⟨rfl,k8,x8,z8⟩;have x68:Ext (λb=>b=h6.size) h6 h8:=e7.of.trans x8;have hp8:=hp6.ext x68 (λb (hb:b<n0) q=>by omega);have hmust:=gP hp8 8 [41];dsimp only at hmust;refine af ?_;refine xo rfl (aE rfl hmust) ?_;rintro _ h9 ⟨hp9,x9⟩;have y6':Ext (λb=>b=pb) h5 h6:=y6;refine af ?_;refine xp rfl (cj rfl (k8.ext x9 (show ¬h6.size=pb by omega)).row) ?_;refine aO rfl (aZ rfl rfl (((((hkr.ext x5 (show ¬h.size=pb by omega)).ext y6' (show ¬h.size=pb by omega)).ext x68 (show ¬h.size=h6.size by omega)).ext x9 (show ¬h.size=pb by omega))) eY) ?_;rintro _ hz ⟨rfl,kz,xz,zz⟩;refine af ?_;refine cE (cz rfl kz.row cD) ?_;have x09:Ext (λb=>b=pb) h h9:=(((x04.trans x5).trans y6').cZ x68 (λi hi q=>by omega)).trans x9;exact⟨_,rfl,bT hp x09 hp9 (dK.of (aK (aK (O':=λb=>b<=h.size) hr6 x68 (λb hb q=>⟨λq2=>by omega,λq2=>q (by omega)⟩)) x9 (λb hb q=>⟨λq2=>q (by omega),q⟩))) (λq=>by rw[ht6 (dM q)]) xz⟩
                   · rw[if_neg cp] at hm;obtain⟨rfl,rfl⟩:B7=t/\cu e (.ok (u::r))=s':=by cases hm;exact⟨rfl,rfl⟩
                     have hf:=eS hp4;dsimp only at hf;refine af ?_;refine xo rfl (aE rfl hf) ?_;rintro _ h5 ⟨rfl,hp5,x5⟩;refine aO rfl (aZ rfl rfl ((hkr.ext x5 (show ¬h.size=pb by omega)))) ?_;rintro _ h6 ⟨rfl,k6,x6,z6⟩;refine af ?_;refine cE (cz rfl k6.row cD) ?_;exact⟨_,rfl,bT hp (x04.trans x5) hp5 (mH _ _) (λ_=>rfl) x6⟩
theorem IW:B9 0:=by
 have z:∀f ex j,Ct f ex j 0:=λf ex j c h s t s' hp hm=>by cases hm
 exact⟨z _ _ _,z _ _ _,λ_=>z _ _ _,z _ _ _,z _ _ _,z _ _ _,z _ _ _,z _ _ _,z _ _ _,z _ _ _,z _ _ _,z _ _ _,z _ _ _,z _ _ _,z _ _ _⟩
theorem KK:∀n,B9 n:=by
 intro n
 induction n using Nat.strongRecOn with
 |_ n I =>
  cases n with
  |zero=>exact IW
  |succ n =>
   have I:∀m,m<=n->B9 m:=λm hm=>I m (Nat.lt_succ_of_le hm)
   exact⟨Ce I,Cf I,Ee I,zh I,Ef I,AL I,Gs I,Eg I,Ed I,we I,Ec I,Cd I,AJ I,Cg I,Ch I⟩
def qq (m:Int):bW:=match nN (bX m) with|.inr d=>d|.inl _=>⟨[],[]⟩
theorem xA (m:Nat) (hm:m<3):∃ss st,eo (bX m)= .inr (ss,st)/\nN (bX m)= .inr (qq m)/\gM ss st= .inr (qq m)/\(∀l,gI m l=dN ss st l)/\∀l,(aT (qq m) l 0 0 (0,-1)).2.2<=(gI m l).1+2:=by
 have key:∀{ss:List bL}{st:Nat},eo (bX m)= .inr (ss,st)->(∀l,gI m l=dN ss st l)->(∃d,gM ss st= .inr d/\(∀l,(aT d l 0 0 (0,-1)).2.2<=(dN ss st l).1+2)/\∀l x:By,(dN ss st l).1+2<l.length->dN ss st (l++x)=dN ss st l)->∃ss st,eo (bX m)= .inr (ss,st)/\nN (bX m)= .inr (qq m)/\gM ss st= .inr (qq m)/\(∀l,gI m l=dN ss st l)/\∀l,(aT (qq m) l 0 0 (0,-1)).2.2<=(gI m l).1+2:=by
  intro ss st h1 U ⟨d,J,Z,_⟩;have I:nN (bX m)= .inr d:=by unfold nN;rw[h1];exact J
  have Y:qq m=d:=by unfold qq;rw[I]
  rw[Y];exact⟨ss,st,h1,I,J,U,λl=>by rw[U];exact Z l⟩
 match m,hm with
 | 0,_=>exact key N9 (λl=>rfl) (tO N9 OA OD Ox BG.1)
 | 1,_=>exact key Jh (λl=>rfl) (tO Jh Oz OC Ov BG.2.1)
 | 2,_=>exact key N8 (λl=>rfl) (tO N8 Oy OB Ou BG.2.2)
def Pn:gW bW:=⟨1,by decide,λh O cs d=>∃db,cs=[.pointer (some ⟨db,0,none⟩)]/\pQ h O db d,λh=>by obtain⟨db,rfl,_⟩:=h;rfl,λh=>by
 obtain⟨db,rfl,_⟩:=h;intro u hu;simp at hu;subst hu;rfl,λh m=>by
 obtain⟨db,hc,hv⟩:=h;exact⟨db,hc,hv.mv m⟩⟩
def xC (k:Nat):List bW:=([0,1,2].take k).map λm:Int=>nE (qq m)
theorem EH (k:Nat) (hk:k<3):xC (k+1)=xC k++[nE (qq k)]/\(xC k).length=k:=by
 match k,hk with
 | 0,_=>exact⟨rfl,rfl⟩
 | 1,_=>exact⟨rfl,rfl⟩
 | 2,_=>exact⟨rfl,rfl⟩
def qM (h:aq) (p:Value):Prop:=∃lb vm,p= .pointer (some ⟨lb,0,none⟩)/\aC h lb 69 [vm]/\aL Pn h (λ_=>False) vm (xC 3)
theorem qM.ah {h h':aq}{p:Value}(k:qM h p) (e:aj h h'):qM h' p:=by
 obtain⟨J,I,h1,Y,U⟩:=k;exact⟨J,I,h1,Y.ah e,U.mv (Mv.ah e)⟩
theorem G2 {lim:Nat}(hg:Sg h lim) (hlim:lim<=h.size) (htens:vI h) (hR:n5 h) :
 au prog 9 #[] h (bK λr h'=>qM h' r/\aj h h'):=by
 refine bJ ?_;refine af ?_;refine xp rfl (av (H.OI ) rfl) ?_;refine xo rfl (mh) ?_;rintro _ h1 ⟨rfl,k1,e1,z1⟩;have k1:aC h1 h.size 69 [.slice none 0 0]:=k1;refine af ?_;refine fK (σ:=Nat×Value) (λq=>[(2,.int .i64 (q.1:Nat))]) (λq h'=>q.1<=3/\aj h h'/\aC h' h.size 69 [q.2]/\cH Pn (λb=>b=h.size) h' h1.size 75 q.2 (xC q.1)/\h1.size<=h'.size) (λq=>3-q.1) ((0,.slice none 0 0)) ⟨by decide,e1,k1,cH.nil _ _ _ _ _,Nat.le_refl _⟩ rfl ?_;rintro⟨m,vm⟩ g ⟨hm,eg,kb,hx,hz⟩ ih
 try dsimp only
 dsimp only at hm kb hx;refine af ?_;refine aN (λhlt=>?_) (λhlt=>?_)
 · have hm3:m<3:=by omega
   obtain⟨ss,st,hmk,hdm,hdk,_⟩:=xA m hm3;obtain⟨hnext,hlen⟩:=EH m hm3;have hok:=qg hdm;have hM:=eZ hmk;have hb:=Dg hM
   have hrl:∀s∈bX m,s.length<=1000000:=by
    have:m=0\/m=1\/m=2:=by omega
    rcases this with rfl|rfl|rfl
    · exact of_decide_eq_true rfl
    · exact of_decide_eq_true rfl
    · exact of_decide_eq_true rfl
   refine af ?_;refine xo rfl (aE rfl (GQ (hR.ah eg) m hm3)) ?_;rintro _ g1 ⟨hr1,f1⟩;have eg1:=eg.trans f1;refine xo rfl (aE rfl (G6 (hg.ext eg1 (λ_ k=>k.elim)) (by have:=eg1.size;omega) hr1 hrl)) ?_;rintro _ g2 ⟨⟨p,rfl,hp⟩,f2⟩
   have hp:∃(O:Nat->Prop) (nb:Nat) (v:Value),p= .pointer (some ⟨nb,0,none⟩)/\cv g2 O nb v ss st:=by
    rcases hp with ⟨e,he,_⟩|⟨O,nb,v,ss',st',hp,hn,hm'⟩
    · rw[hmk] at he;cases he
    · rw[hmk] at hm';cases hm';exact⟨O,nb,v,hp,hn⟩
   obtain⟨O,nb,v,rfl,hn⟩:=hp;have eg2:=eg1.trans f2;refine af ?_;refine xo rfl (aE rfl (DJ (htens.ah eg2) hn hM.good hM.len hM.stl hb.2.1 hb.2.2)) ?_;rintro r3 g3 ⟨hr3,f3⟩;unfold B4 at hr3;rw[hdk] at hr3;obtain⟨db,rfl,hk⟩:=hr3;have eg3:=eg2.trans f3;have f03:=(f1.trans f2).trans f3;have zz:=f03.size;have kb3:=kb.ah f03;have hx3:=hx.ah f03;obtain⟨css3,_,hw3,_⟩:=id hx3;have vge:∀b,vm.ownBlock=some b->h1.size<=b/\b<g3.size:=λb hb=>hw3.lt hb
   have hkM:¬(bU vm.ownBlock h.size\/Array.size g3<=h.size):=by
    rintro(k|k)
    · have:=(vge _ k.symm).1;omega
    · omega
   refine af ?_;refine jK 12 (λb=>bU vm.ownBlock b\/Array.size g3<=b) (λi=>Nat.blt i 11) ?_;refine aF 0 ?_;refine aF 1 ?_;refine aF 2 ?_;refine aF 3 ?_;refine bq 4 rfl (λh' e=>aA rfl (e.cell hkM (kb3.cell (i:=0) rfl))) ?_;refine aF 5 ?_;refine cV 6 rfl (aE rfl (JT (htens.ah eg3) hk hok.1 hok.2)) ?_;rintro r4 g4 ⟨⟨b4,rfl,hk4⟩,f4⟩;refine⟨λ_=>f4.mono (λ_ _ k=>k.elim),?_⟩;have hx4:=hx3.ah f4;have kb4:=kb3.ah f4;have z4:=f4.size;obtain⟨css,hc1,hc2,hc3⟩:=id hx4;rw[hlen] at hc2;refine cV 7 rfl (iD [_]) ?_;rintro _ _ ⟨rfl,rfl⟩;refine⟨λ_=>by first|exact Ext.push _ _ _|assumption,?_⟩;refine cV 8 rfl (vL rfl rfl hc2 rfl rfl) ?_;rintro v5 g5 ⟨ho5,hx5,hx5',hv5⟩;refine⟨λ_=>hx5'.mono (λ_ _ k=>.inl k),?_⟩
   have hnew:pQ g4 (λb=>bU vm.ownBlock b\/b=h.size) b4 (nE (qq m)):=hk4.mv ⟨Nat.le_refl _,λb _ hn=>⟨rfl,λk=>hn (by
    rcases k with k|k
    · exact(vge _ k.symm).2
    · omega)⟩⟩
   have hx5w:=cH.eC (e:=Pn) (h:=g4) (v:=vm) (css:=css) (cs:=[.pointer (some ⟨b4,0,none⟩)]) (y:=nE (qq m)) (O:=λb=>b=h.size) hc1 hc3 (by rw[hlen];exact ho5) hx5 hv5 ⟨b4,rfl,hnew⟩;obtain⟨va5,vc5,rfl,_⟩:=ho5.open;have z5:=hx5.size;have kb5:=kb4.ext hx5 (λk=>by have:=(vge _ k.symm).1;omega);have v5ge:∀b,(Value.slice va5 (m+1) vc5).ownBlock=some b->h1.size<=b:=λb hb=>(ho5.lt hb).1
   refine H8 9 ?_;refine aF 10 ?_;refine gU 11 rfl (iG rfl rfl kb5) ?_;rintro _ g6 ⟨rfl,kb6,x6,z6⟩;refine⟨nofun,?_⟩;have kb6:aC g6 h.size 69 [.slice va5 (m+1) vc5]:=by simpa using kb6
   have hx6:=hx5w.kU (O':=λb=>b=h.size) x6 (λb hb k=>by have:=v5ge b hb;omega) (λb _ k=>k) (λb _ k=>k)
   have eg6:aj h g6:=⟨by have:=x6.size;omega,λb hb _=>by
    rw[x6.block b (by omega) (by omega),hx5.block b (by omega) (λk=>by have:=(vge _ k.symm).1;omega),f4.block b (by omega) (λk=>k)];exact eg3.block b hb (λk=>k)⟩
   refine fV ?_;refine af ?_;exact ih (m+1,_) ⟨by show m+1<=3;omega,eg6,kb6,by show cH Pn _ g6 h1.size _ _ (xC (m+1));rw[hnext];exact hx6,by have:=x6.size;omega⟩
 · obtain rfl:m=3:=by omega
   refine af ?_;refine aP ?_;exact⟨_,rfl,⟨h.size,vm,rfl,kb,hx.wO (λb hb k=>k) (λb _ k=>k.elim)⟩,eg⟩
end
end Go.Proofs.YtnjahnbpnpkmhaaGreatDoor

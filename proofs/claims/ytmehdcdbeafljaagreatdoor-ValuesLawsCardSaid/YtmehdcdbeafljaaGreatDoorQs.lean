/- What the proof of the statement leans on (part 19). -/
import Derived.Test.YtmehdcdbeafljaaGreatDoorQr

namespace Go.Proofs.YtmehdcdbeafljaaGreatDoor
open Go.Proofs.Tryz
open Go Go.Lw
set_option maxRecDepth 20000
theorem Bc {h:aA}{O:Nat->Prop}{nb:Nat}{v nv:Value}{ss:List bT}{st:Nat}{now:List Nat}(c:UInt8) (hn:cB h O nb v ss st) (hgood:Good ss) (hss:ss.length<=1000000) (hnow:bX iw h (fun _=>False) nv now) (hlt:∀j∈now,j<ss.length) (hnn:now.length<=1000000)
 (hpot:(stepG ss c now []).length+qT ss (List.replicate ss.length false)<=1000000) :
 ah Tryz.prog 53 #[.pointer (some ⟨nb,0,none⟩),nv,.int .u8 (c.toNat:Nat)] h (cM fun r h'=>cR eE h' h.size 3 r (cT ss c now)/\aC h h'):=by
 have hown:=hn.own;have hnlt:=hn.blk.lt;obtain⟨css,hc1,hc2,hc3⟩:=id hn.row;obtain⟨va,vc,rfl,_⟩:=hc2.open;obtain⟨na,nn,nc,rfl,hnl,hnc,hnm,hget⟩:=id hnow;generalize htgt:stepG ss c now []=tgt at *;refine ah.of func53 rfl rfl ?_;refine bf func53 1 [0,1,2,6] rfl ?_;refine av rfl ?_;refine bl func53 1 rfl ?_;refine xo rfl (aq (vs:=[_]) func97 rfl H.Jl rfl (ah.bq (nZ hn))) ?_;rintro _ h0 ⟨rfl,hh0⟩;refine xd [0,1,2,6,11] rfl ?_;subst hh0;refine aM rfl rfl (fun hz=>?_) (fun hz=>?_)
 · refine bf func53 1 [0,1,2,6,11] rfl ?_;refine G.ret func53 rfl rfl ?_;rw[cT,if_pos hz];exact⟨_,rfl,cR.nil _ _ _ _,Ext.refl _ _⟩
 · refine aB rfl ?_;refine bf func53 1 [0,1,2,6,7,11] rfl ?_;refine av rfl ?_;refine bl func53 1 rfl ?_;refine xp rfl (aj.aS underlying127 rfl) ?_;refine aN 1 [0,1,2,6,7,11,12,13,14] rfl ?_;refine G.block rfl rfl ?_;refine bO (σ:=Nat×Value×List Nat) (fun q=>[(0,.pointer (some ⟨nb,0,none⟩)),(2,.int .u8 (c.toNat:Nat)),(7,q.2.1),(12,.slice na nn nc),(13,.int .i64 (nn:Nat)),(14,.int .i64 (q.1:Nat))]) (fun q h'=>aC h0 h'/\q.1<=nn/\cR eE h' h0.size 3 q.2.1 q.2.2/\(∀j∈q.2.2,j<ss.length)/\stepG ss c (now.drop q.1) q.2.2=tgt) (fun q=>nn-q.1) ((0,.slice none 0 0,[])) rfl ⟨rfl,rfl,rfl,rfl,rfl,rfl,trivial⟩ ⟨Ext.refl _ _,Nat.zero_le _,cR.nil _ _ _ _,(fun j hj=>by cases hj),htgt⟩ ?_;rintro⟨i,ov,acc⟩ h1 ⟨e1,hi,ho,hal,hcon⟩ ih
   try dsimp only
   dsimp only at hi ho hal hcon;have hz1:=e1.size;have hn1:cB h1 O nb (.slice va ss.length vc) ss st:=hn.ax e1 (fun _ _ k=>k);have hacc:acc.length<=tgt.length:=by rw[<-hcon];exact qg _ _ _ _
   refine bf func53 1 [0,2,7,12,13,14,15] rfl ?_;refine av rfl ?_;refine aM rfl rfl (fun hlti=>?_) (fun hlti=>?_)
   · obtain⟨j,hj⟩:∃j,now[i]? =some j:=⟨_,List.getElem?_eq_getElem (by omega)⟩
     obtain⟨bb,o,cs,ha,_,hrow,rfl⟩:=hget i j hj;have hjl:j<ss.length:=hlt j (List.mem_of_getElem? hj);obtain⟨y,hy⟩:∃y,ss[j]? =some y:=⟨_,List.getElem?_eq_getElem hjl⟩
     obtain⟨gs,cs,ws,hvs,hgs,hrw,hws⟩:=hn1.get hy;cases hvs
     have hdr:now.drop i=j::now.drop (i+1):=by
      obtain⟨hi',rfl⟩:=List.getElem?_eq_some_iff.1 hj;exact List.drop_eq_getElem_cons hi'
     rw[hdr,stepG,hy] at hcon;simp only at hcon;have hrow1:Lw.rowAt h1 bb (o+i*1) [eE j]:=e1.rowAt (fun k=>k) hrow
     have hset:Lw.rowAt h1 gs (0+j*7+1) (uj y.set):=fun q u hu=>by
      have hq:(C6 y.kind y.set ws y.rule)[1+q]? =some u:=by
       match q with
       | 0=>exact hu
       | 1=>exact hu
       | 2=>exact hu
       | 3=>exact hu
       |q+4=>simp[uj] at hu
      have:=hrw (1+q) u hq
      rwa [<-Nat.add_assoc] at this
     refine aB rfl ?_;refine av rfl ?_;refine G.block rfl rfl ?_;refine xr func53 rfl ?_;refine xp rfl (aj.aH underlying127 H.bV rfl rfl i rfl ha (by omega)) ?_;refine xp rfl (ai H.cK rfl (hrow1 0 _ rfl)) ?_;refine aN 1 [0,2,7,9,12,13,14,15] rfl ?_;refine av rfl ?_;refine G.xm (fun(_u:Unit) (h':aA)=>aC h1 h') (fun(_u:Unit)=>[(51,.bool (iU y c))]) [(0,_),(2,_),(7,_),(9,_),(12,_),(13,_),(14,_),(15,_)] ⟨rfl,rfl,rfl,rfl,rfl,rfl,rfl,rfl,trivial⟩ func53 rfl ?_ ?_
     · refine aV 3 rfl ?_;refine RW.cS (d:=20) (b':=true) rfl (decide_eq_true (by omega)) ?_;refine cI 3 rfl rfl (af (off:=0) underlying126 rfl rfl H.gy rfl) ?_;refine xp rfl (ai H.iq rfl (hn1.blk.cell (i:=0) rfl)) ?_;refine xp rfl (aj.aS underlying124 rfl) ?_;refine aV 3 rfl ?_;refine RW.cS (d:=29) (b':=true) rfl (decide_eq_true (by omega)) ?_;refine cI 2 rfl rfl (af (off:=0) underlying126 rfl rfl H.gy rfl) ?_;refine xp rfl (ai H.iq rfl (hn1.blk.cell (i:=0) rfl)) ?_;refine cI 1 rfl rfl (aj.aH underlying124 H.lF rfl rfl j rfl rfl hjl) ?_;refine xp rfl (af (off:=0) underlying138 rfl rfl H.bV rfl) ?_;refine xp rfl (ai H.cK rfl (hrw 0 _ rfl)) ?_;refine aV 3 rfl ?_;refine aL (d:=40) rfl (fun hk=>?_) (fun hk=>?_)
       · have hk':=of_decide_eq_true hk;have hk2:y.kind=1:=by omega
         refine cI 2 rfl rfl (af (off:=0) underlying126 rfl rfl H.gy rfl) ?_;refine xp rfl (ai H.iq rfl (hn1.blk.cell (i:=0) rfl)) ?_;refine cI 1 rfl rfl (aj.aH underlying124 H.lF rfl rfl j rfl rfl hjl) ?_;refine xp rfl (af (off:=1) underlying138 rfl rfl H.lG rfl) ?_;refine xp rfl (aj.aE H.IP H.lG rfl hset (by first|rfl|(simp;done)|(simp;omega))) ?_;refine aV 1 rfl ?_;refine xo rfl (aq (vs:=[_,_]) func103 rfl H.K1 rfl (ah.bq (DH y.set c))) ?_;rintro _ h2 ⟨rfl,e2⟩;refine aV 1 rfl ?_;refine aD rfl ?_;exact⟨(),e2,aF rfl (by simp[iU,hk2]),rfl,rfl,rfl,rfl,rfl,rfl,rfl,rfl,trivial⟩
       · have hk':=of_decide_eq_false hk;have hk2:¬y.kind=1:=by omega
         refine aV 11 rfl ?_;refine aD rfl ?_;exact⟨(),Ext.refl _ _,aF rfl (by simp[iU,hk2]),rfl,rfl,rfl,rfl,rfl,rfl,rfl,rfl,trivial⟩
     · rintro _ h2 e2;have e02:=e1.trans e2;have ho2:cR eE h2 h0.size 3 ov acc:=cR.ax ho e2;have hn2:cB h2 O nb _ ss st:=hn.ax e02 (fun _ _ k=>k);have hz2:=e02.size;refine aJ rfl rfl (fun hb=>?_) (fun hb=>?_)
       · rw[if_pos hb] at hcon;have hacc2:(acc++y.to).length<=tgt.length:=by rw[<-hcon];exact qg _ _ _ _
         rw[List.length_append] at hacc2;obtain⟨gs,cs,ws,hvs,hgs,hrw2,hws2⟩:=hn2.get hy;cases hvs;obtain⟨wa,wn,wc,rfl,_⟩:=id hws2;obtain⟨hwl,hwn,hwm⟩:=AM hws2;refine G.cz func53 rfl ?_;refine cI 3 rfl rfl (af (off:=0) underlying126 rfl rfl H.gy rfl) ?_;refine xp rfl (ai H.iq rfl (hn2.blk.cell (i:=0) rfl)) ?_;refine cI 1 rfl rfl (aj.aH underlying124 H.lF rfl rfl j rfl rfl hjl) ?_;refine xp rfl (af (off:=5) underlying138 rfl rfl H.gK rfl) ?_;refine xp rfl (ai H.nQ rfl (hrw2 5 _ rfl)) ?_;refine xo rfl (az.append underlying127 H.pP rfl rfl ho2 (by simp[hwl]) hwn (by intro u hu;simp at hu;obtain⟨j,_,rfl⟩:=hu;rfl) (by simp only[maxLen];omega) (by omega) (by omega)) ?_;rintro ov3 h3 ⟨ho3,hx3,-,hv3⟩;refine aN 1 [0,2,7,9,12,13,14,15,51] rfl ?_;refine G.aR ?_;refine G.cz func53 rfl ?_;refine xp rfl (aj.bJ rfl rfl ⟨by omega,by omega⟩) ?_;refine aN 1 [0,2,7,9,12,13,14,15,51] rfl ?_
         have ho3':cR eE h3 h0.size 3 ov3 (acc++y.to):=by
          unfold cR;rw[List.length_append,hwl,List.map_append];exact ho3
         have e3:aC h0 h3:=cR.grown e02 ho2 (Nat.le_refl _) hx3
         have hal3:∀j∈acc++y.to,j<ss.length:=fun j hj=>by
          rcases List.mem_append.1 hj with k|k
          · exact hal j k
          · exact hgood y (List.mem_of_getElem? hy) j k
         exact ih (i+1,ov3,acc++y.to) _ _ ⟨rfl,rfl,rfl,rfl,rfl,rfl,trivial⟩ ⟨e3,by show i+1<=nn;omega,ho3',hal3,hcon⟩ (by show nn-(i+1)<nn-i;omega)
       · rw[if_neg (by rw[hb];decide)] at hcon;refine aB rfl ?_;refine G.aR ?_;refine G.cz func53 rfl ?_;refine xp rfl (aj.bJ rfl rfl ⟨by omega,by omega⟩) ?_;refine aN 1 [0,2,7,9,12,13,14,15,51] rfl ?_;exact ih (i+1,ov,acc) _ _ ⟨rfl,rfl,rfl,rfl,rfl,rfl,trivial⟩ ⟨e02,by show i+1<=nn;omega,ho2,hal,hcon⟩ (by show nn-(i+1)<nn-i;omega)
   · have hnil:now.drop i=[]:=List.drop_of_length_le (by omega);rw[hnil,stepG] at hcon;subst hcon;have hol:∀b,ov.ownBlock=some b->h0.size<=b/\b<h1.size:=fun b hb=>aT.lt ho hb
     have hn':cB h1 (fun b=>O b\/cV ov.ownBlock b) nb (.slice va ss.length vc) ss st:=hn.ax e1 (fun b hb k=>k.elim id (fun k=>by have:=(hol b k.symm).1;omega));refine bD rfl rfl ?_;refine bl func53 2 rfl ?_;refine xo rfl (aq (vs:=[_,_]) func98 rfl H.Ko rfl (ah.bq (pT (tb:=ov.ownBlock) hn' hgood hss ho rfl (by omega) (fun b hb=>⟨.inr hb.symm,by have:=hol b hb;omega,fun k=>by have:=hol b hb;have:=(hown b k).2;omega⟩) hal hpot))) ?_;rintro _ h2 ⟨ho2,hx2⟩;refine aN 1 [0,2,6,7,12,13,14,15] rfl ?_;refine G.ret func53 rfl rfl ?_;rw[cT,if_neg hz,htgt];refine⟨_,rfl,aT.lower ho2 (by omega),⟨by have:=hx2.size;omega,fun b hb _=>?_⟩⟩;rw[hx2.block b (by omega) (fun k=>by have:=hol b k.symm;omega)];exact e1.block b hb (fun k=>k)
theorem pZ {h:aA}{α:Type}{e:gM α}{Q Q':Nat->Prop}{v:Value}{xs:List α}(k:bX e h Q v xs) (hq:∀b,Q' b->Q b):bX e h Q' v xs:=k.mv ⟨Nat.le_refl _,fun b _ hn=>⟨rfl,fun k=>hn (hq b k)⟩⟩
end Go.Proofs.YtmehdcdbeafljaaGreatDoor
namespace Go.Proofs.YtmehdcdbeafljaaGreatDoor
section
variable {F ss:List bT}{fin:Nat->Prop}{n to i st:Nat}{x:bT}{w:By}{todo:List Nat}
inductive wG (A:By->Prop):By->Prop where
 |nil:wG A []
 |cons {u v:By}:A u->wG A v->wG A (u++v)
end
mutual
def Gy:Nd->By->Prop
 |.mk k s kids=>fun w =>
  if k=1 then ∃c:UInt8,w=[c]/\s.testBit c.toNat=true
  else if k=2 then uU kids w
  else if k=3 then qJ kids w
  else if k=6 then w=[]\/oG kids w
  else if k=4 then wG (oG kids) w
  else if k=5 then ∃u v,w=u++v/\oG kids u/\wG (oG kids) v
  else w=[]
def uU:List Nd->By->Prop
 | []=>fun w=>w=[]
 |x::r=>fun w=>∃u v,w=u++v/\Gy x u/\uU r v
def qJ:List Nd->By->Prop
 | []=>fun _=>False
 |x::r=>fun w=>Gy x w\/qJ r w
def oG:List Nd->By->Prop
 | []=>fun w=>w=[]
 |x::_=>fun w=>Gy x w
end
section
variable {F ss:List bT}{fin:Nat->Prop}{n to i st:Nat}{x:bT}{w:By}{todo:List Nat}
inductive Acc (F:List bT) (fin:Nat->Prop):Nat->Nat->By->Prop where
 |done {q:Nat}:fin q->Acc F fin 0 q []
 |eps {n q q':Nat}{x:bT}{w:By}:F[q]? =some x->x.kind=0->q'∈x.to->Acc F fin n q' w->Acc F fin (n+1) q w
 |eat {n q q':Nat}{x:bT}{c:UInt8}{w:By}:F[q]? =some x->x.kind=1->x.set.testBit c.toNat=true->q'∈x.to->Acc F fin n q' w->Acc F fin (n+1) q (c::w)
def kH (F:List bT) (fin:Nat->Prop):Prop:=∀q,fin q->∃x,F[q]? =some x/\x.kind=2
theorem Acc.fork (hf:kH F fin){q:Nat}(hx:F[q]? =some x) (hk:x.kind=0) (h:Acc F fin n q w):∃m q',m<n/\q'∈x.to/\Acc F fin m q' w:=by
 cases h with
 |done hq=>obtain⟨y,hy,hk2⟩:=hf _ hq;rw[hx] at hy;cases hy;omega
 |eps hy _ hq h=>rw[hx] at hy;cases hy;exact⟨_,_,Nat.lt_succ_self _,hq,h⟩
 |eat hy hk1 _ _ _=>rw[hx] at hy;cases hy;omega
theorem Acc.M6 (hf:kH F fin){q:Nat}(hx:F[q]? =some x) (hk:x.kind=1) (h:Acc F fin n q w):∃m q' c w',m<n/\w=c::w'/\x.set.testBit c.toNat=true/\q'∈x.to/\Acc F fin m q' w':=by
 cases h with
 |done hq=>obtain⟨y,hy,hk2⟩:=hf _ hq;rw[hx] at hy;cases hy;omega
 |eps hy hk1 _ _=>rw[hx] at hy;cases hy;omega
 |eat hy _ hc hq h=>rw[hx] at hy;cases hy;exact⟨_,_,_,_,Nat.lt_succ_self _,rfl,hc,hq,h⟩
def Splits (F:List bT) (fin:Nat->Prop) (b to:Nat) (A:By->Prop):Prop :=
 (∀n w,Acc F fin n b w->∃u v m,w=u++v/\A u/\m<=n/\Acc F fin m to v)/\(∀u v m,A u->Acc F fin m to v->∃n,Acc F fin n b (u++v))
def D4 (F ss':List bT) (lo:Nat):Prop:=∀i,lo<=i->i<ss'.length->F[i]? =ss'[i]?
theorem nX:Splits F fin to to (fun w=>w=[]) :=
 ⟨fun n w h=>⟨[],w,n,rfl,rfl,Nat.le_refl _,h⟩,fun u v m hu h=>⟨m,by subst hu;exact h⟩⟩
theorem zu (hf:kH F fin){first again:Nat}{A:By->Prop}(hx:F[again]? =some x) (hk:x.kind=0) (ht:x.to=[first,to]) (h:Splits F fin first again A):Splits F fin again to (wG A):=by
 constructor
 · intro n
   induction n using Nat.strongRecOn with
   |_ n ih =>
    intro w hw;obtain⟨m,q',hm,hq,hw'⟩:=hw.fork hf hx hk;rw[ht] at hq
    rcases List.mem_cons.1 hq with rfl|hq
    · obtain⟨u1,v1,m1,rfl,hu1,hm1,hv1⟩:=h.1 _ _ hw';obtain⟨u2,v2,m2,rfl,hu2,hm2,hv2⟩:=ih m1 (by omega) _ hv1;exact⟨u1++u2,v2,m2,by simp,.cons hu1 hu2,by omega,hv2⟩
    · have:q'=to:=by simpa using hq
      subst this;exact⟨[],w,m,rfl,.nil,by omega,hw'⟩
 · intro u v m hu hv
   induction hu with
   |nil=>exact⟨m+1,.eps hx hk (by rw[ht];simp) hv⟩
   |cons hA _ ih =>
    obtain⟨n,hn⟩:=ih;obtain⟨n',hn'⟩:=h.2 _ _ _ hA hn;exact⟨n'+1,.eps (q':=first) hx hk (by rw[ht];simp) (by rw[List.append_assoc];exact hn')⟩
theorem sD {b c:Nat}{A B:By->Prop}(h1:Splits F fin b c A) (h2:Splits F fin c to B):Splits F fin b to (fun w=>∃u v,w=u++v/\A u/\B v):=by
 constructor
 · intro n w hw;obtain⟨u1,v1,m1,rfl,hu1,hm1,hv1⟩:=h1.1 _ _ hw;obtain⟨u2,v2,m2,rfl,hu2,hm2,hv2⟩:=h2.1 _ _ hv1;exact⟨u1++u2,v2,m2,by simp,⟨_,_,rfl,hu1,hu2⟩,by omega,hv2⟩
 · rintro u v m ⟨u1,u2,rfl,hA,hB⟩ hv;obtain⟨n,hn⟩:=h2.2 _ _ _ hB hv;obtain⟨n',hn'⟩:=h1.2 _ _ _ hA hn;exact⟨n',by rw[List.append_assoc];exact hn'⟩
end
mutual
theorem kT {F:List bT}{fin:Nat->Prop}(hf:kH F fin):∀(x:Nd) (ss:List bT) (to:Nat),D4 F (lay x ss to).1 ss.length->Splits F fin (lay x ss to).2 to (Gy x)
 |.mk k s kids,ss,to,hs=>by
  rw[lay] at hs ⊢;unfold Gy
  by_cases h1:k=1
  · simp only[if_pos h1] at hs ⊢;have hx:F[ss.length]? =some ⟨1,s,[to],0⟩:=by rw[hs _ (Nat.le_refl _) (by simp)];simp
    constructor
    · intro n w hw;obtain⟨m,q',c,w',hm,rfl,hc,hq,hw'⟩:=hw.M6 hf hx rfl;have:q'=to:=by simpa using hq
      subst this;exact⟨[c],w',m,rfl,⟨c,rfl,hc⟩,by omega,hw'⟩
    · rintro u v m ⟨c,rfl,hc⟩ hv;exact⟨m+1,.eat hx rfl hc (by simp) hv⟩
  · simp only[if_neg h1] at hs ⊢
    by_cases h2:k=2
    · simp only[if_pos h2] at hs ⊢;exact nJ hf kids ss to hs
    · simp only[if_neg h2] at hs ⊢
      by_cases h3:k=3
      · simp only[if_pos h3] at hs ⊢;have hl:=fD kids ss to;have hx:F[(bC kids ss to).1.length]? =some ⟨0,0,(bC kids ss to).2,0⟩:=by rw[hs _ (by omega) (by simp)];simp
        have ih:=nK hf kids ss to (fun i h1 h2=>by rw[hs i h1 (by simp;omega),List.getElem?_append_left h2]);constructor
        · intro n w hw;obtain⟨m,q',hm,hq,hw'⟩:=hw.fork hf hx rfl;obtain⟨u,v,m',hu⟩:=ih.1 _ _ _ hq hw';exact⟨u,v,m',hu.1,hu.2.1,by omega,hu.2.2.2⟩
        · intro u v m hu hv;obtain⟨n,q',hq,hn⟩:=ih.2 _ _ _ hu hv;exact⟨n+1,.eps hx rfl hq hn⟩
      · simp only[if_neg h3] at hs ⊢
        by_cases h6:k=6
        · simp only[if_pos h6] at hs ⊢;have hl:=ga kids ss to;have hx:F[(cF kids ss to).1.length]? =some ⟨0,0,[(cF kids ss to).2,to],0⟩:=by rw[hs _ (by omega) (by simp)];simp
          have ih:=nI hf kids ss to (fun i h1 h2=>by rw[hs i h1 (by simp;omega),List.getElem?_append_left h2]);constructor
          · intro n w hw;obtain⟨m,q',hm,hq,hw'⟩:=hw.fork hf hx rfl
            rcases List.mem_cons.1 hq with rfl|hq
            · obtain⟨u,v,m',h1,h2,h3,h4⟩:=ih.1 _ _ hw';exact⟨u,v,m',h1,.inr h2,by omega,h4⟩
            · have:q'=to:=by simpa using hq
              subst this;exact⟨[],w,m,rfl,.inl rfl,by omega,hw'⟩
          · rintro u v m (rfl|hu) hv
            · exact⟨m+1,.eps hx rfl (by simp) hv⟩
            · obtain⟨n,hn⟩:=ih.2 _ _ _ hu hv;exact⟨n+1,.eps hx rfl (by simp) hn⟩
        · simp only[if_neg h6] at hs ⊢
          by_cases h45:k=4\/k=5
          · simp only[if_pos h45] at hs ⊢;have hl:=ga kids (ss++[⟨0,0,[],0⟩]) ss.length;simp only[List.length_append,List.length_singleton] at hl
            have hx:F[ss.length]? =some ⟨0,0,[(cF kids (ss++[⟨0,0,[],0⟩]) ss.length).2,to],0⟩:=by
             rw[hs _ (Nat.le_refl _) (by simp;omega)];simp[List.getElem?_set];omega
            have ih:=nI hf kids (ss++[⟨0,0,[],0⟩]) ss.length (fun i h1 h2=>by
             simp only[List.length_append,List.length_singleton] at h1;rw[hs i (by omega) (by simp;omega),List.getElem?_set_ne (by omega)])
            have hst:=zu hf hx rfl rfl ih
            by_cases h4:k=4
            · have h5:¬k=5:=by omega
              simp only[if_pos h4,if_neg h5];exact hst
            · have h5:k=5:=by omega
              simp only[if_neg h4,if_pos h5];exact sD ih hst
          · simp only[if_neg h45] at hs ⊢;have h4:¬k=4:=fun e=>h45 (.inl e)
            have h5:¬k=5:=fun e=>h45 (.inr e)
            simp only[if_neg h4,if_neg h5];exact nX
theorem nJ {F:List bT}{fin:Nat->Prop}(hf:kH F fin):∀(l:List Nd) (ss:List bT) (to:Nat),D4 F (bL l ss to).1 ss.length->Splits F fin (bL l ss to).2 to (uU l)
 | [],ss,to,hs=>by
  rw[bL];unfold uU;exact nX
 |x::r,ss,to,hs=>by
  rw[bL] at hs ⊢;unfold uU;have hl:=jf r ss to;have hl2:=fR x (bL r ss to).1 (bL r ss to).2;have h2:=nJ hf r ss to (fun i h1 h2=>by rw[hs i h1 (by omega),kU x _ _ i h2]);have h1:=kT hf x (bL r ss to).1 (bL r ss to).2 (fun i h1 h2=>hs i (by omega) h2);exact sD h1 h2
theorem nK {F:List bT}{fin:Nat->Prop}(hf:kH F fin):∀(l:List Nd) (ss:List bT) (to:Nat),D4 F (bC l ss to).1 ss.length ->
 (∀n q w,q∈(bC l ss to).2->Acc F fin n q w->∃u v m,w=u++v/\qJ l u/\m<=n/\Acc F fin m to v)/\(∀u v m,qJ l u->Acc F fin m to v->∃n q,q∈(bC l ss to).2/\Acc F fin n q (u++v))
 | [],ss,to,hs=>by
  rw[bC];unfold qJ;exact⟨fun n q w h=>absurd h List.not_mem_nil,fun u v m h=>False.elim h⟩
 |x::r,ss,to,hs=>by
  rw[bC] at hs ⊢;unfold qJ;have hl:=fR x ss to;have hl2:=fD r (lay x ss to).1 to;have h1:=kT hf x ss to (fun i h1 h2=>by rw[hs i h1 (by simp only;omega)];exact ou r _ _ i h2);have h2:=nK hf r (lay x ss to).1 to (fun i h1 h2=>hs i (by omega) h2);constructor
  · intro n q w hq hw
    rcases List.mem_cons.1 hq with rfl|hq
    · obtain⟨u,v,m,a,b,c,d⟩:=h1.1 _ _ hw;exact⟨u,v,m,a,.inl b,c,d⟩
    · obtain⟨u,v,m,a,b,c,d⟩:=h2.1 _ _ _ hq hw;exact⟨u,v,m,a,.inr b,c,d⟩
  · rintro u v m (hu|hu) hv
    · obtain⟨n,hn⟩:=h1.2 _ _ _ hu hv;exact⟨n,_,List.mem_cons_self,hn⟩
    · obtain⟨n,q,hq,hn⟩:=h2.2 _ _ _ hu hv;exact⟨n,q,List.mem_cons_of_mem _ hq,hn⟩
theorem nI {F:List bT}{fin:Nat->Prop}(hf:kH F fin):∀(l:List Nd) (ss:List bT) (to:Nat),D4 F (cF l ss to).1 ss.length->Splits F fin (cF l ss to).2 to (oG l)
 | [],ss,to,hs=>by
  rw[cF];unfold oG;exact nX
 |x::r,ss,to,hs=>by
  rw[cF] at hs ⊢;unfold oG;exact kT hf x ss to hs
end
section
variable {F ss:List bT}{fin:Nat->Prop}{n to i st:Nat}{x:bT}{w:By}{todo:List Nat}
inductive Gu (ss:List bT):Nat->Nat->Prop where
 |refl (i:Nat):Gu ss i i
 |step {i j k:Nat}{x:bT}:ss[i]? =some x->x.kind=0->j∈x.to->Gu ss j k->Gu ss i k
theorem Gu.snoc {j k:Nat}(h:Gu ss i j) (hx:ss[j]? =some x) (hk:x.kind=0) (ht:k∈x.to):Gu ss i k:=by
 induction h with
 |refl=>exact .step hx hk ht (.refl _)
 |step a b c _ ih=>exact .step a b c (ih hx)
structure Gv (ss:List bT) (T todo:List Nat) (seen:List Bool):Prop where
 len:seen.length=ss.length
 inn:∀j∈todo,j<ss.length
 sound:∀i,(seen[i]? =some true\/i∈todo)->∃t∈T,Gu ss t i
 cl:∀(i:Nat) (x:bT),seen[i]? =some true->ss[i]? =some x->x.kind=0->∀j∈x.to,seen[j]? =some true\/j∈todo
 all:∀t∈T,seen[t]? =some true\/t∈todo
theorem BC {l:List Nat}(h:l.getLast? =some i):l=l.dropLast++[i]:=by
 obtain⟨h0,rfl⟩:=List.getLast?_eq_some_iff.1 h;simp
theorem qz {ss:List bT}{T:List Nat}(hg:Good ss):∀(n:Nat) (todo:List Nat) (seen:List Bool),todo.length+qT ss seen<=n->Gv ss T todo seen->Gv ss T [] (iC ss n todo seen)
 | 0,todo,seen,hn,k=>by
  have:todo=[]:=List.length_eq_zero_iff.1 (by omega);subst this;exact k
 |n+1,todo,seen,hn,k=>by
  unfold iC;split
  · rename_i h;have:todo=[]:=List.getLast?_eq_none_iff.1 h;subst this;exact k
  · rename_i i h;have hsp:=BC h;have hlen:todo.length=todo.dropLast.length+1:=by rw[hsp];simp
    have hi:i∈todo:=by rw[hsp];simp
    have hmem:∀j,j∈todo->j∈todo.dropLast\/j=i:=fun j hj=>by rw[hsp] at hj;simpa using hj
    have hsub:∀j,j∈todo.dropLast->j∈todo:=fun j hj=>by rw[hsp];simp[hj]
    split
    · rename_i hs;refine qz hg n _ _ (by omega) ⟨k.len,fun j hj=>k.inn j (hsub j hj),fun j hj=>k.sound j (hj.imp id (hsub j)),fun j x a b c d e=>?_,fun t ht=>?_⟩
      · rcases k.cl j x a b c d e with h1|h1
        · exact .inl h1
        · rcases hmem d h1 with h2|rfl
          · exact .inr h2
          · exact .inl hs
      · rcases k.all t ht with h1|h1
        · exact .inl h1
        · rcases hmem t h1 with h2|rfl
          · exact .inr h2
          · exact .inl hs
    · rename_i hs;have hil:=k.inn i hi;obtain⟨x,hx⟩:∃x,ss[i]? =some x:=⟨_,List.getElem?_eq_getElem hil⟩
      have hf:seen[i]? =some false:=by
       obtain⟨b,hb⟩:∃b,seen[i]? =some b:=⟨_,List.getElem?_eq_getElem (by rw[k.len];exact hil)⟩
       cases b
       · exact hb
       · exact absurd hb hs
      have hp:=xq ss seen i x hx hf;have hself:(seen.set i true)[i]? =some true:=by rw[List.getElem?_set_self (by rw[k.len];exact hil)]
      have hset:∀j,seen[j]? =some true->(seen.set i true)[j]? =some true:=fun j hj=>by
       by_cases e:i=j
       · subst e;exact hself
       · rw[List.getElem?_set_ne e];exact hj
      have hget:∀j,(seen.set i true)[j]? =some true->j=i\/seen[j]? =some true:=fun j hj=>by
       by_cases e:i=j
       · exact .inl e.symm
       · rw[List.getElem?_set_ne e] at hj;exact .inr hj
      rw[hx];simp only;obtain⟨t0,JO,he0⟩:=k.sound i (.inr hi);have hxm:x∈ss:=List.mem_of_getElem? hx;generalize hnew:(if x.kind=0 then todo.dropLast++x.to else todo.dropLast)=new
      have hin:∀j,j∈new->j∈todo.dropLast\/(x.kind=0/\j∈x.to):=fun j hj=>by
       subst hnew;split at hj
       · rename_i hk
         rcases List.mem_append.1 hj with h1|h1
         · exact .inl h1
         · exact .inr ⟨hk,h1⟩
       · exact .inl hj
      have hold:∀j,j∈todo.dropLast->j∈new:=fun j hj=>by
       subst hnew;split
       · exact List.mem_append_left _ hj
       · exact hj
      have hbig:new.length<=todo.dropLast.length+x.to.length:=by
       subst hnew;split<;>simp
      refine qz hg n _ _ (by omega) ⟨by rw[List.length_set];exact k.len,fun j hj=>?_,fun j hj=>?_,fun j y a b c d e=>?_,fun t ht=>?_⟩
      · rcases hin j hj with h1|⟨_,h1⟩
        · exact k.inn j (hsub j h1)
        · exact hg x hxm j h1
      · rcases hj with h1|h1
        · rcases hget j h1 with rfl|h2
          · exact⟨t0,JO,he0⟩
          · exact k.sound j (.inl h2)
        · rcases hin j h1 with h2|⟨hk,h2⟩
          · exact k.sound j (.inr (hsub j h2))
          · exact⟨t0,JO,he0.snoc hx hk h2⟩
      · rcases hget j a with rfl|a
        · rw[hx] at b;cases b;refine .inr ?_;rw[if_pos c] at hnew;subst hnew;exact List.mem_append_right _ e
        · rcases k.cl j y a b c d e with h1|h1
          · exact .inl (hset d h1)
          · rcases hmem d h1 with h2|rfl
            · exact .inr (hold d h2)
            · exact .inl hself
      · rcases k.all t ht with h1|h1
        · exact .inl (hset t h1)
        · rcases hmem t h1 with h2|rfl
          · exact .inr (hold t h2)
          · exact .inl hself
theorem oD (hg:Good ss) (ht:∀j∈todo,j<ss.length) (j:Nat):j∈closed ss todo↔∃x,ss[j]? =some x/\x.kind≠0/\∃t∈todo,Gu ss t j:=by
 unfold closed;split
 · rename_i h;have:todo=[]:=List.length_eq_zero_iff.1 h;subst this;simp
 · have h0:∀i:Nat,(List.replicate ss.length false)[i]? ≠some true:=fun i hi=>by rw[List.getElem?_replicate] at hi;split at hi<;>cases hi
   have hi0:Gv ss todo todo (List.replicate ss.length false):=⟨by simp,ht,fun i hi=>hi.elim (fun hi=>absurd hi (h0 i)) fun hi=>⟨i,hi,.refl i⟩,fun i x hi=>absurd hi (h0 i),fun t h=>.inr h⟩
   have hi:=qz hg (todo.length+qT ss (List.replicate ss.length false)) todo _ (Nat.le_refl _) hi0;generalize iC ss (todo.length+qT ss (List.replicate ss.length false)) todo (List.replicate ss.length false)=out at hi;simp only[List.mem_filter,List.mem_range,Bool.and_eq_true,bne_iff_ne,ne_eq];constructor
   · rintro⟨hj,h1,h2⟩;obtain⟨x,hx⟩:∃x,ss[j]? =some x:=⟨_,List.getElem?_eq_getElem hj⟩
     rw[hx] at h2;have h1:out[j]? =some true:=by simpa using h1
     exact⟨x,hx,by simpa using h2,hi.sound j (.inl h1)⟩
   · rintro⟨x,hx,hk,t,ht',he⟩
     have key:∀a b,Gu ss a b->out[a]? =some true->out[b]? =some true:=by
      intro a b he
      induction he with
      |refl=>exact id
      |step hy hk hm _ ih =>
       intro ha;refine ih ?_
       rcases hi.cl _ _ ha hy hk _ hm with h1|h1
       · exact h1
       · cases h1
     have h1:=key _ _ he (by
      rcases hi.all t ht' with h1|h1
      · exact h1
      · cases h1)
     refine⟨(List.getElem?_eq_some_iff.1 hx).1,by rw[h1];rfl,by rw[hx];simpa using hk⟩
theorem Acc.through {j:Nat}(h:Gu ss i j) (k:Acc ss fin n j w):∃m,Acc ss fin m i w:=by
 induction h with
 |refl=>exact⟨n,k⟩
 |step a b c _ ih=>obtain⟨m,hm⟩:=ih k;exact⟨m+1,.eps a b c hm⟩
theorem Acc.stop (hf:kH ss fin) (k:Acc ss fin n i w):∃j x,Gu ss i j/\ss[j]? =some x/\x.kind≠0/\∃m,Acc ss fin m j w:=by
 induction k with
 |done hq=>obtain⟨x,hx,hk⟩:=hf _ hq;exact⟨_,x,.refl _,hx,by omega,_,.done hq⟩
 |eps a b c _ ih=>obtain⟨j,x,he,hr⟩:=ih;exact⟨j,x,.step a b c he,hr⟩
 |eat a b c d e _=>exact⟨_,_,.refl _,a,by omega,_,.eat a b c d e⟩
def vH (ss:List bT) (fin:Nat->Prop) (T:List Nat) (w:By):Prop:=∃j∈T,∃n,Acc ss fin n j w
theorem uu (hf:kH ss fin) (hg:Good ss) (ht:∀j∈todo,j<ss.length) (w:By):vH ss fin (closed ss todo) w↔vH ss fin todo w:=by
 constructor
 · rintro⟨j,hj,n,h⟩;obtain⟨x,hx,hk,t,ht',he⟩:=(oD hg ht j).1 hj;exact⟨t,ht',h.through he⟩
 · rintro⟨t,ht',n,h⟩;obtain⟨j,x,he,hx,hk,hm⟩:=h.stop hf;exact⟨j,(oD hg ht j).2 ⟨x,hx,hk,t,ht',he⟩,hm⟩
theorem mV (ss:List bT) (c:UInt8) (k:Nat):∀(l a:List Nat),k∈stepG ss c l a↔k∈a\/∃j∈l,∃x,ss[j]? =some x/\iU x c=true/\k∈x.to
 | [],a=>by simp[stepG]
 |j::r,a=>by
  rw[stepG,mV ss c k r];cases hx:ss[j]? with
  |none=>simp[hx]
  |some x =>
   simp only;cases ho:iU x c with
   |true=>simp[hx,ho,or_assoc]
   |false=>simp[hx,ho]
def Flat (ss:List bT) (T:List Nat):Prop:=∀j∈T,∃x,ss[j]? =some x/\x.kind≠0
theorem mF (hg:Good ss) (ht:∀j∈todo,j<ss.length):Flat ss (closed ss todo):=fun j hj=>by
 obtain⟨x,hx,hk,_⟩:=(oD hg ht j).1 hj;exact⟨x,hx,hk⟩
theorem zo (hg:Good ss) (c:UInt8) (T:List Nat):∀j∈stepG ss c T [],j<ss.length:=fun j hj=>by
 rcases (mV ss c j T []).1 hj with h|⟨i,_,x,hx,_,hm⟩
 · cases h
 · exact hg x (List.mem_of_getElem? hx) j hm
theorem sC (hg:Good ss) (c:UInt8) (T:List Nat):Flat ss (cT ss c T):=by
 unfold cT;split
 · intro j hj;cases hj
 · exact mF hg (zo hg c T)
theorem C4 (hf:kH ss fin) (hg:Good ss){T:List Nat}(hT:Flat ss T) (c:UInt8) (w:By):vH ss fin (cT ss c T) w↔vH ss fin T (c::w):=by
 unfold cT;split
 · rename_i h0;constructor
   · rintro⟨j,hj,_⟩;cases hj
   · rintro⟨j,hj,_⟩;obtain⟨x,hx,_⟩:=hT j hj;have:=(List.getElem?_eq_some_iff.1 hx).1;omega
 · rw[uu hf hg (zo hg c T)];constructor
   · rintro⟨k,hk,n,h⟩
     rcases (mV ss c k T []).1 hk with h1|⟨j,hj,x,hx,ho,hm⟩
     · cases h1
     · simp only[iU,Bool.and_eq_true,decide_eq_true_eq] at ho;exact⟨j,hj,n+1,.eat hx ho.1 ho.2 hm h⟩
   · rintro⟨j,hj,n,h⟩;obtain⟨x,hx,hk⟩:=hT j hj;cases h with
     |eps hy hk0 _ _=>rw[hx] at hy;cases hy;exact absurd hk0 hk
     |eat hy hk1 hc hm h=>exact⟨_,(mV ss c _ T []).2 (.inr ⟨j,hj,_,hy,by simp[iU,hk1,hc],hm⟩),_,h⟩
def lO (ss:List bT) (r:Nat) (q:Nat):Prop:=∃x,ss[q]? =some x/\x.kind=2/\x.rule=r
theorem si (ss:List bT) (r:Nat):kH ss (lO ss r):=fun _ ⟨x,hx,hk,_⟩=>⟨x,hx,hk⟩
theorem Gn {r:Nat}{T:List Nat}(hT:Flat ss T):vH ss (lO ss r) T []↔∃j∈T,lO ss r j:=by
 constructor
 · rintro⟨j,hj,n,h⟩;obtain⟨x,hx,hk⟩:=hT j hj;cases h with
   |done hq=>exact⟨j,hj,hq⟩
   |eps hy hk0 _ _=>rw[hx] at hy;cases hy;exact absurd hk0 hk
 · rintro⟨j,hj,hq⟩;exact⟨j,hj,0,.done hq⟩
def mS (p:Nat->Prop) (r:Int):Prop:=(r= -1/\∀i,¬p i)\/∃n:Nat,r=n/\p n/\∀i,p i->n<=i
theorem uP (ss:List bT):∀(l:List Nat) (b:Int) (p:Nat->Prop),mS p b->mS (fun r=>p r\/∃j∈l,lO ss r j) (pY ss l b)
 | [],b,p,h=>by
  rw[pY]
  rcases h with ⟨rfl,h1⟩|⟨n,rfl,h1,h2⟩
  · exact .inl ⟨rfl,fun i h=>by rcases h with h|⟨_,h,_⟩;exact h1 i h;cases h⟩
  · exact .inr ⟨n,rfl,.inl h1,fun i h=>by rcases h with h|⟨_,h,_⟩;exact h2 i h;cases h⟩
 |j::l,b,p,h=>by
  rw[pY]
  have key:∀b',mS (fun r=>p r\/lO ss r j) b'->mS (fun r=>p r\/∃k∈j::l,lO ss r k) (pY ss l b'):=fun b' hb'=>by
   have:=uP ss l b' _ hb'
   have e:(fun r=>(p r\/lO ss r j)\/∃k∈l,lO ss r k)=(fun r=>p r\/∃k∈j::l,lO ss r k):=by
    funext r;simp[or_assoc]
   rwa [e] at this
  have no:(∀r,¬lO ss r j)->mS (fun r=>p r\/lO ss r j) b:=fun hno=>by
   have e:(fun r=>p r\/lO ss r j)=p:=by funext r;simp[hno r]
   rw[e];exact h
  cases hx:ss[j]? with
  |none=>exact key b (no fun r ⟨x,hx',_⟩=>by rw[hx] at hx';cases hx')
  |some x =>
   simp only
   by_cases hk:x.kind=2
   · have hfin:∀r,lO ss r j↔x.rule=r:=fun r=>⟨fun⟨y,hy,_,hr⟩=>by rw[hx] at hy;cases hy;exact hr,fun hr=>⟨x,hx,hk,hr⟩⟩
     by_cases hb:pX x b=true
     · rw[if_pos hb];refine key _ (.inr ⟨x.rule,rfl,.inr ((hfin _).2 rfl),fun i hi=>?_⟩);simp only[pX,decide_eq_true_eq] at hb
       rcases hi with hi|hi
       · rcases h with ⟨rfl,h1⟩|⟨n,rfl,h1,h2⟩
         · exact absurd hi (h1 i)
         · have:=h2 i hi;omega
       · rw[(hfin i).1 hi];exact Nat.le_refl _
     · rw[if_neg hb];refine key _ ?_;simp only[pX,decide_eq_true_eq] at hb
       rcases h with ⟨rfl,h1⟩|⟨n,rfl,h1,h2⟩
       · exact absurd ⟨hk,.inl (by decide)⟩ hb
       · refine .inr ⟨n,rfl,.inl h1,fun i hi=>?_⟩
         rcases hi with hi|hi
         · exact h2 i hi
         · have:=(hfin i).1 hi;omega
   · rw[if_neg (by simp[pX,hk])];exact key b (no fun r ⟨y,hy,hk2,_⟩=>by rw[hx] at hy;cases hy;exact hk hk2)
def jJ (ss:List bT) (st:Nat) (w:By):List Nat:=w.foldl (fun T c=>cT ss c T) (cL ss st)
theorem Db (hg:Good ss) (hst:st<ss.length) (w:By):Flat ss (jJ ss st w):=by
 have h0:Flat ss (cL ss st):=by
  unfold cL;split
  · intro j hj;cases hj
  · exact mF hg (fun j hj=>by simp at hj;omega)
 unfold jJ;generalize cL ss st=T at h0
 induction w generalizing T with
 |nil=>exact h0
 |cons c w ih=>exact ih _ (sC hg c T)
theorem EK (hf:kH ss fin) (hg:Good ss) (hst:st<ss.length) (w v:By):vH ss fin (jJ ss st w) v↔∃n,Acc ss fin n st (w++v):=by
 have h0:Flat ss (cL ss st)/\∀v,vH ss fin (cL ss st) v↔∃n,Acc ss fin n st v:=by
  unfold cL;rw[if_neg (by omega)];have ht:∀j∈[st],j<ss.length:=fun j hj=>by simp at hj;omega
  refine⟨mF hg ht,fun v=>?_⟩;rw[uu hf hg ht];simp[vH]
 unfold jJ
 have key:∀(w:By) (T:List Nat),Flat ss T->(vH ss fin (w.foldl (fun T c=>cT ss c T) T) v↔vH ss fin T (w++v)):=by
  intro w
  induction w with
  |nil=>intro T _;rfl
  |cons c w ih =>
   intro T hT;rw[List.foldl_cons,ih _ (sC hg c T),C4 hf hg hT];rfl
 rw[key w _ h0.1,h0.2]
theorem vF (hg:Good ss) (hst:st<ss.length) (w:By):mS (fun r=>∃n,Acc ss (lO ss r) n st w) (bG ss (jJ ss st w)):=by
 unfold bG;rw[if_neg (by omega)];have h:=uP ss (jJ ss st w) (-1) (fun _=>False) (.inl ⟨rfl,fun _ h=>h⟩)
 have e:(fun r=>False\/∃j∈jJ ss st w,lO ss r j)=(fun r=>∃n,Acc ss (lO ss r) n st w):=by
  funext r
  have:=EK (si ss r) hg hst w [];rw[Gn (Db hg hst w),List.append_nil] at this;simpa using this
 rw[e] at h;exact h
def fy (ss:List bT):Nat:=(ss.map fun x=>x.to.length+1).sum
theorem gp (a b:List bT):fy (a++b)=fy a+fy b:=by simp[fy]
theorem ze:∀(ss:List bT) (i:Nat) (y x:bT),ss[i]? =some y->fy (ss.set i x)+y.to.length=fy ss+x.to.length
 | [],i,y,x,h=>by simp at h
 |z::r,0,y,x,h=>by simp at h;subst h;simp[fy];omega
 |z::r,i+1,y,x,h=>by have:=ze r i y x (by simpa using h);simp[fy] at *;omega
theorem ER:∀(ss:List bT) (seen:List Bool),qT ss seen<=fy ss
 | [],_=>by simp[qT]
 |x::r,[]=>by simp[qT]
 |x::r,b::s=>by
  have:=ER r s;simp only[qT,fy,List.map_cons,List.sum_cons] at *;split<;>omega
end
mutual
theorem se:∀(x:Nd) (ss:List bT) (to:Nat),fy (lay x ss to).1+1<=fy ss+4*nj x
 |.mk k s kids,ss,to=>by
  rw[lay];simp only[nj];split
  · rw[gp];simp[fy];omega
  · split
    · have:=tF kids ss to;omega
    · split
      · have:=tH kids ss to;have hl:=mj kids ss to;simp only[gp];simp[fy] at *;omega
      · split
        · have:=tE kids ss to;simp only[gp];simp[fy] at *;omega
        · split
          · have:=tE kids (ss++[⟨0,0,[],0⟩]) ss.length;have h2:=ze (cF kids (ss++[⟨0,0,[],0⟩]) ss.length).1 ss.length ⟨0,0,[],0⟩ ⟨0,0,[(cF kids (ss++[⟨0,0,[],0⟩]) ss.length).2,to],0⟩ (by rw[ot kids _ _ _ (by simp)];simp);rw[gp] at this;simp[fy] at *;omega
          · simp;omega
theorem tF:∀(l:List Nd) (ss:List bT) (to:Nat),fy (bL l ss to).1<=fy ss+4*gv l
 | [],ss,to=>by simp[bL]
 |x::r,ss,to=>by
  rw[bL];have h1:=tF r ss to;have h2:=se x (bL r ss to).1 (bL r ss to).2;simp only[gv];omega
theorem tH:∀(l:List Nd) (ss:List bT) (to:Nat),fy (bC l ss to).1+l.length<=fy ss+4*gv l
 | [],ss,to=>by simp[bC]
 |x::r,ss,to=>by
  rw[bC];have h1:=se x ss to;have h2:=tH r (lay x ss to).1 to;simp only[gv,List.length_cons];omega
theorem tE:∀(l:List Nd) (ss:List bT) (to:Nat),fy (cF l ss to).1<=fy ss+4*gv l
 | [],ss,to=>by simp[cF]
 |x::r,ss,to=>by
  rw[cF];have h1:=se x ss to;simp only[gv];omega
end
section
variable {F ss:List bT}{fin:Nat->Prop}{n to i st:Nat}{x:bT}{w:By}{todo:List Nat}
theorem Good.append {a b:List bT}(ha:Good a) (hb:∀x∈b,∀j∈x.to,j<(a++b).length):Good (a++b):=fun x hx j hj=>by
 rcases List.mem_append.1 hx with h|h
 · have:=ha x h j hj;simp;omega
 · exact hb x h j hj
theorem Good.set {a:List bT}(ha:Good a){i:Nat}{y:bT}(hy:∀j∈y.to,j<a.length):Good (a.set i y):=fun x hx j hj=>by
 rw[List.length_set]
 rcases List.mem_or_eq_of_mem_set hx with h|rfl
 · exact ha x h j hj
 · exact hy j hj
end
mutual
theorem pE:∀(x:Nd) (ss:List bT) (to:Nat),Good ss->to<ss.length->Good (lay x ss to).1/\(lay x ss to).2<(lay x ss to).1.length
 |.mk k s kids,ss,to,hg,ht=>by
  rw[lay];split
  · exact⟨hg.append (by intro x hx j hj;simp at hx;subst hx;simp at hj;subst hj;simp;omega),by simp⟩
  · split
    · exact qX kids ss to hg ht
    · split
      · have h:=rf kids ss to hg ht;exact⟨h.1.append (by intro x hx j hj;simp at hx;subst hx;have:=h.2 j hj;simp;omega),by simp⟩
      · split
        · have h:=qW kids ss to hg ht;have hl:=ga kids ss to;exact⟨h.1.append (by intro x hx j hj;simp at hx;subst hx;simp at hj;simp;rcases hj with rfl|rfl<;>omega),by simp⟩
        · split
          · have h:=qW kids (ss++[⟨0,0,[],0⟩]) ss.length (hg.append (by intro x hx j hj;simp at hx;subst hx;cases hj)) (by simp);have hl:=ga kids (ss++[⟨0,0,[],0⟩]) ss.length;simp only[List.length_append,List.length_singleton] at hl;refine⟨h.1.set (by intro j hj;simp at hj;rcases hj with rfl|rfl;exact h.2;omega),?_⟩;simp only[List.length_set];split
            · exact h.2
            · omega
          · exact⟨hg,ht⟩
theorem qX:∀(l:List Nd) (ss:List bT) (to:Nat),Good ss->to<ss.length->Good (bL l ss to).1/\(bL l ss to).2<(bL l ss to).1.length
 | [],ss,to,hg,ht=>by rw[bL];exact⟨hg,ht⟩
 |x::r,ss,to,hg,ht=>by
  rw[bL];have h1:=qX r ss to hg ht;exact pE x _ _ h1.1 h1.2
theorem rf:∀(l:List Nd) (ss:List bT) (to:Nat),Good ss->to<ss.length->Good (bC l ss to).1/\∀j∈(bC l ss to).2,j<(bC l ss to).1.length
 | [],ss,to,hg,ht=>by rw[bC];exact⟨hg,fun j hj=>by cases hj⟩
 |x::r,ss,to,hg,ht=>by
  rw[bC];have h1:=pE x ss to hg ht;have hl:=fR x ss to;have h2:=rf r (lay x ss to).1 to h1.1 (by omega);have hl2:=fD r (lay x ss to).1 to;refine⟨h2.1,fun j hj=>?_⟩
  rcases List.mem_cons.1 hj with rfl|hj
  · simp only;omega
  · exact h2.2 j hj
theorem qW:∀(l:List Nd) (ss:List bT) (to:Nat),Good ss->to<ss.length->Good (cF l ss to).1/\(cF l ss to).2<(cF l ss to).1.length
 | [],ss,to,hg,ht=>by rw[cF];exact⟨hg,ht⟩
 |x::r,ss,to,hg,ht=>by rw[cF];exact pE x ss to hg ht
end
section
variable {F ss:List bT}{fin:Nat->Prop}{n to i st:Nat}{x:bT}{w:By}{todo:List Nat}
structure LH (i:Nat) (rules:List By) (ss:List bT) (t:List Nat) (ss':List bT) (t':List Nat):Prop where
 pre:∀j,j<ss.length->ss'[j]? =ss[j]?
 len:ss.length<=ss'.length/\ss'.length<=ss.length+402*rules.length
 tot:fy ss'<=fy ss+1605*rules.length
 good:Good ss->(∀j∈t,j<ss.length)->Good ss'/\∀j∈t',j<ss'.length
 starts:∃t2,t'=t++t2/\t2.length=rules.length/\∀k s,rules[k]? =some s->(cj s).2=0/\∃a b,t2[k]? =some b/\ss.length<=a/\ss'[a]? =some ⟨2,0,[],i+k⟩/\∀F fin,D4 F ss' ss.length->kH F fin->Splits F fin b a (Gy (cj s).1)
theorem tj:∀(rules:List By) (i:Nat) (ss:List bT) (t:List Nat) (ss':List bT) (t':List Nat),ku i rules ss t= .inr (ss',t')->LH i rules ss t ss' t'
 | [],i,ss,t,ss',t',h=>by
  rw[ku] at h;cases h;exact⟨fun _ _=>rfl,by simp,by simp,fun a b=>⟨a,b⟩,[],by simp,rfl,fun k s h=>by simp at h⟩
 |s::r,i,ss,t,ss',t',h=>by
  rw[ku] at h;split at h
  · cases h
  · rename_i he;have he:(cj s).2=0:=by simpa using he
    have hsm:=oY he;have ih:=tj r _ _ _ _ _ h;have hpre:=kU (cj s).1 (ss++[⟨2,0,[],i⟩]) ss.length;have hlen:=fR (cj s).1 (ss++[⟨2,0,[],i⟩]) ss.length;have htot:=se (cj s).1 (ss++[⟨2,0,[],i⟩]) ss.length;simp only[List.length_append,List.length_singleton,gp] at hpre hlen htot;have hL:fy [(⟨2,0,[],i⟩:bT)]=1:=by simp[fy]
    generalize hly:lay (cj s).1 (ss++[⟨2,0,[],i⟩]) ss.length=ly at *;obtain⟨t2,tO,htl,hst⟩:=ih.starts;refine⟨fun j hj=>?_,⟨?_,?_⟩,?_,fun hg ht=>?_,ly.2::t2,by simp[tO],by simp[htl],fun k s' hk=>?_⟩
    · rw[ih.pre j (by omega),hpre j (by omega),List.getElem?_append_left hj]
    · have:=ih.len.1;omega
    · have:=ih.len.2;simp only[List.length_cons];omega
    · have:=ih.tot;simp only[List.length_cons];omega
    · have hgl:=pE (cj s).1 (ss++[⟨2,0,[],i⟩]) ss.length (hg.append (by intro x hx j hj;simp at hx;subst hx;cases hj)) (by simp);rw[hly] at hgl
      exact ih.good hgl.1 (fun j hj=>by
       rcases List.mem_append.1 hj with h1|h1
       · have:=ht j h1;omega
       · have:j=ly.2:=by simpa using h1
         rw[this];exact hgl.2)
    · cases k with
      |zero =>
       simp at hk;subst hk;refine⟨he,ss.length,ly.2,rfl,Nat.le_refl _,?_,fun F fin hS hF=>?_⟩
       · rw[ih.pre _ (by omega),hpre _ (by omega)];simp
       · have:=kT hF (cj s).1 (ss++[⟨2,0,[],i⟩]) ss.length (fun j h1 h2=>by
          rw[hly] at h2 ⊢;simp only[List.length_append,List.length_singleton] at h1;rw[hS j (by omega) (by have:=ih.len.1;omega)];exact ih.pre j h2)
         rwa [hly] at this
      |succ k =>
       obtain⟨h0,a,b,hb,hla,ha,hsp⟩:=hst k s' (by simpa using hk);exact⟨h0,a,b,by simpa using hb,by omega,by rw[ha];simp;omega,fun F fin hS hF=>hsp F fin (fun j h1 h2=>hS j (by omega) h2) hF⟩
structure Made (rules:List By) (ss:List bT) (st:Nat):Prop where
 good:Good ss
 stl:st<ss.length
 len:ss.length<=30000
 tot:fy ss<=110000
 num:rules.length<=64
 lng:∀r w,(∃n,Acc ss (lO ss r) n st w)↔∃s,rules[r]? =some s/\Gy (cj s).1 w
theorem fY {rules:List By}(h:fj rules= .inr (ss,st)):Made rules ss st:=by
 unfold fj at h;split at h
 · cases h
 · rename_i hn;split at h
   · cases h
   · rename_i ss0 t hm;split at h
     · cases h
     · cases h;have k:=tj _ _ _ _ _ _ hm;obtain⟨t2,tO,htl,hst⟩:=k.starts;have ht:t=t2:=by simpa using tO
       subst ht;have hl:=k.len.2;have htot:=k.tot;have hgd:=k.good (by intro x hx;cases hx) (by intro j hj;cases hj);simp only[List.length_nil] at hl;have h0:fy ([]:List bT)=0:=rfl;have hF:(ss0++[⟨0,0,t,0⟩])[ss0.length]? =some ⟨0,0,t,0⟩:=by simp
       have hS:D4 (ss0++[⟨0,0,t,0⟩]) ss0 ([]:List bT).length:=fun i _ h2=>List.getElem?_append_left h2
       refine⟨hgd.1.append (by intro x hx j hj;simp at hx;subst hx;have:=hgd.2 j hj;simp;omega),by simp,by simp;omega,?_,by omega,fun r w=>?_⟩
       · have hq:fy [(⟨0,0,t,0⟩:bT)]=t.length+1:=by simp[fy]
         rw[gp,hq];omega
       · constructor
         · rintro⟨n,hw⟩;obtain⟨m,q',_,hq,hw'⟩:=hw.fork (si _ r) hF rfl;obtain⟨k',hk'⟩:=List.getElem?_of_mem hq;have hkl:k'<t.length:=(List.getElem?_eq_some_iff.1 hk').1;obtain⟨s,hs⟩:∃s,rules[k']? =some s:=⟨_,List.getElem?_eq_getElem (by omega)⟩
           obtain⟨_,a,b,hb,_,ha,hsp⟩:=hst k' s hs;rw[hk'] at hb;cases hb;obtain⟨u,v,m',rfl,hu,_,hv⟩:=(hsp _ _ hS (si _ r)).1 _ _ hw';have ha':(ss0++[(⟨0,0,t,0⟩:bT)])[a]? =some ⟨2,0,[],0+k'⟩:=by rw[hS a (Nat.zero_le _) (List.getElem?_eq_some_iff.1 ha).1,ha]
           cases hv with
           |done hfin =>
            obtain⟨x,hx,_,hr⟩:=hfin;rw[ha'] at hx;cases hx;simp only[Nat.zero_add] at hr;subst hr;exact⟨s,hs,by rw[List.append_nil];exact hu⟩
           |eps hx hk _ _=>rw[ha'] at hx;cases hx;cases hk
           |eat hx hk _ _ _=>rw[ha'] at hx;cases hx;cases hk
         · rintro⟨s,hs,hw⟩;obtain⟨_,a,b,hb,_,ha,hsp⟩:=hst r s hs;have ha':(ss0++[(⟨0,0,t,0⟩:bT)])[a]? =some ⟨2,0,[],0+r⟩:=by rw[hS a (Nat.zero_le _) (List.getElem?_eq_some_iff.1 ha).1,ha]
           obtain⟨n,hn⟩:=(hsp _ _ hS (si _ r)).2 w [] 0 hw (.done ⟨_,ha',rfl,by simp⟩);rw[List.append_nil] at hn;exact⟨n+1,.eps (q':=b) hF rfl (show b∈t from List.mem_of_getElem? hb) hn⟩
theorem wS {f:Nat->Nat}:∀{a b:List Nat},a.Sublist b->(a.map f).sum<=(b.map f).sum
 |_,_,.slnil=>by simp
 |_,_,.cons _ h=>by have:=wS (f:=f) h;simp;omega
 |_,_,.cons_cons _ h=>by have:=wS (f:=f) h;simp;omega
theorem Cu:∀ss:List bT,(ss.map fun x=>x.to.length).sum<=fy ss
 | []=>by simp[fy]
 |x::r=>by have:=Cu r;simp[fy] at *;omega
theorem Df (ss:List bT):((List.range ss.length).map fun i=>match ss[i]? with|some x=>x.to.length|none=>0).sum<=fy ss:=by
 have:((List.range ss.length).map fun i=>match ss[i]? with|some x=>x.to.length|none=>0)=ss.map fun x=>x.to.length:=by
  apply List.ext_getElem
  · simp
  · intro i h1 h2;simp at h2;simp[h2]
 rw[this];exact Cu ss
theorem vM (ss:List bT) (c:UInt8):∀(l a:List Nat),(stepG ss c l a).length<=a.length+(l.map fun i=>match ss[i]? with|some x=>x.to.length|none=>0).sum
 | [],a=>by simp[stepG]
 |j::r,a=>by
  rw[stepG];refine Nat.le_trans (vM ss c r _) ?_;simp only[List.map_cons,List.sum_cons];cases ss[j]? with
  |none=>simp
  |some x=>simp only;split<;>simp<;>omega
theorem C5 (c:UInt8){now:List Nat}(h:now.Sublist (List.range ss.length)):(stepG ss c now []).length<=fy ss:=by
 have h1:=vM ss c now [];have h2:=wS (f:=fun i=>match ss[i]? with|some x=>x.to.length|none=>0) h;have h3:=Df ss;simp only[List.length_nil] at h1;omega
def IsMatch (P:Nat->Nat->Prop) (n:Nat) (o:Int×Int):Prop :=
 (o=(0,-1)/\∀k r,k<=n->¬P k r)\/∃k r:Nat,o=((k:Int),(r:Int))/\k<=n/\P k r/\(∀k' r',k'<=n->P k' r'->k'<=k)/\∀r',P k r'->r<=r'
def mJ (ac:Nat->Int):Nat->Nat->Int×Int->Int×Int
 | 0,k,b=>if 0<=ac k then ((k:Int),ac k) else b
 |n+1,k,b=>mJ ac n (k+1) (if 0<=ac k then ((k:Int),ac k) else b)
def oH (P:Nat->Nat->Prop) (m:Nat) (o:Int×Int):Prop :=
 (o=(0,-1)/\∀k r,k<m->¬P k r)\/∃k r:Nat,o=((k:Int),(r:Int))/\k<m/\P k r/\(∀k' r',k'<m->P k' r'->k'<=k)/\∀r',P k r'->r<=r'
theorem oH.next {P:Nat->Nat->Prop}{m:Nat}{o:Int×Int}{a:Int}(h:oH P m o) (ha:mS (P m) a):oH P (m+1) (if 0<=a then ((m:Int),a) else o):=by
 rcases ha with ⟨rfl,h1⟩|⟨r,rfl,h1,h2⟩
 · rw[if_neg (by decide)]
   rcases h with ⟨rfl,h3⟩|⟨k,r,rfl,hk,hp,h3,h4⟩
   · exact .inl ⟨rfl,fun k r hk hp=>by
      by_cases e:k=m
      · subst e;exact h1 _ hp
      · exact h3 k r (by omega) hp⟩
   · exact .inr ⟨k,r,rfl,by omega,hp,fun k' r' hk' hp'=>by
      by_cases e:k'=m
      · subst e;exact absurd hp' (h1 _)
      · exact h3 k' r' (by omega) hp',h4⟩
 · rw[if_pos (by omega)];exact .inr ⟨m,r,rfl,by omega,h1,fun k' r' hk' _=>by omega,h2⟩
theorem uB {P:Nat->Nat->Prop}{ac:Nat->Int}:∀(n k:Nat) (b:Int×Int),oH P k b->(∀j,k<=j->j<=k+n->mS (P j) (ac j))->oH P (k+n+1) (mJ ac n k b)
 | 0,k,b,h,ha=>by rw[mJ];exact h.next (ha k (Nat.le_refl _) (by omega))
 |n+1,k,b,h,ha=>by
  rw[mJ];have:=uB n (k+1) _ (h.next (ha k (Nat.le_refl _) (by omega))) (fun j h1 h2=>ha j (by omega) (by omega))
  rwa [show k+(n+1)+1=k+1+n+1 by omega]
theorem oH.match {P:Nat->Nat->Prop}{o:Int×Int}(h:oH P (n+1) o):IsMatch P n o:=by
 rcases h with ⟨rfl,h1⟩|⟨k,r,rfl,hk,hp,h1,h2⟩
 · exact .inl ⟨rfl,fun k r hk=>h1 k r (by omega)⟩
 · exact .inr ⟨k,r,rfl,by omega,hp,fun k' r' hk'=>h1 k' r' (by omega),h2⟩
theorem C3 (ss:List bT) (c:UInt8):cT ss c []=[]:=by simp[cT,stepG,closed]
theorem qR (ss:List bT) (st:Nat) (a b:By):jJ ss st (a++b)=b.foldl (fun T c=>cT ss c T) (jJ ss st a):=by simp[jJ,List.foldl_append]
theorem Cg (ss:List bT):∀w:By,w.foldl (fun T c=>cT ss c T) ([]:List Nat)=[]
 | []=>rfl
 |c::w=>by rw[List.foldl_cons,C3,Cg ss w]
theorem uA {ac:Nat->Int}:∀(n k:Nat) (b:Int×Int),(∀j,k<=j->j<=k+n->ac j<0)->mJ ac n k b=b
 | 0,k,b,h=>by rw[mJ,if_neg (by have:=h k (Nat.le_refl _) (by omega);omega)]
 |n+1,k,b,h=>by
  rw[mJ,if_neg (by have:=h k (Nat.le_refl _) (by omega);omega)];exact uA n (k+1) b (fun j h1 h2=>h j (by omega) (by omega))
theorem Ab:∀(l a:By) (b:Int×Int),jb ss l (jJ ss st a) a.length b=mJ (fun k=>bG ss (jJ ss st ((a++l).take k))) l.length a.length b:=by
 have none_:∀(l a:By) (b:Int×Int),jJ ss st a=[]->jb ss l (jJ ss st a) a.length b=mJ (fun k=>bG ss (jJ ss st ((a++l).take k))) l.length a.length b:=by
  intro l a b h;rw[th (by rw[h];rfl),uA];intro j h1 h2;have:(a++l).take j=a++l.take (j-a.length):=by rw[List.take_append,List.take_of_length_le h1]
  rw[this,qR,h,Cg];unfold bG;split
  · decide
  · simp[pY]
 intro l
 induction l with
 |nil =>
  intro a b
  by_cases h:jJ ss st a=[]
  · exact none_ [] a b h
  · rw[jb,if_neg (by simpa using h),List.length_nil,mJ];simp
 |cons c r ih =>
  intro a b
  by_cases h:jJ ss st a=[]
  · exact none_ (c::r) a b h
  · rw[jb,if_neg (by simpa using h)];simp only[List.length_cons,mJ];have h1:=ih (a++[c]) (if 0<=bG ss (jJ ss st a) then ((a.length:Int),bG ss (jJ ss st a)) else b);rw[qR] at h1;simp only[List.foldl_cons,List.foldl_nil,List.length_append,List.length_singleton,List.append_assoc,List.singleton_append] at h1;rw[h1];have e:(a++c::r).take a.length=a:=by simp
    rw[e]
theorem Aa {rules:List By}(k:Made rules ss st) (l:By):IsMatch (fun n r=>∃s,rules[r]? =some s/\Gy (cj s).1 (l.take n)) l.length (dQ ss st l):=by
 have hst:=k.stl;unfold dQ;rw[if_neg (by omega)];have h:=Ab (ss:=ss) (st:=st) l [] (0,-1);have e:jJ ss st []=cL ss st:=rfl;rw[e] at h;simp only[List.length_nil,List.nil_append] at h;rw[h]
 have:=uB (P:=fun n r=>∃s,rules[r]? =some s/\Gy (cj s).1 (l.take n)) (ac:=fun k=>bG ss (jJ ss st (l.take k))) l.length 0 (0,-1) (.inl ⟨rfl,fun k r hk=>by omega⟩) (fun j _ _=>by
  have h1:=vF k.good k.stl (l.take j)
  have e:(fun r=>∃n,Acc ss (lO ss r) n st (l.take j))=(fun r=>∃s,rules[r]? =some s/\Gy (cj s).1 (l.take j)):=by
   funext r;exact propext (k.lng r _)
  rw[e] at h1;exact h1)
 rw[Nat.zero_add] at this;exact this.match
end
end Go.Proofs.YtmehdcdbeafljaaGreatDoor
namespace Go.Proofs.YtmehdcdbeafljaaGreatDoor
open Go Go.Lw
set_option maxRecDepth 20000
def JI (h:aA) (p:Value) (rules:List By):Prop:=∃(O:Nat->Prop) (nb:Nat) (v:Value) (ss:List bT) (st:Nat),p= .pointer (some ⟨nb,0,none⟩)/\cB h O nb v ss st/\fj rules= .inr (ss,st)
def Iy (rules:List By):Int:=match fj rules with|.inl e=>e|.inr _=>0
def xD (rules:List By) (s:By) (a:Int):Int×Int:=match fj rules with|.inl _=>(0,-1)|.inr (ss,st)=>Bs ss st s a
theorem Du {h:aA}{lim:Nat}(hg:Sg h lim) (hlim:lim<=h.size){rv:Value}{rules:List By}(hr:bX ny h (fun _=>False) rv rules) (hrl:∀s∈rules,s.length<=1000000) :
 ah Tryz.prog 27 #[rv] h (cM fun r h'=>(∃p,r= .tuple #[p,.int .i64 (Iy rules)]/\((∃e,fj rules= .inl e/\p= .pointer none)\/JI h' p rules))/\aC h h') :=
 (Bt hg hlim hr hrl).ret fun r h' k=>by
  obtain⟨k1,k2⟩:=k;refine⟨?_,k2⟩;unfold wH at k1;unfold Iy;cases hm:fj rules with
  |inl e=>rw[hm] at k1;exact⟨_,k1,.inl ⟨e,rfl,rfl⟩⟩
  |inr q =>
   obtain⟨ss,st⟩:=q;rw[hm] at k1;obtain⟨nb,v,h1,_,h3⟩:=k1;exact⟨_,h1,.inr ⟨_,nb,v,ss,st,rfl,h3,hm⟩⟩
theorem Ae {rules:List By}{ss:List bT}{st:Nat}(k:Made rules ss st):ss.length<=1000000/\1+qT ss (List.replicate ss.length false)<=1000000/\∀c now,List.Sublist now (List.range ss.length)->(stepG ss c now []).length+qT ss (List.replicate ss.length false)<=1000000:=by
 have h1:=k.len;have h2:=k.tot;have h3:=ER ss (List.replicate ss.length false);refine⟨by omega,by omega,fun c now hs=>?_⟩;have:=C5 c hs;omega
end Go.Proofs.YtmehdcdbeafljaaGreatDoor

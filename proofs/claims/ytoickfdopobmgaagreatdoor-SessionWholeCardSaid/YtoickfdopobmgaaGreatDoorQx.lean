/- What the proof of the statement leans on (part 24). -/
import Derived.Lib.DecodeN
import Derived.Lib.IndexMore
import Derived.Test.YtoickfdopobmgaaGreatDoorQw

namespace Go.Proofs.YtoickfdopobmgaaGreatDoor
open Go
def fP (m:Int) (l:By):Int×Int:=if m=0 then cY eC 53 l else if m=1 then cY Ao 10 l else if m=2 then cY An 11 l else (0,-1)
def wj (m:Int):List (Int×Int):=if m=0 then [(1,0),(2,0),(3,0),(5,0),(11,0),(11,3),(9,1),(7,0),(8,0),(6,0)] else if m=1 then [(9,0),(10,0),(9,2),(9,0)] else if m=2 then [(11,3),(11,4),(11,0),(11,0)] else []
def j9 (m n:Int):Option (Int×Int):=if n<0 then none else (wj m)[n.toNat]?
def jX (m n:Int):Int:=match j9 m n with|some p=>p.1|none=>0
abbrev uF:=Int×Int
def gV (s:uF) (n:Int):uF:=match j9 s.1 n with
  |none=>s
  |some p=>if p.2=0 then s else if p.2=1 then (1,0) else if p.2=3 then (2,min (max s.2 0) 16383+1) else if p.2=4/\1<s.2 then (s.1,s.2-1) else (0,0)
def HG:By:=[32,105,102,32,101,108,115,101,32,108,101,116,32,105,110,32,102,117,110,32,116,114,117,101,32,102,97,108,115,101,32,97,110,100,32,111,114,32,110,111,116,32]
def bz (s:By):Bool:=decide (s≠[]) && (!Lib.contains s [32] && Lib.contains HG (32::(s++[32])))
def qM (l:By):Nat:=(Lib.decodeN l.length (l.getD 0 0).toNat (l.getD 1 0).toNat (l.getD 2 0).toNat (l.getD 3 0).toNat).2
def iP (l:By) (m:Int):Nat:=if (fP m l).1=0 then qM l else (fP m l).1.toNat
def yo (l:By) (m:Int):Int:=if (fP m l).1=0 then 0 else if jX m (fP m l).2=3/\bz (l.take (fP m l).1.toNat)=true then 4 else jX m (fP m l).2
def o7 (l:By) (st:uF):uF:=if (fP st.1 l).1=0 then st else gV st (fP st.1 l).2
abbrev Tk:=Int×Int×Int
def iA:Nat->By->Nat->uF->List Tk×uF
  | 0,_,_,st=>([],st)
  |n+1,l,at_,st=>if l=[] then ([],st) else
    (((yo l st.1,(at_:Int),((at_+iP l st.1:Nat):Int)):Tk)::(iA n (l.drop (iP l st.1)) (at_+iP l st.1) (o7 l st)).1,(iA n (l.drop (iP l st.1)) (at_+iP l st.1) (o7 l st)).2)
def dP (s:By):List Tk×uF:=iA s.length s 0 (0,0)
theorem EE (n b0 b1 b2 b3:Nat):1<=(Lib.decodeN n b0 b1 b2 b3).2:=by
  unfold Lib.decodeN
  repeat' split
  all_goals simp
theorem ED (n b0 b1 b2 b3:Nat) (hn:1<=n):(Lib.decodeN n b0 b1 b2 b3).2<=n:=by
  unfold Lib.decodeN
  repeat' split
  all_goals (simp only;omega)
theorem B8 {l:By}(h:l≠[]):1<=qM l/\qM l<=l.length:=⟨EE _ _ _ _ _,ED _ _ _ _ _ (List.length_pos_iff.2 h)⟩
theorem OJ:Made D0 eC 53:=gw QE
theorem pG:Made DZ Ao 10:=gw KP
theorem OI:Made DY An 11:=gw QD
theorem CE (m:Int) (l:By):0<=(fP m l).1/\(fP m l).1<=l.length:=by
  have key:∀{rules:List By}{ss:List aZ}{st:Nat},Made rules ss st->0<=(cY ss st l).1/\(cY ss st l).1<=l.length:=fun k=>by
    rcases Cx k l with ⟨e,_⟩|⟨n,r,e,hn,_⟩
    · rw[e];simp
    · rw[e];simp only;omega
  unfold fP;split
  · exact key OJ
  · split
    · exact key pG
    · split
      · exact key OI
      · simp
theorem qX {l:By}(h:l≠[]) (m:Int):1<=iP l m/\iP l m<=l.length:=by
  have h1:=CE m l;have h2:=B8 h;unfold iP;split
  · exact h2
  · omega
theorem sL:∀(n k:Nat) (l:By) (a:Nat) (st:uF),l.length<=n->l.length<=k->iA n l a st=iA k l a st
  | 0,0,_,_,_,_,_=>rfl
  | 0,k+1,l,a,st,h,_=>by
    have:l=[]:=List.length_eq_zero_iff.1 (by omega);rw[iA,iA,if_pos this]
  |n+1,0,l,a,st,_,h=>by
    have:l=[]:=List.length_eq_zero_iff.1 (by omega);rw[iA,iA,if_pos this]
  |n+1,k+1,l,a,st,h1,h2=>by
    rw[iA,iA]
    by_cases hl:l=[]
    · rw[if_pos hl,if_pos hl]
    · have:=qX hl st.1;rw[if_neg hl,if_neg hl,sL n k _ _ _ (by rw[List.length_drop];omega) (by rw[List.length_drop];omega)]
theorem tL {d:bG}:∀(l x:By) (s k:Nat) (b:Int×Int),(aK d l s k b).2.2<((k+l.length:Nat):Int)->aK d (l++x) s k b=aK d l s k b
  | [],x,s,k,b,h=>by
    exfalso;rw[aK] at h;split at h
    · simp only[List.length_nil,Nat.add_zero] at h;omega
    · simp only[List.length_nil,Nat.add_zero] at h;omega
  |c::l,x,s,k,b,h=>by
    rw[List.cons_append,aK,aK];rw[aK] at h;split
    · rename_i hp;rw[if_pos hp] at h;exact tL l x _ _ _ (by rw[List.length_cons] at h;rw[show k+1+l.length=k+(l.length+1) by omega];exact h)
    · rfl
theorem sj {rules:List By}{ss:List aZ}{st:Nat}(hm:eX rules= .inr (ss,st)){H:List (List Nat×Nat)}{tab reps:List UInt8}(hr:jy ss tab reps=true) (ha:qv ss H reps=true) (hs:A4 H (bR ss st)=some 0/\bR ss st≠[]/\¬0<=aL ss (bR ss st)) (hH:H.length<=2000) :
    ∃d,gC ss st= .inr d/\(∀l,(aK d l 0 0 (0,-1)).2.2<=(cY ss st l).1+2)/\∀l x:By,(cY ss st l).1+2<l.length->cY ss st (l++x)=cY ss st l:=by
  have hM:=gw hm;have hmem:=wz hs.1;obtain⟨d,hd⟩:=C3 (JV hr ha) (by simpa using hH) (fun e=>hs.2.1 (List.length_eq_zero_iff.1 e)) (List.mem_map.2 ⟨_,hmem,rfl⟩);obtain⟨_,L,h1,h2,_⟩:=jt hd;have hst:=hM.stl;have hmt:=fun l=>rF hd (by omega) l
  have h2s:∀l,(aK d l 0 0 (0,-1)).2.2<=(aK d l 0 0 (0,-1)).1+2:=fun l=>yN h1 h2 hr ha l 0 0 (0,-1) _ 0 h1.first hmem (by rw[if_neg hs.2.2];simp)
  have hmt1:∀l,(aK d l 0 0 (0,-1)).1=(cY ss st l).1:=fun l=>by have:=hmt l;rw[<-this]
  refine⟨d,hd,fun l=>by rw[<-hmt1];exact h2s l,fun l x hlt=>?_⟩;have:=h2s l;rw[hmt1] at this;rw[<-hmt (l++x),<-hmt l,tL l x 0 0 (0,-1) (by rw[Nat.zero_add];omega)]
theorem A3:NL.length<=2000/\ht1.length<=2000/\ht2.length<=2000:=by decide
end Go.Proofs.YtoickfdopobmgaaGreatDoor
namespace Go.Proofs.YtoickfdopobmgaaGreatDoor
open Go.Proofs.Tryz
open Go Go.Lw
set_option maxRecDepth 20000 set_option maxHeartbeats 4000000
section
variable {h:ai}
def iu (m:Int):List By:=if m=0 then D0 else if m=1 then DZ else if m=2 then DY else []
def pT (m:Int):List (By×Int×Int):=List.zipWith (fun r k=>(r,k.1,k.2)) (iu m) (wj m)
def mZ (h:ai):Prop:=∀m:Nat,m<3->∃v,cellAt h ⟨0,m,none⟩=some v/\aT Nb h (fun _=>False) v (pT m)
theorem mZ.ah {h h':ai}(k:mZ h) (e:aj h h'):mZ h':=fun m hm=>by
 obtain⟨v,h1,h2⟩:=k m hm;exact⟨v,e.cell (fun k=>k) h1,h2.mv (Mv.ah e)⟩
theorem HY (m:Nat) (hm:m<3):(pT m).length<=10/\(pT m).map (·.1)=iu m:=by
 match m,hm with
 | 0,_=>exact⟨by decide,by decide⟩
 | 1,_=>exact⟨by decide,by decide⟩
 | 2,_=>exact⟨by decide,by decide⟩
theorem qJ (r:By×Int×Int):∀v∈eT r,v.oneCell'=true:=fun v hv=>by simp[eT] at hv;rcases hv with rfl|rfl|rfl<;>rfl
theorem EP {l cap:Nat}{oa:Option Addr}{n c:Nat}{J:Nat->ai->Prop}(hn:n<=1000000) (hmono:∀j h g,J j h->aj h g->J j g)
 (hy:∀j h,J j h->j<n->∃(b o:Nat) (r:By×Int×Int),oa=some ⟨b,o,none⟩/\Lw.rowAt h b (o+j*3) (eT r) /\
  ∀g,J j g->gW Tryz.prog l #[.int .i64 (j:Nat),.agg (eT r).toArray] g (bw fun r h'=>r= .bool true/\J (j+1) h')) (h0:J 0 h) (hread:cellAt h ⟨cap,0,none⟩=some (.slice oa n c)) :
 aq Tryz.prog 102 #[.func (.yield l) #[] #[],.pointer (some ⟨cap,0,none⟩)] h (bw fun _ h'=>J n h'):=by
 refine bL ?_;refine af ?_;refine xp rfl (aA rfl hread) ?_;refine af ?_;refine gY (σ:=Nat) (fun j=>[(7,.int .i64 (j:Nat))]) (fun j h'=>J j h'/\j<=n) (fun j=>n-j) (0) ⟨h0,Nat.zero_le _⟩ rfl ?_;rintro j h1 ⟨hJ,hj⟩ ih;refine af ?_;refine aR (fun hlt=>?_) (fun hlt=>?_)
 · obtain⟨b,o,r,ha,hrow,hyy⟩:=hy j h1 hJ (by omega)
   iterate 4 refine aX ?_
   refine cD ?_;refine aW ?_;refine xp rfl (cz rfl rfl j rfl ha) ?_;refine xp rfl (bY rfl hrow) ?_;refine xo rfl (cO) ?_;rintro _ g1 ⟨rfl,k1,e1,z1⟩;refine af ?_;refine aM rfl (aY rfl rfl k1 (qJ r)) ?_;rintro _ g2 ⟨rfl,k2,x2,z2⟩;refine cX ?_;refine aX ?_;have e12:aj h1 g2:=e1.only x2 (Nat.le_refl _);have k2:aD g2 h1.size 138 (eT r):=k2;refine G.MM func102 rfl ?_;refine ef.bu rfl rfl rfl rfl rfl (dA rfl) ?_;refine ef.bu rfl rfl rfl rfl rfl (dA rfl) ?_;refine ef.bu rfl rfl rfl rfl rfl (ay.jT H.Mf H.Ib rfl k2.row (by first|rfl|(simp;done)|(simp;omega))) ?_;refine sM (vs:=[_,_]) rfl rfl rfl rfl rfl rfl rfl ((hyy g2 (hmono _ _ _ hJ e12))) ?_;rintro _ h2 ⟨rfl,hJ2⟩;refine ef.bu rfl rfl rfl rfl rfl (ay.KN rfl) ?_;refine fV rfl ?_;refine fe rfl (by decide) ?_;refine af ?_;exact ih (j+1) ⟨hJ2,by omega⟩
 · obtain rfl:j=n:=by omega
   refine af ?_;refine Hz ?_;exact⟨_,rfl,hJ⟩
theorem Hs (v:Value) (hv:v.oneCell'=true):aq Tryz.prog 53 #[v] h (bw fun r h'=>r= .func (.func 102) #[] #[.pointer (some ⟨h.size,0,none⟩)]/\h'=h.push (.cells #[v] 136)):=by
 have hcells:v.cells= #[v]:=by cases v<;>simp[Value.oneCell'] at hv<;>rfl
 refine bL ?_;refine af ?_;refine xo rfl (aQ.box rfl) ?_;rintro _ _ ⟨rfl,rfl⟩;refine af ?_;refine xp rfl (ay.makeFunc (vs:=[_]) rfl) ?_;refine af ?_;refine bp ?_;exact⟨_,rfl,rfl,by rw[hcells]⟩
abbrev encS (s:By):Value:=.string (bs s)
def LF (h:ai) (d:Nat) (r0:Loop) (base:Nat) (l:List By) (j:Nat) (g:ai):Prop :=
 ck g (d+1) r0/\g[d]? =some (.deferred (some []))/\aj h g/\base<=g.size/\∃w,aD g h.size 22 [w]/\bN encS g base 9 w (l.take j)
theorem LF.ah {h:ai}{d:Nat}{r0:Loop}{base:Nat}{l:List By}{j:Nat}{g g':ai}(k:LF h d r0 base l j g) (hd:d<g.size) (e:aj g g'):LF h d r0 base l j g':=by
 obtain⟨h1,h2,h3,h4,w,h5,h6⟩:=k;exact⟨h1.ext e (fun k=>k),(e.block d hd (fun k=>k)).trans h2,h3.trans e,by have:=e.size;omega,w,h5.ah e,bN.ah h6 e⟩
theorem Gw (hR:mZ h) (m:Nat) (hm:m<3) :
 aq Tryz.prog 29 #[.int .i64 (m:Nat)] h (bw fun r h'=>aT oe h' (fun _=>False) r (iu m)/\aj h h'):=by
 obtain⟨htl,htm⟩:=HY m hm;generalize hL0:iu (m:Int)=l at *;generalize htb:pT (m:Int)=tb at *;have hll:l.length=tb.length:=by rw[<-htm];simp
 refine bL ?_;refine aX ?_;refine cD ?_;refine aW ?_;refine cX ?_
 iterate 2 refine aX ?_
 refine fL [(11,.bool false)] rfl ?_ ?_
 · refine af ?_;refine RW.cV (d:=8) (b':=false) rfl ((by simp)) ?_;refine af ?_;exact aF rfl ⟨au rfl (by simp;omega),sb rfl⟩
 · refine fe rfl (by decide) ?_;refine af ?_;refine xo rfl (cO) ?_;rintro _ h1 ⟨rfl,k3,e1,z1⟩;have k3:aD h1 h.size 22 [.slice none 0 0]:=k3;obtain⟨v,hv,hsl⟩:=hR m hm;rw[htb] at hsl;have hsl1:=hsl.mv (Mv.ah e1);obtain⟨oa,kn,kc,rfl,hsl2⟩:=hsl1.open;have hkn:=hsl2.len;have hv1:cellAt h1 ⟨0,0+m*1,none⟩=some (.slice oa kn kc):=by rw[Nat.mul_one,Nat.zero_add];exact e1.cell (fun k=>k) hv
   refine cX ?_
   iterate 2 refine aX ?_
   refine cD ?_;refine aW ?_;refine xp rfl (zW rfl rfl m rfl (by omega)) ?_;refine xp rfl (aA rfl hv1) ?_;refine xo rfl (aE rfl (Hs (.slice oa kn kc) rfl)) ?_;rintro _ h2 ⟨rfl,hh2⟩;have e2:aj h1 h2:=by rw[hh2];exact Ext.push _ _ _
   have kc2b:aD h2 h1.size 136 [.slice oa kn kc]:=by rw[hh2];exact Bz _ _ _
   have kc2:cellAt h2 ⟨h1.size,0,none⟩=some (.slice oa kn kc):=kc2b.cell (i:=0) rfl;have z2:h2.size=h1.size+1:=by rw[hh2];simp
   clear hh2;refine af ?_;refine G.rangeFunc rfl rfl func102 rfl (by decide +kernel) ?_;intro fid tmps hfits;obtain⟨r0,hr0⟩:∃r0,r0=fG fid tmps #[16,17] (Qv (Lw.sub (ax f29) [0,1,0,1,1,1])) (Qu (Lw.sub (ax f29) [0,1,0,1,1,1])) h2.size:=⟨_,rfl⟩
   obtain⟨hL,hhL⟩:∃hL,hL=(h2.push (.deferred (some []))).push (.loop r0):=⟨_,rfl⟩
   suffices hmain:aq Tryz.prog 102 #[.func (.yield (h2.size+1)) #[] #[],.pointer (some ⟨h1.size,0,none⟩)] hL _ by rw[hhL,hr0] at hmain;exact hmain
   have hst:r0.state= .ready:=by rw[hr0];rfl
   have hpn:r0.pending=none:=by rw[hr0];rfl
   have hps:r0.params= #[16,17]:=by rw[hr0];rfl
   have htm2:r0.tmps=tmps:=by rw[hr0];rfl
   have eL:aj h2 hL:=by rw[hhL];exact(Ext.push _ _ _).trans (Ext.push _ _ _)
   have hLz:hL.size=h2.size+2:=by rw[hhL];simp
   have hloop0:ck hL (h2.size+1) r0:=by
    have hz:h2.size+1=(h2.push (.deferred (some []))).size:=by simp
    rw[ck,hhL,hz];exact Array.getElem?_push_size
   have hdef0:hL[h2.size]? =some (.deferred (some [])):=by
    rw[hhL,(Ext.push (fun _=>False) (h2.push (.deferred (some []))) _).block h2.size (by simp) (fun k=>k)];exact Array.getElem?_push_size
   clear hhL;have e0L:aj h hL:=(e1.trans e2).trans eL;have hJ0:LF h h2.size r0 hL.size l 0 hL:=⟨hloop0,hdef0,e0L,Nat.le_refl _,_,(k3.ah e2).ah eL,bN.nil _ _ _ _⟩
   have hcapL:cellAt hL ⟨h1.size,0,none⟩=some (.slice oa kn kc):=eL.cell (fun k=>k) kc2;have hdl:∀j g,LF h h2.size r0 hL.size l j g->h2.size<g.size:=fun j g k=>by have:=k.2.2.2.1;omega
   refine suff (p:=∀j g,LF h h2.size r0 hL.size l j g->j<kn->∃(b o:Nat) (r:By×Int×Int),oa=some ⟨b,o,none⟩/\Lw.rowAt g b (o+j*3) (eT r)/\∀g,LF h h2.size r0 hL.size l j g->gW Tryz.prog (h2.size+1) #[.int .i64 (j:Nat),.agg (eT r).toArray] g (bw fun r h'=>r= .bool true/\LF h h2.size r0 hL.size l (j+1) h')) ?_ fun hy=>?_
   · intro j g hJg hj;obtain⟨r,hx⟩:∃r,tb[j]? =some r:=⟨_,List.getElem?_eq_getElem (by omega)⟩
     have hslg:=hsl.mv (Mv.ah hJg.2.2.1);obtain⟨oa',n',c',hv',_,_,_,hget⟩:=id hslg;cases hv';obtain⟨b,o,cs,ha,hob,hrow,rfl⟩:=hget j r hx;refine⟨b,o,r,ha,hrow,fun g hJg=>?_⟩;obtain⟨hlp,hdf,ehg,hbg,w,kS,hw⟩:=hJg;have hlj:l[j]? =some r.1:=by rw[<-htm,List.getElem?_map,hx];rfl
     have hfit:=wF (p1:=16) (p2:=17) (v1:=.int .i64 (j:Nat)) (v2:=.agg (eT r).toArray) hfits rfl rfl;rw[<-hps,<-htm2] at hfit;refine gW.of hlp hst (by rw[hps];rfl) hfit ((congrArg Loop.assign hr0).trans rfl) ((congrArg Loop.body hr0).trans rfl) ?_;refine ef.GF rfl rfl rfl rfl rfl (aQ.Bq H.LP) ?_;rintro _ g1 ⟨rfl,k5,e1',zz1⟩;refine ef.BB rfl rfl rfl rfl (aQ.gL H.Ib rfl rfl k5 (by first|rfl|(simp;done)|(simp;omega)) (by first|decide|exact of_decide_eq_true rfl|(simp;done)|(simp;omega)) (qJ r)) ?_;rintro _ g2 ⟨rfl,k5',e2',zz2⟩;refine fV rfl ?_;have e12:aj g g2:=e1'.only e2' (Nat.le_refl _);have k5':aD g2 g.size 138 (eT r):=k5';refine⟨(e12.block _ hlp.lt (fun k=>k)).trans hlp,?_⟩;obtain⟨g3,hg3⟩:∃g3,g3=Lw.bM g2 (h2.size+1) (.loop { r0 with state:=.busy }):=⟨_,rfl⟩
     rw[<-hg3];have hlz:=hlp.lt;have hz2:=e12.size;have hz1:=e1.size;have e23:Ext (fun b=>b=h2.size+1) g2 g3:=by rw[hg3];exact Ext.bM _ _ _ rfl
     have hlp3:ck g3 (h2.size+1) { r0 with state:=.busy }:=by rw[ck,hg3];exact iw (by omega)
     have hz3:=e23.size;have kS3:=(kS.ah e12).ext e23 (show ¬h.size=h2.size+1 by omega);have k53:=k5'.ext e23 (show ¬g.size=h2.size+1 by omega);have hwge:∀b,w.ownBlock=some b->hL.size<=b:=fun b hb=>(aB.lt hw hb).1
     have hw3:aB g3 hL.size 9 1 w (l.take j).length ((l.take j).map encS):=aB.ext e23 (bN.ah hw e12) (fun b hb k=>by have:=hwge b hb;omega);have hjl:(l.take j).length=j:=by rw[List.length_take];omega
     refine ef.bu rfl rfl rfl rfl rfl (dR H.Nu rfl (kS3.cell (i:=0) rfl)) ?_;refine ef.bu rfl rfl rfl rfl rfl (fW (off:=0) underlying138 rfl rfl H.Ds rfl) ?_;refine ef.bu rfl rfl rfl rfl rfl (dR H.Ns rfl (k53.cell (i:=0) rfl)) ?_;refine ef.GF rfl rfl rfl rfl rfl (aQ.zN (us:=[_]) underlying22 H.QI rfl rfl (by decide) (by simp[Value.oneCell'])) ?_;rintro _ _ ⟨rfl,rfl⟩;refine ef.GF rfl rfl rfl rfl rfl (aQ.gG underlying22 H.QI rfl rfl (hw3) rfl rfl (by first|decide|simp[Value.oneCell']) (by omega) (by decide) (by omega)) ?_;rintro v4 g4 ⟨ho4,hx4,hx4',hv4⟩;have kS4:=kS3.ext hx4 (fun k=>by have:=hwge _ k.symm;omega);have hz4:=hx4.size;have hw4:bN encS g4 hL.size 9 v4 (l.take j++[r.1]):=bN.of (ys:=[r.1]) ho4 rfl rfl rfl;obtain⟨va4,vc4,rfl,_⟩:=ho4.open;refine ef.BB rfl rfl rfl rfl (aQ.jH H.Qs rfl rfl kS4 (by first|decide|exact of_decide_eq_true rfl|(simp;done)|(simp;omega)) rfl) ?_;rintro _ g5 ⟨rfl,kS5,e5',zz5⟩;refine fV rfl ?_;have kS5:aD g5 h.size 22 [.slice va4 ((l.take j).length+1) vc4]:=by simpa using kS5
     have hlp5:ck g5 (h2.size+1) { r0 with state:=.busy }:=(hlp3.ext hx4 (fun k=>by have:=hwge _ k.symm;omega)).ext e5' (show ¬h2.size+1=h.size by omega);have hr2:({ ({ r0 with state:=.busy }:Loop) with state:=.ready,pending:=none }:Loop)=r0:=by cases r0;simp at hst hpn;simp[hst,hpn]
     have hz5:=e5'.size;refine⟨_,hlp5,rfl,?_⟩;rw[hr2];have e56:Ext (fun b=>b=h2.size+1) g5 (Lw.bM g5 (h2.size+1) (.loop r0)):=Ext.bM _ _ _ rfl;have hlz5:=hlp5.lt
     have hblk:∀b,b<hL.size->¬b=h.size->¬b=h2.size+1->b<g.size->(Lw.bM g5 (h2.size+1) (.loop r0))[b]? =g[b]? :=fun b hb n1 n2 hbg=>by
      rw[e56.block b (by omega) n2,e5'.block b (by omega) n1,hx4.block b (by omega) (fun k=>by have:=hwge _ k.symm;omega),e23.block b (by omega) n2,e12.block b hbg (fun k=>k)]
     have hv4ge:∀b,(Value.slice va4 ((l.take j).length+1) vc4).ownBlock=some b->hL.size<=b:=fun b hb=>(aB.lt hw4 hb).1
     refine⟨iw hlz5,by rw[hblk h2.size (by omega) (by omega) (by omega) (by omega)];exact hdf,⟨by have:=e56.size;have:=ehg.size;omega,fun b hb _=>?_⟩,by have:=e56.size;omega,_,kS5.ext e56 (show ¬h.size=h2.size+1 by omega),?_⟩
     · rw[hblk b (by omega) (by omega) (by omega) (by have:=ehg.size;omega)];exact ehg.block b hb (fun k=>k)
     · rw[List.take_add_one,hlj];exact aB.ext e56 (aB.ext e5' hw4 (fun b hb k=>by have:=hv4ge b hb;omega)) (fun b hb k=>by have:=hv4ge b hb;omega)
   · refine(EP (l:=h2.size+1) (cap:=h1.size) (n:=kn) (c:=kc) (oa:=oa) (J:=LF h h2.size r0 hL.size l) (by omega) (fun j g g' k e=>k.ah (hdl j g k) e) hy hJ0 hcapL).mono fun e g hJ=>?_
     obtain⟨u,rfl,hlp,hdf,ehg,hbg,w,kS,hw⟩:=hJ;rw[List.take_of_length_le (by omega)] at hw;refine⟨_,rfl,r0,hlp,by rw[hst];decide,hpn,?_⟩;have hz1:=e1.size;have hlz:=hlp.lt;have e6:Ext (fun b=>b=h2.size+1) g (Lw.bM g (h2.size+1) (.loop { r0 with state:=.exhausted })):=Ext.bM _ _ _ rfl;have kSe:=kS.ext e6 (show ¬h.size=h2.size+1 by omega);have hdfe:=(e6.block h2.size (by omega) (show ¬h2.size=h2.size+1 by omega)).trans hdf;have hwge:∀b,w.ownBlock=some b->hL.size<=b:=fun b hb=>(aB.lt hw hb).1
     have hwe:=aB.ext e6 hw (fun b hb k=>by have:=hwge b hb;omega);refine GD.qx ?_;refine oE rfl ?_;refine GD.mJ func29 rfl ?_;refine ji.bu rfl rfl rfl rfl (dR H.Nu rfl (kSe.cell (i:=0) rfl)) ?_;refine ji.bu rfl rfl rfl rfl (ay.assign rfl) ?_;refine kr rfl ?_;refine GD.sub (ρ':=[(0,_),(2,_),(3,_),(11,_),(15,_)]) ⟨rfl,rfl,rfl,rfl,rfl,trivial⟩ ?_;refine GD.Fu func29 rfl hdfe rfl ?_;have e7:Ext (fun b=>b=h2.size) (Lw.bM g (h2.size+1) (.loop { r0 with state:=.exhausted })) (Lw.bM (Lw.bM g (h2.size+1) (.loop { r0 with state:=.exhausted })) h2.size (.deferred none)):=Ext.bM _ _ _ rfl;have hz6:=e6.size;have hz7:=e7.size;refine⟨_,rfl,bN.read (h1:=fun _=>rfl) (show bN encS _ hL.size 9 w l from aB.ext e7 hwe (fun b hb k=>by have:=hwge b hb;omega)) (fun _ _ k=>k),⟨by have:=ehg.size;omega,fun b hb _=>?_⟩⟩;rw[e7.block b (by have:=ehg.size;omega) (by omega),e6.block b (by have:=ehg.size;omega) (by omega)];exact ehg.block b hb (fun k=>k)
end
end Go.Proofs.YtoickfdopobmgaaGreatDoor
namespace Go.Proofs.YtoickfdopobmgaaGreatDoor
open Go Go.Lw
section
variable {h:ai}{O:Nat->Prop}{cs:List Value}{k:Int}{t:By}{l:List Tr}{v:Value}{x:Tr}
def pF:Nat->ai->(Nat->Prop)->List Value->Tr->Prop
  | 0,_,_,_,_=>False
  |d+1,h,O,cs,x=>∃oa n c,cs=[.int .i64 x.kind,.string (bs x.text),.slice oa n c]/\x.kids.length=n/\n<=c/\c<=maxLen /\
      ∀i y,x.kids[i]? =some y->∃b o cs',oa=some ⟨b,o,none⟩/\¬O b/\Lw.rowAt h b (o+i*3) cs'/\pF d h O cs' y
theorem yY:∀{d:Nat}{h:ai}{O:Nat->Prop}{cs:List Value}{x:Tr},pF d h O cs x->cs.length=3
  | 0,_,_,_,_,k=>k.elim
  |_+1,_,_,_,_,⟨_,_,_,hc,_⟩=>by rw[hc];rfl
theorem GI:∀{d:Nat}{h:ai}{O:Nat->Prop}{cs:List Value}{x:Tr},pF d h O cs x->∀v∈cs,v.oneCell'=true
  | 0,_,_,_,_,k=>k.elim
  |_+1,_,_,_,_,⟨_,_,_,hc,_⟩=>by
    intro v hv;rw[hc] at hv;simp at hv;rcases hv with rfl|rfl|rfl<;>rfl
theorem Cp:∀{d:Nat}{h h':ai}{O O':Nat->Prop}{cs:List Value}{x:Tr},pF d h O cs x->Mv O O' h h'->pF d h' O' cs x
  | 0,_,_,_,_,_,_,k,_=>k.elim
  |d+1,h,h',O,O',cs,x,⟨oa,n,c,hc,hl,hn,hm,hk⟩,m=>by
    refine⟨oa,n,c,hc,hl,hn,hm,fun i y hy=>?_⟩;obtain⟨b,o,cs',h1,h2,h3,h4⟩:=hk i y hy;have hne:cs'≠[]:=fun e0=>by have:=yY h4;rw[e0] at this;simp at this
    exact⟨b,o,cs',h1,(m.block b (dL h3 hne) h2).2,m.rowAt h2 h3,Cp h4 m⟩
theorem vI:∀{d d':Nat}{h:ai}{O:Nat->Prop}{cs:List Value}{x:Tr},pF d h O cs x->d<=d'->pF d' h O cs x
  | 0,_,_,_,_,_,k,_=>k.elim
  |d+1,0,_,_,_,_,_,hd=>by omega
  |d+1,d'+1,h,O,cs,x,⟨oa,n,c,hc,hl,hn,hm,hk⟩,hd=>by
    refine⟨oa,n,c,hc,hl,hn,hm,fun i y hy=>?_⟩;obtain⟨b,o,cs',h1,h2,h3,h4⟩:=hk i y hy;exact⟨b,o,cs',h1,h2,h3,vI h4 (by omega)⟩
def eN:fQ Tr where
  sz:=3
  pos:=by decide
  R:=fun h O cs x=>∃d,pF d h O cs x
  len:=fun⟨_,k⟩=>yY k
  one:=fun⟨_,k⟩=>GI k
  mv:=fun⟨d,k⟩ m=>⟨d,Cp k m⟩
theorem kO (q:eN.R h O cs (.mk k t l)):∃v,cs=[.int .i64 k,.string (bs t),v]/\aT eN h O v l:=by
  obtain⟨d,q⟩:=q;cases d with
  |zero=>exact q.elim
  |succ d =>
    obtain⟨oa,n,c,hc,hl,hn,hm,hk⟩:=q;refine⟨_,hc,oa,n,c,rfl,hl,hn,hm,fun i y hy=>?_⟩;obtain⟨b,o,cs',h1,h2,h3,h4⟩:=hk i y hy;exact⟨b,o,cs',h1,h2,h3,d,h4⟩
theorem rB (q:aT eN h O v l):eN.R h O [.int .i64 k,.string (bs t),v] (.mk k t l):=by
  obtain⟨oa,n,c,rfl,hl,hn,hm,hk⟩:=q
  have:∃d,∀i y,l[i]? =some y->∃b o cs,oa=some ⟨b,o,none⟩/\¬O b/\Lw.rowAt h b (o+i*3) cs/\pF d h O cs y:=by
    have key:∀j:Nat,∃d,∀i y,i<j->l[i]? =some y->∃b o cs,oa=some ⟨b,o,none⟩/\¬O b/\Lw.rowAt h b (o+i*3) cs/\pF d h O cs y:=by
      intro j
      induction j with
      |zero=>exact⟨0,fun i y hi=>by omega⟩
      |succ j ih =>
        obtain⟨d,hd⟩:=ih;cases hj:l[j]? with
        |none =>
          refine⟨d,fun i y hi hy=>hd i y ?_ hy⟩
          rcases Nat.lt_or_ge i j with q|q
          · exact q
          · have:i=j:=by omega
            subst this;rw[hj] at hy;cases hy
        |some z =>
          obtain⟨b,o,cs,h1,h2,h3,d2,h4⟩:=hk j z hj;refine⟨max d d2,fun i y hi hy=>?_⟩
          rcases Nat.lt_or_ge i j with q|q
          · obtain⟨b',o',cs',g1,g2,g3,g4⟩:=hd i y q hy;exact⟨b',o',cs',g1,g2,g3,vI g4 (by omega)⟩
          · have:i=j:=by omega
            subst this;rw[hj] at hy;cases hy;exact⟨b,o,cs,h1,h2,h3,vI h4 (by omega)⟩
    obtain⟨d,hd⟩:=key l.length;exact⟨d,fun i y hy=>hd i y (List.getElem?_eq_some_iff.1 hy).1 hy⟩
  obtain⟨d,hd⟩:=this;exact⟨d+1,oa,n,c,rfl,hl,hn,hm,hd⟩
def eF (h:ai) (O:Nat->Prop) (v:Value) (x:Tr):Prop:=∃cs,v= .agg cs.toArray/\eN.R h O cs x
theorem eF.open (q:eF h O v (.mk k t l)):∃w,v= .agg #[.int .i64 k,.string (bs t),w]/\aT eN h O w l:=by
  obtain⟨cs,rfl,q⟩:=q;obtain⟨w,rfl,q2⟩:=kO q;exact⟨w,rfl,q2⟩
theorem eF.shut {w:Value}(q:aT eN h O w l):eF h O (.agg #[.int .i64 k,.string (bs t),w]) (.mk k t l):=⟨_,rfl,rB q⟩
theorem eF.mv {h h':ai}{O O':Nat->Prop}{v:Value}{x:Tr}(q:eF h O v x) (m:Mv O O' h h'):eF h' O' v x:=by
  obtain⟨cs,rfl,q⟩:=q;exact⟨cs,rfl,eN.mv q m⟩
theorem Sl.nd {oa:Option Addr}{n c:Nat}(k:Sl eN h O oa n c l){i:Nat}(hi:i<n) :
    ∃b o x cs,oa=some ⟨b,o,none⟩/\¬O b/\l[i]? =some x/\Lw.rowAt h b (o+i*3) cs/\eN.R h O cs x:=by
  have hlt:i<l.length:=by rw[k.len];exact hi
  obtain⟨b,o,cs,ha,ho,hr,hR⟩:=k.get i l[i] (List.getElem?_eq_getElem hlt);exact⟨b,o,l[i],cs,ha,ho,List.getElem?_eq_getElem hlt,hr,hR⟩
theorem tJ {α:Type}{sz:Nat}:∀css:List (List α),(∀c∈css,c.length=sz)->css.flatten.length=css.length*sz
  | [],_=>by simp
  |c::css,h=>by
    rw[List.flatten_cons,List.length_append,h c (by simp),tJ css (fun c hc=>h c (by simp[hc])),List.length_cons,Nat.add_mul];omega
theorem cH.OH {α:Type}{e:fQ α}{css:List (List Value)}{xs:List α}{t:TypeId}{base n:Nat}(hl:css.length=xs.length)
    (hR:∀(i:Nat) (cs:List Value) (x:α),css[i]? =some cs->xs[i]? =some x->e.R h O cs x) (hb:base<=h.size) (hn:xs.length=n) (hm:n<=maxLen) :
    cH e O (h.push (.cells css.flatten.toArray t)) base t (.slice (some ⟨h.size,0,none⟩) n n) xs:=by
  subst hn
  have hlen:∀c∈css,c.length=e.sz:=fun c hc=>by
    obtain⟨i,hi⟩:=List.getElem?_of_mem hc;have hlt:i<xs.length:=by rw[<-hl];exact(List.getElem?_eq_some_iff.1 hi).1
    exact e.len (hR i c xs[i] hi (List.getElem?_eq_getElem hlt))
  have hfl:css.flatten.length=xs.length*e.sz:=by rw[tJ css hlen,hl]
  refine⟨css,hl,⟨hfl,.inr ⟨h.size,xs.length,css.flatten.toArray,rfl,hb,by simp,Nat.le_refl _,hm,by rw[List.size_toArray,hfl],by rw[<-hfl];exact List.take_length⟩⟩,fun i cs x h1 h2=>?_⟩
  exact e.mv (hR i cs x h1 h2) ⟨by simp,fun b hb' ho=>⟨(Ext.push (fun _=>False) h _).block b hb' (fun k=>k),fun k=>by
    rcases k with k|k
    · simp[cv,Value.ownBlock] at k;omega
    · exact ho k⟩⟩
theorem eF.get (q:eF h O v x):∃k t a n c,v= .agg #[.int .i64 k,.string (bs t),.slice a n c]/\eN.R h O [.int .i64 k,.string (bs t),.slice a n c] x:=by
  obtain⟨cs,rfl,q⟩:=q;cases x with
  |mk k t l =>
    obtain⟨w,rfl,q2⟩:=kO q;obtain⟨a,n,c,rfl,_⟩:=q2.open;exact⟨k,t,a,n,c,rfl,q⟩
theorem eF.of (q:eN.R h O cs x):eF h O (.agg cs.toArray) x:=⟨cs,rfl,q⟩
theorem eF.ext {h':ai}{M O':Nat->Prop}(q:eF h O v x) (e:Ext M h h') (hm:∀b,b<h.size->¬O b->¬M b/\¬O' b):eF h' O' v x:=q.mv (Mv.cx e hm)
theorem bK {h':ai}{M O':Nat->Prop}(q:eN.R h O cs x) (e:Ext M h h') (hm:∀b,b<h.size->¬O b->¬M b/\¬O' b):eN.R h' O' cs x:=eN.mv q (Mv.cx e hm)
theorem lR {T:TypeId}(q:eN.R h O cs x) (ho:¬O h.size):aT eN (h.push (.cells cs.toArray T)) O (.slice (some ⟨h.size,0,none⟩) 1 1) [x]:=aT.pG q ho
theorem vL {c1 c2:List Value}{y:Tr}{T:TypeId}(q1:eN.R h O c1 x) (q2:eN.R h O c2 y){base:Nat}(hb:base<=h.size):cH eN O (h.push (.cells (c1++c2).toArray T)) base T (.slice (some ⟨h.size,0,none⟩) 2 2) [x,y]:=by
  have:=cH.OH (e:=eN) (O:=O) (h:=h) (css:=[c1,c2]) (xs:=[x,y]) (t:=T) (base:=base) (n:=2) rfl (fun i cs z h1 h2=>by
    match i with
    | 0=>simp at h1 h2;subst h1 h2;exact q1
    | 1=>simp at h1 h2;subst h1 h2;exact q2
    |i+2=>simp at h1) hb rfl (by decide)
  simpa using this
end
end Go.Proofs.YtoickfdopobmgaaGreatDoor
namespace Go.Proofs.YtoickfdopobmgaaGreatDoor
open Go.Proofs.Tryz
open Go Go.Lw
set_option maxRecDepth 20000 set_option maxHeartbeats 4000000
section
variable {n b3:Nat}{h g:ai}{O:Nat->Prop}{v:Value}{ts:List By}{T:TypeId}{eU:fQ Un}{s s' s1:PS}{t:Tr}{e k:Int}
theorem bB (h:ai) (ts:List By) (T:TypeId) (hn:ts.length=n) (hm:n<=maxLen){us:List Value}(hu:us=ts.map encS):aT oe (h.push (.cells us.toArray T)) (fun _=>False) (.slice (some ⟨h.size,0,none⟩) n n) ts :=
 bN.read (h1:=fun _=>rfl) (ku encS h T ts n hn hm 0 (Nat.zero_le _) hu) (fun _ _ k=>k)
theorem AY (hv:aT oe h O v ts) (s:By) :
 aq Tryz.prog 124 #[v,.string (bs s)] h (bw fun r h'=>(∃i:Int,r= .int .i64 i/\decide (0<=i)=decide (s∈ts))/\h'=h):=by
 obtain⟨va,vn,vc,rfl,hvs⟩:=hv.open;have hvl:ts.length=vn:=hvs.len;subst hvl;have hvm:=hvs.cap;have hvc:=hvs.le;simp only[maxLen] at hvm;refine bL ?_;refine af ?_;refine gY (σ:=Nat) (fun i=>[(8,.int .i64 (i:Nat))]) (fun i h'=>h'=h/\i<=ts.length/\s∉ts.take i) (fun i=>ts.length-i) (0) ⟨rfl,Nat.zero_le _,by simp⟩ rfl ?_;rintro i g ⟨rfl,hi,hin⟩ ih;refine af ?_;refine aR (fun hlt=>?_) (fun hlt=>?_)
 · have hil:i<ts.length:=by omega
   obtain⟨b,o,x,ha,_,hx,hc⟩:=hvs.at hil
   iterate 4 refine aX ?_
   refine cD ?_
   iterate 2 refine aW ?_
   refine cX ?_;refine aX ?_;refine cD ?_
   iterate 3 refine aW ?_
   refine xp rfl (cz rfl rfl i rfl ha) ?_;refine xp rfl (aA rfl hc) ?_;refine af ?_;refine aR (fun he=>?_) (fun he=>?_)
   · have he:s=x:=bl he;refine af ?_;refine bp ?_;exact⟨_,rfl,⟨i,rfl,by rw[decide_eq_true (by omega),decide_eq_true (by rw[he];exact List.mem_of_getElem? hx)]⟩,rfl⟩
   · refine af ?_;exact ih (i+1) ⟨rfl,by omega,by rw[List.take_add_one,hx,List.mem_append,not_or];exact⟨hin,by simpa using fun q=>he (by rw[q])⟩⟩
 · refine af ?_;refine bp ?_;have hil:i=ts.length:=by omega
   rw[hil,List.take_length] at hin;exact⟨_,rfl,⟨-1,rfl,by rw[decide_eq_false hin];rfl⟩,rfl⟩
theorem qj (hv:aT oe h O v ts) (s:By) :
 aq Tryz.prog 74 #[v,.string (bs s)] h (bw fun r h'=>r= .bool (decide (s∈ts))/\h'=h):=by
 refine bL ?_;refine af ?_;refine xo rfl (aE rfl (AY hv s)) ?_;rintro _ h ⟨⟨i,rfl,hi⟩,rfl⟩;refine af ?_;refine bp ?_;exact⟨_,rfl,by rw[hi];rfl,rfl⟩
def sx (u:Un):List Value:=[.int .i64 u.1,.string (bs u.2.1),.int .i64 u.2.2]
theorem Ah (u:Un):∀v∈sx u,v.oneCell'=true:=fun v hv=>by simp[sx] at hv;rcases hv with rfl|rfl|rfl<;>rfl
abbrev Rm:fQ Un:=.record 3 (by decide) sx (fun _=>rfl) Ah
def Rq (us:List Un) (i:Nat) (b:Bool) (m:Int):PS->Prop
 |.ok r=>b=false/\r=us.drop i
 |.bad k=>b=true/\m=k
structure PC where
 pb:Nat
 lv:Value
 n0:Nat
 us:List Un
 e:Int
def EV (T:TypeId) (eU:fQ Un) (c:PC) (h:ai) (s:PS):Prop :=
 ∃i b m,aD h c.pb T [c.lv,.int .i64 (i:Nat),.int .i64 c.e,.bool b,.int .i64 m]/\aT eU h (fun x=>x=c.pb\/c.n0<=x) c.lv c.us/\i<=c.us.length/\Rq c.us i b m s/\c.pb<c.n0/\c.n0<=h.size/\c.us.length<=1000
theorem EV.ext {T:TypeId}{eU:fQ Un}{c:PC}{h h':ai}{s:PS}{M:Nat->Prop}(k:EV T eU c h s) (x:Ext M h h') (hM:∀b,b<c.n0->¬M b):EV T eU c h' s:=by
 obtain⟨i,b,m,hk,hl,hi,hs,hp,hn⟩:=k;exact⟨i,b,m,hk.ext x (hM _ hp),hl.mv (Mv.cx x fun b _ ho=>⟨hM b (by omega),ho⟩),hi,hs,hp,Nat.le_trans hn.1 x.size,hn.2⟩
theorem EV.ah {c:PC}{h':ai}(k:EV T eU c h s) (x:aj h h'):EV T eU c h' s:=k.ext x (fun _ _ k=>k)
theorem EV.lt {T:TypeId}{eU:fQ Un}{c:PC}{h:ai}{s:PS}(k:EV T eU c h s):c.pb<h.size:=by
 obtain⟨i,b,m,hk,_⟩:=k;exact hk.lt
theorem EV.old {c:PC}(k:EV T eU c h s):c.pb<c.n0/\c.n0<=h.size:=by
 obtain⟨i,b,m,_,_,_,_,h1,h2⟩:=k;exact⟨h1,h2.1⟩
theorem EV.short {c:PC}(k:EV T eU c h s):c.us.length<=1000/\s.len<=c.us.length:=by
 obtain⟨i,b,m,_,_,_,hs,_,h2⟩:=k;refine⟨h2.2,?_⟩;cases s with
 |bad q=>exact Nat.zero_le _
 |ok r=>obtain⟨_,rfl⟩:=hs;simp[PS.len]
abbrev rO:=EV 95 Rm
theorem HP {oa:Option Addr}{c:Nat}{us:List Un}{i:Nat}{u:Un}{r:List Un}(_:Sl eU h O oa n c us) (hi:u::r=us.drop i):us[i]? =some u/\i<us.length/\r=us.drop (i+1):=by
 have h0:(us.drop i)[0]? =some u:=by rw[<-hi];rfl
 rw[List.getElem?_drop,Nat.add_zero] at h0;refine⟨h0,(List.getElem?_eq_some_iff.1 h0).1,?_⟩;rw[<-List.tail_drop,<-hi];rfl
theorem DJ {us:List Un}{i:Nat}(hi:[]=us.drop i) (hl:i<=us.length):i=us.length:=by
 have:=List.drop_eq_nil_iff.1 hi.symm;omega
abbrev ptr (b:Nat):Value:=.pointer (some ⟨b,0,none⟩)
abbrev Sc (o:Option By):Value:=packed [.string (bs (o.getD [])),.bool o.isSome]
theorem bA {c:PC}(hp:rO c h s) (k:Int){tv:Value}(ht:aT oe h O tv ts) :
 aq Tryz.prog 38 #[ptr c.pb,.int .i64 k,tv] h (bw fun r h'=>r=Sc (bW k ts s).1/\rO c h' (bW k ts s).2/\Ext (fun b=>b=c.pb) h h'):=by
 obtain⟨pb,lv,n0,us,e⟩:=c;obtain⟨i,b,m,hk,hl,hi,hs,hpn,hn0⟩:=id hp;dsimp only at hk hl hi hs hpn hn0 ⊢;obtain⟨la,ln,lc,rfl,hls⟩:=hl.open;have hln:us.length=ln:=hls.len;subst hln;have hlm:=hls.cap;have hlc:=hls.le;simp only[maxLen] at hlm;cases s with
 |bad q =>
  obtain⟨rfl,rfl⟩:=hs;refine bL ?_;refine aX ?_;refine cD ?_
  iterate 2 refine aW ?_
  refine cX ?_
  iterate 2 refine aX ?_
  refine F4 ?_
  iterate 3 refine ud ?_
  refine cG rfl (aA rfl (hk.cell (i:=3) rfl)) ?_;refine ud ?_;refine RQ.cV (d:=12) (b':=true) rfl (rfl) ?_;refine af ?_;refine fF rfl (by simp) ?_;refine af ?_;refine bp ?_;exact⟨_,rfl,rfl,hp,Ext.refl _ _⟩
  |ok r =>
  obtain⟨rfl,hr⟩:=hs;cases r with
  |nil =>
   have hie:=DJ hr hi;refine bL ?_;refine aX ?_;refine cD ?_
   iterate 2 refine aW ?_
   refine cX ?_
   iterate 2 refine aX ?_
   refine F4 ?_;refine af ?_;refine cG rfl (aA rfl (hk.cell (i:=3) rfl)) ?_;refine af ?_;refine RQ.cV (d:=12) (b':=false) rfl (rfl) ?_;refine af ?_;refine cG rfl (aA rfl (hk.cell (i:=1) rfl)) ?_;refine af ?_;refine cG rfl (aA rfl (hk.cell (i:=0) rfl)) ?_;refine af ?_;refine RQ.cV (d:=24) (b':=true) rfl (decide_eq_true ((by omega))) ?_;refine af ?_;refine fF rfl (by simp) ?_;refine af ?_;refine bp ?_;exact⟨_,rfl,rfl,hp,Ext.refl _ _⟩
   |cons u r =>
   obtain⟨hu,hil,hr'⟩:=HP hls hr;obtain⟨b1,o1,u',hua,hub,hu',hrow⟩:=hls.uj hil;rw[hu] at hu';cases hu';have c0:=hrow 0 _ rfl;have c1:=hrow 1 _ rfl;refine bL ?_;refine aX ?_;refine cD ?_
   iterate 2 refine aW ?_
   refine cX ?_
   iterate 2 refine aX ?_
   refine F4 ?_;refine af ?_;refine cG rfl (aA rfl (hk.cell (i:=3) rfl)) ?_;refine af ?_;refine RQ.cV (d:=12) (b':=false) rfl (rfl) ?_;refine af ?_;refine cG rfl (aA rfl (hk.cell (i:=1) rfl)) ?_;refine af ?_;refine cG rfl (aA rfl (hk.cell (i:=0) rfl)) ?_;refine af ?_;refine RQ.cV (d:=24) (b':=false) rfl (decide_eq_false ((by omega))) ?_;refine af ?_;refine cG rfl (aA rfl (hk.cell (i:=0) rfl)) ?_;refine af ?_;refine cG rfl (aA rfl (hk.cell (i:=1) rfl)) ?_;refine cG rfl (cz rfl rfl i rfl hua) ?_;refine af ?_;refine cG rfl (aA rfl c0) ?_;refine af ?_;refine Rv 39 (fun hkk=>?_) (fun hkk=>?_)
   · have hkk:=of_decide_eq_true hkk;refine af ?_;refine fF rfl (by simp[hkk]) ?_;refine af ?_;refine bp ?_;have hno:bW k ts (.ok (u::r))=(none,.ok (u::r)):=by rw[jY,if_neg (fun q=>hkk (by rw[q.1]))]
     exact⟨_,rfl,by rw[hno];rfl,by rw[hno];exact hp,Ext.refl _ _⟩
   · have hkk:=of_decide_eq_false hkk;have hkk:u.1=k:=by simpa using hkk
     refine af ?_;refine cG rfl (aA rfl (hk.cell (i:=0) rfl)) ?_;refine af ?_;refine cG rfl (aA rfl (hk.cell (i:=1) rfl)) ?_;refine cG rfl (cz rfl rfl i rfl hua) ?_;refine af ?_;refine cG rfl (aA rfl c1) ?_;refine Q6 (qj ht u.2.1) ?_;refine af ?_;refine iM (fun hin=>?_) (fun hin=>?_)
     · have hin:u.2.1∉ts:=by simpa using hin
       refine af ?_;refine bp ?_;have hno:bW k ts (.ok (u::r))=(none,.ok (u::r)):=by rw[jY,if_neg (fun q=>hin q.2)]
       exact⟨_,rfl,by rw[hno];rfl,by rw[hno];exact hp,Ext.refl _ _⟩
     · have hin:u.2.1∈ts:=by simpa using hin
       refine af ?_;refine xp rfl (aA rfl (hk.cell (i:=1) rfl)) ?_;refine af ?_;refine aM rfl (mj rfl rfl hk) ?_;rintro _ h1 ⟨rfl,k1,x1,z1⟩;refine af ?_;have hls1:=hls.mv (Mv.cx x1 fun b _ ho=>⟨fun q=>ho (.inl q),ho⟩);obtain⟨b2,o2,u2,hua2,hub2,hu2,hrow2⟩:=hls1.uj hil;rw[hu] at hu2;cases hu2;refine cG rfl (aA rfl (k1.cell (i:=0) rfl)) ?_;refine af ?_;refine cG rfl (aA rfl (k1.cell (i:=1) rfl)) ?_;refine ud ?_;refine cG rfl (cz rfl rfl i (by omega) hua2) ?_;refine af ?_;refine cG rfl (aA rfl (hrow2 1 _ rfl)) ?_;refine af ?_;refine bp ?_;have hyes:bW k ts (.ok (u::r))=(some u.2.1,.ok r):=by rw[jY,if_pos ⟨hkk,hin⟩]
       refine⟨_,rfl,by rw[hyes];rfl,?_,x1⟩;rw[hyes];exact⟨i+1,false,m,k1,hls1.shut,hil,⟨rfl,hr'⟩,hpn,by have:=x1.size;dsimp only;omega⟩
abbrev Rj:Value:=.agg #[.int .i64 0,.string (bs []),.slice none 0 0]
theorem eu {c:PC}(hp:rO c h s) :
 aq Tryz.prog 39 #[ptr c.pb] h (bw fun r h'=>r=Rj/\rO c h' (cI c.e s)/\Ext (fun b=>b=c.pb) h h'):=by
 obtain⟨pb,lv,n0,us,e⟩:=c;obtain⟨i,b,m,hk,hl,hi,hs,hpn,hn0⟩:=id hp;dsimp only at hk hl hi hs hpn hn0 ⊢;obtain⟨la,ln,lc,rfl,hls⟩:=hl.open;have hln:us.length=ln:=hls.len;subst hln;have hlm:=hls.cap;have hlc:=hls.le;simp only[maxLen] at hlm;have hpl:=hk.lt;cases s with
 |bad q =>
  obtain⟨rfl,rfl⟩:=hs;refine bL ?_;refine af ?_;refine xo rfl (cO) ?_;rintro _ h1 ⟨rfl,k1,e1,z1⟩;refine af ?_;refine xp rfl (aA rfl ((hk.ah e1).cell (i:=3) rfl)) ?_;refine af ?_;refine fe rfl (by simp) ?_;refine af ?_;refine xp rfl (av (H.J6 ) rfl) ?_;refine aM rfl (aY rfl rfl k1) ?_;rintro _ h2 ⟨rfl,k2,x2,z2⟩;refine af ?_;refine ct (cj rfl k2.row cq) ?_;exact⟨_,rfl,rfl,(hp.ah e1).ext x2 (fun y (hy:y<n0) q=>by omega),e1.of.bH x2 (fun y _ q=>by omega)⟩
  |ok r =>
  obtain⟨rfl,hr⟩:=hs;refine bL ?_;refine af ?_;refine xo rfl (cO) ?_;rintro _ h1 ⟨rfl,k1,e1,z1⟩;refine af ?_;refine xp rfl (aA rfl ((hk.ah e1).cell (i:=3) rfl)) ?_;refine af ?_;have hk1:=hk.ah e1;refine fF rfl (by simp) ?_;refine af ?_;refine xp rfl (aA rfl (hk1.cell (i:=2) rfl)) ?_;refine af ?_;refine aM rfl (mj rfl rfl hk1) ?_;rintro _ h2 ⟨rfl,k2,x2,z2⟩;refine af ?_;refine aM rfl (mj rfl rfl k2) ?_;rintro _ h3 ⟨rfl,k3,x3,z3⟩;refine af ?_;have x13:=x2.trans x3;have hls3:=(hls.mv (Mv.ah e1)).mv (Mv.cx x13 fun b _ ho=>⟨fun q=>ho (.inl q),ho⟩);have k13:=k1.ext x13 (show ¬h.size=pb by omega);refine cG rfl (aA rfl (k3.cell (i:=1) rfl)) ?_;refine af ?_;refine cG rfl (aA rfl (k3.cell (i:=0) rfl)) ?_;refine af ?_;refine aR (fun hlt=>?_) (fun hlt=>?_)
  · have hil:i<us.length:=by omega
    obtain⟨b1,o1,u,hua,hub,hu,hrow⟩:=hls3.uj hil;refine LR 15 14 ?_;refine aI 0 ?_;refine aI 1 ?_;refine aI 2 ?_;refine aI 3 ?_;refine bI 4 rfl (fun h' e=>aA rfl (e.old (k3.cell (i:=0) rfl))) ?_;refine aI 5 ?_;refine aI 6 ?_;refine aI 7 ?_;refine bI 8 rfl (fun h' e=>aA rfl (e.old (k3.cell (i:=1) rfl))) ?_;refine bI 9 rfl (fun h' e=>cz rfl rfl i rfl hua) ?_;refine aI 10 ?_;refine bI 11 rfl (fun h' e=>aA rfl (e.old (hrow 2 _ rfl))) ?_;refine LS 12 ?_;refine aI 13 ?_;refine kX 14 rfl (mj rfl rfl k3) ?_;rintro _ h4 ⟨rfl,k4,x4,z4⟩;refine⟨nofun,?_⟩;refine iT ?_;refine af ?_;refine xp rfl (av (H.J6 ) rfl) ?_;refine aM rfl (aY rfl rfl ((k13.ext x4 (show ¬h.size=pb by omega)))) ?_;rintro _ h5 ⟨rfl,k5,x5,z5⟩;refine af ?_;refine ct (cj rfl k5.row cq) ?_;have hr2:r=u::us.drop (i+1):=by rw[hr,List.drop_eq_getElem_cons hil];congr 1;rw[List.getElem?_eq_getElem hil] at hu;exact Option.some.inj hu
    subst hr2;have hls4:=hls3.mv (Mv.cx x4 fun b _ ho=>⟨fun q=>ho (.inl q),ho⟩);refine⟨_,rfl,rfl,EV.ext (c:=⟨pb,_,n0,us,e⟩) (M:=fun b=>b=h.size) ⟨i,true,u.2.2,k4,hls4.shut,hi,⟨rfl,rfl⟩,hpn,by dsimp only;omega⟩ x5 (fun y (hy:y<n0) q=>by omega),((e1.of.trans x13).trans x4).bH x5 (fun y _ q=>by omega)⟩
  · refine af ?_;refine xp rfl (av (H.J6 ) rfl) ?_;refine aM rfl (aY rfl rfl k13) ?_;rintro _ h5 ⟨rfl,k5,x5,z5⟩;refine af ?_;refine ct (cj rfl k5.row cq) ?_;have hil:i=us.length:=by omega
    have hr2:r=[]:=by rw[hr,hil,List.drop_length]
    subst hr2;refine⟨_,rfl,rfl,EV.ext (c:=⟨pb,_,n0,us,e⟩) (M:=fun b=>b=h.size) ⟨i,true,e,k3,hls3.shut,hi,⟨rfl,rfl⟩,hpn,by dsimp only;omega⟩ x5 (fun y (hy:y<n0) q=>by omega),(e1.of.trans x13).bH x5 (fun y _ q=>by omega)⟩
theorem gD {c:PC}(hp:rO c h s) (k:Int) (t:By) :
 aq Tryz.prog 120 #[ptr c.pb,.int .i64 k,.string (bs t)] h (bw fun r h'=>rO c h' (cC c.e k t s)/\Ext (fun b=>b=c.pb) h h'):=by
 have hpl:=hp.lt;refine bL ?_;refine af ?_;refine xo rfl (iL [_]) ?_;rintro _ h1 ⟨rfl,hh1⟩;have e1:aj h h1:=by rw[hh1];exact Ext.push _ _ _
 have ht1:aT oe h1 (fun _=>False) (.slice (some ⟨h.size,0,none⟩) 1 1) [t]:=by rw[hh1];exact bB h [t] _ rfl (by simp[maxLen]) rfl
 refine xo rfl (aE rfl (bA (hp.ah e1) k ht1)) ?_;rintro _ h2 ⟨rfl,hp2,x2⟩;refine af ?_;refine iM (fun hq=>?_) (fun hq=>?_)
 · have hq:(bW k [t] s).1=none:=by simpa using hq
   have hm:cC c.e k t s=cI c.e (bW k [t] s).2:=by unfold cC;rw[hq]
   refine af ?_;refine xo rfl (aE rfl (eu hp2)) ?_;rintro _ h3 ⟨rfl,hp3,x3⟩;refine af ?_;refine Hz ?_;exact⟨_,rfl,by rw[hm];exact hp3,e1.of.trans (x2.trans x3)⟩
 · refine af ?_;refine Hz ?_
   have hm:cC c.e k t s=(bW k [t] s).2:=by
    unfold cC;cases hs:(bW k [t] s).1 with
    |some x=>rfl
    |none=>rw[hs] at hq;simp at hq
   exact⟨_,rfl,by rw[hm];exact hp2,e1.of.trans x2⟩
theorem sV {c:PC}(hp:rO c h s) :
 aq Tryz.prog 119 #[ptr c.pb] h (bw fun r h'=>r= .string (bs (cF c.e s).1)/\rO c h' (cF c.e s).2/\Ext (fun b=>b=c.pb) h h'):=by
 obtain⟨pb,lv,n0,us,e⟩:=c;obtain⟨i,b,m,hk,hl,hi,hs,hpn,hn0⟩:=id hp;dsimp only at hk hl hi hs hpn hn0 ⊢;obtain⟨la,ln,lc,rfl,hls⟩:=hl.open;have hln:us.length=ln:=hls.len;subst hln;have hlm:=hls.cap;have hlc:=hls.le;simp only[maxLen] at hlm;have hf:=eu hp;dsimp only at hf;cases s with
 |bad q =>
  obtain⟨rfl,rfl⟩:=hs;refine bL ?_;refine aX ?_;refine cD ?_;refine aW ?_;refine cX ?_
  iterate 2 refine aX ?_
  refine F4 ?_
  iterate 3 refine ud ?_
  refine cG rfl (aA rfl (hk.cell (i:=3) rfl)) ?_;refine ud ?_;refine RQ.cV (d:=7) (b':=true) rfl (rfl) ?_;refine af ?_;refine fF rfl (by simp) ?_;refine af ?_;refine xo rfl (aE rfl hf) ?_;rintro _ h2 ⟨rfl,hp2,x2⟩;refine af ?_;refine bp ?_;exact⟨_,rfl,rfl,hp2,x2⟩
  |ok r =>
  obtain⟨rfl,hr⟩:=hs;cases r with
  |nil =>
   have hie:=DJ hr hi;refine bL ?_;refine aX ?_;refine cD ?_;refine aW ?_;refine cX ?_
   iterate 2 refine aX ?_
   refine F4 ?_
   iterate 3 refine ud ?_
   refine cG rfl (aA rfl (hk.cell (i:=3) rfl)) ?_;refine af ?_;refine RQ.cV (d:=7) (b':=false) rfl (rfl) ?_;refine af ?_;refine cG rfl (aA rfl (hk.cell (i:=1) rfl)) ?_;refine af ?_;refine cG rfl (aA rfl (hk.cell (i:=0) rfl)) ?_;refine af ?_;refine RQ.cV (d:=19) (b':=true) rfl (decide_eq_true ((by omega))) ?_;refine af ?_;refine fF rfl (by simp) ?_;refine af ?_;refine xo rfl (aE rfl hf) ?_;rintro _ h2 ⟨rfl,hp2,x2⟩;refine af ?_;refine bp ?_;exact⟨_,rfl,rfl,hp2,x2⟩
   |cons u r =>
   obtain⟨hu,hil,hr'⟩:=HP hls hr;obtain⟨b1,o1,u',hua,hub,hu',hrow⟩:=hls.uj hil;rw[hu] at hu';cases hu';have c0:=hrow 0 _ rfl;refine bL ?_;refine aX ?_;refine cD ?_;refine aW ?_;refine cX ?_
   iterate 2 refine aX ?_
   refine F4 ?_
   iterate 3 refine ud ?_
   refine cG rfl (aA rfl (hk.cell (i:=3) rfl)) ?_;refine af ?_;refine RQ.cV (d:=7) (b':=false) rfl (rfl) ?_;refine af ?_;refine cG rfl (aA rfl (hk.cell (i:=1) rfl)) ?_;refine af ?_;refine cG rfl (aA rfl (hk.cell (i:=0) rfl)) ?_;refine af ?_;refine RQ.cV (d:=19) (b':=false) rfl (decide_eq_false ((by omega))) ?_;refine af ?_;refine cG rfl (aA rfl (hk.cell (i:=0) rfl)) ?_;refine af ?_;refine cG rfl (aA rfl (hk.cell (i:=1) rfl)) ?_;refine cG rfl (cz rfl rfl i rfl hua) ?_;refine af ?_;refine cG rfl (aA rfl c0) ?_;refine af ?_;refine iM (fun hkk=>?_) (fun hkk=>?_)
   · have hkk:¬u.1=3:=by simpa using hkk
     refine af ?_;refine xo rfl (aE rfl hf) ?_;rintro _ h2 ⟨rfl,hp2,x2⟩;refine af ?_;refine bp ?_;have hno:cF e (.ok (u::r))=([],cI e (.ok (u::r))):=by rw[jS,if_neg hkk]
     rw[hno];exact⟨_,rfl,rfl,hp2,x2⟩
   · have hkk:u.1=3:=by simpa using hkk
     refine af ?_;refine xp rfl (aA rfl (hk.cell (i:=1) rfl)) ?_;refine af ?_;refine aM rfl (mj rfl rfl hk) ?_;rintro _ h1 ⟨rfl,k1,x1,z1⟩;refine af ?_;have hls1:=hls.mv (Mv.cx x1 fun b _ ho=>⟨fun q=>ho (.inl q),ho⟩);obtain⟨b2,o2,u2,hua2,hub2,hu2,hrow2⟩:=hls1.uj hil;rw[hu] at hu2;cases hu2;refine cG rfl (aA rfl (k1.cell (i:=0) rfl)) ?_;refine af ?_;refine cG rfl (aA rfl (k1.cell (i:=1) rfl)) ?_;refine ud ?_;refine cG rfl (cz rfl rfl i (by omega) hua2) ?_;refine af ?_;refine cG rfl (aA rfl (hrow2 1 _ rfl)) ?_;refine af ?_;refine bp ?_;have hyes:cF e (.ok (u::r))=(u.2.1,.ok r):=by rw[jS,if_pos hkk]
     rw[hyes];exact⟨_,rfl,rfl,⟨i+1,false,m,k1,hls1.shut,hil,⟨rfl,hr'⟩,hpn,by have:=x1.size;dsimp only;omega⟩,x1⟩
def dW (c:PC) (h h':ai) (s':PS) (t:Tr) (r:Value):Prop :=
 Ext (fun b=>b=c.pb) h h'/\rO c h' s'/\∃t',eF h' (fun b=>b<h.size) r t'/\(s'.cm=false->t'=t)
def Ct (f:FuncId) (ex:List Value) (j:Dp) (n:Nat):Prop :=
 ∀(c:PC) (h:ai) (s:PS) (t:Tr) (s':PS),rO c h s->pM c.e n j s=some (t,s')->aq Tryz.prog f (ptr c.pb::ex).toArray h (bw fun r h'=>dW c h h' s' t r)
structure BD (n:Nat):Prop where
 stmt:Ct 37 [] .stmt n
 expr:Ct 73 [] .expr n
 lt:∀a,Ct 72 [.bool a] (.lt a) n
 choice:Ct 121 [] .choice n
 fn:Ct 122 [] .fn n
 block:Ct 156 [] .block n
 p0:Ct 123 [] (.part 0) n
 p1:Ct 157 [] (.part 1) n
 p2:Ct 175 [] (.part 2) n
 p3:Ct 193 [] (.part 3) n
 p4:Ct 202 [] (.part 4) n
 p5:Ct 211 [] (.part 5) n
 p6:Ct 214 [] (.part 6) n
 p7:Ct 216 [] (.part 7) n
 atom:Ct 218 [] .atom n
theorem dW.ret {c:PC}{g2 g3:ai}{b2:Nat}{s0:PS}{r:Value}(k:dW c g g2 s' t r) (hp:rO c h s0) (x:Ext (fun b=>b=c.pb) h g) (x3:Ext (fun b=>b=b2) g2 g3) (h1:h.size<=b2) (h2:b2<g.size):dW c h g3 s' t r:=by
 obtain⟨e1,k1,t',k2,k3⟩:=k;obtain⟨o1,o2⟩:=hp.old;have:=x.size;have:=e1.size;exact⟨(x.trans e1).bH x3 (fun i hi q=>by omega),k1.ext x3 (fun b hb q=>by omega),t',k2.ext x3 (fun b hb q=>⟨fun q2=>q (by omega),fun q2=>q (by omega)⟩),k3⟩
theorem BF (ih:∀m,m<=n->BD m):Ct 37 [] .stmt (n+1):=by
 intro c h s t s' hp hm;have hpl:=hp.lt;rw[pM] at hm;refine bL ?_;refine af ?_;refine xo rfl (cO) ?_;rintro _ h1 ⟨rfl,k1,e1,z1⟩;refine af ?_;refine xo rfl (iL [_]) ?_;rintro _ w2 ⟨rfl,hw2⟩;have y2:aj h1 w2:=by rw[hw2];exact Ext.push _ _ _
 have ts2:aT oe w2 (fun _=>False) (.slice (some ⟨Array.size h1,0,none⟩) 1 1) [kZ]:=by rw[hw2];exact bB _ [kZ] _ rfl (by simp[maxLen]) rfl
 refine xo rfl (aE rfl (bA ((hp.ah e1).ah y2) 4 ts2)) ?_;rintro _ h2 ⟨rfl,hp2,x2⟩;have x2:=y2.of.trans x2
 rcases hq2:bW 4 [kZ] s with ⟨o2,s2⟩
 rw[hq2] at hp2 hm;have k2:=k1.ext x2 (show ¬h.size=c.pb by omega);have x02:=e1.of.trans x2
 rcases o2 with _|v2
 · simp only at hm;refine af ?_;refine fe rfl (by simp) ?_;refine af ?_;refine xo rfl (aE rfl ((ih n (Nat.le_refl _)).expr _ _ _ _ _ hp2 hm)) ?_;rintro r9 g9 ⟨y9,hp9,t9,hn9,ht9⟩;have k9:=(k2).ext y9 (show ¬h.size=c.pb by omega);obtain⟨nk,nt,na,nn,nc,rfl,_⟩:=hn9.get;refine aM rfl (aY rfl rfl k9) ?_;rintro _ g10 ⟨rfl,k10,x10,z10⟩;refine af ?_;refine ct (cj rfl k10.row cq) ?_;exact⟨_,rfl,dW.ret ⟨y9,hp9,t9,hn9,ht9⟩ hp (x02) x10 (Nat.le_refl _) (k2).lt⟩
 · simp only at hm;refine af ?_;refine fF rfl (by simp) ?_;refine af ?_;refine xo rfl (aE rfl ((ih n (Nat.le_refl _)).lt true _ _ _ _ _ hp2 hm)) ?_;rintro r9 g9 ⟨y9,hp9,t9,hn9,ht9⟩;have k9:=(k2).ext y9 (show ¬h.size=c.pb by omega);obtain⟨nk,nt,na,nn,nc,rfl,_⟩:=hn9.get;refine aM rfl (aY rfl rfl k9) ?_;rintro _ g10 ⟨rfl,k10,x10,z10⟩;refine af ?_;refine ct (cj rfl k10.row cq) ?_;exact⟨_,rfl,dW.ret ⟨y9,hp9,t9,hn9,ht9⟩ hp (x02) x10 (Nat.le_refl _) (k2).lt⟩
theorem BG (ih:∀m,m<=n->BD m):Ct 73 [] .expr (n+1):=by
 intro c h s t s' hp hm;have hpl:=hp.lt;rw[pM] at hm;refine bL ?_;refine af ?_;refine xo rfl (cO) ?_;rintro _ h1 ⟨rfl,k1,e1,z1⟩;refine af ?_;refine xo rfl (iL [_]) ?_;rintro _ w2 ⟨rfl,hw2⟩;have y2:aj h1 w2:=by rw[hw2];exact Ext.push _ _ _
 have ts2:aT oe w2 (fun _=>False) (.slice (some ⟨Array.size h1,0,none⟩) 1 1) [kZ]:=by rw[hw2];exact bB _ [kZ] _ rfl (by simp[maxLen]) rfl
 refine xo rfl (aE rfl (bA ((hp.ah e1).ah y2) 4 ts2)) ?_;rintro _ h2 ⟨rfl,hp2,x2⟩;have x2:=y2.of.trans x2
 rcases hq2:bW 4 [kZ] s with ⟨o2,s2⟩
 rw[hq2] at hp2 hm;have k2:=k1.ext x2 (show ¬h.size=c.pb by omega);have x02:=e1.of.trans x2
 rcases o2 with _|v2
 · simp only at hm;refine af ?_;refine fe rfl (by simp) ?_;refine af ?_;refine xo rfl (iL [_]) ?_;rintro _ w3 ⟨rfl,hw3⟩;have y3:aj h2 w3:=by rw[hw3];exact Ext.push _ _ _
   have ts3:aT oe w3 (fun _=>False) (.slice (some ⟨Array.size h2,0,none⟩) 1 1) [Ai]:=by rw[hw3];exact bB _ [Ai] _ rfl (by simp[maxLen]) rfl
   refine xo rfl (aE rfl (bA (hp2.ah y3) 4 ts3)) ?_;rintro _ h3 ⟨rfl,hp3,x3⟩;have x3:=y3.of.trans x3
   rcases hq3:bW 4 [Ai] s2 with ⟨o3,s3⟩
   rw[hq3] at hp3 hm;have k3:=k2.ext x3 (show ¬h.size=c.pb by omega);have x03:=x02.trans x3
   rcases o3 with _|v3
   · simp only at hm;refine af ?_;refine fe rfl (by simp) ?_;refine af ?_;refine xo rfl (iL [_]) ?_;rintro _ w4 ⟨rfl,hw4⟩;have y4:aj h3 w4:=by rw[hw4];exact Ext.push _ _ _
     have ts4:aT oe w4 (fun _=>False) (.slice (some ⟨Array.size h3,0,none⟩) 1 1) [uQ]:=by rw[hw4];exact bB _ [uQ] _ rfl (by simp[maxLen]) rfl
     refine xo rfl (aE rfl (bA (hp3.ah y4) 4 ts4)) ?_;rintro _ h4 ⟨rfl,hp4,x4⟩;have x4:=y4.of.trans x4
     rcases hq4:bW 4 [uQ] s3 with ⟨o4,s4⟩
     rw[hq4] at hp4 hm;have k4:=k3.ext x4 (show ¬h.size=c.pb by omega);have x04:=x03.trans x4
     rcases o4 with _|v4
     · simp only at hm;refine af ?_;refine fe rfl (by simp) ?_;refine af ?_;refine xo rfl (aE rfl ((ih n (Nat.le_refl _)).p0 _ _ _ _ _ hp4 hm)) ?_;rintro r9 g9 ⟨y9,hp9,t9,hn9,ht9⟩;have k9:=(k4).ext y9 (show ¬h.size=c.pb by omega);obtain⟨nk,nt,na,nn,nc,rfl,_⟩:=hn9.get;refine aM rfl (aY rfl rfl k9) ?_;rintro _ g10 ⟨rfl,k10,x10,z10⟩;refine af ?_;refine ct (cj rfl k10.row cq) ?_;exact⟨_,rfl,dW.ret ⟨y9,hp9,t9,hn9,ht9⟩ hp (x04) x10 (Nat.le_refl _) (k4).lt⟩
     · simp only at hm;refine af ?_;refine fF rfl (by simp) ?_;refine af ?_;refine xo rfl (aE rfl ((ih n (Nat.le_refl _)).fn _ _ _ _ _ hp4 hm)) ?_;rintro r9 g9 ⟨y9,hp9,t9,hn9,ht9⟩;have k9:=(k4).ext y9 (show ¬h.size=c.pb by omega);obtain⟨nk,nt,na,nn,nc,rfl,_⟩:=hn9.get;refine aM rfl (aY rfl rfl k9) ?_;rintro _ g10 ⟨rfl,k10,x10,z10⟩;refine af ?_;refine ct (cj rfl k10.row cq) ?_;exact⟨_,rfl,dW.ret ⟨y9,hp9,t9,hn9,ht9⟩ hp (x04) x10 (Nat.le_refl _) (k4).lt⟩
   · simp only at hm;refine af ?_;refine fF rfl (by simp) ?_;refine af ?_;refine xo rfl (aE rfl ((ih n (Nat.le_refl _)).choice _ _ _ _ _ hp3 hm)) ?_;rintro r9 g9 ⟨y9,hp9,t9,hn9,ht9⟩;have k9:=(k3).ext y9 (show ¬h.size=c.pb by omega);obtain⟨nk,nt,na,nn,nc,rfl,_⟩:=hn9.get;refine aM rfl (aY rfl rfl k9) ?_;rintro _ g10 ⟨rfl,k10,x10,z10⟩;refine af ?_;refine ct (cj rfl k10.row cq) ?_;exact⟨_,rfl,dW.ret ⟨y9,hp9,t9,hn9,ht9⟩ hp (x03) x10 (Nat.le_refl _) (k3).lt⟩
 · simp only at hm;refine af ?_;refine fF rfl (by simp) ?_;refine af ?_;refine xo rfl (aE rfl ((ih n (Nat.le_refl _)).lt false _ _ _ _ _ hp2 hm)) ?_;rintro r9 g9 ⟨y9,hp9,t9,hn9,ht9⟩;have k9:=(k2).ext y9 (show ¬h.size=c.pb by omega);obtain⟨nk,nt,na,nn,nc,rfl,_⟩:=hn9.get;refine aM rfl (aY rfl rfl k9) ?_;rintro _ g10 ⟨rfl,k10,x10,z10⟩;refine af ?_;refine ct (cj rfl k10.row cq) ?_;exact⟨_,rfl,dW.ret ⟨y9,hp9,t9,hn9,ht9⟩ hp (x02) x10 (Nat.le_refl _) (k2).lt⟩
theorem bZ {j:Dp}(h:pM e n j s=some (t,s')) (hb:s'.cm=false):s.cm=false:=by
 cases s with
 |ok r=>rfl
 |bad m=>rw[IG h] at hb;cases hb
theorem bf {o:Option By}(h:bW k ts s=(o,s')) (hb:s'.cm=false):s.cm=false:=by
 cases s with
 |ok r=>rfl
 |bad m=>rw[K4] at h;cases h;cases hb
theorem fA:(cI e s).cm=true:=by cases s<;>rfl
theorem fq {t:By}(hb:(cC e k t s).cm=false):s.cm=false:=by
 cases s with
 |ok r=>rfl
 |bad m=>cases hb
theorem bD {c:PC}{g3:ai}{s0:PS}{t':Tr}(hp:rO c h s0) (x:Ext (fun b=>b=c.pb) h g) (k:rO c g s') (hn:eF g (fun b=>b<=h.size) v t') (ht:s'.cm=false->t'=t) (x3:Ext (fun b=>b=h.size) g g3):dW c h g3 s' t v:=by
 obtain⟨o1,o2⟩:=hp.old;have:=x.size;exact⟨x.bH x3 (fun i hi q=>by omega),k.ext x3 (fun b hb q=>by omega),t',hn.ext x3 (fun b hb q=>⟨fun q2=>q (by omega),fun q2=>q (by omega)⟩),ht⟩
theorem jP {g c b:Nat}(h:(Value.slice (some ⟨g,0,none⟩) n c).ownBlock=some b):b=g:=(Option.some.inj h).symm
theorem lq {t:ByteArray}{a:Option Addr}{c:Nat}:∀v∈[Value.int .i64 k,.string t,.slice a n c],v.oneCell'=true:=fun v hv=>by simp at hv;rcases hv with rfl|rfl|rfl<;>rfl
theorem uy {base:Nat}{e:TypeId}{size:Nat}{xs:List Value}(k:aB h base e size v n xs):∃a m c,v= .slice a m c:=by
 rcases k.2 with ⟨rfl,_⟩|⟨g,cap,cur,rfl,_⟩
 · exact⟨_,_,_,rfl⟩
 · exact⟨_,_,_,rfl⟩
theorem DC (ih:∀m,m<=n->BD m) (al:Bool):Ct 72 [.bool al] (.lt al) (n+1):=by
 intro c h s t s' hp hm;have hpl:=hp.lt;obtain⟨o1,o2⟩:=hp.old;rw[pM] at hm;obtain⟨v,s1,hv,hm⟩:=az hm;refine bL ?_;refine af ?_;refine xo rfl (cO) ?_;rintro _ h1 ⟨rfl,k1,e1,z1⟩;refine af ?_;refine xo rfl (aE rfl (sV (hp.ah e1))) ?_;rintro _ h2 ⟨rfl,hp2,x2⟩;refine xp rfl (av (H.ko _ _) rfl) ?_;refine xo rfl (cO) ?_;rintro _ h3 ⟨rfl,k3,e3,z3⟩;refine aM rfl (aY rfl rfl k3) ?_;rintro _ h4 ⟨rfl,k4,x4,z4⟩;have z2:=x2.size;have hp4:=(hp2.ah e3).ext x4 (fun b hb q=>by omega);refine af ?_;refine xo rfl (aE rfl (gD hp4 6 [61])) ?_;rintro _ h5 ⟨hp5,x5⟩;have z5:=x5.size;refine af ?_;refine xo rfl (aE rfl ((ih n (Nat.le_refl _)).expr _ _ _ _ _ hp5 hv)) ?_;rintro r6 h6 ⟨y6,hp6,t6,hn6,ht6⟩;have z6:=y6.size;obtain⟨nk,nt,na,nn,nc,rfl,hr6⟩:=hn6.get;have k6:=(k4.ext x5 (show ¬h2.size=c.pb by omega)).ext y6 (show ¬h2.size=c.pb by omega);refine xo rfl (ue) ?_;rintro _ h7 ⟨rfl,hh7⟩;have e7:aj h6 h7:=by rw[hh7];exact Ext.push _ _ _
 have z7:h7.size=h6.size+1:=by rw[hh7];simp
 have ho7:cH eN (fun b=>b<h5.size) h7 h6.size 39 (.slice (some ⟨h6.size,0,none⟩) 1 1) [t6]:=by rw[hh7];exact cH.pG hr6 (Nat.le_refl _)
 refine af ?_;refine aM rfl (mj rfl rfl ((k6.ah e7))) ?_;rintro _ h8 ⟨rfl,k8,x8,z8⟩;have k8:aD h8 h2.size 39 [.int .i64 7,.string (bs (cF c.e s).1),.slice (some ⟨h6.size,0,none⟩) 1 1]:=k8;have ho8:cH eN (fun b=>b<h5.size) h8 h6.size 39 (.slice (some ⟨h6.size,0,none⟩) 1 1) [t6]:=ho7.qD x8 (fun b q q2=>by have:=jP q;omega) (fun b hb q=>by omega) (fun _ _ q=>q);have hp8:=(hp6.ah e7).ext x8 (fun b hb q=>by omega);have x08:Ext (fun b=>b=c.pb) h h8:=((((((e1.of.trans x2).trans e3.of).bH x4 (fun i hi q=>by omega)).trans x5).trans y6).trans e7.of).bH x8 (fun i hi q=>by omega);have q8:=(((((((k1.ext x2 (show ¬h.size=c.pb by omega)).ah e3).ext x4 (show ¬h.size=h2.size by omega)).ext x5 (show ¬h.size=c.pb by omega)).ext y6 (show ¬h.size=c.pb by omega)).ah e7).ext x8 (show ¬h.size=h2.size by omega))
 refine af ?_;refine xo rfl (iL [_]) ?_;rintro _ w9 ⟨rfl,hw9⟩;have y9:aj h8 w9:=by rw[hw9];exact Ext.push _ _ _
 have ts9:aT oe w9 (fun _=>False) (.slice (some ⟨Array.size h8,0,none⟩) 1 1) [Kq]:=by rw[hw9];exact bB _ [Kq] _ rfl (by simp[maxLen]) rfl
 refine xo rfl (aE rfl (bA (hp8.ah y9) 4 ts9)) ?_;rintro _ h9 ⟨rfl,hp9,x9⟩;have x9:=y9.of.trans x9
 rcases hq9:bW 4 [Kq] s1 with ⟨o9,s9⟩
 rw[hq9] at hp9 hm;have z9:=x9.size;have k9:=k8.ext x9 (show ¬h2.size=c.pb by omega);have q9:=q8.ext x9 (show ¬h.size=c.pb by omega);have x09:=x08.trans x9;have ho9:cH eN (fun b=>b<h5.size) h9 h6.size 39 (.slice (some ⟨h6.size,0,none⟩) 1 1) [t6]:=ho8.qD x9 (fun b q q2=>by have:=jP q;omega) (fun b hb q=>by omega) (fun _ _ q=>q)
 rcases o9 with _|v9
 · simp only at hm;have e9:=aJ hq9;have hs9:aT eN h9 (fun b=>b<=h.size) _ [t6]:=ho9.vq (fun b q q2=>by have:=jP q;omega) (fun b hb q=>by omega);refine af ?_;refine fe rfl (by simp) ?_;refine af ?_;refine iM (fun ha=>?_) (fun ha=>?_)
   · have ha:al=false:=by simpa using ha
     subst ha;simp only[Bool.false_eq_true,if_false] at hm;obtain⟨rfl,rfl⟩:Tr.mk 7 (cF c.e s).1 [v]=t/\cI c.e s9=s':=by cases hm;exact⟨rfl,rfl⟩
     refine af ?_;refine xo rfl (aE rfl (eu hp9)) ?_;rintro _ h10 ⟨rfl,hp10,x10⟩;refine af ?_;refine xp rfl (bY rfl (k9.ext x10 (show ¬h2.size=c.pb by omega)).row) ?_;refine aM rfl (aY rfl rfl ((q9.ext x10 (show ¬h.size=c.pb by omega))) lq) ?_;rintro _ hz ⟨rfl,kz,xz,zz⟩;refine af ?_;refine ct (cj rfl kz.row cq) ?_;exact⟨_,rfl,bD hp (x09.trans x10) hp10 (eF.shut (hs9.mv (Mv.cx x10 fun b hb q=>⟨fun q2=>q (by omega),q⟩))) (fun q=>by rw[fA] at q;cases q) xz⟩
   · have ha:al=true:=by simpa using ha
     subst ha;simp only[if_true] at hm;obtain⟨rfl,rfl⟩:Tr.mk 7 (cF c.e s).1 [v]=t/\s9=s':=by cases hm;exact⟨rfl,rfl⟩
     refine af ?_;refine xp rfl (bY rfl k9.row) ?_;refine aM rfl (aY rfl rfl q9 lq) ?_;rintro _ hz ⟨rfl,kz,xz,zz⟩;refine af ?_;refine ct (cj rfl kz.row cq) ?_;exact⟨_,rfl,bD hp x09 hp9 (eF.shut hs9) (fun q=>by rw[ht6 (bf hq9 q)]) xz⟩
 · simp only at hm;obtain⟨w,s3,hw,hm⟩:=az hm;obtain⟨rfl,rfl⟩:Tr.mk 7 (cF c.e s).1 [v,w]=t/\s3=s':=by cases hm;exact⟨rfl,rfl⟩
   refine af ?_;refine fF rfl (by simp) ?_;refine me 8 (fun b=>b=c.pb\/b=h6.size\/Array.size h9<=b) (fun i=>Nat.blt i 7) ?_;refine aI 0 ?_;refine bI 1 rfl (fun h' e=>aA rfl (e.cell (by dsimp only;omega) (k9.cell (i:=2) rfl))) ?_;refine aI 2 ?_;refine dH 3 rfl (aE rfl ((ih n (Nat.le_refl _)).expr _ _ _ _ _ hp9 hw)) ?_;rintro r10 h10 ⟨y10,hp10,t10,hn10,ht10⟩;refine⟨fun _=>y10.mono (fun _ _ q=>.inl q),?_⟩;have z10:=y10.size;obtain⟨mk,mt,ma,mn,mc,rfl,hr10⟩:=hn10.get;have ho10:cH eN (fun b=>b<h5.size) h10 h6.size 39 (.slice (some ⟨h6.size,0,none⟩) 1 1) [t6]:=ho9.qD y10 (fun b q q2=>by have:=jP q;omega) (fun b hb q=>by omega) (fun _ _ q=>q);obtain⟨css,hc1,hc2,hc3⟩:=id ho10;have hc2:aB h10 h6.size 39 3 (.slice (some ⟨h6.size,0,none⟩) 1 1) 1 css.flatten:=hc2;refine dH 4 rfl (ue) ?_;rintro _ _ ⟨rfl,rfl⟩;refine⟨fun _=>by first|exact Ext.push _ _ _|assumption,?_⟩;refine dH 5 rfl (uH rfl rfl hc2 rfl rfl) ?_;rintro v12 h12 ⟨ho12,hx12,hx12',hv12⟩;refine⟨fun _=>hx12'.mono (fun b _ q=>.inr (.inl (Option.some.inj q))),?_⟩;have k12:=(k9.ext y10 (show ¬h2.size=c.pb by omega)).ext hx12 (fun q=>by have:=jP (Eq.symm q);omega);obtain⟨va,vm,vc,rfl⟩:=uy ho12;refine aI 6 ?_;refine kX 7 rfl (mj rfl rfl k12) ?_;rintro _ h13 ⟨rfl,k13,x13,z13⟩;refine⟨nofun,?_⟩;refine iT ?_;refine af ?_;have k13:aD h13 h2.size 39 [.int .i64 7,.string (bs (cF c.e s).1),.slice va vm vc]:=k13;have z12:=hx12.size
   have hr10':eN.R h10 (fun b=>cv (Value.slice (some ⟨h6.size,0,none⟩) 1 1).ownBlock b\/b<h5.size) [.int .i64 mk,.string (bs mt),.slice ma mn mc] t10:=bK hr10 (Ext.refl (fun _=>False) _) (fun b hb q=>⟨fun k=>k,fun q2=>by
    rcases q2 with q2|q2
    · have:=jP (Eq.symm q2);omega
    · omega⟩)
   have ho12x:cH eN (fun b=>b<h5.size) h12 h6.size 39 (.slice va vm vc) [t6,t10]:=cH.gq hc1 hc3 ho12 hx12 hv12 hr10';have q13:=((q9.ext y10 (show ¬h.size=c.pb by omega)).ext hx12 (fun q=>by have:=jP (Eq.symm q);omega)).ext x13 (show ¬h.size=h2.size by omega);have hs13:aT eN h13 (fun b=>b<=h.size) (.slice va vm vc) [t6,t10]:=(ho12x.qD x13 (fun b q q2=>by have:=(ho12.lt q).1;omega) (fun b hb q=>by omega) (fun _ _ q=>q)).read (fun b hb q=>by omega) (fun b hb q=>by omega);have x013:Ext (fun b=>b=c.pb) h h13:=((x09.trans y10).bH hx12 (fun i hi q=>by have:=jP (Eq.symm q);omega)).bH x13 (fun i hi q=>by omega);have hp13:rO c h13 s3:=(hp10.ext hx12 (fun b hb q=>by have:=jP (Eq.symm q);omega)).ext x13 (fun b hb q=>by omega);refine xp rfl (bY rfl k13.row) ?_;refine aM rfl (aY rfl rfl q13 lq) ?_;rintro _ hz ⟨rfl,kz,xz,zz⟩;refine af ?_;refine ct (cj rfl kz.row cq) ?_;exact⟨_,rfl,bD hp x013 hp13 (eF.shut hs13) (fun q=>by rw[ht6 (bf hq9 (bZ hw q)),ht10 q]) xz⟩
theorem DD (ih:∀m,m<=n->BD m):Ct 122 [] .fn (n+1):=by
 intro c h s t s' hp hm;have hpl:=hp.lt;obtain⟨o1,o2⟩:=hp.old;rw[pM] at hm;refine bL ?_;refine af ?_;refine xo rfl (cO) ?_;rintro _ h1 ⟨rfl,k1,e1,z1⟩;refine af ?_;refine xo rfl (aE rfl (sV (hp.ah e1))) ?_;rintro _ h2 ⟨rfl,hp2,x2⟩;refine xp rfl (av (H.ko _ _) rfl) ?_;refine xo rfl (cO) ?_;rintro _ h3 ⟨rfl,k3,e3,z3⟩;refine aM rfl (aY rfl rfl k3) ?_;rintro _ h4 ⟨rfl,k4,x4,z4⟩;have z2:=x2.size;have hp4:=(hp2.ah e3).ext x4 (fun b hb q=>by omega);have x04:Ext (fun b=>b=c.pb) h h4:=((e1.of.trans x2).trans e3.of).bH x4 (fun i hi q=>by omega);have q4:=((k1.ext x2 (show ¬h.size=c.pb by omega)).ah e3).ext x4 (show ¬h.size=h2.size by omega);refine af ?_;refine xo rfl (iL [_]) ?_;rintro _ w5 ⟨rfl,hw5⟩;have y5:aj h4 w5:=by rw[hw5];exact Ext.push _ _ _
 have ts5:aT oe w5 (fun _=>False) (.slice (some ⟨Array.size h4,0,none⟩) 1 1) [[44]]:=by rw[hw5];exact bB _ [[44]] _ rfl (by simp[maxLen]) rfl
 refine xo rfl (aE rfl (bA (hp4.ah y5) 6 ts5)) ?_;rintro _ h5 ⟨rfl,hp5,x5⟩;have x5:=y5.of.trans x5
 rcases hq5:bW 6 [[44]] (cF c.e s).2 with ⟨o5,s5⟩
 rw[hq5] at hp5 hm;have z5:=x5.size;have k5:=k4.ext x5 (show ¬h2.size=c.pb by omega);have q5:=q4.ext x5 (show ¬h.size=c.pb by omega);have x05:=x04.trans x5
 rcases o5 with _|v5
 · simp only at hm;obtain⟨v,s1,hv,hm⟩:=az hm;obtain⟨rfl,rfl⟩:Tr.mk 8 (cF c.e s).1 [v]=t/\s1=s':=by cases hm;exact⟨rfl,rfl⟩
   refine af ?_;refine fe rfl (by simp) ?_;refine af ?_;refine xo rfl (aE rfl (gD hp5 6 [45,62])) ?_;rintro _ hb ⟨hpb,xb⟩;have zb:=xb.size;refine af ?_;refine xo rfl (aE rfl ((ih n (Nat.le_refl _)).expr _ _ _ _ _ hpb hv)) ?_;rintro r6 h6 ⟨y6,hp6,t6,hn6,ht6⟩;have z6:=y6.size;obtain⟨nk,nt,na,nn,nc,rfl,hr6⟩:=hn6.get;refine xo rfl (ue) ?_;rintro _ h7 ⟨rfl,hh7⟩;have e7:aj h6 h7:=by rw[hh7];exact Ext.push _ _ _
   have z7:h7.size=h6.size+1:=by rw[hh7];simp
   have hs7:aT eN h7 (fun b=>b<Array.size hb) (.slice (some ⟨h6.size,0,none⟩) 1 1) [t6]:=by rw[hh7];exact lR hr6 (by omega)
   refine af ?_;refine aM rfl (mj rfl rfl ((((k5.ext xb (show ¬h2.size=c.pb by omega)).ext y6 (show ¬h2.size=c.pb by omega)).ah e7))) ?_;rintro _ h8 ⟨rfl,k8,x8,z8⟩;have k8:aD h8 h2.size 39 [.int .i64 8,.string (bs (cF c.e s).1),.slice (some ⟨h6.size,0,none⟩) 1 1]:=k8;refine af ?_;refine xp rfl (bY rfl k8.row) ?_;refine aM rfl (aY rfl rfl (((((q5.ext xb (show ¬h.size=c.pb by omega)).ext y6 (show ¬h.size=c.pb by omega)).ah e7).ext x8 (show ¬h.size=h2.size by omega))) lq) ?_;rintro _ hz ⟨rfl,kz,xz,zz⟩;refine af ?_;refine ct (cj rfl kz.row cq) ?_;exact⟨_,rfl,bD hp ((((x05.trans xb).trans y6).trans e7.of).bH x8 (fun i hi q=>by omega)) ((hp6.ah e7).ext x8 (fun b hb q=>by omega)) (eF.shut (hs7.mv (Mv.cx x8 fun b hb q=>⟨fun q2=>q (by omega),fun q2=>q (by omega)⟩))) (fun q=>by rw[ht6 q]) xz⟩
 · simp only at hm;obtain⟨v,s1,hv,hm⟩:=az hm;obtain⟨rfl,rfl⟩:Tr.mk 8 (cF c.e s).1 [v]=t/\s1=s':=by cases hm;exact⟨rfl,rfl⟩
   refine af ?_;refine fF rfl (by simp) ?_;refine af ?_;refine xo rfl (aE rfl ((ih n (Nat.le_refl _)).fn _ _ _ _ _ hp5 hv)) ?_;rintro r6 h6 ⟨y6,hp6,t6,hn6,ht6⟩;have z6:=y6.size;obtain⟨nk,nt,na,nn,nc,rfl,hr6⟩:=hn6.get;refine xo rfl (ue) ?_;rintro _ h7 ⟨rfl,hh7⟩;have e7:aj h6 h7:=by rw[hh7];exact Ext.push _ _ _
   have z7:h7.size=h6.size+1:=by rw[hh7];simp
   have hs7:aT eN h7 (fun b=>b<Array.size h5) (.slice (some ⟨h6.size,0,none⟩) 1 1) [t6]:=by rw[hh7];exact lR hr6 (by omega)
   refine af ?_;refine aM rfl (mj rfl rfl (((k5.ext y6 (show ¬h2.size=c.pb by omega)).ah e7))) ?_;rintro _ h8 ⟨rfl,k8,x8,z8⟩;have k8:aD h8 h2.size 39 [.int .i64 8,.string (bs (cF c.e s).1),.slice (some ⟨h6.size,0,none⟩) 1 1]:=k8;refine af ?_;refine xp rfl (bY rfl k8.row) ?_;refine aM rfl (aY rfl rfl ((((q5.ext y6 (show ¬h.size=c.pb by omega)).ah e7).ext x8 (show ¬h.size=h2.size by omega))) lq) ?_;rintro _ hz ⟨rfl,kz,xz,zz⟩;refine af ?_;refine ct (cj rfl kz.row cq) ?_;exact⟨_,rfl,bD hp (((x05.trans y6).trans e7.of).bH x8 (fun i hi q=>by omega)) ((hp6.ah e7).ext x8 (fun b hb q=>by omega)) (eF.shut (hs7.mv (Mv.cx x8 fun b hb q=>⟨fun q2=>q (by omega),fun q2=>q (by omega)⟩))) (fun q=>by rw[ht6 q]) xz⟩
theorem gi {va vb:Value}{a b:Tr}(op:By) (hO:∀b,O b->b<h.size) (ha:eF h O va a) (hb:eF h O vb b) :
 aq Tryz.prog 158 #[.string (bs op),va,vb] h (bw fun r h'=>eF h' O r (.mk 5 op [a,b])/\aj h h'):=by
 obtain⟨k1,t1,a1,n1,c1,rfl,hr1⟩:=ha.get;obtain⟨k2,t2,a2,n2,c2,rfl,hr2⟩:=hb.get;refine bL ?_;refine af ?_;refine xo rfl (jj) ?_;rintro _ h1 ⟨rfl,b1,e1,z1⟩;refine xo rfl (jj) ?_;rintro _ h2 ⟨rfl,b2,e2,z2⟩;refine xo rfl (cO) ?_;rintro _ h3 ⟨rfl,b3,e3,z3⟩;have b13:aD h3 h.size 39 [.int .i64 k1,.string (bs t1),.slice a1 n1 c1]:=(b1.ah e2).ah e3;have b23:aD h3 h1.size 39 [.int .i64 k2,.string (bs t2),.slice a2 n2 c2]:=b2.ah e3;have e03:=(e1.trans e2).trans e3;refine af ?_;refine xp rfl (bY rfl b13.row) ?_;refine xp rfl (bY rfl b23.row) ?_;refine xo rfl (aQ.sC underlying37 H.Lc ([[.int .i64 k1,.string (bs t1),.slice a1 n1 c1],[.int .i64 k2,.string (bs t2),.slice a2 n2 c2]]) rfl rfl (by decide) (by simp<;>repeat' (first|rfl|constructor))) ?_;rintro _ h4 ⟨rfl,hh4⟩;have e4:aj h3 h4:=by rw[hh4];exact Ext.push _ _ _
 have g1:=e1.size;have g2:=e2.size;have m3:Mv O (fun x=>O x\/h.size<=x) h h3:=⟨e03.size,fun x hx q=>⟨e03.block x hx (fun k=>k),fun q2=>by rcases q2 with q2|q2;exact q q2;omega⟩⟩
 have hs4:cH eN (fun x=>O x\/h.size<=x) h4 h3.size 39 (.slice (some ⟨h3.size,0,none⟩) 2 2) [a,b]:=by
  rw[hh4];exact vL (eN.mv hr1 m3) (eN.mv hr2 m3) (Nat.le_refl _)
 refine xp rfl (av (H.kf _ _ _ _ _) rfl) ?_;refine aM rfl (aY rfl rfl ((b3.ah e4)) lq) ?_;rintro _ h5 ⟨rfl,b5,x5,z5⟩;refine af ?_;refine ct (cj rfl b5.row cq) ?_
 have hs4':aT eN h4 (fun x=>O x\/x=h2.size) (.slice (some ⟨h3.size,0,none⟩) 2 2) [a,b]:=hs4.read (fun x hx q=>by
  rcases q with q|q
  · have:=hO x q;omega
  · omega) (fun x hx q=>by
  rcases q with q|q
  · exact .inl q
  · exact .inr (by omega))
 exact⟨_,rfl,eF.shut (hs4'.mv (Mv.cx x5 fun x hx q=>⟨fun q2=>q (.inr q2),fun q2=>q (.inl q2)⟩)),aj.only (e03.trans e4) x5 (by omega)⟩
theorem zY (ih:∀m,m<=n->BD m):Ct 214 [] (.part 6) (n+1):=by
 intro c h s t s' hp hm;have hpl:=hp.lt;obtain⟨o1,o2⟩:=hp.old;rw[pM,if_neg (by decide),if_neg (by decide),if_pos rfl] at hm;refine bL ?_;refine af ?_;refine xo rfl (cO) ?_;rintro _ h1 ⟨rfl,k1,e1,z1⟩;refine af ?_;refine xo rfl (iL [_]) ?_;rintro _ w2 ⟨rfl,hw2⟩;have y2:aj h1 w2:=by rw[hw2];exact Ext.push _ _ _
 have ts2:aT oe w2 (fun _=>False) (.slice (some ⟨Array.size h1,0,none⟩) 1 1) [jG]:=by rw[hw2];exact bB _ [jG] _ rfl (by simp[maxLen]) rfl
 refine xo rfl (aE rfl (bA ((hp.ah e1).ah y2) 6 ts2)) ?_;rintro _ h2 ⟨rfl,hp2,x2⟩;have x2:=y2.of.trans x2
 rcases hq2:bW 6 [jG] s with ⟨o2,s2⟩
 rw[hq2] at hp2 hm;have k2:=k1.ext x2 (show ¬h.size=c.pb by omega);have x02:=e1.of.trans x2
 rcases o2 with _|v2
 · simp only at hm;refine af ?_;refine fe rfl (by simp) ?_;refine af ?_;refine xo rfl (aE rfl ((ih n (Nat.le_refl _)).p7 _ _ _ _ _ hp2 hm)) ?_;rintro r9 g9 ⟨y9,hp9,t9,hn9,ht9⟩;have k9:=(k2).ext y9 (show ¬h.size=c.pb by omega);obtain⟨nk,nt,na,nn,nc,rfl,_⟩:=hn9.get;refine aM rfl (aY rfl rfl k9) ?_;rintro _ g10 ⟨rfl,k10,x10,z10⟩;refine af ?_;refine ct (cj rfl k10.row cq) ?_;exact⟨_,rfl,dW.ret ⟨y9,hp9,t9,hn9,ht9⟩ hp (x02) x10 (Nat.le_refl _) (k2).lt⟩
 · simp only at hm;obtain⟨v,s1,hv,hm⟩:=az hm;obtain⟨rfl,rfl⟩:Tr.mk 4 jG [v]=t/\s1=s':=by cases hm;exact⟨rfl,rfl⟩
   refine af ?_;refine fF rfl (by simp) ?_;refine af ?_;refine xo rfl (aE rfl ((ih n (Nat.le_refl _)).p6 _ _ _ _ _ hp2 hv)) ?_;rintro r6 h6 ⟨y6,hp6,t6,hn6,ht6⟩;have z6:=y6.size;obtain⟨nk,nt,na,nn,nc,rfl,hr6⟩:=hn6.get;refine xo rfl (ue) ?_;rintro _ h7 ⟨rfl,hh7⟩;have e7:aj h6 h7:=by rw[hh7];exact Ext.push _ _ _
   have z7:h7.size=h6.size+1:=by rw[hh7];simp
   have hs7:aT eN h7 (fun b=>b<Array.size h2) (.slice (some ⟨h6.size,0,none⟩) 1 1) [t6]:=by rw[hh7];exact lR hr6 (by omega)
   have zk:=(k2).lt;refine xp rfl (av (H.kf _ _ _ _ _) rfl) ?_;refine aM rfl (aY rfl rfl (((k2.ext y6 (show ¬h.size=c.pb by omega)).ah e7)) lq) ?_;rintro _ hz ⟨rfl,kz,xz,zz⟩;refine af ?_;refine ct (cj rfl kz.row cq) ?_;exact⟨_,rfl,bD hp (((x02).trans y6).trans e7.of) (hp6.ah e7) (eF.shut (hs7.mv (Mv.cx (Ext.refl (fun _=>False) _) fun b hb q=>⟨fun q2=>q2,fun q2=>q (by omega)⟩))) (fun q=>by rw[ht6 q]) xz⟩
theorem DB (ih:∀m,m<=n->BD m):Ct 175 [] (.part 2) (n+1):=by
 intro c h s t s' hp hm;have hpl:=hp.lt;obtain⟨o1,o2⟩:=hp.old;rw[pM,if_neg (by decide),if_pos rfl] at hm;refine bL ?_;refine af ?_;refine xo rfl (cO) ?_;rintro _ h1 ⟨rfl,k1,e1,z1⟩;refine af ?_;refine xo rfl (iL [_]) ?_;rintro _ w2 ⟨rfl,hw2⟩;have y2:aj h1 w2:=by rw[hw2];exact Ext.push _ _ _
 have ts2:aT oe w2 (fun _=>False) (.slice (some ⟨Array.size h1,0,none⟩) 1 1) [kY]:=by rw[hw2];exact bB _ [kY] _ rfl (by simp[maxLen]) rfl
 refine xo rfl (aE rfl (bA ((hp.ah e1).ah y2) 4 ts2)) ?_;rintro _ h2 ⟨rfl,hp2,x2⟩;have x2:=y2.of.trans x2
 rcases hq2:bW 4 [kY] s with ⟨o2,s2⟩
 rw[hq2] at hp2 hm;have k2:=k1.ext x2 (show ¬h.size=c.pb by omega);have x02:=e1.of.trans x2
 rcases o2 with _|v2
 · simp only at hm;refine af ?_;refine fF rfl (by simp) ?_;refine af ?_;refine xo rfl (iL [_]) ?_;rintro _ w3 ⟨rfl,hw3⟩;have y3:aj h2 w3:=by rw[hw3];exact Ext.push _ _ _
   have ts3:aT oe w3 (fun _=>False) (.slice (some ⟨Array.size h2,0,none⟩) 1 1) [uS]:=by rw[hw3];exact bB _ [uS] _ rfl (by simp[maxLen]) rfl
   refine xo rfl (aE rfl (bA (hp2.ah y3) 6 ts3)) ?_;rintro _ h3 ⟨rfl,hp3,x3⟩;have x3:=y3.of.trans x3
   rcases hq3:bW 6 [uS] s2 with ⟨o3,s3⟩
   rw[hq3] at hp3 hm;have k3:=k2.ext x3 (show ¬h.size=c.pb by omega);have x03:=x02.trans x3
   rcases o3 with _|v3
   · simp only at hm;refine af ?_;refine fF rfl (by simp) ?_;refine af ?_;refine xo rfl (aE rfl ((ih n (Nat.le_refl _)).p3 _ _ _ _ _ hp3 hm)) ?_;rintro r9 g9 ⟨y9,hp9,t9,hn9,ht9⟩;have k9:=(k3).ext y9 (show ¬h.size=c.pb by omega);obtain⟨nk,nt,na,nn,nc,rfl,_⟩:=hn9.get;refine aM rfl (aY rfl rfl k9) ?_;rintro _ g10 ⟨rfl,k10,x10,z10⟩;refine af ?_;refine ct (cj rfl k10.row cq) ?_;exact⟨_,rfl,dW.ret ⟨y9,hp9,t9,hn9,ht9⟩ hp (x03) x10 (Nat.le_refl _) (k3).lt⟩
   · simp only at hm;obtain⟨v,s1,hv,hm⟩:=az hm;obtain⟨rfl,rfl⟩:Tr.mk 4 kY [v]=t/\s1=s':=by cases hm;exact⟨rfl,rfl⟩
     refine af ?_;refine fe rfl (by simp) ?_;refine af ?_;refine xo rfl (aE rfl ((ih n (Nat.le_refl _)).p2 _ _ _ _ _ hp3 hv)) ?_;rintro r6 h6 ⟨y6,hp6,t6,hn6,ht6⟩;have z6:=y6.size;obtain⟨nk,nt,na,nn,nc,rfl,hr6⟩:=hn6.get;refine xo rfl (ue) ?_;rintro _ h7 ⟨rfl,hh7⟩;have e7:aj h6 h7:=by rw[hh7];exact Ext.push _ _ _
     have z7:h7.size=h6.size+1:=by rw[hh7];simp
     have hs7:aT eN h7 (fun b=>b<Array.size h3) (.slice (some ⟨h6.size,0,none⟩) 1 1) [t6]:=by rw[hh7];exact lR hr6 (by omega)
     have zk:=(k3).lt;refine xp rfl (av (H.kf _ _ _ _ _) rfl) ?_;refine aM rfl (aY rfl rfl (((k3.ext y6 (show ¬h.size=c.pb by omega)).ah e7)) lq) ?_;rintro _ hz ⟨rfl,kz,xz,zz⟩;refine af ?_;refine ct (cj rfl kz.row cq) ?_;exact⟨_,rfl,bD hp (((x03).trans y6).trans e7.of) (hp6.ah e7) (eF.shut (hs7.mv (Mv.cx (Ext.refl (fun _=>False) _) fun b hb q=>⟨fun q2=>q2,fun q2=>q (by omega)⟩))) (fun q=>by rw[ht6 q]) xz⟩
 · simp only at hm;obtain⟨v,s1,hv,hm⟩:=az hm;obtain⟨rfl,rfl⟩:Tr.mk 4 kY [v]=t/\s1=s':=by cases hm;exact⟨rfl,rfl⟩
   refine af ?_;refine fe rfl (by simp) ?_;refine af ?_;refine xo rfl (aE rfl ((ih n (Nat.le_refl _)).p2 _ _ _ _ _ hp2 hv)) ?_;rintro r6 h6 ⟨y6,hp6,t6,hn6,ht6⟩;have z6:=y6.size;obtain⟨nk,nt,na,nn,nc,rfl,hr6⟩:=hn6.get;refine xo rfl (ue) ?_;rintro _ h7 ⟨rfl,hh7⟩;have e7:aj h6 h7:=by rw[hh7];exact Ext.push _ _ _
   have z7:h7.size=h6.size+1:=by rw[hh7];simp
   have hs7:aT eN h7 (fun b=>b<Array.size h2) (.slice (some ⟨h6.size,0,none⟩) 1 1) [t6]:=by rw[hh7];exact lR hr6 (by omega)
   have zk:=(k2).lt;refine xp rfl (av (H.kf _ _ _ _ _) rfl) ?_;refine aM rfl (aY rfl rfl (((k2.ext y6 (show ¬h.size=c.pb by omega)).ah e7)) lq) ?_;rintro _ hz ⟨rfl,kz,xz,zz⟩;refine af ?_;refine ct (cj rfl kz.row cq) ?_;exact⟨_,rfl,bD hp (((x02).trans y6).trans e7.of) (hp6.ah e7) (eF.shut (hs7.mv (Mv.cx (Ext.refl (fun _=>False) _) fun b hb q=>⟨fun q2=>q2,fun q2=>q (by omega)⟩))) (fun q=>by rw[ht6 q]) xz⟩
structure Dw (c:PC) (h g:ai) (b3:Nat) (t1:Tr) (s1:PS):Prop where
 st:rO c g s1
 ext:Ext (fun b=>b=c.pb) h g
 res:aD g h.size 39 [.int .i64 0,.string (bs []),.slice none 0 0]
 lt:h.size<b3
 nd:∃k x a n cc u,aD g b3 39 [.int .i64 k,.string (bs x),.slice a n cc]/\eN.R g (fun b=>b<=h.size\/b=b3) [.int .i64 k,.string (bs x),.slice a n cc] u/\(s1.cm=false->u=t1)
theorem Dw.mv {c:PC}{g':ai}{t1:Tr}{s2:PS}(k:Dw c h g b3 t1 s1) (hp:c.pb<h.size) (x:Ext (fun b=>b=c.pb) g g') (hs:rO c g' s2) (hg:s2.cm=false->s1.cm=false):Dw c h g' b3 t1 s2:=by
 obtain⟨k1,k2,k3,k4,kk,xx,a,n,cc,u,k5,k6,k7⟩:=k;exact⟨hs,k2.trans x,k3.ext x (by omega),k4,kk,xx,a,n,cc,u,k5.ext x (by omega),bK k6 x (fun b hb q=>⟨fun q2=>q (by omega),q⟩),fun q=>k7 (hg q)⟩
theorem OD (s:PS):Cn 0 s=(match bW 4 [s7] s with|(some _,s)=>(some s7,s)|(none,s)=>match bW 6 [uR] s with|(some _,s)=>(some s7,s)|(none,s)=>(none,s)):=rfl
theorem OC (s:PS):Cn 1 s=(match bW 4 [lK] s with|(some _,s)=>(some lK,s)|(none,s)=>match bW 6 [uT] s with|(some _,s)=>(some lK,s)|(none,s)=>(none,s)):=rfl
theorem OB (s:PS):Cn 3 s=bW 6 H6 s:=rfl
theorem OA (s:PS):Cn 4 s=bW 6 HZ s:=rfl
theorem Oz (s:PS):Cn 5 s=bW 6 BU s:=rfl
theorem F6 (ih:∀m,m<=n->BD m):Ct 123 [] (.part 0) (n+1):=by
 intro c h s t s' hp hm;have hpl:=hp.lt;obtain⟨o1,o2⟩:=hp.old;rw[pM,if_neg (by decide),if_neg (by decide),if_neg (by decide)] at hm;obtain⟨v,s1,hv,hm⟩:=az hm;refine bL ?_;refine af ?_;refine xo rfl (cO) ?_;rintro _ h1 ⟨rfl,k1,e1,z1⟩;refine af ?_;refine xo rfl (aE rfl ((ih n (Nat.le_refl _)).p1 _ _ _ _ _ (hp.ah e1) hv)) ?_;rintro r2 h2 ⟨y2,hp2,t2,hn2,ht2⟩;obtain⟨nk,nt,na,nn,nc,rfl,hr2⟩:=hn2.get;refine xo rfl (cO) ?_;rintro _ h3 ⟨rfl,k3,e3,z3⟩;refine aM rfl (aY rfl rfl k3 lq) ?_;rintro _ h4 ⟨rfl,k4,x4,z4⟩;have z2:=y2.size;have x24:Ext (fun b=>b=h2.size) h2 h4:=e3.of.trans x4;have hI:Dw c h h4 h2.size v s1:=⟨(hp2.ah e3).ext x4 (fun b hb q=>by omega),((e1.of.trans y2).trans e3.of).bH x4 (fun b hb q=>by omega),((k1.ext y2 (by omega)).ah e3).ext x4 (show ¬h.size=h2.size by omega),by omega,nk,nt,na,nn,nc,t2,k4,bK hr2 x24 (fun b hb q=>⟨fun q2=>by omega,fun q2=>q (by omega)⟩),ht2⟩
 refine af ?_;refine gY (σ:=Nat×Tr×PS) (fun _=>[]) (fun w g=>w.1<=n/\pM c.e w.1 (.opL 0 w.2.1) w.2.2=some (t,s')/\Dw c h g h2.size w.2.1 w.2.2) (fun w=>w.1) ((n,v,s1)) ⟨Nat.le_refl _,hm,hI⟩ rfl ?_;rintro⟨m,u,sI⟩ g ⟨hmn,hm,hI⟩ ihL
 try dsimp only
 obtain⟨m,rfl⟩:∃m',m=m'+1:=by cases m with|zero=>cases hm|succ m=>exact⟨m,rfl⟩
 rw[pM,OD] at hm;refine af ?_;refine xo rfl (iL [_]) ?_;rintro _ w5 ⟨rfl,hw5⟩;have y5:aj g w5:=by rw[hw5];exact Ext.push _ _ _
 have ts5:aT oe w5 (fun _=>False) (.slice (some ⟨Array.size g,0,none⟩) 1 1) [s7]:=by rw[hw5];exact bB _ [s7] _ rfl (by simp[maxLen]) rfl
 refine xo rfl (aE rfl (bA (hI.st.ah y5) 4 ts5)) ?_;rintro _ h5 ⟨rfl,hp5,x5⟩;have x5:=y5.of.trans x5
 rcases hq5:bW 4 [s7] sI with ⟨o5,s5⟩
 rw[hq5] at hp5 hm
 rcases o5 with _|v5
 · simp only at hm;refine af ?_;refine fF rfl (by simp) ?_;refine af ?_;refine xo rfl (iL [_]) ?_;rintro _ w6 ⟨rfl,hw6⟩;have y6:aj h5 w6:=by rw[hw6];exact Ext.push _ _ _
   have ts6:aT oe w6 (fun _=>False) (.slice (some ⟨Array.size h5,0,none⟩) 1 1) [uR]:=by rw[hw6];exact bB _ [uR] _ rfl (by simp[maxLen]) rfl
   refine xo rfl (aE rfl (bA (hp5.ah y6) 6 ts6)) ?_;rintro _ h6 ⟨rfl,hp6,x6⟩;have x6:=y6.of.trans x6
   rcases hq6:bW 6 [uR] s5 with ⟨o6,s6⟩
   rw[hq6] at hp6 hm;have x56:=x5.trans x6
   rcases o6 with _|v6
   · simp only at hm;obtain⟨rfl,rfl⟩:u=t/\s6=s':=by cases hm;exact⟨rfl,rfl⟩
     refine af ?_;refine fF rfl (by simp) ?_;have hI2:=hI.mv hpl x56 hp6 (fun q=>bf hq5 (bf hq6 q));obtain⟨j1,j2,j3,j4,jk,jx,ja,jn,jc,ju,j5,j6,j7⟩:=hI2;refine af ?_;refine xp rfl (bY rfl j5.row) ?_;refine aM rfl (aY rfl rfl j3 lq) ?_;rintro _ hz ⟨rfl,kz,xz,zz⟩;refine af ?_;refine ct (cj rfl kz.row cq) ?_;exact⟨_,rfl,bD hp j2 j1 (eF.of (bK j6 (Ext.refl (fun _=>False) _) (fun b hb q=>⟨fun q2=>q2,fun q2=>q (.inl q2)⟩))) j7 xz⟩
   · simp only at hm;obtain⟨v2,s3,hv2,hm⟩:=az hm;rw[if_neg (by decide)] at hm;refine af ?_;refine fe rfl (by simp) ?_;have hI2:=hI.mv hpl x56 hp6 (fun q=>bf hq5 (bf hq6 q));obtain⟨j1,j2,j3,j4,jk,jx,ja,jn,jc,ju,j5,j6,j7⟩:=hI2;have j5l:=j5.lt;have j2z:=j2.size;refine af ?_;refine me 5 (fun b=>b=c.pb\/Array.size h6<=b) (fun i=>Nat.blt i 4) ?_;refine bI 0 rfl (fun h' e=>bY rfl (e.rowAt (by omega) j5.row)) ?_;refine aI 1 ?_;refine dH 2 rfl (aE rfl ((ih m (by omega)).p1 _ _ _ _ _ hp6 hv2)) ?_;rintro r6 h6 ⟨y6,hp6,t6,hn6,ht6⟩;refine⟨fun _=>y6.mono (fun _ _ q=>.inl q),?_⟩;have z6:=y6.size;refine dH 3 rfl (aE rfl (gi (O:=fun b=>b<=h.size\/b=h2.size) s7 (fun b q=>by omega) (eF.of (bK j6 y6 (fun b hb q=>⟨fun q2=>q (by omega),q⟩))) (hn6.ext (Ext.refl (fun _=>False) _) (fun b hb q=>⟨fun q2=>q2,fun q2=>q (by omega)⟩)))) ?_;rintro r8 h8 ⟨hn8,e8⟩;refine⟨fun _=>e8.of,?_⟩;have z8:=e8.size;obtain⟨mk,mt,ma,mn,mc,rfl,hr8⟩:=hn8.get;refine kX 4 rfl (aY rfl rfl (((j5.ext y6 (show ¬h2.size=c.pb by omega)).ah e8)) lq) ?_;rintro _ h9 ⟨rfl,k9,x9,z9⟩;refine⟨nofun,?_⟩;refine iT ?_;refine af ?_;exact ihL (m,.mk 5 s7 [u,v2],s3) ⟨by omega,hm,⟨(hp6.ah e8).ext x9 (fun b hb q=>by omega),((j2.trans y6).trans e8.of).bH x9 (fun b hb q=>by omega),((j3.ext y6 (show ¬h.size=c.pb by omega)).ah e8).ext x9 (show ¬h.size=h2.size by omega),j4,mk,mt,ma,mn,mc,_,k9,bK hr8 x9 (fun b hb q=>⟨fun q2=>q (.inr q2),q⟩),fun q=>by rw[j7 (bZ hv2 q),ht6 q]⟩⟩ (Nat.lt_succ_self _)
 · simp only at hm;obtain⟨v2,s3,hv2,hm⟩:=az hm;rw[if_neg (by decide)] at hm;refine af ?_;refine fe rfl (by simp) ?_;have hI2:=hI.mv hpl x5 hp5 (fun q=>bf hq5 q);obtain⟨j1,j2,j3,j4,jk,jx,ja,jn,jc,ju,j5,j6,j7⟩:=hI2;have j5l:=j5.lt;have j2z:=j2.size;refine af ?_;refine me 5 (fun b=>b=c.pb\/Array.size h5<=b) (fun i=>Nat.blt i 4) ?_;refine bI 0 rfl (fun h' e=>bY rfl (e.rowAt (by omega) j5.row)) ?_;refine aI 1 ?_;refine dH 2 rfl (aE rfl ((ih m (by omega)).p1 _ _ _ _ _ hp5 hv2)) ?_;rintro r6 h6 ⟨y6,hp6,t6,hn6,ht6⟩;refine⟨fun _=>y6.mono (fun _ _ q=>.inl q),?_⟩;have z6:=y6.size;refine dH 3 rfl (aE rfl (gi (O:=fun b=>b<=h.size\/b=h2.size) s7 (fun b q=>by omega) (eF.of (bK j6 y6 (fun b hb q=>⟨fun q2=>q (by omega),q⟩))) (hn6.ext (Ext.refl (fun _=>False) _) (fun b hb q=>⟨fun q2=>q2,fun q2=>q (by omega)⟩)))) ?_;rintro r8 h8 ⟨hn8,e8⟩;refine⟨fun _=>e8.of,?_⟩;have z8:=e8.size;obtain⟨mk,mt,ma,mn,mc,rfl,hr8⟩:=hn8.get;refine kX 4 rfl (aY rfl rfl (((j5.ext y6 (show ¬h2.size=c.pb by omega)).ah e8)) lq) ?_;rintro _ h9 ⟨rfl,k9,x9,z9⟩;refine⟨nofun,?_⟩;refine iT ?_;refine af ?_;exact ihL (m,.mk 5 s7 [u,v2],s3) ⟨by omega,hm,⟨(hp6.ah e8).ext x9 (fun b hb q=>by omega),((j2.trans y6).trans e8.of).bH x9 (fun b hb q=>by omega),((j3.ext y6 (show ¬h.size=c.pb by omega)).ah e8).ext x9 (show ¬h.size=h2.size by omega),j4,mk,mt,ma,mn,mc,_,k9,bK hr8 x9 (fun b hb q=>⟨fun q2=>q (.inr q2),q⟩),fun q=>by rw[j7 (bZ hv2 q),ht6 q]⟩⟩ (Nat.lt_succ_self _)
theorem DE (ih:∀m,m<=n->BD m):Ct 157 [] (.part 1) (n+1):=by
 intro c h s t s' hp hm;have hpl:=hp.lt;obtain⟨o1,o2⟩:=hp.old;rw[pM,if_neg (by decide),if_neg (by decide),if_neg (by decide)] at hm;obtain⟨v,s1,hv,hm⟩:=az hm;refine bL ?_;refine af ?_;refine xo rfl (cO) ?_;rintro _ h1 ⟨rfl,k1,e1,z1⟩;refine af ?_;refine xo rfl (aE rfl ((ih n (Nat.le_refl _)).p2 _ _ _ _ _ (hp.ah e1) hv)) ?_;rintro r2 h2 ⟨y2,hp2,t2,hn2,ht2⟩;obtain⟨nk,nt,na,nn,nc,rfl,hr2⟩:=hn2.get;refine xo rfl (cO) ?_;rintro _ h3 ⟨rfl,k3,e3,z3⟩;refine aM rfl (aY rfl rfl k3 lq) ?_;rintro _ h4 ⟨rfl,k4,x4,z4⟩;have z2:=y2.size;have x24:Ext (fun b=>b=h2.size) h2 h4:=e3.of.trans x4;have hI:Dw c h h4 h2.size v s1:=⟨(hp2.ah e3).ext x4 (fun b hb q=>by omega),((e1.of.trans y2).trans e3.of).bH x4 (fun b hb q=>by omega),((k1.ext y2 (by omega)).ah e3).ext x4 (show ¬h.size=h2.size by omega),by omega,nk,nt,na,nn,nc,t2,k4,bK hr2 x24 (fun b hb q=>⟨fun q2=>by omega,fun q2=>q (by omega)⟩),ht2⟩
 refine af ?_;refine gY (σ:=Nat×Tr×PS) (fun _=>[]) (fun w g=>w.1<=n/\pM c.e w.1 (.opL 1 w.2.1) w.2.2=some (t,s')/\Dw c h g h2.size w.2.1 w.2.2) (fun w=>w.1) ((n,v,s1)) ⟨Nat.le_refl _,hm,hI⟩ rfl ?_;rintro⟨m,u,sI⟩ g ⟨hmn,hm,hI⟩ ihL
 try dsimp only
 obtain⟨m,rfl⟩:∃m',m=m'+1:=by cases m with|zero=>cases hm|succ m=>exact⟨m,rfl⟩
 rw[pM,OC] at hm;refine af ?_;refine xo rfl (iL [_]) ?_;rintro _ w5 ⟨rfl,hw5⟩;have y5:aj g w5:=by rw[hw5];exact Ext.push _ _ _
 have ts5:aT oe w5 (fun _=>False) (.slice (some ⟨Array.size g,0,none⟩) 1 1) [lK]:=by rw[hw5];exact bB _ [lK] _ rfl (by simp[maxLen]) rfl
 refine xo rfl (aE rfl (bA (hI.st.ah y5) 4 ts5)) ?_;rintro _ h5 ⟨rfl,hp5,x5⟩;have x5:=y5.of.trans x5
 rcases hq5:bW 4 [lK] sI with ⟨o5,s5⟩
 rw[hq5] at hp5 hm
 rcases o5 with _|v5
 · simp only at hm;refine af ?_;refine fF rfl (by simp) ?_;refine af ?_;refine xo rfl (iL [_]) ?_;rintro _ w6 ⟨rfl,hw6⟩;have y6:aj h5 w6:=by rw[hw6];exact Ext.push _ _ _
   have ts6:aT oe w6 (fun _=>False) (.slice (some ⟨Array.size h5,0,none⟩) 1 1) [uT]:=by rw[hw6];exact bB _ [uT] _ rfl (by simp[maxLen]) rfl
   refine xo rfl (aE rfl (bA (hp5.ah y6) 6 ts6)) ?_;rintro _ h6 ⟨rfl,hp6,x6⟩;have x6:=y6.of.trans x6
   rcases hq6:bW 6 [uT] s5 with ⟨o6,s6⟩
   rw[hq6] at hp6 hm;have x56:=x5.trans x6
   rcases o6 with _|v6
   · simp only at hm;obtain⟨rfl,rfl⟩:u=t/\s6=s':=by cases hm;exact⟨rfl,rfl⟩
     refine af ?_;refine fF rfl (by simp) ?_;have hI2:=hI.mv hpl x56 hp6 (fun q=>bf hq5 (bf hq6 q));obtain⟨j1,j2,j3,j4,jk,jx,ja,jn,jc,ju,j5,j6,j7⟩:=hI2;refine af ?_;refine xp rfl (bY rfl j5.row) ?_;refine aM rfl (aY rfl rfl j3 lq) ?_;rintro _ hz ⟨rfl,kz,xz,zz⟩;refine af ?_;refine ct (cj rfl kz.row cq) ?_;exact⟨_,rfl,bD hp j2 j1 (eF.of (bK j6 (Ext.refl (fun _=>False) _) (fun b hb q=>⟨fun q2=>q2,fun q2=>q (.inl q2)⟩))) j7 xz⟩
   · simp only at hm;obtain⟨v2,s3,hv2,hm⟩:=az hm;rw[if_neg (by decide)] at hm;refine af ?_;refine fe rfl (by simp) ?_;have hI2:=hI.mv hpl x56 hp6 (fun q=>bf hq5 (bf hq6 q));obtain⟨j1,j2,j3,j4,jk,jx,ja,jn,jc,ju,j5,j6,j7⟩:=hI2;have j5l:=j5.lt;have j2z:=j2.size;refine af ?_;refine me 5 (fun b=>b=c.pb\/Array.size h6<=b) (fun i=>Nat.blt i 4) ?_;refine bI 0 rfl (fun h' e=>bY rfl (e.rowAt (by omega) j5.row)) ?_;refine aI 1 ?_;refine dH 2 rfl (aE rfl ((ih m (by omega)).p2 _ _ _ _ _ hp6 hv2)) ?_;rintro r6 h6 ⟨y6,hp6,t6,hn6,ht6⟩;refine⟨fun _=>y6.mono (fun _ _ q=>.inl q),?_⟩;have z6:=y6.size;refine dH 3 rfl (aE rfl (gi (O:=fun b=>b<=h.size\/b=h2.size) lK (fun b q=>by omega) (eF.of (bK j6 y6 (fun b hb q=>⟨fun q2=>q (by omega),q⟩))) (hn6.ext (Ext.refl (fun _=>False) _) (fun b hb q=>⟨fun q2=>q2,fun q2=>q (by omega)⟩)))) ?_;rintro r8 h8 ⟨hn8,e8⟩;refine⟨fun _=>e8.of,?_⟩;have z8:=e8.size;obtain⟨mk,mt,ma,mn,mc,rfl,hr8⟩:=hn8.get;refine kX 4 rfl (aY rfl rfl (((j5.ext y6 (show ¬h2.size=c.pb by omega)).ah e8)) lq) ?_;rintro _ h9 ⟨rfl,k9,x9,z9⟩;refine⟨nofun,?_⟩;refine iT ?_;refine af ?_;exact ihL (m,.mk 5 lK [u,v2],s3) ⟨by omega,hm,⟨(hp6.ah e8).ext x9 (fun b hb q=>by omega),((j2.trans y6).trans e8.of).bH x9 (fun b hb q=>by omega),((j3.ext y6 (show ¬h.size=c.pb by omega)).ah e8).ext x9 (show ¬h.size=h2.size by omega),j4,mk,mt,ma,mn,mc,_,k9,bK hr8 x9 (fun b hb q=>⟨fun q2=>q (.inr q2),q⟩),fun q=>by rw[j7 (bZ hv2 q),ht6 q]⟩⟩ (Nat.lt_succ_self _)
 · simp only at hm;obtain⟨v2,s3,hv2,hm⟩:=az hm;rw[if_neg (by decide)] at hm;refine af ?_;refine fe rfl (by simp) ?_;have hI2:=hI.mv hpl x5 hp5 (fun q=>bf hq5 q);obtain⟨j1,j2,j3,j4,jk,jx,ja,jn,jc,ju,j5,j6,j7⟩:=hI2;have j5l:=j5.lt;have j2z:=j2.size;refine af ?_;refine me 5 (fun b=>b=c.pb\/Array.size h5<=b) (fun i=>Nat.blt i 4) ?_;refine bI 0 rfl (fun h' e=>bY rfl (e.rowAt (by omega) j5.row)) ?_;refine aI 1 ?_;refine dH 2 rfl (aE rfl ((ih m (by omega)).p2 _ _ _ _ _ hp5 hv2)) ?_;rintro r6 h6 ⟨y6,hp6,t6,hn6,ht6⟩;refine⟨fun _=>y6.mono (fun _ _ q=>.inl q),?_⟩;have z6:=y6.size;refine dH 3 rfl (aE rfl (gi (O:=fun b=>b<=h.size\/b=h2.size) lK (fun b q=>by omega) (eF.of (bK j6 y6 (fun b hb q=>⟨fun q2=>q (by omega),q⟩))) (hn6.ext (Ext.refl (fun _=>False) _) (fun b hb q=>⟨fun q2=>q2,fun q2=>q (by omega)⟩)))) ?_;rintro r8 h8 ⟨hn8,e8⟩;refine⟨fun _=>e8.of,?_⟩;have z8:=e8.size;obtain⟨mk,mt,ma,mn,mc,rfl,hr8⟩:=hn8.get;refine kX 4 rfl (aY rfl rfl (((j5.ext y6 (show ¬h2.size=c.pb by omega)).ah e8)) lq) ?_;rintro _ h9 ⟨rfl,k9,x9,z9⟩;refine⟨nofun,?_⟩;refine iT ?_;refine af ?_;exact ihL (m,.mk 5 lK [u,v2],s3) ⟨by omega,hm,⟨(hp6.ah e8).ext x9 (fun b hb q=>by omega),((j2.trans y6).trans e8.of).bH x9 (fun b hb q=>by omega),((j3.ext y6 (show ¬h.size=c.pb by omega)).ah e8).ext x9 (show ¬h.size=h2.size by omega),j4,mk,mt,ma,mn,mc,_,k9,bK hr8 x9 (fun b hb q=>⟨fun q2=>q (.inr q2),q⟩),fun q=>by rw[j7 (bZ hv2 q),ht6 q]⟩⟩ (Nat.lt_succ_self _)
theorem Dz (ih:∀m,m<=n->BD m):Ct 202 [] (.part 4) (n+1):=by
 intro c h s t s' hp hm;have hpl:=hp.lt;obtain⟨o1,o2⟩:=hp.old;rw[pM,if_neg (by decide),if_neg (by decide),if_neg (by decide)] at hm;obtain⟨v,s1,hv,hm⟩:=az hm;refine bL ?_;refine af ?_;refine xo rfl (cO) ?_;rintro _ h1 ⟨rfl,k1,e1,z1⟩;refine af ?_;refine xo rfl (aE rfl ((ih n (Nat.le_refl _)).p5 _ _ _ _ _ (hp.ah e1) hv)) ?_;rintro r2 h2 ⟨y2,hp2,t2,hn2,ht2⟩;obtain⟨nk,nt,na,nn,nc,rfl,hr2⟩:=hn2.get;refine xo rfl (cO) ?_;rintro _ h3 ⟨rfl,k3,e3,z3⟩;refine aM rfl (aY rfl rfl k3 lq) ?_;rintro _ h4 ⟨rfl,k4,x4,z4⟩;have z2:=y2.size;have x24:Ext (fun b=>b=h2.size) h2 h4:=e3.of.trans x4;have hI:Dw c h h4 h2.size v s1:=⟨(hp2.ah e3).ext x4 (fun b hb q=>by omega),((e1.of.trans y2).trans e3.of).bH x4 (fun b hb q=>by omega),((k1.ext y2 (by omega)).ah e3).ext x4 (show ¬h.size=h2.size by omega),by omega,nk,nt,na,nn,nc,t2,k4,bK hr2 x24 (fun b hb q=>⟨fun q2=>by omega,fun q2=>q (by omega)⟩),ht2⟩
 refine af ?_;refine gY (σ:=Nat×Tr×PS) (fun _=>[]) (fun w g=>w.1<=n/\pM c.e w.1 (.opL 4 w.2.1) w.2.2=some (t,s')/\Dw c h g h2.size w.2.1 w.2.2) (fun w=>w.1) ((n,v,s1)) ⟨Nat.le_refl _,hm,hI⟩ rfl ?_;rintro⟨m,u,sI⟩ g ⟨hmn,hm,hI⟩ ihL
 try dsimp only
 obtain⟨m,rfl⟩:∃m',m=m'+1:=by cases m with|zero=>cases hm|succ m=>exact⟨m,rfl⟩
 rw[pM,OA] at hm;refine af ?_;refine xo rfl (iL [_,_]) ?_;rintro _ w5 ⟨rfl,hw5⟩;have y5:aj g w5:=by rw[hw5];exact Ext.push _ _ _
 have ts5:aT oe w5 (fun _=>False) (.slice (some ⟨Array.size g,0,none⟩) 2 2) HZ:=by rw[hw5];exact bB _ HZ _ rfl (by simp[maxLen]) rfl
 refine xo rfl (aE rfl (bA (hI.st.ah y5) 6 ts5)) ?_;rintro _ h5 ⟨rfl,hp5,x5⟩;have x5:=y5.of.trans x5
 rcases hq5:bW 6 HZ sI with ⟨o5,s5⟩
 rw[hq5] at hp5 hm
 rcases o5 with _|v5
 · simp only at hm;obtain⟨rfl,rfl⟩:u=t/\s5=s':=by cases hm;exact⟨rfl,rfl⟩
   refine af ?_;refine fF rfl (by simp) ?_;have hI2:=hI.mv hpl x5 hp5 (fun q=>bf hq5 q);obtain⟨j1,j2,j3,j4,jk,jx,ja,jn,jc,ju,j5,j6,j7⟩:=hI2;refine af ?_;refine xp rfl (bY rfl j5.row) ?_;refine aM rfl (aY rfl rfl j3 lq) ?_;rintro _ hz ⟨rfl,kz,xz,zz⟩;refine af ?_;refine ct (cj rfl kz.row cq) ?_;exact⟨_,rfl,bD hp j2 j1 (eF.of (bK j6 (Ext.refl (fun _=>False) _) (fun b hb q=>⟨fun q2=>q2,fun q2=>q (.inl q2)⟩))) j7 xz⟩
 · simp only at hm;obtain⟨v2,s3,hv2,hm⟩:=az hm;rw[if_neg (by decide)] at hm;refine af ?_;refine fe rfl (by simp) ?_;have hI2:=hI.mv hpl x5 hp5 (fun q=>bf hq5 q);obtain⟨j1,j2,j3,j4,jk,jx,ja,jn,jc,ju,j5,j6,j7⟩:=hI2;have j5l:=j5.lt;have j2z:=j2.size;refine af ?_;refine me 6 (fun b=>b=c.pb\/Array.size h5<=b) (fun i=>Nat.blt i 5) ?_;refine aI 0 ?_;refine bI 1 rfl (fun h' e=>bY rfl (e.rowAt (by omega) j5.row)) ?_;refine aI 2 ?_;refine dH 3 rfl (aE rfl ((ih m (by omega)).p5 _ _ _ _ _ hp5 hv2)) ?_;rintro r6 h6 ⟨y6,hp6,t6,hn6,ht6⟩;refine⟨fun _=>y6.mono (fun _ _ q=>.inl q),?_⟩;have z6:=y6.size;refine dH 4 rfl (aE rfl (gi (O:=fun b=>b<=h.size\/b=h2.size) v5 (fun b q=>by omega) (eF.of (bK j6 y6 (fun b hb q=>⟨fun q2=>q (by omega),q⟩))) (hn6.ext (Ext.refl (fun _=>False) _) (fun b hb q=>⟨fun q2=>q2,fun q2=>q (by omega)⟩)))) ?_;rintro r8 h8 ⟨hn8,e8⟩;refine⟨fun _=>e8.of,?_⟩;have z8:=e8.size;obtain⟨mk,mt,ma,mn,mc,rfl,hr8⟩:=hn8.get;refine kX 5 rfl (aY rfl rfl (((j5.ext y6 (show ¬h2.size=c.pb by omega)).ah e8)) lq) ?_;rintro _ h9 ⟨rfl,k9,x9,z9⟩;refine⟨nofun,?_⟩;refine iT ?_;refine af ?_;exact ihL (m,.mk 5 v5 [u,v2],s3) ⟨by omega,hm,⟨(hp6.ah e8).ext x9 (fun b hb q=>by omega),((j2.trans y6).trans e8.of).bH x9 (fun b hb q=>by omega),((j3.ext y6 (show ¬h.size=c.pb by omega)).ah e8).ext x9 (show ¬h.size=h2.size by omega),j4,mk,mt,ma,mn,mc,_,k9,bK hr8 x9 (fun b hb q=>⟨fun q2=>q (.inr q2),q⟩),fun q=>by rw[j7 (bZ hv2 q),ht6 q]⟩⟩ (Nat.lt_succ_self _)
theorem BE (ih:∀m,m<=n->BD m):Ct 211 [] (.part 5) (n+1):=by
 intro c h s t s' hp hm;have hpl:=hp.lt;obtain⟨o1,o2⟩:=hp.old;rw[pM,if_neg (by decide),if_neg (by decide),if_neg (by decide)] at hm;obtain⟨v,s1,hv,hm⟩:=az hm;refine bL ?_;refine af ?_;refine xo rfl (cO) ?_;rintro _ h1 ⟨rfl,k1,e1,z1⟩;refine af ?_;refine xo rfl (aE rfl ((ih n (Nat.le_refl _)).p6 _ _ _ _ _ (hp.ah e1) hv)) ?_;rintro r2 h2 ⟨y2,hp2,t2,hn2,ht2⟩;obtain⟨nk,nt,na,nn,nc,rfl,hr2⟩:=hn2.get;refine xo rfl (cO) ?_;rintro _ h3 ⟨rfl,k3,e3,z3⟩;refine aM rfl (aY rfl rfl k3 lq) ?_;rintro _ h4 ⟨rfl,k4,x4,z4⟩;have z2:=y2.size;have x24:Ext (fun b=>b=h2.size) h2 h4:=e3.of.trans x4;have hI:Dw c h h4 h2.size v s1:=⟨(hp2.ah e3).ext x4 (fun b hb q=>by omega),((e1.of.trans y2).trans e3.of).bH x4 (fun b hb q=>by omega),((k1.ext y2 (by omega)).ah e3).ext x4 (show ¬h.size=h2.size by omega),by omega,nk,nt,na,nn,nc,t2,k4,bK hr2 x24 (fun b hb q=>⟨fun q2=>by omega,fun q2=>q (by omega)⟩),ht2⟩
 refine af ?_;refine gY (σ:=Nat×Tr×PS) (fun _=>[]) (fun w g=>w.1<=n/\pM c.e w.1 (.opL 5 w.2.1) w.2.2=some (t,s')/\Dw c h g h2.size w.2.1 w.2.2) (fun w=>w.1) ((n,v,s1)) ⟨Nat.le_refl _,hm,hI⟩ rfl ?_;rintro⟨m,u,sI⟩ g ⟨hmn,hm,hI⟩ ihL
 try dsimp only
 obtain⟨m,rfl⟩:∃m',m=m'+1:=by cases m with|zero=>cases hm|succ m=>exact⟨m,rfl⟩
 rw[pM,Oz] at hm;refine af ?_;refine xo rfl (iL [_,_,_]) ?_;rintro _ w5 ⟨rfl,hw5⟩;have y5:aj g w5:=by rw[hw5];exact Ext.push _ _ _
 have ts5:aT oe w5 (fun _=>False) (.slice (some ⟨Array.size g,0,none⟩) 3 3) BU:=by rw[hw5];exact bB _ BU _ rfl (by simp[maxLen]) rfl
 refine xo rfl (aE rfl (bA (hI.st.ah y5) 6 ts5)) ?_;rintro _ h5 ⟨rfl,hp5,x5⟩;have x5:=y5.of.trans x5
 rcases hq5:bW 6 BU sI with ⟨o5,s5⟩
 rw[hq5] at hp5 hm
 rcases o5 with _|v5
 · simp only at hm;obtain⟨rfl,rfl⟩:u=t/\s5=s':=by cases hm;exact⟨rfl,rfl⟩
   refine af ?_;refine fF rfl (by simp) ?_;have hI2:=hI.mv hpl x5 hp5 (fun q=>bf hq5 q);obtain⟨j1,j2,j3,j4,jk,jx,ja,jn,jc,ju,j5,j6,j7⟩:=hI2;refine af ?_;refine xp rfl (bY rfl j5.row) ?_;refine aM rfl (aY rfl rfl j3 lq) ?_;rintro _ hz ⟨rfl,kz,xz,zz⟩;refine af ?_;refine ct (cj rfl kz.row cq) ?_;exact⟨_,rfl,bD hp j2 j1 (eF.of (bK j6 (Ext.refl (fun _=>False) _) (fun b hb q=>⟨fun q2=>q2,fun q2=>q (.inl q2)⟩))) j7 xz⟩
 · simp only at hm;obtain⟨v2,s3,hv2,hm⟩:=az hm;rw[if_neg (by decide)] at hm;refine af ?_;refine fe rfl (by simp) ?_;have hI2:=hI.mv hpl x5 hp5 (fun q=>bf hq5 q);obtain⟨j1,j2,j3,j4,jk,jx,ja,jn,jc,ju,j5,j6,j7⟩:=hI2;have j5l:=j5.lt;have j2z:=j2.size;refine af ?_;refine me 6 (fun b=>b=c.pb\/Array.size h5<=b) (fun i=>Nat.blt i 5) ?_;refine aI 0 ?_;refine bI 1 rfl (fun h' e=>bY rfl (e.rowAt (by omega) j5.row)) ?_;refine aI 2 ?_;refine dH 3 rfl (aE rfl ((ih m (by omega)).p6 _ _ _ _ _ hp5 hv2)) ?_;rintro r6 h6 ⟨y6,hp6,t6,hn6,ht6⟩;refine⟨fun _=>y6.mono (fun _ _ q=>.inl q),?_⟩;have z6:=y6.size;refine dH 4 rfl (aE rfl (gi (O:=fun b=>b<=h.size\/b=h2.size) v5 (fun b q=>by omega) (eF.of (bK j6 y6 (fun b hb q=>⟨fun q2=>q (by omega),q⟩))) (hn6.ext (Ext.refl (fun _=>False) _) (fun b hb q=>⟨fun q2=>q2,fun q2=>q (by omega)⟩)))) ?_;rintro r8 h8 ⟨hn8,e8⟩;refine⟨fun _=>e8.of,?_⟩;have z8:=e8.size;obtain⟨mk,mt,ma,mn,mc,rfl,hr8⟩:=hn8.get;refine kX 5 rfl (aY rfl rfl (((j5.ext y6 (show ¬h2.size=c.pb by omega)).ah e8)) lq) ?_;rintro _ h9 ⟨rfl,k9,x9,z9⟩;refine⟨nofun,?_⟩;refine iT ?_;refine af ?_;exact ihL (m,.mk 5 v5 [u,v2],s3) ⟨by omega,hm,⟨(hp6.ah e8).ext x9 (fun b hb q=>by omega),((j2.trans y6).trans e8.of).bH x9 (fun b hb q=>by omega),((j3.ext y6 (show ¬h.size=c.pb by omega)).ah e8).ext x9 (show ¬h.size=h2.size by omega),j4,mk,mt,ma,mn,mc,_,k9,bK hr8 x9 (fun b hb q=>⟨fun q2=>q (.inr q2),q⟩),fun q=>by rw[j7 (bZ hv2 q),ht6 q]⟩⟩ (Nat.lt_succ_self _)
theorem uI (ih:∀m,m<=n->BD m):Ct 193 [] (.part 3) (n+1):=by
 intro c h s t s' hp hm;have hpl:=hp.lt;obtain⟨o1,o2⟩:=hp.old;rw[pM,if_neg (by decide),if_neg (by decide),if_neg (by decide)] at hm;obtain⟨v,s1,hv,hm⟩:=az hm;refine bL ?_;refine af ?_;refine xo rfl (cO) ?_;rintro _ h1 ⟨rfl,k1,e1,z1⟩;refine af ?_;refine xo rfl (aE rfl ((ih n (Nat.le_refl _)).p4 _ _ _ _ _ (hp.ah e1) hv)) ?_;rintro r2 h2 ⟨y2,hp2,t2,hn2,ht2⟩;obtain⟨nk,nt,na,nn,nc,rfl,hr2⟩:=hn2.get;refine xo rfl (cO) ?_;rintro _ h3 ⟨rfl,k3,e3,z3⟩;refine aM rfl (aY rfl rfl k3 lq) ?_;rintro _ h4 ⟨rfl,k4,x4,z4⟩;have z2:=y2.size;have x24:Ext (fun b=>b=h2.size) h2 h4:=e3.of.trans x4;have hI:Dw c h h4 h2.size v s1:=⟨(hp2.ah e3).ext x4 (fun b hb q=>by omega),((e1.of.trans y2).trans e3.of).bH x4 (fun b hb q=>by omega),((k1.ext y2 (by omega)).ah e3).ext x4 (show ¬h.size=h2.size by omega),by omega,nk,nt,na,nn,nc,t2,k4,bK hr2 x24 (fun b hb q=>⟨fun q2=>by omega,fun q2=>q (by omega)⟩),ht2⟩
 obtain⟨m,rfl⟩:∃m',n=m'+1:=by cases n with|zero=>cases hm|succ m=>exact⟨m,rfl⟩
 rw[pM,OB] at hm;refine af ?_;refine xo rfl (iL [_,_,_,_,_,_]) ?_;rintro _ w5 ⟨rfl,hw5⟩;have y5:aj h4 w5:=by rw[hw5];exact Ext.push _ _ _
 have ts5:aT oe w5 (fun _=>False) (.slice (some ⟨Array.size h4,0,none⟩) 6 6) H6:=by rw[hw5];exact bB _ H6 _ rfl (by simp[maxLen]) rfl
 refine xo rfl (aE rfl (bA (hI.st.ah y5) 6 ts5)) ?_;rintro _ h5 ⟨rfl,hp5,x5⟩;have x5:=y5.of.trans x5
 rcases hq5:bW 6 H6 s1 with ⟨o5,s5⟩
 rw[hq5] at hp5 hm
 rcases o5 with _|v5
 · simp only at hm;obtain⟨rfl,rfl⟩:v=t/\s5=s':=by cases hm;exact⟨rfl,rfl⟩
   refine af ?_;refine fe rfl (by simp) ?_;have hI2:=hI.mv hpl x5 hp5 (fun q=>bf hq5 q);obtain⟨j1,j2,j3,j4,jk,jx,ja,jn,jc,ju,j5,j6,j7⟩:=hI2;refine af ?_;refine xp rfl (bY rfl j5.row) ?_;refine aM rfl (aY rfl rfl j3 lq) ?_;rintro _ hz ⟨rfl,kz,xz,zz⟩;refine af ?_;refine ct (cj rfl kz.row cq) ?_;exact⟨_,rfl,bD hp j2 j1 (eF.of (bK j6 (Ext.refl (fun _=>False) _) (fun b hb q=>⟨fun q2=>q2,fun q2=>q (.inl q2)⟩))) j7 xz⟩
 · simp only at hm;obtain⟨v2,s3,hv2,hm⟩:=az hm;rw[if_pos trivial] at hm;obtain⟨rfl,rfl⟩:Tr.mk 5 v5 [v,v2]=t/\s3=s':=by cases hm;exact⟨rfl,rfl⟩
   refine af ?_;refine fF rfl (by simp) ?_;have hI2:=hI.mv hpl x5 hp5 (fun q=>bf hq5 q);obtain⟨j1,j2,j3,j4,jk,jx,ja,jn,jc,ju,j5,j6,j7⟩:=hI2;have j5l:=j5.lt;have j2z:=j2.size;refine af ?_;refine me 6 (fun b=>b=c.pb\/Array.size h5<=b) (fun i=>Nat.blt i 5) ?_;refine aI 0 ?_;refine bI 1 rfl (fun h' e=>bY rfl (e.rowAt (by omega) j5.row)) ?_;refine aI 2 ?_;refine dH 3 rfl (aE rfl ((ih m (by omega)).p4 _ _ _ _ _ hp5 hv2)) ?_;rintro r6 h6 ⟨y6,hp6,t6,hn6,ht6⟩;refine⟨fun _=>y6.mono (fun _ _ q=>.inl q),?_⟩;have z6:=y6.size;refine dH 4 rfl (aE rfl (gi (O:=fun b=>b<=h.size\/b=h2.size) v5 (fun b q=>by omega) (eF.of (bK j6 y6 (fun b hb q=>⟨fun q2=>q (by omega),q⟩))) (hn6.ext (Ext.refl (fun _=>False) _) (fun b hb q=>⟨fun q2=>q2,fun q2=>q (by omega)⟩)))) ?_;rintro r8 h8 ⟨hn8,e8⟩;refine⟨fun _=>e8.of,?_⟩;have z8:=e8.size;obtain⟨mk,mt,ma,mn,mc,rfl,hr8⟩:=hn8.get;refine kX 5 rfl (aY rfl rfl (((j3.ext y6 (show ¬h.size=c.pb by omega)).ah e8)) lq) ?_;rintro _ h9 ⟨rfl,k9,x9,z9⟩;refine⟨nofun,?_⟩;refine iT ?_;refine ct (cj rfl k9.row cq) ?_;exact⟨_,rfl,bD hp ((j2.trans y6).trans e8.of) (hp6.ah e8) (eF.of (bK hr8 (Ext.refl (fun _=>False) _) (fun b hb q=>⟨fun q2=>q2,fun q2=>q (.inl q2)⟩))) (fun q=>by rw[j7 (bZ hv2 q),ht6 q]) x9⟩
theorem BH (ih:∀m,m<=n->BD m):Ct 216 [] (.part 7) (n+1):=by
 intro c h s t s' hp hm;have hpl:=hp.lt;obtain⟨o1,o2⟩:=hp.old;rw[pM,if_pos rfl] at hm;obtain⟨v,s1,hv,hm⟩:=az hm;refine bL ?_;refine af ?_;refine xo rfl (cO) ?_;rintro _ h1 ⟨rfl,k1,e1,z1⟩;refine af ?_;refine xo rfl (aE rfl ((ih n (Nat.le_refl _)).atom _ _ _ _ _ (hp.ah e1) hv)) ?_;rintro r2 h2 ⟨y2,hp2,t2,hn2,ht2⟩;obtain⟨nk,nt,na,nn,nc,rfl,hr2⟩:=hn2.get;refine xo rfl (cO) ?_;rintro _ h3 ⟨rfl,k3,e3,z3⟩;refine aM rfl (aY rfl rfl k3 lq) ?_;rintro _ h4 ⟨rfl,k4,x4,z4⟩;have z2:=y2.size;have x24:Ext (fun b=>b=h2.size) h2 h4:=e3.of.trans x4;have hI:Dw c h h4 h2.size v s1:=⟨(hp2.ah e3).ext x4 (fun b hb q=>by omega),((e1.of.trans y2).trans e3.of).bH x4 (fun b hb q=>by omega),((k1.ext y2 (by omega)).ah e3).ext x4 (show ¬h.size=h2.size by omega),by omega,nk,nt,na,nn,nc,t2,k4,bK hr2 x24 (fun b hb q=>⟨fun q2=>by omega,fun q2=>q (by omega)⟩),ht2⟩
 refine af ?_;refine gY (σ:=Nat×Tr×PS) (fun _=>[]) (fun w g=>w.1<=n/\pM c.e w.1 (.callL w.2.1) w.2.2=some (t,s')/\Dw c h g h2.size w.2.1 w.2.2) (fun w=>w.1) ((n,v,s1)) ⟨Nat.le_refl _,hm,hI⟩ rfl ?_;rintro⟨m,u,sI⟩ g ⟨hmn,hm,hI⟩ ihL
 try dsimp only
 obtain⟨m,rfl⟩:∃m',m=m'+1:=by cases m with|zero=>cases hm|succ m=>exact⟨m,rfl⟩
 rw[pM] at hm;refine af ?_;refine xo rfl (iL [_]) ?_;rintro _ w5 ⟨rfl,hw5⟩;have y5:aj g w5:=by rw[hw5];exact Ext.push _ _ _
 have ts5:aT oe w5 (fun _=>False) (.slice (some ⟨Array.size g,0,none⟩) 1 1) [[40]]:=by rw[hw5];exact bB _ [[40]] _ rfl (by simp[maxLen]) rfl
 refine xo rfl (aE rfl (bA (hI.st.ah y5) 7 ts5)) ?_;rintro _ h5 ⟨rfl,hp5,x5⟩;have x5:=y5.of.trans x5
 rcases hq5:bW 7 [[40]] sI with ⟨o5,s5⟩
 rw[hq5] at hp5 hm
 rcases o5 with _|v5
 · simp only at hm;obtain⟨rfl,rfl⟩:u=t/\s5=s':=by cases hm;exact⟨rfl,rfl⟩
   refine af ?_;refine fF rfl (by simp) ?_;have hI2:=hI.mv hpl x5 hp5 (fun q=>bf hq5 q);obtain⟨j1,j2,j3,j4,jk,jx,ja,jn,jc,ju,j5,j6,j7⟩:=hI2;refine af ?_;refine xp rfl (bY rfl j5.row) ?_;refine aM rfl (aY rfl rfl j3 lq) ?_;rintro _ hz ⟨rfl,kz,xz,zz⟩;refine af ?_;refine ct (cj rfl kz.row cq) ?_;exact⟨_,rfl,bD hp j2 j1 (eF.of (bK j6 (Ext.refl (fun _=>False) _) (fun b hb q=>⟨fun q2=>q2,fun q2=>q (.inl q2)⟩))) j7 xz⟩
 · simp only at hm;refine af ?_;refine fe rfl (by simp) ?_;have hI5:=hI.mv hpl x5 hp5 (fun q=>bf hq5 q);refine af ?_;refine gY (σ:=Nat×Tr×PS) (fun _=>[]) (fun w g=>w.1<=m/\pM c.e w.1 (.argL w.2.1) w.2.2=some (t,s')/\Dw c h g h2.size w.2.1 w.2.2) (fun w=>w.1) ((m,u,s5)) ⟨Nat.le_refl _,hm,hI5⟩ rfl ?_;rintro⟨m2,u2,sJ⟩ g2 ⟨hmn2,hm,hJ⟩ ihA
   try dsimp only
   obtain⟨m2,rfl⟩:∃m',m2=m'+1:=by cases m2 with|zero=>cases hm|succ m=>exact⟨m,rfl⟩
   rw[pM] at hm;obtain⟨v2,s3,hv2,hm⟩:=az hm;obtain⟨j1,j2,j3,j4,jk,jx,ja,jn,jc,ju,j5,j6,j7⟩:=hJ;have j5l:=j5.lt;have j2z:=j2.size;refine af ?_;refine me 6 (fun b=>b=c.pb\/Array.size g2<=b) (fun i=>Nat.blt i 5) ?_;refine bI 0 rfl (fun h' e=>bY rfl (e.rowAt (by omega) j5.row)) ?_;refine aI 1 ?_;refine dH 2 rfl (aE rfl ((ih m2 (by omega)).expr _ _ _ _ _ j1 hv2)) ?_;rintro r6 h6 ⟨y6,hp6,t6,hn6,ht6⟩;refine⟨fun _=>y6.mono (fun _ _ q=>.inl q),?_⟩;have z6:=y6.size;obtain⟨mk,mt,ma,mn,mc,rfl,hr6⟩:=hn6.get;refine dH 3 rfl (aQ.sC underlying37 H.Lc ([[.int .i64 jk,.string (bs jx),.slice ja jn jc],[.int .i64 mk,.string (bs mt),.slice ma mn mc]]) rfl rfl (by decide) (by simp<;>repeat' (first|rfl|constructor))) ?_;rintro _ h8 ⟨rfl,hh8⟩;refine⟨fun _=>(by rw[hh8];exact Ext.push _ _ _),?_⟩;have e8:aj h6 h8:=by rw[hh8];exact Ext.push _ _ _
   have z8:h8.size=h6.size+1:=by rw[hh8];simp
   have hs8:cH eN (fun b=>b<=h.size\/b=h2.size) h8 h6.size 39 (.slice (some ⟨h6.size,0,none⟩) 2 2) [ju,t6]:=by
    rw[hh8];exact vL (bK j6 y6 (fun b hb q=>⟨fun q2=>q (by omega),q⟩)) (bK hr6 (Ext.refl (fun _=>False) _) (fun b hb q=>⟨fun q2=>q2,fun q2=>q (by omega)⟩)) (Nat.le_refl _)
   have hs8':aT eN h8 (fun b=>b<=h.size\/b=h2.size) (.slice (some ⟨h6.size,0,none⟩) 2 2) [ju,t6]:=hs8.read (fun b hb q=>by omega) (fun b hb q=>q);refine bI 4 rfl (fun h' e=>av (H.Dc _ _ _ _) rfl) ?_;refine kX 5 rfl (aY rfl rfl (((j5.ext y6 (show ¬h2.size=c.pb by omega)).ah e8)) lq) ?_;rintro _ h9 ⟨rfl,k9,x9,z9⟩;refine⟨nofun,?_⟩;have k9:aD h9 h2.size 39 [.int .i64 9,.string (bs []),.slice (some ⟨h6.size,0,none⟩) 2 2]:=k9;have hI9:Dw c h h9 h2.size (.mk 9 [] [u2,v2]) s3:=⟨(hp6.ah e8).ext x9 (fun b hb q=>by omega),((j2.trans y6).trans e8.of).bH x9 (fun b hb q=>by omega),((j3.ext y6 (show ¬h.size=c.pb by omega)).ah e8).ext x9 (show ¬h.size=h2.size by omega),j4,_,_,_,_,_,_,k9,rB (hs8'.mv (Mv.cx x9 fun b hb q=>⟨fun q2=>q (.inr q2),q⟩)),fun q=>by rw[j7 (bZ hv2 q),ht6 q]⟩
   refine iT ?_;refine af ?_;refine xo rfl (iL [_]) ?_;rintro _ w10 ⟨rfl,hw10⟩;have y10:aj h9 w10:=by rw[hw10];exact Ext.push _ _ _
   have ts10:aT oe w10 (fun _=>False) (.slice (some ⟨Array.size h9,0,none⟩) 1 1) [[44]]:=by rw[hw10];exact bB _ [[44]] _ rfl (by simp[maxLen]) rfl
   refine xo rfl (aE rfl (bA (hI9.st.ah y10) 6 ts10)) ?_;rintro _ h10 ⟨rfl,hp10,x10⟩;have x10:=y10.of.trans x10
   rcases hq10:bW 6 [[44]] s3 with ⟨o10,s10⟩
   rw[hq10] at hp10 hm;have hI10:=hI9.mv hpl x10 hp10 (fun q=>bf hq10 q)
   rcases o10 with _|v10
   · simp only at hm;refine af ?_;refine fF rfl (by simp) ?_;refine af ?_;refine xo rfl (aE rfl (gD hp10 8 [41])) ?_;rintro _ h11 ⟨hp11,x11⟩;have hI11:=hI10.mv hpl x11 hp11 (fun q=>fq q);refine af ?_;exact ihL (m2,.mk 9 [] [u2,v2],_) ⟨by omega,hm,hI11⟩
   · simp only at hm;refine af ?_;refine fe rfl (by simp) ?_;refine af ?_;exact ihA (m2,.mk 9 [] [u2,v2],_) ⟨by omega,hm,hI10⟩
structure F2 (c:PC) (h g:ai) (b3:Nat) (K:Int) (l:List Tr) (kv:Value) (s1:PS):Prop where
 st:rO c g s1
 ext:Ext (fun b=>b=c.pb) h g
 res:aD g h.size 39 [.int .i64 0,.string (bs []),.slice none 0 0]
 lt:h.size<b3
 nd:aD g b3 39 [.int .i64 K,.string (bs []),kv]
 row:cH eN (fun b=>b<=h.size\/b=b3) g (h.size+1) 39 kv l
 own:∀b,kv.ownBlock=some b->h.size<b/\b≠b3/\b<g.size
 sl:∃a m d,kv= .slice a m d
theorem F2.mv {c:PC}{g':ai}{K:Int}{l:List Tr}{kv:Value}{s2:PS}(k:F2 c h g b3 K l kv s1) (hp:c.pb<h.size) (x:Ext (fun b=>b=c.pb) g g') (hs:rO c g' s2):F2 c h g' b3 K l kv s2:=by
 obtain⟨k1,k2,k3,k4,k5,k6,k7,k8⟩:=k;have:=x.size;exact⟨hs,k2.trans x,k3.ext x (by omega),k4,k5.ext x (by omega),k6.qD x (fun b q q2=>by have:=k7 b q;omega) (fun b hb q=>by omega) (fun _ _ q=>q),fun b q=>by have:=k7 b q;omega,k8⟩
theorem F2.tell {c:PC}{K:Int}{l:List Tr}{kv:Value}(k:F2 c h g b3 K l kv s1):eF g (fun b=>b<=h.size) (.agg #[.int .i64 K,.string (bs []),kv]) (.mk K [] l) :=
 eF.shut (k.row.read (fun b hb q=>by omega) (fun b hb q=>.inl q))
end
end Go.Proofs.YtoickfdopobmgaaGreatDoor
namespace Go.Proofs.YtoickfdopobmgaaGreatDoor
open Go
section
variable {k e:Int}{ts:List By}{s:PS}
def uw:List Un->Nat
  | []=>0
  |u::l=>2*u.2.1.length+40+uw l
def wS:PS->Nat|.ok r=>uw r|.bad _=>0
theorem Ky (l m:List Un):uw (l++m)=uw l+uw m:=by
  induction l with
  |nil=>simp[uw]
  |cons u l ih=>simp only[List.cons_append,uw,ih];omega
theorem Ad (l m:List Tr):nr (l++m)=nr l+nr m:=by
  induction l with
  |nil=>simp[nr]
  |cons u l ih=>simp only[List.cons_append,nr,ih];omega
theorem zD {s':PS}{x:By}(h:bW k ts s=(some x,s')):wS s=wS s'+(2*x.length+40):=by
  obtain⟨u,r,rfl,rfl,_,h2,_⟩:=lW h;simp only[wS,uw,<-h2];omega
theorem oM {t:By}(h:(cC e k t s).cm=false):wS (cC e k t s)+40<=wS s:=by
  unfold cC at h ⊢
  rcases hq:bW k [t] s with ⟨o,s1⟩
  rw[hq] at h;cases o with
  |none=>rw[fA] at h;cases h
  |some x=>have:=zD hq;show wS s1+40<=wS s;omega
theorem AK (h:(cF e s).2.cm=false):wS (cF e s).2+(2*(cF e s).1.length+40)<=wS s:=by
  cases s with
  |bad m=>cases h
  |ok r =>
    cases r with
    |nil=>cases h
    |cons u r =>
      rw[jS] at h ⊢;split at h
      · rename_i q;rw[if_pos q];simp only[wS,uw];omega
      · cases h
theorem Oy {k:Nat}{s':PS}{x:By}(h:Cn k s=(some x,s')):wS s'+(2*x.length+20)<=wS s:=by
  have key:∀{k ts}{s s':PS}{x:By},bW k ts s=(some x,s')->wS s'+(2*x.length+20)<=wS s:=fun h=>by have:=zD h;omega
  have two:∀{a b z:By}(_:z.length<=3),((match bW 4 [a] s with|(some _,s)=>(some z,s)|(none,s)=>match bW 6 [b] s with|(some _,s)=>(some z,s)|(none,s)=>(none,s)):Option By×PS)=(some x,s')->wS s'+(2*x.length+20)<=wS s:=fun {a b z} hz h0=>by
    rcases hq:bW 4 [a] s with ⟨o,s1⟩
    rw[hq] at h0;cases o with
    |some y=>have:=zD hq;cases h0;omega
    |none =>
      have:=aJ hq;subst this;dsimp only at h0
      rcases hq2:bW 6 [b] s1 with ⟨o,s2⟩
      rw[hq2] at h0;cases o with
      |some y=>have:=zD hq2;cases h0;omega
      |none=>cases h0
  unfold Cn at h;split at h
  · exact two (z:=s7) (by decide) h
  · split at h
    · exact two (z:=lK) (by decide) h
    · split at h
      · exact key h
      · split at h<;>exact key h
def jw:Dp->Nat
  |.blockL l=>nr l+20
  |.opL _ t=>t.wt
  |.callL t=>t.wt
  |.argL t=>t.wt+20
  |_=>0
theorem kH (k:Int) (t:By) (l:List Tr):(Tr.mk k t l).wt=2*t.length+20+nr l:=by rw[Tr.wt]
theorem qF (a:Tr):nr [a]=a.wt:=by simp[nr]
theorem BJ (a b:Tr):nr [a,b]=a.wt+b.wt:=by simp[nr]
theorem NX (a b c:Tr):nr [a,b,c]=a.wt+(b.wt+c.wt):=by simp[nr]
theorem Ov (e:Int):∀(n:Nat) (j:Dp) (s:PS) (t:Tr) (s':PS),pM e n j s=some (t,s')->s'.cm=false->t.wt+wS s'<=wS s+jw j:=by
  intro n
  induction n with
  |zero=>intro j s t s' h;cases h
  |succ n ih =>
  intro j s t s' h hg;have isw:∀{k ts}{s s1:PS}{x:By},bW k ts s=(some x,s1)->wS s1+40<=wS s:=fun h=>by have:=zD h;omega
  cases j with
  |stmt =>
    rw[pM] at h
    rcases hq:bW 4 [kZ] s with ⟨o,s1⟩
    rw[hq] at h;cases o with
    |some x=>have:=isw hq;have:=ih _ _ _ _ h hg;simp only[jw] at *;omega
    |none=>have:=aJ hq;subst this;simp only at h;have q:=ih _ _ _ _ h hg;exact q
  |expr =>
    rw[pM] at h
    rcases hq:bW 4 [kZ] s with ⟨o,s1⟩
    rw[hq] at h;cases o with
    |some x=>have:=isw hq;have:=ih _ _ _ _ h hg;simp only[jw] at *;omega
    |none =>
      have:=aJ hq;subst this;simp only at h
      rcases hq:bW 4 [Ai] s1 with ⟨o,s2⟩
      rw[hq] at h;cases o with
      |some x=>have:=isw hq;have:=ih _ _ _ _ h hg;simp only[jw] at *;omega
      |none =>
        have:=aJ hq;subst this;simp only at h
        rcases hq:bW 4 [uQ] s2 with ⟨o,s3⟩
        rw[hq] at h;cases o with
        |some x=>have:=isw hq;have:=ih _ _ _ _ h hg;simp only[jw] at *;omega
        |none=>have:=aJ hq;subst this;simp only at h;have q:=ih _ _ _ _ h hg;exact q
  |lt al =>
    rw[pM] at h;obtain⟨v,s1,hv,h⟩:=az h
    rcases hq:bW 4 [Kq] s1 with ⟨o,s2⟩
    rw[hq] at h
    have fin:s1.cm=false->v.wt+wS s1+(2*(cF e s).1.length+80)<=wS s:=fun g=>by
      have g1:=bZ hv g;have h1:=ih _ _ _ _ hv g;have h2:=oM g1;have h3:=AK (fq g1);simp only[jw] at h1;omega
    cases o with
    |some x =>
      obtain⟨w,s3,hw,h⟩:=az h;cases h;have g1:=bf hq (bZ hw hg);have:=fin g1;have:=isw hq;have:=ih _ _ _ _ hw hg;rw[kH,BJ];simp only[jw] at *;omega
    |none =>
      have:=aJ hq;subst this;cases al with
      |true=>simp only[if_true] at h;cases h;have:=fin hg;rw[kH,qF];simp only[jw];omega
      |false=>simp only[Bool.false_eq_true,if_false] at h;cases h;rw[fA] at hg;cases hg
  |choice =>
    rw[pM] at h;obtain⟨a,s1,ha,h⟩:=az h;obtain⟨b,s2,hb,h⟩:=az h
    rcases hq:bW 4 [Ai] (cC e 4 lJ s2) with ⟨o,s3⟩
    rw[hq] at h
    have fin:s3.cm=false->∀{c:Tr}{s4:PS},c.wt+wS s4<=wS s3->(Tr.mk 6 [] [a,b,c]).wt+wS s4<=wS s:=fun g {c s4} hc=>by
      have g2:=bf hq g;have g1:=fq g2;have h1:=oM g2;have h2:=ih _ _ _ _ hb g1;have h3:=ih _ _ _ _ ha (bZ hb g1)
      have h4:wS s3<=wS (cC e 4 lJ s2):=by
        cases o with
        |some x=>have:=isw hq;omega
        |none=>have:=aJ hq;rw[this];exact Nat.le_refl _
      rw[kH,NX];simp only[jw,List.length_nil] at *;omega
    cases o with
    |some x =>
      obtain⟨c,s4,hc,h⟩:=az h;cases h;exact fin (bZ hc hg) (ih _ _ _ _ hc hg)
    |none =>
      obtain⟨c,s4,hc,h⟩:=az h;cases h;exact fin (bZ hc hg) (ih _ _ _ _ hc hg)
  |fn =>
    rw[pM] at h
    rcases hq:bW 6 [[44]] (cF e s).2 with ⟨o,s1⟩
    rw[hq] at h;cases o with
    |some x =>
      obtain⟨a,s2,ha,h⟩:=az h;cases h;have g1:=bZ ha hg;have:=AK (bf hq g1);have:=isw hq;have:=ih _ _ _ _ ha hg;rw[kH,qF];simp only[jw] at *;omega
    |none =>
      have e1:=aJ hq;obtain⟨a,s2,ha,h⟩:=az h;cases h;have g1:=bZ ha hg;have g2:=fq g1;have h1:=oM g1;rw[e1] at g2 h1;have:=AK g2;have:=ih _ _ _ _ ha hg;rw[e1] at this;rw[kH,qF];simp only[jw] at *;omega
  |block =>
    rw[pM] at h;have h1:=ih _ _ _ _ h hg;have h2:=oM (bZ h hg);simp only[jw,nr] at *;omega
  |blockL l =>
    rw[pM] at h;obtain⟨a,s1,ha,h⟩:=az h
    rcases hq:bW 6 [[59]] s1 with ⟨o,s2⟩
    rw[hq] at h;simp only at h
    rcases hq2:bW 8 [[125]] s2 with ⟨o2,s3⟩
    rw[hq2] at h
    have h4:wS s2<=wS s1:=by
      cases o with
      |some x=>have:=isw hq;omega
      |none=>have:=aJ hq;rw[this];exact Nat.le_refl _
    cases o2 with
    |some x =>
      cases h;have:=isw hq2;have:=ih _ _ _ _ ha (bf hq (bf hq2 hg));rw[kH,Ad,qF];simp only[jw,List.length_nil] at *;omega
    |none =>
      have e3:=aJ hq2;subst e3;simp only at h;split at h
      · have h1:=ih _ _ _ _ h hg;have h2:=ih _ _ _ _ ha (bf hq (bZ h hg));simp only[jw,Ad,qF] at *;omega
      · cases h;rw[fA] at hg;cases hg
  |part k =>
    rw[pM] at h;split at h
    · obtain⟨a,s1,ha,h⟩:=az h;have:=ih _ _ _ _ h hg;have:=ih _ _ _ _ ha (bZ h hg);simp only[jw] at *;omega
    · split at h
      · rcases hq:bW 4 [kY] s with ⟨o,s1⟩
        rw[hq] at h;cases o with
        |some x =>
          obtain⟨a,s2,ha,h⟩:=az h;cases h;have:=isw hq;have:=ih _ _ _ _ ha hg;rw[kH,qF];have:kY.length=3:=rfl;simp only[jw] at *;omega
        |none =>
          have:=aJ hq;subst this;simp only at h
          rcases hq:bW 6 [uS] s1 with ⟨o,s2⟩
          rw[hq] at h;cases o with
          |some x =>
            obtain⟨a,s2,ha,h⟩:=az h;cases h;have:=isw hq;have:=ih _ _ _ _ ha hg;rw[kH,qF];have:kY.length=3:=rfl;simp only[jw] at *;omega
          |none=>have:=aJ hq;subst this;simp only at h;have q:=ih _ _ _ _ h hg;exact q
      · split at h
        · rcases hq:bW 6 [jG] s with ⟨o,s1⟩
          rw[hq] at h;cases o with
          |some x =>
            obtain⟨a,s2,ha,h⟩:=az h;cases h;have:=isw hq;have:=ih _ _ _ _ ha hg;rw[kH,qF];have:jG.length=1:=rfl;simp only[jw] at *;omega
          |none=>have:=aJ hq;subst this;simp only at h;have q:=ih _ _ _ _ h hg;exact q
        · obtain⟨a,s1,ha,h⟩:=az h;have:=ih _ _ _ _ h hg;have:=ih _ _ _ _ ha (bZ h hg);simp only[jw] at *;omega
  |opL k u =>
    rw[pM] at h
    rcases hq:Cn k s with ⟨o,s1⟩
    rw[hq] at h;cases o with
    |none=>cases h;have:=Cm hq;subst this;simp only[jw];omega
    |some x =>
      obtain⟨a,s2,ha,h⟩:=az h;have h1:=Oy hq;split at h
      · cases h;have:=ih _ _ _ _ ha hg;rw[kH,BJ];simp only[jw] at *;omega
      · have h3:=ih _ _ _ _ h hg;have:=ih _ _ _ _ ha (bZ h hg);simp only[jw] at *;rw[kH,BJ] at h3;omega
  |callL u =>
    rw[pM] at h
    rcases hq:bW 7 [[40]] s with ⟨o,s1⟩
    rw[hq] at h;cases o with
    |none=>cases h;have:=aJ hq;subst this;simp only[jw];omega
    |some x=>have:=isw hq;have:=ih _ _ _ _ h hg;simp only[jw] at *;omega
  |argL u =>
    rw[pM] at h;obtain⟨a,s1,ha,h⟩:=az h
    rcases hq:bW 6 [[44]] s1 with ⟨o,s2⟩
    rw[hq] at h;cases o with
    |some x =>
      have h1:=isw hq;have h3:=ih _ _ _ _ h hg;have:=ih _ _ _ _ ha (bf hq (bZ h hg));simp only[jw] at *;rw[kH,BJ] at h3;simp only[List.length_nil] at h3;omega
    |none =>
      have:=aJ hq;subst this;simp only at h;have g1:=bZ h hg;have h3:=ih _ _ _ _ h hg;have h2:=oM g1;have:=ih _ _ _ _ ha (fq g1);simp only[jw] at *;rw[kH,BJ] at h3;simp only[List.length_nil] at h3;omega
  |atom =>
    have h1:∃u r,s= .ok (u::r):=by
      cases s with
      |bad m=>have h:some (HA,PS.bad m)=some (t,s'):=h;cases h;cases hg
      |ok r=>cases r with
        |nil=>have h:some (HA,cI e (.ok []))=some (t,s'):=h;cases h;cases hg
        |cons u r=>exact⟨u,r,rfl⟩
    obtain⟨u,r,rfl⟩:=h1;rw[pM] at h;split at h
    · rename_i t' q;cases h;have k:∀k:Int,(Tr.mk k u.2.1 []).wt+uw r<=uw (u::r):=fun k=>by rw[kH];simp only[nr,uw];omega
      unfold lZ at q;split at q
      · cases q;exact k _
      · split at q
        · cases q;exact k _
        · split at q
          · cases q;exact k _
          · split at q
            · cases q;exact k _
            · cases q
    · split at h
      · have:=ih _ _ _ _ h hg;simp only[jw] at *;omega
      · split at h
        · obtain⟨a,s1,ha,h⟩:=az h;cases h;have h1:=ih _ _ _ _ ha (fq hg);have h2:=oM hg;simp only[jw,wS,uw] at *;omega
        · cases h;rw[fA] at hg;cases hg
theorem se {e:Int}:∀(n:Nat) (l:List Tr) (s:PS) (K:List Tr) (F:PS),cg e n l s=some (K,F)->F.cm=false->nr K+wS F<=nr l+wS s
  | 0,_,_,_,_,h,_=>by cases h
  |n+1,l,s,K,F,h,hg=>by
    rw[cg] at h;split at h
    · cases h;exact Nat.le_refl _
    · cases h1:pM e n .stmt s with
      |none=>rw[h1] at h;cases h
      |some p =>
        obtain⟨t,s1⟩:=p;rw[h1] at h;simp only[Option.bind_some] at h
        rcases h2:bW 6 [[59]] s1 with ⟨o,s2⟩
        rw[h2] at h
        have h4:wS s2<=wS s1:=by
          cases o with
          |some x=>have:=zD h2;omega
          |none=>have:=aJ h2;rw[this];exact Nat.le_refl _
        have good:s2.cm=false->nr (l++[t])+wS s2<=nr l+wS s:=fun g=>by
          have:=Ov e n _ _ _ _ h1 (bf h2 g);rw[Ad,qF];simp only[jw] at this;omega
        have pg:∀{n l s K F},cg e n l s=some (K,F)->F.cm=false->s.cm=false:=fun {n l s K F} h g=>by
          cases s with
          |ok r=>rfl
          |bad m =>
            cases n with
            |zero=>cases h
            |succ n=>rw[cg,if_pos (show (PS.bad m).len=0 from rfl)] at h;cases h;cases g
        cases o with
        |some x =>
          simp only at h;have:=se n _ _ _ _ h hg;have:=good (pg h hg);omega
        |none =>
          simp only at h;split at h
          · have:=se n _ _ _ _ h hg;have:=good (pg h hg);omega
          · have:=pg h hg;rw[fA] at this;cases this
theorem ER (x:By):∀l:List Un,uw (iB x l)<=uw l+2*x.length
  | []=>by simp[iB,uw]
  | [u]=>by simp only[iB,uw,List.length_append];omega
  |u::v::l=>by have:=ER x (v::l);simp only[iB,uw] at *;omega
theorem Kz {s:By}{out out':List Un}{op op':Bool}{t:Tok}(h:fR s out op t= .go out' op'):uw out'<=uw out+(2*s.length+42):=by
  have ht:(cB s t).length<=s.length:=by unfold cB;rw[List.length_take,List.length_drop];omega
  unfold fR at h;split at h
  · cases h
  · split at h
    · split at h
      · cases h;omega
      · split at h
        · cases h;have:=ER [rA (cB s t)] out;simp only[List.length_singleton] at this;omega
        · cases h;have:=ER (cB s t) out;omega
    · split at h
      · cases h;omega
      · split at h
        · cases h
        · cases h;rw[Ky];simp only[uw];split
          · simp only[List.length_nil];omega
          · omega
theorem E8 {s:By}:∀(l:List Tok) (out out':List Un) (op op':Bool),dX s l out op= .go out' op'->uw out'<=uw out+l.length*(2*s.length+42)
  | [],_,_,_,_,h=>by cases h;omega
  |t::l,out,out',op,op',h=>by
    rw[dX] at h;split at h
    · cases h
    · rename_i o1 p1 q;have h1:=Kz q;have h2:=E8 l _ _ _ _ h;rw[List.length_cons,Nat.succ_mul];omega
theorem cy.wt {s:By}{l:List Tok}{m:Int}{k:List Tr}{a:Int}(h:cy s l m k a e):nr k<=l.length*(2*s.length+42):=by
  cases h with
  |units _=>simp[nr]
  |bad _ _=>simp[nr]
  |ok h h2 =>
    rename_i u n r;have h1:=se _ _ _ _ _ h2 rfl;simp only[nr,wS] at h1;unfold eR at h;split at h
    · split at h
      · cases h
      · rename_i q;split at h
        · cases h
        · cases h;have:=E8 _ _ _ _ _ q;simp only[uw] at this;omega
    · cases h
abbrev V (W:By->Bool) (t:Tr):Prop:=cA W t=true
def E (W:By->Bool) (t:Tr):Prop:=V W t/\(t.kind≠7\/t.kids.length=2)
theorem Q1 {W:By->Bool}{t:By}{l:List Tr}:V W (.mk k t l)↔jJ W k t l.length=true/\ie W k 0 l=true:=by
  show (jJ W k t l.length && ie W k 0 l)=true↔_
  rw[Bool.and_eq_true]
def Pv (e:Int) (j:Dp) (s:List Un) (t:Tr) (r:List Un):Prop:=∃n,pM e n j (.ok s)=some (t,.ok r)
theorem now {t:Tr}{r:List Un}:∃n0:Nat,∀n:Nat,n0<=n->(some (t,PS.ok r):sO)=some (t,.ok r):=⟨0,fun _ _=>rfl⟩
theorem K2 {u:Un}{r:List Un}(h:u.1=k/\u.2.1∈ts):bW k ts (.ok (u::r))=(some u.2.1,.ok r):=by rw[jY,if_pos h]
theorem K3:bW k ts (.ok [])=(none,.ok []):=rfl
def Stop (u:Un):Prop:=u.1=8\/(u.1=6/\(u.2.1=[59]\/u.2.1=[44]))\/(u.1=4/\(u.2.1=Kq\/u.2.1=lJ))\/(u.1=7/\u.2.1=[123])
def Fr (r:List Un):Prop:=r=[]\/∃u r',r=u::r'/\Stop u
def Ss (u:Un):Prop:=u.1=5\/u.1=9\/u.1=3\/(u.1=4/\(u.2.1=kI\/u.2.1=nC))\/(u.1=7/\(u.2.1=[40]\/u.2.1=[123]))
def IM (t:By):Int:=if t=s7\/t=lK\/t=kY then 4 else 6
def Fe (r:List Un):Prop:=r=[]\/∃u r',r=u::r'/\(u.1=8\/u.1=6/\u.2.1=[59])
abbrev Sh:=Int×By
end
mutual
def Gb:Bool->Tr->List Sh
  |bare,.mk k t l =>
    if k=0 then [(5,t)] else if k=1 then [(9,t)] else if k=2 then [(4,t)] else if k=3 then [(3,t)]
    else if k=4 then (7,[40])::(IM t,t)::(Dr 4 0 l++[(8,[41])])
    else if k=5 then (7,[40])::(Dr 50 0 l++((IM t,t)::(Dr 51 0 l++[(8,[41])])))
    else if k=6 then (if bare then (4,Ai)::Dr 6 0 l else (7,[40])::(4,Ai)::(Dr 6 0 l++[(8,[41])]))
    else if k=7 then (if l.length=1 then (4,kZ)::(3,t)::(6,[61])::Dr 4 0 l else (7,[40])::(4,kZ)::(3,t)::(6,[61])::(Dr 50 0 l++((4,Kq)::(Dr 51 0 l++[(8,[41])]))))
    else if k=8 then (7,[40])::(4,uQ)::(3,t)::(6,[45,62])::(Dr 4 0 l++[(8,[41])])
    else if k=9 then Dr 50 0 l++((7,[40])::(Dr 51 0 l++[(8,[41])]))
    else (7,[123])::(Dr 10 0 l++[(8,[125])])
def Dr:Nat->Nat->List Tr->List Sh
  |_,_,[]=>[]
  |w,i,x::l =>
    if w=4 then Gb false x
    else if w=50 then Gb false x
    else if w=51 then (if i=1 then Gb false x else Dr 51 (i+1) l)
    else if w=6 then (if i=0 then Gb false x++Dr 6 1 l else if i=1 then Gb false x++((4,lJ)::Dr 6 2 l) else Gb true x)
    else (if l=[] then Gb false x else Gb false x++((6,[59])::Dr 10 (i+1) l))
end
section
variable {k e:Int}{ts:List By}{s:PS}
def Ce (u:Un):Sh:=(u.1,u.2.1)
theorem map_cons {us:List Un}{a:Sh}{l:List Sh}(h:us.map Ce=a::l):∃u s,us=u::s/\u.1=a.1/\u.2.1=a.2/\s.map Ce=l:=by
  cases us with
  |nil=>cases h
  |cons u s =>
    rw[List.map_cons,List.cons.injEq] at h;exact⟨u,s,rfl,by rw[<-h.1];rfl,by rw[<-h.1];rfl,h.2⟩
def Q3 (t:Tr):Prop:=t.kind=7->t.kids.length=2
structure Shn (e:Int) (t:Tr):Prop where
  q:Q3 t->∀us r t' r',us.map Ce=Gb false t->Pv e (.callL t) r t' r'->Pv e (.part 7) (us++r) t' r'
  hd:Q3 t->∀us,us.map Ce=Gb false t->∃u s,us=u::s/\Ss u
  s:¬Q3 t->∀us r,us.map Ce=Gb false t->Fe r->Pv e .stmt (us++r) t r
  b:t.kind=6->∀us r,us.map Ce=Gb true t->∃u s,us=u::s/\(u.1=4/\u.2.1=Ai)/\Pv e .choice (s++r) t r
  k:t.kind=10->∀us r,us.map Ce=Gb false t->∃u s,us=u::s/\(u.1=7/\u.2.1=[123])/\Pv e .block (us++r) t r
theorem Dg (n a:Nat) (st:uF):iA n [] a st=([],st):=by cases n<;>simp[iA]
theorem sK {n:Nat}{l:By}(hl:l≠[]) (hn:l.length<=n) (a:Nat) (st:uF) :
    iA n l a st=((yo l st.1,(a:Int),((a+iP l st.1:Nat):Int))::(iA n (l.drop (iP l st.1)) (a+iP l st.1) (o7 l st)).1,(iA n (l.drop (iP l st.1)) (a+iP l st.1) (o7 l st)).2):=by
  have hp:=List.length_pos_iff.2 hl;have hk:=qX hl st.1;obtain⟨m,rfl⟩:∃m,n=m+1:=⟨n-1,by omega⟩
  rw[sL (m+1) (m+1) (l.drop (iP l st.1)) _ _ (by rw[List.length_drop];omega) (by rw[List.length_drop];omega),<-sL m (m+1) (l.drop (iP l st.1)) (a+iP l st.1) (o7 l st) (by rw[List.length_drop];omega) (by rw[List.length_drop];omega)];rw[iA,if_neg hl]
theorem ox:∀(n:Nat) (l:By) (a:Nat) (st:uF),(iA n l a st).1.length<=l.length
  | 0,l,a,st=>by simp[iA]
  |n+1,l,a,st=>by
    rw[iA];split
    · simp
    · rename_i h;have h1:=qX h st.1;have h2:=ox n (l.drop (iP l st.1)) (a+iP l st.1) (o7 l st);rw[List.length_drop] at h2;simp only[List.length_cons];omega
end
end Go.Proofs.YtoickfdopobmgaaGreatDoor
namespace Go.Proofs.YtoickfdopobmgaaGreatDoor
open Go
set_option maxRecDepth 100000
section
variable {w r s:By}{U T:List Nat}{n:Int}{a:Nat}{c:UInt8}
def iU (ss:List aZ):List Nat->By->List Nat
  |T,[]=>T
  |T,c::w=>iU ss (bV ss c T) w
theorem B9 (ss:List aZ):∀w:By,iU ss [] w=[]
  | []=>rfl
  |c::w=>by rw[iU,yO,B9 ss w]
theorem vi (ss:List aZ):∀(v w:By) (T:List Nat),iU ss T (v++w)=iU ss (iU ss T v) w
  | [],_,_=>rfl
  |c::v,w,T=>vi ss v w _
def Ends (ss:List aZ) (U:List Nat) (r:By):Prop:=r=[]\/∃c r',r=c::r'/\bV ss c U=[]
theorem zj {ss:List aZ}{U:List Nat}(hU:0<=aL ss U) (hU0:U≠[]):∀(w:By) (T:List Nat) (k:Nat) (b:Int×Int) (r:By),iU ss T w=U->Ends ss U r ->
    gv ss (w++r) T k b=(((k+w.length:Nat):Int),aL ss U)
  | [],T,k,b,r,h,hr=>by
    have h:T=U:=h;subst h;have hT:¬T.length=0:=fun e=>hU0 (List.length_eq_zero_iff.1 e)
    rw[List.nil_append]
    rcases hr with rfl|⟨c,r',rfl,hc⟩
    · rw[gv,if_neg hT];simp only[if_pos hU];rfl
    · rw[gv,if_neg hT];simp only[if_pos hU];rw[qd (by rw[hc];rfl)];rfl
  |c::w,T,k,b,r,h,hr=>by
    have hT:¬T.length=0:=fun e=>hU0 (by rw[<-h,List.length_eq_zero_iff.1 e,B9])
    rw[List.cons_append,gv,if_neg hT];rw[zj hU hU0 w _ _ _ r h hr,List.length_cons,show k+1+w.length=k+(w.length+1) by omega]
abbrev T0:List Nat:=bR eC 53
theorem KU (hw:iU eC T0 w=U) (hU:aL eC U=n) (hn:0<=n) (hU0:U≠[]) (hr:Ends eC U r):fP 0 (w++r)=(((w.length:Nat):Int),n):=by
  show cY eC 53 (w++r)=_
  unfold cY;rw[if_neg (by decide),zj (by rw[hU];exact hn) hU0 w _ 0 _ r hw hr,hU,Nat.zero_add]
theorem E9 (h0:w≠[]){st:uF}(h:fP st.1 (w++r)=(((w.length:Nat):Int),n)) :
    iP (w++r) st.1=w.length/\yo (w++r) st.1=(if jX st.1 n=3/\bz w=true then 4 else jX st.1 n)/\o7 (w++r) st=gV st n:=by
  have hl:¬((w.length:Nat):Int)=0:=by have:=List.length_pos_iff.2 h0;omega
  unfold iP yo o7;rw[h];simp only[if_neg hl,Int.toNat_natCast,List.take_left];exact⟨trivial,trivial,trivial⟩
def kQ (l:By) (us:List Sh):Prop:=∀(s:By) (a n:Nat),s.drop a=l->a<=s.length->l.length<=n ->
  (iA n l a (0,0)).2.1=0/\(∀t∈(iA n l a (0,0)).1,yp s t=true)/\∀out:List Un,(∃vs:List Un,vs.map Ce=us/\dX s (iA n l a (0,0)).1 out false= .go (out++vs) false)\/∃p,dX s (iA n l a (0,0)).1 out false= .er p 3
theorem kQ.nil:kQ [] []:=fun s a n _ _ _=>by
  rw[Dg];exact⟨rfl,fun t ht=>(by cases ht),fun out=>.inl ⟨[],rfl,by rw[dX,List.append_nil]⟩⟩
theorem zL (h0:w≠[]) (hs:s.drop a=w++r):s.drop (a+w.length)=r/\a+w.length<=s.length:=by
  refine⟨by rw[<-List.drop_drop,hs,List.drop_left],?_⟩;have:=congrArg List.length hs;rw[List.length_drop,List.length_append] at this;have:=List.length_pos_iff.2 h0;omega
theorem HT (k:Int) (hs:s.drop a=w++r):cB s (k,((a:Nat):Int),((a+w.length:Nat):Int))=w:=by
  unfold cB;simp only[Int.toNat_natCast];rw[hs,show a+w.length-a=w.length by omega,List.take_left]
theorem HU (k:Int) (h:a+w.length<=s.length):yp s (k,((a:Nat):Int),((a+w.length:Nat):Int))=true:=by
  unfold yp;simp only[Bool.and_eq_true,decide_eq_true_eq];omega
theorem oV {us:List Sh}{k:Int}(h0:w≠[]) (h:fP 0 (w++r)=(((w.length:Nat):Int),n)) (hk:(if jX 0 n=3/\bz w=true then 4 else jX 0 n)=k) (ha:gV (0,0) n=(0,0))
    (hne:k≠0/\k≠1/\k≠2/\k≠11/\k≠9) (ih:kQ r us):kQ (w++r) ((k,w)::us):=by
  intro s a m hs hal hm;obtain⟨h1,h2,h3⟩:=E9 (st:=(0,0)) h0 h;obtain⟨hd,hlen⟩:=zL h0 hs;have hp:=List.length_pos_iff.2 h0;rw[sK (by simp[h0]) hm,h1,h2,h3,ha,hk,List.drop_left];obtain⟨i1,i2,i3⟩:=ih s (a+w.length) m hd hlen (by rw[List.length_append] at hm;omega);refine⟨i1,fun t ht=>?_,fun out=>?_⟩
  · rcases List.mem_cons.1 ht with rfl|ht
    · exact HU k hlen
    · exact i2 t ht
  rw[dX];unfold fR;rw[HT k hs];simp only;rw[if_neg hne.1,if_neg (by decide:¬false=true),if_neg (by rintro(q|q|q)<;>simp_all)]
  by_cases h5:out.length=500
  · rw[if_pos h5];exact .inr ⟨_,rfl⟩
  · rw[if_neg h5,if_neg hne.2.2.2.2,decide_eq_false hne.2.2.2.2]
    rcases i3 (out++[(k,w,(a:Int))]) with ⟨vs,q1,q2⟩|q
    · exact .inl ⟨(k,w,(a:Int))::vs,by rw[List.map_cons,q1];rfl,by show dX s _ (out++[(k,w,(a:Int))]) false=_;rw[q2];simp⟩
    · exact .inr q
theorem kQ.skip {us:List Sh}{k:Int}(h0:w≠[]) (h:fP 0 (w++r)=(((w.length:Nat):Int),n)) (hk:(if jX 0 n=3/\bz w=true then 4 else jX 0 n)=k) (ha:gV (0,0) n=(0,0))
    (hne:k=1\/k=2\/k=11) (ih:kQ r us):kQ (w++r) us:=by
  intro s a m hs hal hm;obtain⟨h1,h2,h3⟩:=E9 (st:=(0,0)) h0 h;obtain⟨hd,hlen⟩:=zL h0 hs;have hp:=List.length_pos_iff.2 h0;rw[sK (by simp[h0]) hm,h1,h2,h3,ha,hk,List.drop_left];obtain⟨i1,i2,i3⟩:=ih s (a+w.length) m hd hlen (by rw[List.length_append] at hm;omega);refine⟨i1,fun t ht=>?_,fun out=>?_⟩
  · rcases List.mem_cons.1 ht with rfl|ht
    · exact HU k hlen
    · exact i2 t ht
  rw[dX];unfold fR;simp only;rw[if_neg (by omega),if_neg (by decide:¬false=true),if_pos hne];exact i3 out
theorem QN {p:UInt8->Bool}(h:(List.range 256).all (fun n=>p (UInt8.ofNat n))=true) (c:UInt8):p c=true:=by
  have:=List.all_eq_true.1 h c.toNat (List.mem_range.2 c.toNat_lt);simpa using this
def xU (T:List Nat) (p:UInt8->Bool) (U:List Nat):Bool:=(List.range 256).all fun n=> !p (UInt8.ofNat n) ||decide (bV eC (UInt8.ofNat n) T=U)
theorem mS {p:UInt8->Bool}(h:xU T p U=true) (hc:p c=true):bV eC c T=U:=by
  have:=QN (p:=fun c=> !p c ||decide (bV eC c T=U)) h c;simpa [hc] using this
def QF (c:UInt8):Bool:=isLet c ||dz c
abbrev N1:List Nat:=[5,7]
theorem R6:xU T0 isLet N1=true:=by decide +kernel
theorem R5:xU N1 QF N1=true:=by decide +kernel
theorem R4:aL eC N1=2:=by decide +kernel
theorem Av {T:List Nat}{p:UInt8->Bool}(h:xU T p T=true):∀w:By,w.all p=true->iU eC T w=T
  | [],_=>rfl
  |c::w,k=>by
    rw[List.all_cons,Bool.and_eq_true] at k;rw[iU,mS h k.1];exact Av h w k.2
def yD (r:By):Prop:=r=[]\/∃c r',r=c::r'/\(c=32\/c=41\/c=40\/c=59)
theorem E1 (r:By):yD (32::r):=.inr ⟨_,_,rfl,.inl rfl⟩
theorem yD.cl (r:By):yD (41::r):=.inr ⟨_,_,rfl,.inr (.inl rfl)⟩
theorem yD.op (r:By):yD (40::r):=.inr ⟨_,_,rfl,.inr (.inr (.inl rfl))⟩
theorem NC (r:By):yD (59::r):=.inr ⟨_,_,rfl,.inr (.inr (.inr rfl))⟩
theorem yD.ends (h:yD r) (k:xU U (fun c=>c ==32 ||(c ==41 ||(c ==40 ||c ==59))) []=true):Ends eC U r:=by
  rcases h with rfl|⟨c,r',rfl,h⟩
  · exact .inl rfl
  · exact .inr ⟨c,r',rfl,mS k (by rcases h with rfl|rfl|rfl|rfl<;>decide)⟩
theorem Cq (h:qS w=true) (hr:yD r):fP 0 (w++r)=(((w.length:Nat):Int),2):=by
  cases w with
  |nil=>cases h
  |cons c w =>
    unfold qS at h;rw[Bool.and_eq_true] at h;refine KU (U:=N1) ?_ R4 (by decide) (by decide) (hr.ends (by decide +kernel));rw[iU,mS R6 h.1];exact Av R5 w h.2
theorem ze (h:qS w=true):w≠[]:=by rintro rfl;cases h
theorem HQ {us:List Sh}(h:qS w=true) (hw:bz w=true) (hr:yD r) (ih:kQ r us):kQ (w++r) ((4,w)::us) :=
  oV (ze h) (Cq h hr) (if_pos ⟨by decide,hw⟩) (by decide) (by decide) ih
theorem uO {us:List Sh}(h:jR bz w=true) (hr:yD r) (ih:kQ r us):kQ (w++r) ((3,w)::us):=by
  rw[si,Bool.and_eq_true] at h;have hw:bz w=false:=by simpa using h.2
  exact oV (ze h.1) (Cq h.1 hr) (by rw[hw];rfl) (by decide) (by decide) ih
theorem AO (h:bV eC c T0=U) (hU:aL eC U=n) (hn:0<=n) (hU0:U≠[]) (hr:Ends eC U r):fP 0 ([c]++r)=(((1:Nat):Int),n) :=
  KU (w:=[c]) (by rw[iU,h];rfl) hU hn hU0 hr
theorem De (h:xU U (fun _=>true) []=true) (r:By):Ends eC U r:=by
  cases r with
  |nil=>exact .inl rfl
  |cons c r=>exact .inr ⟨c,r,rfl,mS h rfl⟩
theorem Ms {us:List Sh}(hc:c=40\/c=123) (ih:kQ r us):kQ (c::r) ((7,[c])::us):=by
  have h:bV eC c T0=[32]:=by rcases hc with rfl|rfl<;>decide +kernel
  exact oV (w:=[c]) (by simp) (AO (n:=7) h (by decide +kernel) (by decide) (by decide) (De (by decide +kernel) r)) (by rfl) (by decide) (by decide) ih
theorem KA {us:List Sh}(hc:c=41\/c=125) (ih:kQ r us):kQ (c::r) ((8,[c])::us):=by
  have h:bV eC c T0=[34]:=by rcases hc with rfl|rfl<;>decide +kernel
  exact oV (w:=[c]) (by simp) (AO (n:=8) h (by decide +kernel) (by decide) (by decide) (De (by decide +kernel) r)) (by rfl) (by decide) (by decide) ih
def Hd (l:By):Prop:=∃c l',l=c::l'/\(c≠32/\c≠9/\c≠13)
theorem HR {us:List Sh}(hr:Hd r) (ih:kQ r us):kQ (32::r) us:=by
  obtain⟨c,l',rfl,k⟩:=hr;have h:bV eC 32 T0=[0,2]:=by decide +kernel
  have he:xU [0,2] (fun c=> !(c ==32 ||(c ==9 ||c ==13))) []=true:=by decide +kernel
  exact kQ.skip (w:=[32]) (by simp) (AO (n:=0) h (by decide +kernel) (by decide) (by decide) (.inr ⟨c,l',rfl,mS he (by simp[k])⟩)) (by rfl) (by decide) (.inl rfl) ih
def opsL:List By:=[[61,61],[33,61],[60],[60,61],[62],[62,61],[43],[45],[42],[47],[37],[61],[59],[45,62]]
theorem NZ {us:List Sh}(hw:w∈opsL) (ih:kQ (32::r) us):kQ (w++32::r) ((6,w)::us):=by
  have key:∀w∈opsL,aL eC (iU eC T0 w)=9/\iU eC T0 w≠[]/\bV eC 32 (iU eC T0 w)=[]/\w≠[]:=by decide +kernel
  obtain⟨h1,h2,h3,h4⟩:=key w hw;exact oV h4 (KU rfl h1 (by decide) h2 (.inr ⟨_,_,rfl,h3⟩)) (by rfl) (by decide) (by decide) ih
abbrev D1:List Nat:=[9,14,18,21]
abbrev D2:List Nat:=[17]
abbrev D3:List Nat:=[9,14,17]
abbrev D4:List Nat:=[11,12]
abbrev D5:List Nat:=[11]
abbrev D6:List Nat:=[9,11]
theorem db:xU T0 dz D1=true/\xU D1 dz D1=true/\xU D1 (fun c=>c ==46) D2=true/\xU D2 dz D3=true/\xU D3 dz D3=true:=by decide +kernel
theorem Ni:xU D1 (fun c=>c ==101 ||c ==69) D4=true/\xU D3 (fun c=>c ==101 ||c ==69) D4=true/\xU D4 (fun c=>c ==43 ||c ==45) D5=true/\xU D4 dz D6=true/\xU D5 dz D6=true/\xU D6 dz D6=true:=by decide +kernel
theorem mW (s:By):∃d,s=d++cK s/\d.all dz=true:=by
  refine⟨s.takeWhile dz,(List.takeWhile_append_dropWhile).symm,?_⟩;rw[List.all_eq_true];intro c hc;exact(List.all_eq_true.1 (List.all_takeWhile (p:=dz) (l:=s))) c hc
theorem oS {d:By}(h:s=d++cK s) (hb:dN s=true):∃c d',d=c::d':=by
  cases d with
  |nil =>
    unfold dN at hb;rw[decide_eq_true_eq] at hb;rw[List.nil_append] at h;rw[<-h] at hb;omega
  |cons c d=>exact⟨c,d,rfl⟩
theorem qN (h1:xU T dz U=true) (h2:xU U dz U=true){d:By}(hd:d.all dz=true) (h0:∃c d',d=c::d'):iU eC T d=U:=by
  obtain⟨c,d',rfl⟩:=h0;rw[List.all_cons,Bool.and_eq_true] at hd;rw[iU,mS h1 hd.1];exact Av h2 d' hd.2
theorem Fo (h1:xU T (fun c=>c ==101 ||c ==69) D4=true) (h:n7 s true=true):iU eC T s=T/\s=[]\/iU eC T s=D6:=by
  cases s with
  |nil=>exact .inl ⟨rfl,rfl⟩
  |cons c r =>
    right
    unfold n7 at h;simp only at h;split at h
    · rename_i hc;rw[iU,mS h1 (by rcases hc.2 with q|q<;>subst q<;>decide)];cases r with
      |nil=>cases h
      |cons d r' =>
        simp only at h;split at h
        · rename_i hd;rw[Bool.and_eq_true,decide_eq_true_eq] at h;obtain⟨ds,e1,e2⟩:=mW r';have:=oS e1 h.1;rw[h.2,List.append_nil] at e1;subst e1;rw[iU,mS Ni.2.2.1 (by rcases hd with q|q<;>subst q<;>decide)];exact qN Ni.2.2.2.2.1 Ni.2.2.2.2.2 e2 this
        · rw[Bool.and_eq_true,decide_eq_true_eq] at h;obtain⟨ds,e1,e2⟩:=mW (d::r');have:=oS e1 h.1;rw[h.2,List.append_nil] at e1;rw[e1];exact qN Ni.2.2.2.1 Ni.2.2.2.2.2 e2 this
    · cases h
theorem wM:n7 s false=false:=by
  cases s with
  |nil=>rfl
  |cons c r=>unfold n7;simp
theorem KM (h:ym w=true):(iU eC T0 w=D1\/iU eC T0 w=D3\/iU eC T0 w=D6)/\w≠[]:=by
  obtain⟨d,e1,e2⟩:=mW w
  have hb:dN w=true:=by
    unfold ym at h;cases q:dN w
    · exfalso;rw[q] at h;split at h
      · rename_i c r hc;rw[if_neg (by simp),wM] at h;cases h
      · cases h
    · rfl
  have hd:=oS e1 hb;have r1:=qN db.1 db.2.1 e2 hd;have hne:w≠[]:=by rintro rfl;obtain⟨c,d',rfl⟩:=hd;cases e1
  refine⟨?_,hne⟩;rw[e1,vi,r1];unfold ym at h;split at h
  · rename_i c r hc;rw[hc];split at h
    · rename_i hq;obtain⟨_,rfl⟩:=hq;rw[iU,mS db.2.2.1 (by decide)];obtain⟨f,f1,f2⟩:=mW r
      have fb:dN r=true:=by
        cases q:dN r
        · rw[q,wM] at h;cases h
        · rfl
      rw[fb] at h;rw[f1,vi,qN db.2.2.2.1 db.2.2.2.2 f2 (oS f1 fb)]
      rcases Fo Ni.2.1 h with ⟨k,_⟩|k
      · exact .inr (.inl k)
      · exact .inr (.inr k)
    · rw[hb] at h
      rcases Fo Ni.1 h with ⟨k,_⟩|k
      · exact .inl k
      · exact .inr (.inr k)
  · rename_i hc;rw[hc];exact .inl rfl
theorem N0 {us:List Sh}(h:ym w=true) (hr:yD r) (ih:kQ r us):kQ (w++r) ((5,w)::us):=by
  obtain⟨k,h0⟩:=KM h
  have key:∀U,(U=D1\/U=D3\/U=D6)->aL eC U=3/\U≠[]/\xU U (fun c=>c ==32 ||(c ==41 ||(c ==40 ||c ==59))) []=true:=by
    rintro U (rfl|rfl|rfl)<;>decide +kernel
  obtain⟨k1,k2,k3⟩:=key _ k;exact oV h0 (KU rfl k1 (by decide) k2 (hr.ends k3)) (by rfl) (by decide) (by decide) ih
end
end Go.Proofs.YtoickfdopobmgaaGreatDoor
namespace Go.Proofs.YtoickfdopobmgaaGreatDoor
open Go Go.Lw
set_option maxRecDepth 20000 set_option maxHeartbeats 4000000
def o8 (m:Int):bG:=match mV (iu m) with|.inr d=>d|.inl _=>⟨[],[]⟩
theorem vT (m:Nat) (hm:m<3):∃ss st,eX (iu m)= .inr (ss,st)/\mV (iu m)= .inr (o8 m)/\gC ss st= .inr (o8 m)/\(∀l,fP m l=cY ss st l)/\∀l,(aK (o8 m) l 0 0 (0,-1)).2.2<=(fP m l).1+2:=by
 have key:∀{ss:List aZ}{st:Nat},eX (iu m)= .inr (ss,st)->(∀l,fP m l=cY ss st l)->(∃d,gC ss st= .inr d/\(∀l,(aK d l 0 0 (0,-1)).2.2<=(cY ss st l).1+2)/\∀l x:By,(cY ss st l).1+2<l.length->cY ss st (l++x)=cY ss st l)->∃ss st,eX (iu m)= .inr (ss,st)/\mV (iu m)= .inr (o8 m)/\gC ss st= .inr (o8 m)/\(∀l,fP m l=cY ss st l)/\∀l,(aK (o8 m) l 0 0 (0,-1)).2.2<=(fP m l).1+2:=by
  intro ss st h1 h2 ⟨d,h3,h4,_⟩;have h5:mV (iu m)= .inr d:=by unfold mV;rw[h1];exact h3
  have h6:o8 m=d:=by unfold o8;rw[h5]
  rw[h6];exact⟨ss,st,h1,h5,h3,h2,fun l=>by rw[h2];exact h4 l⟩
 match m,hm with
 | 0,_=>exact key QE (fun l=>rfl) (sj QE O1 O8 OY A3.1)
 | 1,_=>exact key KP (fun l=>rfl) (sj KP O0 O7 OX A3.2.1)
 | 2,_=>exact key QD (fun l=>rfl) (sj QD OZ O5 OW A3.2.2)
def PY:fQ bG:=⟨1,by decide,fun h O cs d=>∃db,cs=[.pointer (some ⟨db,0,none⟩)]/\oz h O db d,fun h=>by obtain⟨db,rfl,_⟩:=h;rfl,fun h=>by
 obtain⟨db,rfl,_⟩:=h;intro u hu;simp at hu;subst hu;rfl,fun h m=>by
 obtain⟨db,hc,hv⟩:=h;exact⟨db,hc,hv.mv m⟩⟩
def vU (k:Nat):List bG:=([0,1,2].take k).map fun m:Int=>mO (o8 m)
theorem Ei (k:Nat) (hk:k<3):vU (k+1)=vU k++[mO (o8 k)]/\(vU k).length=k:=by
 match k,hk with
 | 0,_=>exact⟨rfl,rfl⟩
 | 1,_=>exact⟨rfl,rfl⟩
 | 2,_=>exact⟨rfl,rfl⟩
def oC (h:ai) (p:Value):Prop:=∃lb vm,p= .pointer (some ⟨lb,0,none⟩)/\aD h lb 74 [vm]/\aT PY h (fun _=>False) vm (vU 3)
theorem oC.ah {h h':ai}{p:Value}(k:oC h p) (e:aj h h'):oC h' p:=by
 obtain⟨lb,vm,h1,h2,h3⟩:=k;exact⟨lb,vm,h1,h2.ah e,h3.mv (Mv.ah e)⟩
theorem GL {h:ai}{lim:Nat}(hg:Sg h lim) (hlim:lim<=h.size) (htens:rM h) (hR:mZ h) :
 aq Tryz.prog 15 #[] h (bw fun r h'=>oC h' r/\aj h h'):=by
 refine bL ?_;refine af ?_;refine xp rfl (av (H.Pc ) rfl) ?_;refine xo rfl (jj) ?_;rintro _ h1 ⟨rfl,k1,e1,z1⟩;have k1:aD h1 h.size 74 [.slice none 0 0]:=k1;refine af ?_;refine gY (σ:=Nat×Value) (fun q=>[(2,.int .i64 (q.1:Nat))]) (fun q h'=>q.1<=3/\aj h h'/\aD h' h.size 74 [q.2]/\cH PY (fun b=>b=h.size) h' h1.size 79 q.2 (vU q.1)/\h1.size<=h'.size) (fun q=>3-q.1) ((0,.slice none 0 0)) ⟨by decide,e1,k1,cH.nil _ _ _ _ _,Nat.le_refl _⟩ rfl ?_;rintro⟨m,vm⟩ g ⟨hm,eg,kb,hx,hz⟩ ih
 try dsimp only
 dsimp only at hm kb hx;refine af ?_;refine aR (fun hlt=>?_) (fun hlt=>?_)
 · have hm3:m<3:=by omega
   obtain⟨ss,st,hmk,hdm,hdk,_⟩:=vT m hm3;obtain⟨hnext,hlen⟩:=Ei m hm3;have hok:=oQ hdm;have hM:=gw hmk;have hb:=CB hM
   have hrl:∀s∈iu m,s.length<=1000000:=by
    have:m=0\/m=1\/m=2:=by omega
    rcases this with rfl|rfl|rfl
    · exact of_decide_eq_true rfl
    · exact of_decide_eq_true rfl
    · exact of_decide_eq_true rfl
   refine af ?_;refine xo rfl (aE rfl (Gw (hR.ah eg) m hm3)) ?_;rintro _ g1 ⟨hr1,f1⟩;have eg1:=eg.trans f1;refine xo rfl (aE rfl (GP (hg.ext eg1 (fun _ k=>k.elim)) (by have:=eg1.size;omega) hr1 hrl)) ?_;rintro _ g2 ⟨⟨p,rfl,hp⟩,f2⟩
   have hp:∃(O:Nat->Prop) (nb:Nat) (v:Value),p= .pointer (some ⟨nb,0,none⟩)/\bO g2 O nb v ss st:=by
    rcases hp with ⟨e,he,_⟩|⟨O,nb,v,ss',st',hp,hn,hm'⟩
    · rw[hmk] at he;cases he
    · rw[hmk] at hm';cases hm';exact⟨O,nb,v,hp,hn⟩
   obtain⟨O,nb,v,rfl,hn⟩:=hp;have eg2:=eg1.trans f2;refine af ?_;refine xo rfl (aE rfl (C1 (htens.ah eg2) hn hM.good hM.len hM.stl hb.2.1 hb.2.2)) ?_;rintro r3 g3 ⟨hr3,f3⟩;unfold Bv at hr3;rw[hdk] at hr3;obtain⟨db,rfl,hk⟩:=hr3;have eg3:=eg2.trans f3;have f03:=(f1.trans f2).trans f3;have zz:=f03.size;have kb3:=kb.ah f03;have hx3:=hx.ah f03;obtain⟨css3,_,hw3,_⟩:=id hx3;have vge:∀b,vm.ownBlock=some b->h1.size<=b/\b<g3.size:=fun b hb=>hw3.lt hb
   have hkM:¬(cv vm.ownBlock h.size\/Array.size g3<=h.size):=by
    rintro(k|k)
    · have:=(vge _ k.symm).1;omega
    · omega
   refine af ?_;refine me 12 (fun b=>cv vm.ownBlock b\/Array.size g3<=b) (fun i=>Nat.blt i 11) ?_;refine aI 0 ?_;refine aI 1 ?_;refine aI 2 ?_;refine aI 3 ?_;refine bI 4 rfl (fun h' e=>aA rfl (e.cell hkM (kb3.cell (i:=0) rfl))) ?_;refine aI 5 ?_;refine dH 6 rfl (aE rfl (JS (htens.ah eg3) hk hok.1 hok.2)) ?_;rintro r4 g4 ⟨⟨b4,rfl,hk4⟩,f4⟩;refine⟨fun _=>f4.mono (fun _ _ k=>k.elim),?_⟩;have hx4:=hx3.ah f4;have kb4:=kb3.ah f4;have z4:=f4.size;obtain⟨css,hc1,hc2,hc3⟩:=id hx4;rw[hlen] at hc2;refine dH 7 rfl (iL [_]) ?_;rintro _ _ ⟨rfl,rfl⟩;refine⟨fun _=>by first|exact Ext.push _ _ _|assumption,?_⟩;refine dH 8 rfl (uH rfl rfl hc2 rfl rfl) ?_;rintro v5 g5 ⟨ho5,hx5,hx5',hv5⟩;refine⟨fun _=>hx5'.mono (fun _ _ k=>.inl k),?_⟩
   have hnew:oz g4 (fun b=>cv vm.ownBlock b\/b=h.size) b4 (mO (o8 m)):=hk4.mv ⟨Nat.le_refl _,fun b _ hn=>⟨rfl,fun k=>hn (by
    rcases k with k|k
    · exact(vge _ k.symm).2
    · omega)⟩⟩
   have hx5w:=cH.gq (e:=PY) (h:=g4) (v:=vm) (css:=css) (cs:=[.pointer (some ⟨b4,0,none⟩)]) (y:=mO (o8 m)) (O:=fun b=>b=h.size) hc1 hc3 (by rw[hlen];exact ho5) hx5 hv5 ⟨b4,rfl,hnew⟩;obtain⟨va5,vc5,rfl,_⟩:=ho5.open;have z5:=hx5.size;have kb5:=kb4.ext hx5 (fun k=>by have:=(vge _ k.symm).1;omega);have v5ge:∀b,(Value.slice va5 (m+1) vc5).ownBlock=some b->h1.size<=b:=fun b hb=>(ho5.lt hb).1
   refine LS 9 ?_;refine aI 10 ?_;refine kX 11 rfl (mj rfl rfl kb5) ?_;rintro _ g6 ⟨rfl,kb6,x6,z6⟩;refine⟨nofun,?_⟩;have kb6:aD g6 h.size 74 [.slice va5 (m+1) vc5]:=by simpa using kb6
   have hx6:=hx5w.qD (O':=fun b=>b=h.size) x6 (fun b hb k=>by have:=v5ge b hb;omega) (fun b _ k=>k) (fun b _ k=>k)
   have eg6:aj h g6:=⟨by have:=x6.size;omega,fun b hb _=>by
    rw[x6.block b (by omega) (by omega),hx5.block b (by omega) (fun k=>by have:=(vge _ k.symm).1;omega),f4.block b (by omega) (fun k=>k)];exact eg3.block b hb (fun k=>k)⟩
   refine iT ?_;refine af ?_;exact ih (m+1,_) ⟨by show m+1<=3;omega,eg6,kb6,by show cH PY _ g6 h1.size _ _ (vU (m+1));rw[hnext];exact hx6,by have:=x6.size;omega⟩
 · obtain rfl:m=3:=by omega
   refine af ?_;refine bp ?_;exact⟨_,rfl,⟨h.size,vm,rfl,kb,hx.vq (fun b hb k=>k) (fun b _ k=>k.elim)⟩,eg⟩
end Go.Proofs.YtoickfdopobmgaaGreatDoor

/- What the proof of the statement leans on (part 23). -/
import Derived.Lib.DecodeN
import Derived.Lib.IndexMore
import Derived.Test.YtdgckfkoihcmjaaGreatDoorQv

namespace Go.Proofs.YtdgckfkoihcmjaaGreatDoor
open Go
def gO (m:Int) (l:By):Int×Int:=if m=0 then dn yg 53 l else if m=1 then dn yf 10 l else if m=2 then dn ye 11 l else (0,-1)
def uw (m:Int):List (Int×Int):=if m=0 then [(1,0),(2,0),(3,0),(5,0),(11,0),(11,3),(9,1),(7,0),(8,0),(6,0)] else if m=1 then [(9,0),(10,0),(9,2),(9,0)] else if m=2 then [(11,3),(11,4),(11,0),(11,0)] else []
def jw (m n:Int):Option (Int×Int):=if n<0 then none else (uw m)[n.toNat]?
def pX (m n:Int):Int:=match jw m n with|some p=>p.1|none=>0
abbrev vK:=Int×Int
def jB (s:vK) (n:Int):vK:=match jw s.1 n with
 |none=>s
 |some p=>if p.2=0 then s else if p.2=1 then (1,0) else if p.2=3 then (2,min (max s.2 0) 16383+1) else if p.2=4/\1<s.2 then (s.1,s.2-1) else (0,0)
def jX:By:=[32,105,102,32,101,108,115,101,32,108,101,116,32,105,110,32,102,117,110,32,116,114,117,101,32,102,97,108,115,101,32,97,110,100,32,111,114,32,110,111,116,32]
def aS (s:By):Bool:=decide (s≠[]) && (!Lib.contains s [32] && Lib.contains jX (32::(s++[32])))
def pI (l:By):Nat:=(Lib.decodeN l.length (l.getD 0 0).toNat (l.getD 1 0).toNat (l.getD 2 0).toNat (l.getD 3 0).toNat).2
def iP (l:By) (m:Int):Nat:=if (gO m l).1=0 then pI l else (gO m l).1.toNat
def A9 (l:By) (m:Int):Int:=if (gO m l).1=0 then 0 else if pX m (gO m l).2=3/\aS (l.take (gO m l).1.toNat)=true then 4 else pX m (gO m l).2
def pN (l:By) (st:vK):vK:=if (gO st.1 l).1=0 then st else jB st (gO st.1 l).2
abbrev Tk:=Int×Int×Int
def jI:Nat->By->Nat->vK->List Tk×vK
 | 0,_,_,st=>([],st)
 |n+1,l,at_,st=>if l=[] then ([],st) else
  (((A9 l st.1,(at_:Int),((at_+iP l st.1:Nat):Int)):Tk)::(jI n (l.drop (iP l st.1)) (at_+iP l st.1) (pN l st)).1,(jI n (l.drop (iP l st.1)) (at_+iP l st.1) (pN l st)).2)
def gS (s:By):List Tk×vK:=jI s.length s 0 (0,0)
theorem CR (n b0 b1 b2 b3:Nat):1<=(Lib.decodeN n b0 b1 b2 b3).2:=by
 unfold Lib.decodeN
 repeat' split
 all_goals simp
theorem CQ (n b0 b1 b2 b3:Nat) (hn:1<=n):(Lib.decodeN n b0 b1 b2 b3).2<=n:=by
 unfold Lib.decodeN
 repeat' split
 all_goals (simp only;omega)
theorem As {l:By}(h:l≠[]):1<=pI l/\pI l<=l.length:=⟨CR _ _ _ _ _,CQ _ _ _ _ _ (List.length_pos_iff.2 h)⟩
theorem Mm:Made Cp yg 53:=fU Oh
theorem nY:Made Co yf 10:=fU IV
theorem Ml:Made Cn ye 11:=fU Og
theorem AZ (m:Int) (l:By):0<=(gO m l).1/\(gO m l).1<=l.length:=by
 have key:∀{rules:List By}{ss:List aX}{st:Nat},Made rules ss st->0<=(dn ss st l).1/\(dn ss st l).1<=l.length:=fun k=>by
  rcases AS k l with ⟨e,_⟩|⟨n,r,e,hn,_⟩
  · rw[e];simp
  · rw[e];simp only;omega
 unfold gO;split
 · exact key Mm
 · split
   · exact key nY
   · split
     · exact key Ml
     · simp
theorem pV {l:By}(h:l≠[]) (m:Int):1<=iP l m/\iP l m<=l.length:=by
 have h1:=AZ m l;have h2:=As h;unfold iP;split
 · exact h2
 · omega
theorem qW:∀(n k:Nat) (l:By) (a:Nat) (st:vK),l.length<=n->l.length<=k->jI n l a st=jI k l a st
 | 0,0,_,_,_,_,_=>rfl
 | 0,k+1,l,a,st,h,_=>by
  have:l=[]:=List.length_eq_zero_iff.1 (by omega);rw[jI,jI,if_pos this]
 |n+1,0,l,a,st,_,h=>by
  have:l=[]:=List.length_eq_zero_iff.1 (by omega);rw[jI,jI,if_pos this]
 |n+1,k+1,l,a,st,h1,h2=>by
  rw[jI,jI]
  by_cases hl:l=[]
  · rw[if_pos hl,if_pos hl]
  · have:=pV hl st.1;rw[if_neg hl,if_neg hl,qW n k _ _ _ (by rw[List.length_drop];omega) (by rw[List.length_drop];omega)]
theorem rS {d:bD}:∀(l x:By) (s k:Nat) (b:Int×Int),(aJ d l s k b).2.2<((k+l.length:Nat):Int)->aJ d (l++x) s k b=aJ d l s k b
 | [],x,s,k,b,h=>by
  exfalso;rw[aJ] at h;split at h
  · simp only[List.length_nil,Nat.add_zero] at h;omega
  · simp only[List.length_nil,Nat.add_zero] at h;omega
 |c::l,x,s,k,b,h=>by
  rw[List.cons_append,aJ,aJ];rw[aJ] at h;split
  · rename_i hp;rw[if_pos hp] at h;exact rS l x _ _ _ (by rw[List.length_cons] at h;rw[show k+1+l.length=k+(l.length+1) by omega];exact h)
  · rfl
theorem qJ {rules:List By}{ss:List aX}{st:Nat}(hm:eG rules= .inr (ss,st)){H:List (List Nat×Nat)}{tab reps:List UInt8}(hr:iU ss tab reps=true) (ha:oU ss H reps=true) (hs:yU H (bX ss st)=some 0/\bX ss st≠[]/\¬0<=aV ss (bX ss st)) (hH:H.length<=2000) :
 ∃d,fZ ss st= .inr d/\(∀l,(aJ d l 0 0 (0,-1)).2.2<=(dn ss st l).1+2)/\∀l x:By,(dn ss st l).1+2<l.length->dn ss st (l++x)=dn ss st l:=by
 have hM:=fU hm;have hmem:=uB hs.1;obtain⟨d,hd⟩:=Bp (HB hr ha) (by simpa using hH) (fun e=>hs.2.1 (List.length_eq_zero_iff.1 e)) (List.mem_map.2 ⟨_,hmem,rfl⟩);obtain⟨_,L,h1,h2,_⟩:=iS hd;have hst:=hM.stl;have hmt:=fun l=>ql hd (by omega) l
 have h2s:∀l,(aJ d l 0 0 (0,-1)).2.2<=(aJ d l 0 0 (0,-1)).1+2:=fun l=>wH h1 h2 hr ha l 0 0 (0,-1) _ 0 h1.first hmem (by rw[if_neg hs.2.2];simp)
 have hmt1:∀l,(aJ d l 0 0 (0,-1)).1=(dn ss st l).1:=fun l=>by have:=hmt l;rw[<-this]
 refine⟨d,hd,fun l=>by rw[<-hmt1];exact h2s l,fun l x hlt=>?_⟩;have:=h2s l;rw[hmt1] at this;rw[<-hmt (l++x),<-hmt l,rS l x 0 0 (0,-1) (by rw[Nat.zero_add];omega)]
theorem yT:Lu.length<=2000/\Mp.length<=2000/\uC.length<=2000:=by decide
end Go.Proofs.YtdgckfkoihcmjaaGreatDoor
namespace Go.Proofs.YtdgckfkoihcmjaaGreatDoor
open Go.Proofs.Tryz
open Go Go.Lw
set_option maxRecDepth 20000 set_option maxHeartbeats 4000000
section
variable {h:aj}
def gM (m:Int):List By:=if m=0 then Cp else if m=1 then Co else if m=2 then Cn else []
def oy (m:Int):List (By×Int×Int):=List.zipWith (fun r k=>(r,k.1,k.2)) (gM m) (uw m)
def lQ (h:aj):Prop:=∀m:Nat,m<3->∃v,cellAt h ⟨0,m,none⟩=some v/\aY K1 h (fun _=>False) v (oy m)
theorem lQ.ah {h h':aj}(k:lQ h) (e:aq h h'):lQ h':=fun m hm=>by
 obtain⟨v,h1,h2⟩:=k m hm;exact⟨v,e.cell (fun k=>k) h1,h2.mv (Mv.ah e)⟩
theorem FQ (m:Nat) (hm:m<3):(oy m).length<=10/\(oy m).map (·.1)=gM m:=by
 match m,hm with
 | 0,_=>exact⟨by decide,by decide⟩
 | 1,_=>exact⟨by decide,by decide⟩
 | 2,_=>exact⟨by decide,by decide⟩
theorem pF (r:By×Int×Int):∀v∈eE r,v.oneCell'=true:=fun v hv=>by simp[eE] at hv;rcases hv with rfl|rfl|rfl<;>rfl
theorem C3 {l cap:Nat}{oa:Option Addr}{n c:Nat}{J:Nat->aj->Prop}(hn:n<=1000000) (hmono:∀j h g,J j h->aq h g->J j g)
 (hy:∀j h,J j h->j<n->∃(b o:Nat) (r:By×Int×Int),oa=some ⟨b,o,none⟩/\Lw.rowAt h b (o+j*3) (eE r) /\
  ∀g,J j g->gz Tryz.prog l #[.int .i64 (j:Nat),.agg (eE r).toArray] g (bq fun r h'=>r= .bool true/\J (j+1) h')) (h0:J 0 h) (hread:cellAt h ⟨cap,0,none⟩=some (.slice oa n c)) :
 av Tryz.prog 96 #[.func (.yield l) #[] #[],.pointer (some ⟨cap,0,none⟩)] h (bq fun _ h'=>J n h'):=by
 refine bP ?_;refine af ?_;refine xp rfl (az rfl hread) ?_;refine af ?_;refine gJ (σ:=Nat) (fun j=>[(7,.int .i64 (j:Nat))]) (fun j h'=>J j h'/\j<=n) (fun j=>n-j) (0) ⟨h0,Nat.zero_le _⟩ rfl ?_;rintro j h1 ⟨hJ,hj⟩ ih;refine af ?_;refine aP (fun hlt=>?_) (fun hlt=>?_)
 · obtain⟨b,o,r,ha,hrow,hyy⟩:=hy j h1 hJ (by omega)
   iterate 4 refine aR ?_
   refine de ?_;refine aZ ?_;refine xp rfl (cK rfl rfl j rfl ha) ?_;refine xp rfl (bV rfl hrow) ?_;refine xo rfl (cm) ?_;rintro _ g1 ⟨rfl,k1,e1,z1⟩;refine af ?_;refine aH rfl (aK rfl rfl k1 (pF r)) ?_;rintro _ g2 ⟨rfl,k2,x2,z2⟩;refine cV ?_;refine aR ?_;have e12:aq h1 g2:=e1.only x2 (Nat.le_refl _);have k2:aC g2 h1.size 146 (eE r):=k2;refine G.KJ func96 rfl ?_;refine dQ.bl rfl rfl rfl rfl rfl (dc rfl) ?_;refine dQ.bl rfl rfl rfl rfl rfl (dc rfl) ?_;refine dQ.bl rfl rfl rfl rfl rfl (ay.jo H.Ko H.FY rfl k2.row (by first|rfl|(simp;done)|(simp;omega))) ?_;refine qY (vs:=[_,_]) rfl rfl rfl rfl rfl rfl rfl ((hyy g2 (hmono _ _ _ hJ e12))) ?_;rintro _ h2 ⟨rfl,hJ2⟩;refine dQ.bl rfl rfl rfl rfl rfl (ay.IT rfl) ?_;refine fI rfl ?_;refine eC rfl (by decide) ?_;refine af ?_;exact ih (j+1) ⟨hJ2,by omega⟩
 · obtain rfl:j=n:=by omega
   refine af ?_;refine Ir ?_;exact⟨_,rfl,hJ⟩
theorem Fp (v:Value) (hv:v.oneCell'=true):av Tryz.prog 58 #[v] h (bq fun r h'=>r= .func (.func 96) #[] #[.pointer (some ⟨h.size,0,none⟩)]/\h'=h.push (.cells #[v] 144)):=by
 have hcells:v.cells= #[v]:=by cases v<;>simp[Value.oneCell'] at hv<;>rfl
 refine bP ?_;refine af ?_;refine xo rfl (aT.box rfl) ?_;rintro _ _ ⟨rfl,rfl⟩;refine af ?_;refine xp rfl (ay.makeFunc (vs:=[_]) rfl) ?_;refine af ?_;refine bh ?_;exact⟨_,rfl,rfl,by rw[hcells]⟩
abbrev wj (s:By):Value:=.string (bs s)
def JO (h:aj) (d:Nat) (r0:Loop) (base:Nat) (l:List By) (j:Nat) (g:aj):Prop :=
 b7 g (d+1) r0/\g[d]? =some (.deferred (some []))/\aq h g/\base<=g.size/\∃w,aC g h.size 85 [w]/\cn wj g base 9 w (l.take j)
theorem JO.ah {h:aj}{d:Nat}{r0:Loop}{base:Nat}{l:List By}{j:Nat}{g g':aj}(k:JO h d r0 base l j g) (hd:d<g.size) (e:aq g g'):JO h d r0 base l j g':=by
 obtain⟨h1,h2,h3,h4,w,h5,h6⟩:=k;exact⟨h1.ext e (fun k=>k),(e.block d hd (fun k=>k)).trans h2,h3.trans e,by have:=e.size;omega,w,h5.ah e,cn.ah h6 e⟩
theorem En (hR:lQ h) (m:Nat) (hm:m<3) :
 av Tryz.prog 26 #[.int .i64 (m:Nat)] h (bq fun r h'=>aY nG h' (fun _=>False) r (gM m)/\aq h h'):=by
 obtain⟨htl,htm⟩:=FQ m hm;generalize hL0:gM (m:Int)=l at *;generalize htb:oy (m:Int)=tb at *;have hll:l.length=tb.length:=by rw[<-htm];simp
 refine bP ?_;refine aR ?_;refine de ?_;refine aZ ?_;refine cV ?_
 iterate 2 refine aR ?_
 refine dW [(11,.bool false)] rfl ?_ ?_
 · refine af ?_;refine RW.ck (d:=8) (b':=false) rfl ((by simp)) ?_;refine af ?_;exact aA rfl ⟨ai rfl (by simp;omega),sb rfl⟩
 · refine eC rfl (by decide) ?_;refine af ?_;refine xo rfl (cm) ?_;rintro _ h1 ⟨rfl,k3,e1,z1⟩;have k3:aC h1 h.size 85 [.slice none 0 0]:=k3;obtain⟨v,hv,hsl⟩:=hR m hm;rw[htb] at hsl;have hsl1:=hsl.mv (Mv.ah e1);obtain⟨oa,kn,kc,rfl,hsl2⟩:=hsl1.open;have hkn:=hsl2.len;have hv1:cellAt h1 ⟨0,0+m*1,none⟩=some (.slice oa kn kc):=by rw[Nat.mul_one,Nat.zero_add];exact e1.cell (fun k=>k) hv
   refine cV ?_
   iterate 2 refine aR ?_
   refine de ?_;refine aZ ?_;refine xp rfl (xM rfl rfl m rfl (by omega)) ?_;refine xp rfl (az rfl hv1) ?_;refine xo rfl (aF rfl (Fp (.slice oa kn kc) rfl)) ?_;rintro _ h2 ⟨rfl,hh2⟩;have e2:aq h1 h2:=by rw[hh2];exact Ext.push _ _ _
   have kc2b:aC h2 h1.size 144 [.slice oa kn kc]:=by rw[hh2];exact zJ _ _ _
   have kc2:cellAt h2 ⟨h1.size,0,none⟩=some (.slice oa kn kc):=kc2b.cell (i:=0) rfl;have z2:h2.size=h1.size+1:=by rw[hh2];simp
   clear hh2;refine af ?_;refine G.rangeFunc rfl rfl func96 rfl (by decide +kernel) ?_;intro fid tmps hfits;obtain⟨r0,hr0⟩:∃r0,r0=fh fid tmps #[16,17] (N7 (Lw.sub (ax f26) [0,1,0,1,1,1])) (N6 (Lw.sub (ax f26) [0,1,0,1,1,1])) h2.size:=⟨_,rfl⟩
   obtain⟨hL,hhL⟩:∃hL,hL=(h2.push (.deferred (some []))).push (.loop r0):=⟨_,rfl⟩
   suffices hmain:av Tryz.prog 96 #[.func (.yield (h2.size+1)) #[] #[],.pointer (some ⟨h1.size,0,none⟩)] hL _ by rw[hhL,hr0] at hmain;exact hmain
   have hst:r0.state= .ready:=by rw[hr0];rfl
   have hpn:r0.pending=none:=by rw[hr0];rfl
   have hps:r0.params= #[16,17]:=by rw[hr0];rfl
   have htm2:r0.tmps=tmps:=by rw[hr0];rfl
   have eL:aq h2 hL:=by rw[hhL];exact(Ext.push _ _ _).trans (Ext.push _ _ _)
   have hLz:hL.size=h2.size+2:=by rw[hhL];simp
   have hloop0:b7 hL (h2.size+1) r0:=by
    have hz:h2.size+1=(h2.push (.deferred (some []))).size:=by simp
    rw[b7,hhL,hz];exact Array.getElem?_push_size
   have hdef0:hL[h2.size]? =some (.deferred (some [])):=by
    rw[hhL,(Ext.push (fun _=>False) (h2.push (.deferred (some []))) _).block h2.size (by simp) (fun k=>k)];exact Array.getElem?_push_size
   clear hhL;have e0L:aq h hL:=(e1.trans e2).trans eL;have hJ0:JO h h2.size r0 hL.size l 0 hL:=⟨hloop0,hdef0,e0L,Nat.le_refl _,_,(k3.ah e2).ah eL,cn.nil _ _ _ _⟩
   have hcapL:cellAt hL ⟨h1.size,0,none⟩=some (.slice oa kn kc):=eL.cell (fun k=>k) kc2;have hdl:∀j g,JO h h2.size r0 hL.size l j g->h2.size<g.size:=fun j g k=>by have:=k.2.2.2.1;omega
   refine suff (p:=∀j g,JO h h2.size r0 hL.size l j g->j<kn->∃(b o:Nat) (r:By×Int×Int),oa=some ⟨b,o,none⟩/\Lw.rowAt g b (o+j*3) (eE r)/\∀g,JO h h2.size r0 hL.size l j g->gz Tryz.prog (h2.size+1) #[.int .i64 (j:Nat),.agg (eE r).toArray] g (bq fun r h'=>r= .bool true/\JO h h2.size r0 hL.size l (j+1) h')) ?_ fun hy=>?_
   · intro j g hJg hj;obtain⟨r,hx⟩:∃r,tb[j]? =some r:=⟨_,List.getElem?_eq_getElem (by omega)⟩
     have hslg:=hsl.mv (Mv.ah hJg.2.2.1);obtain⟨oa',n',c',hv',_,_,_,hget⟩:=id hslg;cases hv';obtain⟨b,o,cs,ha,hob,hrow,rfl⟩:=hget j r hx;refine⟨b,o,r,ha,hrow,fun g hJg=>?_⟩;obtain⟨hlp,hdf,ehg,hbg,w,kS,hw⟩:=hJg;have hlj:l[j]? =some r.1:=by rw[<-htm,List.getElem?_map,hx];rfl
     have hfit:=uI (p1:=16) (p2:=17) (v1:=.int .i64 (j:Nat)) (v2:=.agg (eE r).toArray) hfits rfl rfl;rw[<-hps,<-htm2] at hfit;refine gz.of hlp hst (by rw[hps];rfl) hfit ((congrArg Loop.assign hr0).trans rfl) ((congrArg Loop.body hr0).trans rfl) ?_;refine dQ.Ey rfl rfl rfl rfl rfl (aT.zB H.JY) ?_;rintro _ g1 ⟨rfl,k5,e1',zz1⟩;refine dQ.zL rfl rfl rfl rfl (aT.gv H.FY rfl rfl k5 (by first|rfl|(simp;done)|(simp;omega)) (by first|decide|exact of_decide_eq_true rfl|(simp;done)|(simp;omega)) (pF r)) ?_;rintro _ g2 ⟨rfl,k5',e2',zz2⟩;refine fI rfl ?_;have e12:aq g g2:=e1'.only e2' (Nat.le_refl _);have k5':aC g2 g.size 146 (eE r):=k5';refine⟨(e12.block _ hlp.lt (fun k=>k)).trans hlp,?_⟩;obtain⟨g3,hg3⟩:∃g3,g3=Lw.bL g2 (h2.size+1) (.loop { r0 with state:=.busy }):=⟨_,rfl⟩
     rw[<-hg3];have hlz:=hlp.lt;have hz2:=e12.size;have hz1:=e1.size;have e23:Ext (fun b=>b=h2.size+1) g2 g3:=by rw[hg3];exact Ext.bL _ _ _ rfl
     have hlp3:b7 g3 (h2.size+1) { r0 with state:=.busy }:=by rw[b7,hg3];exact gN (by omega)
     have hz3:=e23.size;have kS3:=(kS.ah e12).ext e23 (show ¬h.size=h2.size+1 by omega);have k53:=k5'.ext e23 (show ¬g.size=h2.size+1 by omega);have hwge:∀b,w.ownBlock=some b->hL.size<=b:=fun b hb=>(aB.lt hw hb).1
     have hw3:aB g3 hL.size 9 1 w (l.take j).length ((l.take j).map wj):=aB.ext e23 (cn.ah hw e12) (fun b hb k=>by have:=hwge b hb;omega);have hjl:(l.take j).length=j:=by rw[List.length_take];omega
     refine dQ.bl rfl rfl rfl rfl rfl (cv H.Lf rfl (kS3.cell (i:=0) rfl)) ?_;refine dQ.bl rfl rfl rfl rfl rfl (bZ (off:=0) underlying146 rfl rfl H.zK rfl) ?_;refine dQ.bl rfl rfl rfl rfl rfl (cv H.Le rfl (k53.cell (i:=0) rfl)) ?_;refine dQ.Ey rfl rfl rfl rfl rfl (aT.xF (us:=[_]) underlying85 H.Ol rfl rfl (by decide) (by simp[Value.oneCell'])) ?_;rintro _ _ ⟨rfl,rfl⟩;refine dQ.Ey rfl rfl rfl rfl rfl (aT.gm underlying85 H.Ol rfl rfl (hw3) rfl rfl (by first|decide|simp[Value.oneCell']) (by omega) (by decide) (by omega)) ?_;rintro v4 g4 ⟨ho4,hx4,hx4',hv4⟩;have kS4:=kS3.ext hx4 (fun k=>by have:=hwge _ k.symm;omega);have hz4:=hx4.size;have hw4:cn wj g4 hL.size 9 v4 (l.take j++[r.1]):=cn.of (ys:=[r.1]) ho4 rfl rfl rfl;obtain⟨va4,vc4,rfl,_⟩:=ho4.open;refine dQ.zL rfl rfl rfl rfl (aT.jd H.N0 rfl rfl kS4 (by first|decide|exact of_decide_eq_true rfl|(simp;done)|(simp;omega)) rfl) ?_;rintro _ g5 ⟨rfl,kS5,e5',zz5⟩;refine fI rfl ?_;have kS5:aC g5 h.size 85 [.slice va4 ((l.take j).length+1) vc4]:=by simpa using kS5
     have hlp5:b7 g5 (h2.size+1) { r0 with state:=.busy }:=(hlp3.ext hx4 (fun k=>by have:=hwge _ k.symm;omega)).ext e5' (show ¬h2.size+1=h.size by omega);have hr2:({ ({ r0 with state:=.busy }:Loop) with state:=.ready,pending:=none }:Loop)=r0:=by cases r0;simp at hst hpn;simp[hst,hpn]
     have hz5:=e5'.size;refine⟨_,hlp5,rfl,?_⟩;rw[hr2];have e56:Ext (fun b=>b=h2.size+1) g5 (Lw.bL g5 (h2.size+1) (.loop r0)):=Ext.bL _ _ _ rfl;have hlz5:=hlp5.lt
     have hblk:∀b,b<hL.size->¬b=h.size->¬b=h2.size+1->b<g.size->(Lw.bL g5 (h2.size+1) (.loop r0))[b]? =g[b]? :=fun b hb n1 n2 hbg=>by
      rw[e56.block b (by omega) n2,e5'.block b (by omega) n1,hx4.block b (by omega) (fun k=>by have:=hwge _ k.symm;omega),e23.block b (by omega) n2,e12.block b hbg (fun k=>k)]
     have hv4ge:∀b,(Value.slice va4 ((l.take j).length+1) vc4).ownBlock=some b->hL.size<=b:=fun b hb=>(aB.lt hw4 hb).1
     refine⟨gN hlz5,by rw[hblk h2.size (by omega) (by omega) (by omega) (by omega)];exact hdf,⟨by have:=e56.size;have:=ehg.size;omega,fun b hb _=>?_⟩,by have:=e56.size;omega,_,kS5.ext e56 (show ¬h.size=h2.size+1 by omega),?_⟩
     · rw[hblk b (by omega) (by omega) (by omega) (by have:=ehg.size;omega)];exact ehg.block b hb (fun k=>k)
     · rw[List.take_add_one,hlj];exact aB.ext e56 (aB.ext e5' hw4 (fun b hb k=>by have:=hv4ge b hb;omega)) (fun b hb k=>by have:=hv4ge b hb;omega)
   · refine(C3 (l:=h2.size+1) (cap:=h1.size) (n:=kn) (c:=kc) (oa:=oa) (J:=JO h h2.size r0 hL.size l) (by omega) (fun j g g' k e=>k.ah (hdl j g k) e) hy hJ0 hcapL).mono fun e g hJ=>?_
     obtain⟨u,rfl,hlp,hdf,ehg,hbg,w,kS,hw⟩:=hJ;rw[List.take_of_length_le (by omega)] at hw;refine⟨_,rfl,r0,hlp,by rw[hst];decide,hpn,?_⟩;have hz1:=e1.size;have hlz:=hlp.lt;have e6:Ext (fun b=>b=h2.size+1) g (Lw.bL g (h2.size+1) (.loop { r0 with state:=.exhausted })):=Ext.bL _ _ _ rfl;have kSe:=kS.ext e6 (show ¬h.size=h2.size+1 by omega);have hdfe:=(e6.block h2.size (by omega) (show ¬h2.size=h2.size+1 by omega)).trans hdf;have hwge:∀b,w.ownBlock=some b->hL.size<=b:=fun b hb=>(aB.lt hw hb).1
     have hwe:=aB.ext e6 hw (fun b hb k=>by have:=hwge b hb;omega);refine GD.u7 ?_;refine nw rfl ?_;refine GD.nP func26 rfl ?_;refine iL.bl rfl rfl rfl rfl (cv H.Lf rfl (kSe.cell (i:=0) rfl)) ?_;refine iL.bl rfl rfl rfl rfl (ay.assign rfl) ?_;refine jC rfl ?_;refine GD.sub (ρ':=[(0,_),(2,_),(3,_),(11,_),(15,_)]) ⟨rfl,rfl,rfl,rfl,rfl,trivial⟩ ?_;refine GD.Du func26 rfl hdfe rfl ?_;have e7:Ext (fun b=>b=h2.size) (Lw.bL g (h2.size+1) (.loop { r0 with state:=.exhausted })) (Lw.bL (Lw.bL g (h2.size+1) (.loop { r0 with state:=.exhausted })) h2.size (.deferred none)):=Ext.bL _ _ _ rfl;have hz6:=e6.size;have hz7:=e7.size;refine⟨_,rfl,cn.read (h1:=fun _=>rfl) (show cn wj _ hL.size 9 w l from aB.ext e7 hwe (fun b hb k=>by have:=hwge b hb;omega)) (fun _ _ k=>k),⟨by have:=ehg.size;omega,fun b hb _=>?_⟩⟩;rw[e7.block b (by have:=ehg.size;omega) (by omega),e6.block b (by have:=ehg.size;omega) (by omega)];exact ehg.block b hb (fun k=>k)
end
end Go.Proofs.YtdgckfkoihcmjaaGreatDoor
namespace Go.Proofs.YtdgckfkoihcmjaaGreatDoor
open Go Go.Lw
section
variable {h:aj}{O:Nat->Prop}{cs:List Value}{k:Int}{t:By}{l:List Tr}{v:Value}{x:Tr}
def nX:Nat->aj->(Nat->Prop)->List Value->Tr->Prop
  | 0,_,_,_,_=>False
  |d+1,h,O,cs,x=>∃oa n c,cs=[.int .i64 x.kind,.string (bs x.text),.slice oa n c]/\x.kids.length=n/\n<=c/\c<=maxLen /\
      ∀i y,x.kids[i]? =some y->∃b o cs',oa=some ⟨b,o,none⟩/\¬O b/\Lw.rowAt h b (o+i*3) cs'/\nX d h O cs' y
theorem wP:∀{d:Nat}{h:aj}{O:Nat->Prop}{cs:List Value}{x:Tr},nX d h O cs x->cs.length=3
  | 0,_,_,_,_,k=>k.elim
  |_+1,_,_,_,_,⟨_,_,_,hc,_⟩=>by rw[hc];rfl
theorem EE:∀{d:Nat}{h:aj}{O:Nat->Prop}{cs:List Value}{x:Tr},nX d h O cs x->∀v∈cs,v.oneCell'=true
  | 0,_,_,_,_,k=>k.elim
  |_+1,_,_,_,_,⟨_,_,_,hc,_⟩=>by
    intro v hv;rw[hc] at hv;simp at hv;rcases hv with rfl|rfl|rfl<;>rfl
theorem AI:∀{d:Nat}{h h':aj}{O O':Nat->Prop}{cs:List Value}{x:Tr},nX d h O cs x->Mv O O' h h'->nX d h' O' cs x
  | 0,_,_,_,_,_,_,k,_=>k.elim
  |d+1,h,h',O,O',cs,x,⟨oa,n,c,hc,hl,hn,hm,hk⟩,m=>by
    refine⟨oa,n,c,hc,hl,hn,hm,fun i y hy=>?_⟩;obtain⟨b,o,cs',h1,h2,h3,h4⟩:=hk i y hy;have hne:cs'≠[]:=fun e0=>by have:=wP h4;rw[e0] at this;simp at this
    exact⟨b,o,cs',h1,(m.block b (cS h3 hne) h2).2,m.rowAt h2 h3,AI h4 m⟩
theorem tR:∀{d d':Nat}{h:aj}{O:Nat->Prop}{cs:List Value}{x:Tr},nX d h O cs x->d<=d'->nX d' h O cs x
  | 0,_,_,_,_,_,k,_=>k.elim
  |d+1,0,_,_,_,_,_,hd=>by omega
  |d+1,d'+1,h,O,cs,x,⟨oa,n,c,hc,hl,hn,hm,hk⟩,hd=>by
    refine⟨oa,n,c,hc,hl,hn,hm,fun i y hy=>?_⟩;obtain⟨b,o,cs',h1,h2,h3,h4⟩:=hk i y hy;exact⟨b,o,cs',h1,h2,h3,tR h4 (by omega)⟩
def eN:gD Tr where
  sz:=3
  pos:=by decide
  R:=fun h O cs x=>∃d,nX d h O cs x
  len:=fun⟨_,k⟩=>wP k
  one:=fun⟨_,k⟩=>EE k
  mv:=fun⟨d,k⟩ m=>⟨d,AI k m⟩
theorem iR (q:eN.R h O cs (.mk k t l)):∃v,cs=[.int .i64 k,.string (bs t),v]/\aY eN h O v l:=by
  obtain⟨d,q⟩:=q;cases d with
  |zero=>exact q.elim
  |succ d =>
    obtain⟨oa,n,c,hc,hl,hn,hm,hk⟩:=q;refine⟨_,hc,oa,n,c,rfl,hl,hn,hm,fun i y hy=>?_⟩;obtain⟨b,o,cs',h1,h2,h3,h4⟩:=hk i y hy;exact⟨b,o,cs',h1,h2,h3,d,h4⟩
theorem jU (q:aY eN h O v l):eN.R h O [.int .i64 k,.string (bs t),v] (.mk k t l):=by
  obtain⟨oa,n,c,rfl,hl,hn,hm,hk⟩:=q
  have:∃d,∀i y,l[i]? =some y->∃b o cs,oa=some ⟨b,o,none⟩/\¬O b/\Lw.rowAt h b (o+i*3) cs/\nX d h O cs y:=by
    have key:∀j:Nat,∃d,∀i y,i<j->l[i]? =some y->∃b o cs,oa=some ⟨b,o,none⟩/\¬O b/\Lw.rowAt h b (o+i*3) cs/\nX d h O cs y:=by
      intro j
      induction j with
      |zero=>exact⟨0,fun i y hi=>by omega⟩
      |succ j ih =>
        obtain⟨d,hd⟩:=ih;cases hj:l[j]? with
        |none =>
          refine⟨d,fun i y hi hy=>hd i y ?_ hy⟩
          rcases Nat.lt_or_ge i j with q|q
          · exact q
          · have:i=j:=by omega
            subst this;rw[hj] at hy;cases hy
        |some z =>
          obtain⟨b,o,cs,h1,h2,h3,d2,h4⟩:=hk j z hj;refine⟨max d d2,fun i y hi hy=>?_⟩
          rcases Nat.lt_or_ge i j with q|q
          · obtain⟨b',o',cs',g1,g2,g3,g4⟩:=hd i y q hy;exact⟨b',o',cs',g1,g2,g3,tR g4 (by omega)⟩
          · have:i=j:=by omega
            subst this;rw[hj] at hy;cases hy;exact⟨b,o,cs,h1,h2,h3,tR h4 (by omega)⟩
    obtain⟨d,hd⟩:=key l.length;exact⟨d,fun i y hy=>hd i y (List.getElem?_eq_some_iff.1 hy).1 hy⟩
  obtain⟨d,hd⟩:=this;exact⟨d+1,oa,n,c,rfl,hl,hn,hm,hd⟩
def cL (h:aj) (O:Nat->Prop) (v:Value) (x:Tr):Prop:=∃cs,v= .agg cs.toArray/\eN.R h O cs x
theorem cL.open (q:cL h O v (.mk k t l)):∃w,v= .agg #[.int .i64 k,.string (bs t),w]/\aY eN h O w l:=by
  obtain⟨cs,rfl,q⟩:=q;obtain⟨w,rfl,q2⟩:=iR q;exact⟨w,rfl,q2⟩
theorem cL.shut {w:Value}(q:aY eN h O w l):cL h O (.agg #[.int .i64 k,.string (bs t),w]) (.mk k t l):=⟨_,rfl,jU q⟩
theorem cL.mv {h h':aj}{O O':Nat->Prop}{v:Value}{x:Tr}(q:cL h O v x) (m:Mv O O' h h'):cL h' O' v x:=by
  obtain⟨cs,rfl,q⟩:=q;exact⟨cs,rfl,eN.mv q m⟩
theorem Sl.nd {oa:Option Addr}{n c:Nat}(k:Sl eN h O oa n c l){i:Nat}(hi:i<n) :
    ∃b o x cs,oa=some ⟨b,o,none⟩/\¬O b/\l[i]? =some x/\Lw.rowAt h b (o+i*3) cs/\eN.R h O cs x:=by
  have hlt:i<l.length:=by rw[k.len];exact hi
  obtain⟨b,o,cs,ha,ho,hr,hR⟩:=k.get i l[i] (List.getElem?_eq_getElem hlt);exact⟨b,o,l[i],cs,ha,ho,List.getElem?_eq_getElem hlt,hr,hR⟩
theorem rQ {α:Type}{sz:Nat}:∀css:List (List α),(∀c∈css,c.length=sz)->css.flatten.length=css.length*sz
  | [],_=>by simp
  |c::css,h=>by
    rw[List.flatten_cons,List.length_append,h c (by simp),rQ css (fun c hc=>h c (by simp[hc])),List.length_cons,Nat.add_mul];omega
theorem cy.Ke {α:Type}{e:gD α}{css:List (List Value)}{xs:List α}{t:TypeId}{base n:Nat}(hl:css.length=xs.length)
    (hR:∀(i:Nat) (cs:List Value) (x:α),css[i]? =some cs->xs[i]? =some x->e.R h O cs x) (hb:base<=h.size) (hn:xs.length=n) (hm:n<=maxLen) :
    cy e O (h.push (.cells css.flatten.toArray t)) base t (.slice (some ⟨h.size,0,none⟩) n n) xs:=by
  subst hn
  have hlen:∀c∈css,c.length=e.sz:=fun c hc=>by
    obtain⟨i,hi⟩:=List.getElem?_of_mem hc;have hlt:i<xs.length:=by rw[<-hl];exact(List.getElem?_eq_some_iff.1 hi).1
    exact e.len (hR i c xs[i] hi (List.getElem?_eq_getElem hlt))
  have hfl:css.flatten.length=xs.length*e.sz:=by rw[rQ css hlen,hl]
  refine⟨css,hl,⟨hfl,.inr ⟨h.size,xs.length,css.flatten.toArray,rfl,hb,by simp,Nat.le_refl _,hm,by rw[List.size_toArray,hfl],by rw[<-hfl];exact List.take_length⟩⟩,fun i cs x h1 h2=>?_⟩
  exact e.mv (hR i cs x h1 h2) ⟨by simp,fun b hb' ho=>⟨(Ext.push (fun _=>False) h _).block b hb' (fun k=>k),fun k=>by
    rcases k with k|k
    · simp[cu,Value.ownBlock] at k;omega
    · exact ho k⟩⟩
theorem cL.get (q:cL h O v x):∃k t a n c,v= .agg #[.int .i64 k,.string (bs t),.slice a n c]/\eN.R h O [.int .i64 k,.string (bs t),.slice a n c] x:=by
  obtain⟨cs,rfl,q⟩:=q;cases x with
  |mk k t l =>
    obtain⟨w,rfl,q2⟩:=iR q;obtain⟨a,n,c,rfl,_⟩:=q2.open;exact⟨k,t,a,n,c,rfl,q⟩
theorem cL.of (q:eN.R h O cs x):cL h O (.agg cs.toArray) x:=⟨cs,rfl,q⟩
theorem cL.ext {h':aj}{M O':Nat->Prop}(q:cL h O v x) (e:Ext M h h') (hm:∀b,b<h.size->¬O b->¬M b/\¬O' b):cL h' O' v x:=q.mv (Mv.cg e hm)
theorem bH {h':aj}{M O':Nat->Prop}(q:eN.R h O cs x) (e:Ext M h h') (hm:∀b,b<h.size->¬O b->¬M b/\¬O' b):eN.R h' O' cs x:=eN.mv q (Mv.cg e hm)
theorem mI {T:TypeId}(q:eN.R h O cs x) (ho:¬O h.size):aY eN (h.push (.cells cs.toArray T)) O (.slice (some ⟨h.size,0,none⟩) 1 1) [x]:=aY.nY q ho
theorem pQ {c1 c2:List Value}{y:Tr}{T:TypeId}(q1:eN.R h O c1 x) (q2:eN.R h O c2 y){base:Nat}(hb:base<=h.size):cy eN O (h.push (.cells (c1++c2).toArray T)) base T (.slice (some ⟨h.size,0,none⟩) 2 2) [x,y]:=by
  have:=cy.Ke (e:=eN) (O:=O) (h:=h) (css:=[c1,c2]) (xs:=[x,y]) (t:=T) (base:=base) (n:=2) rfl (fun i cs z h1 h2=>by
    match i with
    | 0=>simp at h1 h2;subst h1 h2;exact q1
    | 1=>simp at h1 h2;subst h1 h2;exact q2
    |i+2=>simp at h1) hb rfl (by decide)
  simpa using this
end
end Go.Proofs.YtdgckfkoihcmjaaGreatDoor

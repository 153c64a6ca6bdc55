/- What the proof of the statement leans on (part 23). -/
import Derived.Lib.DecodeN
import Derived.Lib.IndexMore
import Derived.Test.YtmehdcdbeafljaaGreatDoorQv

namespace Go.Proofs.YtmehdcdbeafljaaGreatDoor
open Go
def gS (m:Int) (l:By):Int×Int:=if m=0 then dQ wW 53 l else if m=1 then dQ wV 10 l else if m=2 then dQ wU 11 l else (0,-1)
def tJ (m:Int):List (Int×Int):=if m=0 then [(1,0),(2,0),(3,0),(5,0),(11,0),(11,3),(9,1),(7,0),(8,0),(6,0)] else if m=1 then [(9,0),(10,0),(9,2),(9,0)] else if m=2 then [(11,3),(11,4),(11,0),(11,0)] else []
def jh (m n:Int):Option (Int×Int):=if n<0 then none else (tJ m)[n.toNat]?
def pF (m n:Int):Int:=match jh m n with|some p=>p.1|none=>0
abbrev uX:=Int×Int
def jo (s:uX) (n:Int):uX:=match jh s.1 n with
 |none=>s
 |some p=>if p.2=0 then s else if p.2=1 then (1,0) else if p.2=3 then (2,min (max s.2 0) 16383+1) else if p.2=4/\1<s.2 then (s.1,s.2-1) else (0,0)
def Ef:By:=[32,105,102,32,101,108,115,101,32,108,101,116,32,105,110,32,102,117,110,32,116,114,117,101,32,102,97,108,115,101,32,97,110,100,32,111,114,32,110,111,116,32]
def cN (s:By):Bool:=decide (s≠[]) && (!Lib.contains s [32] && Lib.contains Ef (32::(s++[32])))
def oW (l:By):Nat:=(Lib.decodeN l.length (l.getD 0 0).toNat (l.getD 1 0).toNat (l.getD 2 0).toNat (l.getD 3 0).toNat).2
def iK (l:By) (m:Int):Nat:=if (gS m l).1=0 then oW l else (gS m l).1.toNat
def Aq (l:By) (m:Int):Int:=if (gS m l).1=0 then 0 else if pF m (gS m l).2=3/\cN (l.take (gS m l).1.toNat)=true then 4 else pF m (gS m l).2
def o7 (l:By) (st:uX):uX:=if (gS st.1 l).1=0 then st else jo st (gS st.1 l).2
abbrev Tk:=Int×Int×Int
def jw:Nat->By->Nat->uX->List Tk×uX
 | 0,_,_,st=>([],st)
 |n+1,l,at_,st=>if l=[] then ([],st) else
  (((Aq l st.1,(at_:Int),((at_+iK l st.1:Nat):Int)):Tk)::(jw n (l.drop (iK l st.1)) (at_+iK l st.1) (o7 l st)).1,(jw n (l.drop (iK l st.1)) (at_+iK l st.1) (o7 l st)).2)
def eM (s:By):List Tk×uX:=jw s.length s 0 (0,0)
theorem BL (n b0 b1 b2 b3:Nat):1<=(Lib.decodeN n b0 b1 b2 b3).2:=by
 unfold Lib.decodeN
 repeat' split
 all_goals simp
theorem BK (n b0 b1 b2 b3:Nat) (hn:1<=n):(Lib.decodeN n b0 b1 b2 b3).2<=n:=by
 unfold Lib.decodeN
 repeat' split
 all_goals (simp only;omega)
theorem zG {l:By}(h:l≠[]):1<=oW l/\oW l<=l.length:=⟨BL _ _ _ _ _,BK _ _ _ _ _ (List.length_pos_iff.2 h)⟩
theorem K8:Made Bj wW 53:=fY M3
theorem nH:Made Bi wV 10:=fY GW
theorem K7:Made Bh wU 11:=fY M1
theorem Ah (m:Int) (l:By):0<=(gS m l).1/\(gS m l).1<=l.length:=by
 have key:∀{rules:List By}{ss:List bT}{st:Nat},Made rules ss st->0<=(dQ ss st l).1/\(dQ ss st l).1<=l.length:=fun k=>by
  rcases Aa k l with ⟨e,_⟩|⟨n,r,e,hn,_⟩
  · rw[e];simp
  · rw[e];simp only;omega
 unfold gS;split
 · exact key K8
 · split
   · exact key nH
   · split
     · exact key K7
     · simp
theorem pz {l:By}(h:l≠[]) (m:Int):1<=iK l m/\iK l m<=l.length:=by
 have h1:=Ah m l;have h2:=zG h;unfold iK;split
 · exact h2
 · omega
theorem qF:∀(n k:Nat) (l:By) (a:Nat) (st:uX),l.length<=n->l.length<=k->jw n l a st=jw k l a st
 | 0,0,_,_,_,_,_=>rfl
 | 0,k+1,l,a,st,h,_=>by
  have:l=[]:=List.length_eq_zero_iff.1 (by omega);rw[jw,jw,if_pos this]
 |n+1,0,l,a,st,_,h=>by
  have:l=[]:=List.length_eq_zero_iff.1 (by omega);rw[jw,jw,if_pos this]
 |n+1,k+1,l,a,st,h1,h2=>by
  rw[jw,jw]
  by_cases hl:l=[]
  · rw[if_pos hl,if_pos hl]
  · have:=pz hl st.1;rw[if_neg hl,if_neg hl,qF n k _ _ _ (by rw[List.length_drop];omega) (by rw[List.length_drop];omega)]
theorem rz {d:cn}:∀(l x:By) (s k:Nat) (b:Int×Int),(bz d l s k b).2.2<((k+l.length:Nat):Int)->bz d (l++x) s k b=bz d l s k b
 | [],x,s,k,b,h=>by
  exfalso;rw[bz] at h;split at h
  · simp only[List.length_nil,Nat.add_zero] at h;omega
  · simp only[List.length_nil,Nat.add_zero] at h;omega
 |c::l,x,s,k,b,h=>by
  rw[List.cons_append,bz,bz];rw[bz] at h;split
  · rename_i hp;rw[if_pos hp] at h;exact rz l x _ _ _ (by rw[List.length_cons] at h;rw[show k+1+l.length=k+(l.length+1) by omega];exact h)
  · rfl
theorem qo {rules:List By}{ss:List bT}{st:Nat}(hm:fj rules= .inr (ss,st)){H:List (List Nat×Nat)}{tab reps:List UInt8}(hr:iO ss tab reps=true) (ha:oE ss H reps=true) (hs:xS H (cL ss st)=some 0/\cL ss st≠[]/\¬0<=bG ss (cL ss st)) (hH:H.length<=2000) :
 ∃d,gj ss st= .inr d/\(∀l,(bz d l 0 0 (0,-1)).2.2<=(dQ ss st l).1+2)/\∀l x:By,(dQ ss st l).1+2<l.length->dQ ss st (l++x)=dQ ss st l:=by
 have hM:=fY hm;have hmem:=tN hs.1;obtain⟨d,hd⟩:=Az (FZ hr ha) (by simpa using hH) (fun e=>hs.2.1 (List.length_eq_zero_iff.1 e)) (List.mem_map.2 ⟨_,hmem,rfl⟩);obtain⟨_,L,h1,h2,_⟩:=iM hd;have hst:=hM.stl;have hmt:=fun l=>pS hd (by omega) l
 have h2s:∀l,(bz d l 0 0 (0,-1)).2.2<=(bz d l 0 0 (0,-1)).1+2:=fun l=>vL h1 h2 hr ha l 0 0 (0,-1) _ 0 h1.first hmem (by rw[if_neg hs.2.2];simp)
 have hmt1:∀l,(bz d l 0 0 (0,-1)).1=(dQ ss st l).1:=fun l=>by have:=hmt l;rw[<-this]
 refine⟨d,hd,fun l=>by rw[<-hmt1];exact h2s l,fun l x hlt=>?_⟩;have:=h2s l;rw[hmt1] at this;rw[<-hmt (l++x),<-hmt l,rz l x 0 0 (0,-1) (by rw[Nat.zero_add];omega)]
theorem xR:JO.length<=2000/\La.length<=2000/\tO.length<=2000:=by decide
end Go.Proofs.YtmehdcdbeafljaaGreatDoor
namespace Go.Proofs.YtmehdcdbeafljaaGreatDoor
open Go.Proofs.Tryz
open Go Go.Lw
set_option maxRecDepth 20000
section
variable {h:aA}
def gQ (m:Int):List By:=if m=0 then Bj else if m=1 then Bi else if m=2 then Bh else []
def nU (m:Int):List (By×Int×Int):=List.zipWith (fun r k=>(r,k.1,k.2)) (gQ m) (tJ m)
def lA (h:aA):Prop:=∀m:Nat,m<3->∃v,cellAt h ⟨0,m,none⟩=some v/\bX Jw h (fun _=>False) v (nU m)
theorem lA.ax {h h':aA}(k:lA h) (e:aC h h'):lA h':=fun m hm=>by
 obtain⟨v,h1,h2⟩:=k m hm;exact⟨v,e.cell (fun k=>k) h1,h2.mv (Mv.ax e)⟩
theorem Et (m:Nat) (hm:m<3):(nU m).length<=10/\(nU m).map (·.1)=gQ m:=by
 match m,hm with
 | 0,_=>exact⟨by decide,by decide⟩
 | 1,_=>exact⟨by decide,by decide⟩
 | 2,_=>exact⟨by decide,by decide⟩
theorem oU (r:By×Int×Int):∀v∈fe r,v.oneCell'=true:=fun v hv=>by simp[fe] at hv;rcases hv with rfl|rfl|rfl<;>rfl
theorem BW {l cap:Nat}{oa:Option Addr}{n c:Nat}{J:Nat->aA->Prop}(hn:n<=1000000) (hmono:∀j h g,J j h->aC h g->J j g)
 (hy:∀j h,J j h->j<n->∃(b o:Nat) (r:By×Int×Int),oa=some ⟨b,o,none⟩/\Lw.rowAt h b (o+j*3) (fe r) /\
  ∀g,J j g->gG Tryz.prog l #[.int .i64 (j:Nat),.agg (fe r).toArray] g (cM fun r h'=>r= .bool true/\J (j+1) h')) (h0:J 0 h) (hread:cellAt h ⟨cap,0,none⟩=some (.slice oa n c)) :
 ah Tryz.prog 96 #[.func (.yield l) #[] #[],.pointer (some ⟨cap,0,none⟩)] h (cM fun _ h'=>J n h'):=by
 refine ah.of func96 rfl rfl ?_;refine xr func96 rfl ?_;refine xp rfl (ai H.CM rfl hread) ?_;refine xp rfl (aj.aS underlying142 rfl) ?_;refine aN 1 [0,1,5,6,7] rfl ?_;refine G.block rfl rfl ?_;refine bO (σ:=Nat) (fun j=>[(0,.func (.yield l) #[] #[]),(1,.pointer (some ⟨cap,0,none⟩)),(5,.slice oa n c),(6,.int .i64 (n:Nat)),(7,.int .i64 (j:Nat))]) (fun j h'=>J j h'/\j<=n) (fun j=>n-j) (0) rfl ⟨rfl,rfl,rfl,rfl,rfl,trivial⟩ ⟨h0,Nat.zero_le _⟩ ?_;rintro j h1 ⟨hJ,hj⟩ ih;refine bf func96 1 [0,1,5,6,7,8] rfl ?_;refine av rfl ?_;refine aM rfl rfl (fun hlt=>?_) (fun hlt=>?_)
 · obtain⟨b,o,r,ha,hrow,hyy⟩:=hy j h1 hJ (by omega);refine aB rfl ?_;refine av rfl ?_;refine G.block rfl rfl ?_;refine bl func96 1 rfl ?_;refine xp rfl (aj.aH underlying142 H.j8 rfl rfl j rfl ha (by omega)) ?_;refine xp rfl (aj.aE H.AK H.j8 rfl hrow (by first|rfl|(simp;done)|(simp;omega))) ?_;refine xo rfl (az.aQ H.yN) ?_;rintro _ g1 ⟨rfl,k1,e1,z1⟩;refine aV 1 rfl ?_;refine RW.bB rfl rfl rfl (az.au H.j8 rfl rfl k1 (by first|rfl|(simp;done)|(simp;omega)) (by first|decide|exact of_decide_eq_true rfl|(simp;done)|(simp;omega)) (oU r)) ?_;rintro _ g2 ⟨rfl,k2,x2,z2⟩;refine xd [0,1,3,4,5,6,7,8] rfl ?_;refine av rfl ?_;have e12:aC h1 g2:=e1.only x2 (Nat.le_refl _);have k2:bh g2 h1.size 144 (fe r):=k2;refine G.Jd func96 rfl ?_;refine eF.ay rfl rfl rfl rfl rfl (aP rfl) ?_;refine eF.ay rfl rfl rfl rfl rfl (aP rfl) ?_;refine eF.ay rfl rfl rfl rfl rfl (aj.aE H.AK H.j8 rfl k2.row (by first|rfl|(simp;done)|(simp;omega))) ?_;refine qH (vs:=[_,_]) rfl rfl rfl rfl rfl rfl rfl ((hyy g2 (hmono _ _ _ hJ e12))) ?_;rintro _ h2 ⟨rfl,hJ2⟩;refine eF.ay rfl rfl rfl rfl rfl (aj.E8 rfl) ?_;refine fQ rfl ?_;refine xu [0,1,3,4,5,6,7,8,16] rfl ?_;refine aJ rfl rfl (fun hc=>absurd hc (by decide)) (fun _=>?_);refine aB rfl ?_;refine G.aR ?_;refine G.cz func96 rfl ?_;refine xp rfl (aj.bJ rfl rfl ⟨by omega,by omega⟩) ?_;refine aN 1 [0,1,3,4,5,6,7,8,16] rfl ?_;exact ih (j+1) _ _ ⟨rfl,rfl,rfl,rfl,rfl,trivial⟩ ⟨hJ2,by omega⟩ (by omega)
 · obtain rfl:j=n:=by omega
   refine bD rfl rfl ?_;refine G.xV func96 rfl ?_;exact⟨_,rfl,hJ⟩
theorem D0 (v:Value) (hv:v.oneCell'=true):ah Tryz.prog 50 #[v] h (cM fun r h'=>r= .func (.func 96) #[] #[.pointer (some ⟨h.size,0,none⟩)]/\h'=h.push (.cells #[v] 142)):=by
 have hcells:v.cells= #[v]:=by cases v<;>simp[Value.oneCell'] at hv<;>rfl
 refine ah.of func50 rfl rfl ?_;refine xr func50 rfl ?_;refine xo rfl (az.box rfl) ?_;rintro _ _ ⟨rfl,rfl⟩;refine aN 1 [0,1,2] rfl ?_;refine xr func50 rfl ?_;refine xp rfl (aj.makeFunc (vs:=[_]) rfl) ?_;refine aN 1 [0,1,2] rfl ?_;refine G.ret func50 rfl rfl ?_;exact⟨_,rfl,rfl,by rw[hcells]⟩
abbrev DO (s:By):Value:=.string (bs s)
def HO (h:aA) (d:Nat) (r0:Loop) (base:Nat) (l:List By) (j:Nat) (g:aA):Prop :=
 cO g (d+1) r0/\g[d]? =some (.deferred (some []))/\aC h g/\base<=g.size/\∃w,bh g h.size 87 [w]/\cR DO g base 9 w (l.take j)
theorem HO.ax {h:aA}{d:Nat}{r0:Loop}{base:Nat}{l:List By}{j:Nat}{g g':aA}(k:HO h d r0 base l j g) (hd:d<g.size) (e:aC g g'):HO h d r0 base l j g':=by
 obtain⟨h1,h2,h3,h4,w,h5,h6⟩:=k;exact⟨h1.ext e (fun k=>k),(e.block d hd (fun k=>k)).trans h2,h3.trans e,by have:=e.size;omega,w,h5.ax e,cR.ax h6 e⟩
theorem De (hR:lA h) (m:Nat) (hm:m<3) :
 ah Tryz.prog 28 #[.int .i64 (m:Nat)] h (cM fun r h'=>bX ny h' (fun _=>False) r (gQ m)/\aC h h'):=by
 obtain⟨htl,htm⟩:=Et m hm;generalize hL0:gQ (m:Int)=l at *;generalize htb:nU (m:Int)=tb at *;have hll:l.length=tb.length:=by rw[<-htm];simp
 refine ah.of func28 rfl rfl ?_;refine bf func28 1 [0,2] rfl ?_;refine av rfl ?_;refine av rfl ?_;refine G.bw [(11,.bool false)] [(0,_),(2,_)] ⟨rfl,rfl,trivial⟩ func28 rfl ?_ ?_
 · refine aV 3 rfl ?_;refine RW.cS (d:=8) (b':=false) rfl ((by simp)) ?_;refine aV 3 rfl ?_;refine aD rfl ?_;exact⟨rfl,aF rfl (by simp;omega),rfl,rfl,trivial⟩
 · refine aJ rfl rfl (fun hc=>absurd hc (by decide)) (fun _=>?_);refine aB rfl ?_;refine xr func28 rfl ?_;refine xo rfl (az.aQ H.Ma) ?_;rintro _ h1 ⟨rfl,k3,e1,z1⟩;have k3:bh h1 h.size 87 [.slice none 0 0]:=k3;obtain⟨v,hv,hsl⟩:=hR m hm;rw[htb] at hsl;have hsl1:=hsl.mv (Mv.ax e1);obtain⟨oa,kn,kc,rfl,hsl2⟩:=hsl1.open;have hkn:=hsl2.len;have hv1:cellAt h1 ⟨0,0+m*1,none⟩=some (.slice oa kn kc):=by rw[Nat.mul_one,Nat.zero_add];exact e1.cell (fun k=>k) hv
   refine xd [0,2,3,11] rfl ?_;refine av rfl ?_;refine bl func28 1 rfl ?_;refine xp rfl (aj.cQ underlying145 H.EC rfl rfl m rfl (by omega)) ?_;refine xp rfl (ai H.CM rfl hv1) ?_;refine xo rfl (aq (vs:=[_]) func50 rfl H.MS rfl (ah.bq (D0 (.slice oa kn kc) rfl))) ?_;rintro _ h2 ⟨rfl,hh2⟩;have e2:aC h1 h2:=by rw[hh2];exact Ext.push _ _ _
   have kc2b:bh h2 h1.size 142 [.slice oa kn kc]:=by rw[hh2];exact yJ _ _ _
   have kc2:cellAt h2 ⟨h1.size,0,none⟩=some (.slice oa kn kc):=kc2b.cell (i:=0) rfl;have z2:h2.size=h1.size+1:=by rw[hh2];simp
   clear hh2;refine xd [0,2,3,11,15] rfl ?_;refine G.block rfl rfl ?_;refine G.rangeFunc rfl rfl func96 rfl (by decide +kernel) ?_;intro fid tmps hfits;obtain⟨r0,hr0⟩:∃r0,r0=fH fid tmps #[16,17] (Mq (Lw.sub (aK f28) [0,1,0,1,1,1])) (Mp (Lw.sub (aK f28) [0,1,0,1,1,1])) h2.size:=⟨_,rfl⟩
   obtain⟨hL,hhL⟩:∃hL,hL=(h2.push (.deferred (some []))).push (.loop r0):=⟨_,rfl⟩
   suffices hmain:ah Tryz.prog 96 #[.func (.yield (h2.size+1)) #[] #[],.pointer (some ⟨h1.size,0,none⟩)] hL _ by rw[hhL,hr0] at hmain;exact hmain
   have hst:r0.state= .ready:=by rw[hr0];rfl
   have hpn:r0.pending=none:=by rw[hr0];rfl
   have hps:r0.params= #[16,17]:=by rw[hr0];rfl
   have htm2:r0.tmps=tmps:=by rw[hr0];rfl
   have eL:aC h2 hL:=by rw[hhL];exact(Ext.push _ _ _).trans (Ext.push _ _ _)
   have hLz:hL.size=h2.size+2:=by rw[hhL];simp
   have hloop0:cO hL (h2.size+1) r0:=by
    have hz:h2.size+1=(h2.push (.deferred (some []))).size:=by simp
    rw[cO,hhL,hz];exact Array.getElem?_push_size
   have hdef0:hL[h2.size]? =some (.deferred (some [])):=by
    rw[hhL,(Ext.push (fun _=>False) (h2.push (.deferred (some []))) _).block h2.size (by simp) (fun k=>k)];exact Array.getElem?_push_size
   clear hhL;have e0L:aC h hL:=(e1.trans e2).trans eL;have hJ0:HO h h2.size r0 hL.size l 0 hL:=⟨hloop0,hdef0,e0L,Nat.le_refl _,_,(k3.ax e2).ax eL,cR.nil _ _ _ _⟩
   have hcapL:cellAt hL ⟨h1.size,0,none⟩=some (.slice oa kn kc):=eL.cell (fun k=>k) kc2;have hdl:∀j g,HO h h2.size r0 hL.size l j g->h2.size<g.size:=fun j g k=>by have:=k.2.2.2.1;omega
   refine suff (p:=∀j g,HO h h2.size r0 hL.size l j g->j<kn->∃(b o:Nat) (r:By×Int×Int),oa=some ⟨b,o,none⟩/\Lw.rowAt g b (o+j*3) (fe r)/\∀g,HO h h2.size r0 hL.size l j g->gG Tryz.prog (h2.size+1) #[.int .i64 (j:Nat),.agg (fe r).toArray] g (cM fun r h'=>r= .bool true/\HO h h2.size r0 hL.size l (j+1) h')) ?_ fun hy=>?_
   · intro j g hJg hj;obtain⟨r,hx⟩:∃r,tb[j]? =some r:=⟨_,List.getElem?_eq_getElem (by omega)⟩
     have hslg:=hsl.mv (Mv.ax hJg.2.2.1);obtain⟨oa',n',c',hv',_,_,_,hget⟩:=id hslg;cases hv';obtain⟨b,o,cs,ha,hob,hrow,rfl⟩:=hget j r hx;refine⟨b,o,r,ha,hrow,fun g hJg=>?_⟩;obtain⟨hlp,hdf,ehg,hbg,w,kS,hw⟩:=hJg;have hlj:l[j]? =some r.1:=by rw[<-htm,List.getElem?_map,hx];rfl
     have hfit:=tV (p1:=16) (p2:=17) (v1:=.int .i64 (j:Nat)) (v2:=.agg (fe r).toArray) hfits rfl rfl;rw[<-hps,<-htm2] at hfit;refine gG.of hlp hst (by rw[hps];rfl) hfit ((congrArg Loop.assign hr0).trans rfl) ((congrArg Loop.body hr0).trans rfl) ?_;refine eF.Di rfl rfl rfl rfl rfl (az.aQ H.yN) ?_;rintro _ g1 ⟨rfl,k5,e1',zz1⟩;refine eF.bB rfl rfl rfl rfl (az.au H.j8 rfl rfl k5 (by first|rfl|(simp;done)|(simp;omega)) (by first|decide|exact of_decide_eq_true rfl|(simp;done)|(simp;omega)) (oU r)) ?_;rintro _ g2 ⟨rfl,k5',e2',zz2⟩;refine fQ rfl ?_;have e12:aC g g2:=e1'.only e2' (Nat.le_refl _);have k5':bh g2 g.size 144 (fe r):=k5';refine⟨(e12.block _ hlp.lt (fun k=>k)).trans hlp,?_⟩;obtain⟨g3,hg3⟩:∃g3,g3=Lw.cA g2 (h2.size+1) (.loop { r0 with state:=.busy }):=⟨_,rfl⟩
     rw[<-hg3];have hlz:=hlp.lt;have hz2:=e12.size;have hz1:=e1.size;have e23:Ext (fun b=>b=h2.size+1) g2 g3:=by rw[hg3];exact Ext.cA _ _ _ rfl
     have hlp3:cO g3 (h2.size+1) { r0 with state:=.busy }:=by rw[cO,hg3];exact gR (by omega)
     have hz3:=e23.size;have kS3:=(kS.ax e12).ext e23 (show ¬h.size=h2.size+1 by omega);have k53:=k5'.ext e23 (show ¬g.size=h2.size+1 by omega);have hwge:∀b,w.ownBlock=some b->hL.size<=b:=fun b hb=>(aT.lt hw hb).1
     have hw3:aT g3 hL.size 9 1 w (l.take j).length ((l.take j).map DO):=aT.ext e23 (cR.ax hw e12) (fun b hb k=>by have:=hwge b hb;omega);have hjl:(l.take j).length=j:=by rw[List.length_take];omega
     refine eF.ay rfl rfl rfl rfl rfl (ai H.HC rfl (kS3.cell (i:=0) rfl)) ?_;refine eF.ay rfl rfl rfl rfl rfl (af (off:=0) underlying144 rfl rfl H.eG rfl) ?_;refine eF.ay rfl rfl rfl rfl rfl (ai H.fu rfl (k53.cell (i:=0) rfl)) ?_;refine eF.Di rfl rfl rfl rfl rfl (az.bg (us:=[_]) underlying87 H.rO rfl rfl (by decide) (by simp[Value.oneCell'])) ?_;rintro _ _ ⟨rfl,rfl⟩;refine eF.Di rfl rfl rfl rfl rfl (az.bU underlying87 H.rO rfl rfl (hw3) rfl rfl (by first|decide|simp[Value.oneCell']) (by omega) (by decide) (by omega)) ?_;rintro v4 g4 ⟨ho4,hx4,hx4',hv4⟩;have kS4:=kS3.ext hx4 (fun k=>by have:=hwge _ k.symm;omega);have hz4:=hx4.size;have hw4:cR DO g4 hL.size 9 v4 (l.take j++[r.1]):=cR.of (ys:=[r.1]) ho4 rfl rfl rfl;obtain⟨va4,vc4,rfl,_⟩:=ho4.open;refine eF.bB rfl rfl rfl rfl (az.bA H.Ml rfl rfl kS4 (by first|decide|exact of_decide_eq_true rfl|(simp;done)|(simp;omega)) rfl) ?_;rintro _ g5 ⟨rfl,kS5,e5',zz5⟩;refine fQ rfl ?_;have kS5:bh g5 h.size 87 [.slice va4 ((l.take j).length+1) vc4]:=by simpa using kS5
     have hlp5:cO g5 (h2.size+1) { r0 with state:=.busy }:=(hlp3.ext hx4 (fun k=>by have:=hwge _ k.symm;omega)).ext e5' (show ¬h2.size+1=h.size by omega);have hr2:({ ({ r0 with state:=.busy }:Loop) with state:=.ready,pending:=none }:Loop)=r0:=by cases r0;simp at hst hpn;simp[hst,hpn]
     have hz5:=e5'.size;refine⟨_,hlp5,rfl,?_⟩;rw[hr2];have e56:Ext (fun b=>b=h2.size+1) g5 (Lw.cA g5 (h2.size+1) (.loop r0)):=Ext.cA _ _ _ rfl;have hlz5:=hlp5.lt
     have hblk:∀b,b<hL.size->¬b=h.size->¬b=h2.size+1->b<g.size->(Lw.cA g5 (h2.size+1) (.loop r0))[b]? =g[b]? :=fun b hb n1 n2 hbg=>by
      rw[e56.block b (by omega) n2,e5'.block b (by omega) n1,hx4.block b (by omega) (fun k=>by have:=hwge _ k.symm;omega),e23.block b (by omega) n2,e12.block b hbg (fun k=>k)]
     have hv4ge:∀b,(Value.slice va4 ((l.take j).length+1) vc4).ownBlock=some b->hL.size<=b:=fun b hb=>(aT.lt hw4 hb).1
     refine⟨gR hlz5,by rw[hblk h2.size (by omega) (by omega) (by omega) (by omega)];exact hdf,⟨by have:=e56.size;have:=ehg.size;omega,fun b hb _=>?_⟩,by have:=e56.size;omega,_,kS5.ext e56 (show ¬h.size=h2.size+1 by omega),?_⟩
     · rw[hblk b (by omega) (by omega) (by omega) (by have:=ehg.size;omega)];exact ehg.block b hb (fun k=>k)
     · rw[List.take_add_one,hlj];exact aT.ext e56 (aT.ext e5' hw4 (fun b hb k=>by have:=hv4ge b hb;omega)) (fun b hb k=>by have:=hv4ge b hb;omega)
   · refine(BW (l:=h2.size+1) (cap:=h1.size) (n:=kn) (c:=kc) (oa:=oa) (J:=HO h h2.size r0 hL.size l) (by omega) (fun j g g' k e=>k.ax (hdl j g k) e) hy hJ0 hcapL).mono fun e g hJ=>?_
     obtain⟨u,rfl,hlp,hdf,ehg,hbg,w,kS,hw⟩:=hJ;rw[List.take_of_length_le (by omega)] at hw;refine⟨_,rfl,r0,hlp,by rw[hst];decide,hpn,?_⟩;have hz1:=e1.size;have hlz:=hlp.lt;have e6:Ext (fun b=>b=h2.size+1) g (Lw.cA g (h2.size+1) (.loop { r0 with state:=.exhausted })):=Ext.cA _ _ _ rfl;have kSe:=kS.ext e6 (show ¬h.size=h2.size+1 by omega);have hdfe:=(e6.block h2.size (by omega) (show ¬h2.size=h2.size+1 by omega)).trans hdf;have hwge:∀b,w.ownBlock=some b->hL.size<=b:=fun b hb=>(aT.lt hw hb).1
     have hwe:=aT.ext e6 hw (fun b hb k=>by have:=hwge b hb;omega);refine GD.aR ?_;refine mT rfl ?_;refine GD.cz func28 rfl ?_;refine iG.ay rfl rfl rfl rfl (ai H.HC rfl (kSe.cell (i:=0) rfl)) ?_;refine iG.ay rfl rfl rfl rfl (aj.assign rfl) ?_;refine jq rfl ?_;refine GD.sub (ρ':=[(0,_),(2,_),(3,_),(11,_),(15,_)]) ⟨rfl,rfl,rfl,rfl,rfl,trivial⟩ ?_;refine GD.Cm func28 rfl hdfe rfl ?_;have e7:Ext (fun b=>b=h2.size) (Lw.cA g (h2.size+1) (.loop { r0 with state:=.exhausted })) (Lw.cA (Lw.cA g (h2.size+1) (.loop { r0 with state:=.exhausted })) h2.size (.deferred none)):=Ext.cA _ _ _ rfl;have hz6:=e6.size;have hz7:=e7.size;refine⟨_,rfl,cR.read (h1:=fun _=>rfl) (show cR DO _ hL.size 9 w l from aT.ext e7 hwe (fun b hb k=>by have:=hwge b hb;omega)) (fun _ _ k=>k),⟨by have:=ehg.size;omega,fun b hb _=>?_⟩⟩;rw[e7.block b (by have:=ehg.size;omega) (by omega),e6.block b (by have:=ehg.size;omega) (by omega)];exact ehg.block b hb (fun k=>k)
end
end Go.Proofs.YtmehdcdbeafljaaGreatDoor
namespace Go.Proofs.YtmehdcdbeafljaaGreatDoor
open Go Go.Lw
section
variable {h:aA}{O:Nat->Prop}{cs:List Value}{k:Int}{t:By}{l:List Tr}{v:Value}{x:Tr}
def nG:Nat->aA->(Nat->Prop)->List Value->Tr->Prop
 | 0,_,_,_,_=>False
 |d+1,h,O,cs,x=>∃oa n c,cs=[.int .i64 x.kind,.string (bs x.text),.slice oa n c]/\x.kids.length=n/\n<=c/\c<=maxLen /\
  ∀i y,x.kids[i]? =some y->∃b o cs',oa=some ⟨b,o,none⟩/\¬O b/\Lw.rowAt h b (o+i*3) cs'/\nG d h O cs' y
theorem vS:∀{d:Nat}{h:aA}{O:Nat->Prop}{cs:List Value}{x:Tr},nG d h O cs x->cs.length=3
 | 0,_,_,_,_,k=>k.elim
 |_+1,_,_,_,_,⟨_,_,_,hc,_⟩=>by rw[hc];rfl
theorem Dm:∀{d:Nat}{h:aA}{O:Nat->Prop}{cs:List Value}{x:Tr},nG d h O cs x->∀v∈cs,v.oneCell'=true
 | 0,_,_,_,_,k=>k.elim
 |_+1,_,_,_,_,⟨_,_,_,hc,_⟩=>by
  intro v hv;rw[hc] at hv;simp at hv;rcases hv with rfl|rfl|rfl<;>rfl
theorem zR:∀{d:Nat}{h h':aA}{O O':Nat->Prop}{cs:List Value}{x:Tr},nG d h O cs x->Mv O O' h h'->nG d h' O' cs x
 | 0,_,_,_,_,_,_,k,_=>k.elim
 |d+1,h,h',O,O',cs,x,⟨oa,n,c,hc,hl,hn,hm,hk⟩,m=>by
  refine⟨oa,n,c,hc,hl,hn,hm,fun i y hy=>?_⟩;obtain⟨b,o,cs',h1,h2,h3,h4⟩:=hk i y hy;have hne:cs'≠[]:=fun e0=>by have:=vS h4;rw[e0] at this;simp at this
  exact⟨b,o,cs',h1,(m.block b (dW h3 hne) h2).2,m.rowAt h2 h3,zR h4 m⟩
theorem sV:∀{d d':Nat}{h:aA}{O:Nat->Prop}{cs:List Value}{x:Tr},nG d h O cs x->d<=d'->nG d' h O cs x
 | 0,_,_,_,_,_,k,_=>k.elim
 |d+1,0,_,_,_,_,_,hd=>by omega
 |d+1,d'+1,h,O,cs,x,⟨oa,n,c,hc,hl,hn,hm,hk⟩,hd=>by
  refine⟨oa,n,c,hc,hl,hn,hm,fun i y hy=>?_⟩;obtain⟨b,o,cs',h1,h2,h3,h4⟩:=hk i y hy;exact⟨b,o,cs',h1,h2,h3,sV h4 (by omega)⟩
def eN:gM Tr where
 sz:=3
 pos:=by decide
 R:=fun h O cs x=>∃d,nG d h O cs x
 len:=fun⟨_,k⟩=>vS k
 one:=fun⟨_,k⟩=>Dm k
 mv:=fun⟨d,k⟩ m=>⟨d,zR k m⟩
theorem lf (q:eN.R h O cs (.mk k t l)):∃v,cs=[.int .i64 k,.string (bs t),v]/\bX eN h O v l:=by
 obtain⟨d,q⟩:=q;cases d with
 |zero=>exact q.elim
 |succ d =>
  obtain⟨oa,n,c,hc,hl,hn,hm,hk⟩:=q;refine⟨_,hc,oa,n,c,rfl,hl,hn,hm,fun i y hy=>?_⟩;obtain⟨b,o,cs',h1,h2,h3,h4⟩:=hk i y hy;exact⟨b,o,cs',h1,h2,h3,d,h4⟩
theorem xZ (q:bX eN h O v l):eN.R h O [.int .i64 k,.string (bs t),v] (.mk k t l):=by
 obtain⟨oa,n,c,rfl,hl,hn,hm,hk⟩:=q
 have:∃d,∀i y,l[i]? =some y->∃b o cs,oa=some ⟨b,o,none⟩/\¬O b/\Lw.rowAt h b (o+i*3) cs/\nG d h O cs y:=by
  have key:∀j:Nat,∃d,∀i y,i<j->l[i]? =some y->∃b o cs,oa=some ⟨b,o,none⟩/\¬O b/\Lw.rowAt h b (o+i*3) cs/\nG d h O cs y:=by
   intro j
   induction j with
   |zero=>exact⟨0,fun i y hi=>by omega⟩
   |succ j ih =>
    obtain⟨d,hd⟩:=ih;cases hj:l[j]? with
    |none =>
     refine⟨d,fun i y hi hy=>hd i y ?_ hy⟩
     rcases Nat.lt_or_ge i j with q|q
     · exact q
     · have:i=j:=by omega
       subst this;rw[hj] at hy;cases hy
    |some z =>
     obtain⟨b,o,cs,h1,h2,h3,d2,h4⟩:=hk j z hj;refine⟨max d d2,fun i y hi hy=>?_⟩
     rcases Nat.lt_or_ge i j with q|q
     · obtain⟨b',o',cs',g1,g2,g3,g4⟩:=hd i y q hy;exact⟨b',o',cs',g1,g2,g3,sV g4 (by omega)⟩
     · have:i=j:=by omega
       subst this;rw[hj] at hy;cases hy;exact⟨b,o,cs,h1,h2,h3,sV h4 (by omega)⟩
  obtain⟨d,hd⟩:=key l.length;exact⟨d,fun i y hy=>hd i y (List.getElem?_eq_some_iff.1 hy).1 hy⟩
 obtain⟨d,hd⟩:=this;exact⟨d+1,oa,n,c,rfl,hl,hn,hm,hd⟩
def fq (h:aA) (O:Nat->Prop) (v:Value) (x:Tr):Prop:=∃cs,v= .agg cs.toArray/\eN.R h O cs x
theorem fq.open (q:fq h O v (.mk k t l)):∃w,v= .agg #[.int .i64 k,.string (bs t),w]/\bX eN h O w l:=by
 obtain⟨cs,rfl,q⟩:=q;obtain⟨w,rfl,q2⟩:=lf q;exact⟨w,rfl,q2⟩
theorem fq.shut {w:Value}(q:bX eN h O w l):fq h O (.agg #[.int .i64 k,.string (bs t),w]) (.mk k t l):=⟨_,rfl,xZ q⟩
theorem fq.mv {h h':aA}{O O':Nat->Prop}{v:Value}{x:Tr}(q:fq h O v x) (m:Mv O O' h h'):fq h' O' v x:=by
 obtain⟨cs,rfl,q⟩:=q;exact⟨cs,rfl,eN.mv q m⟩
theorem Sl.nd {oa:Option Addr}{n c:Nat}(k:Sl eN h O oa n c l){i:Nat}(hi:i<n) :
 ∃b o x cs,oa=some ⟨b,o,none⟩/\¬O b/\l[i]? =some x/\Lw.rowAt h b (o+i*3) cs/\eN.R h O cs x:=by
 have hlt:i<l.length:=by rw[k.len];exact hi
 obtain⟨b,o,cs,ha,ho,hr,hR⟩:=k.get i l[i] (List.getElem?_eq_getElem hlt);exact⟨b,o,l[i],cs,ha,ho,List.getElem?_eq_getElem hlt,hr,hR⟩
theorem rq {α:Type}{sz:Nat}:∀css:List (List α),(∀c∈css,c.length=sz)->css.flatten.length=css.length*sz
 | [],_=>by simp
 |c::css,h=>by
  rw[List.flatten_cons,List.length_append,h c (by simp),rq css (fun c hc=>h c (by simp[hc])),List.length_cons,Nat.add_mul];omega
theorem dx.Iz {α:Type}{e:gM α}{css:List (List Value)}{xs:List α}{t:TypeId}{base n:Nat}(hl:css.length=xs.length)
 (hR:∀(i:Nat) (cs:List Value) (x:α),css[i]? =some cs->xs[i]? =some x->e.R h O cs x) (hb:base<=h.size) (hn:xs.length=n) (hm:n<=maxLen) :
 dx e O (h.push (.cells css.flatten.toArray t)) base t (.slice (some ⟨h.size,0,none⟩) n n) xs:=by
 subst hn
 have hlen:∀c∈css,c.length=e.sz:=fun c hc=>by
  obtain⟨i,hi⟩:=List.getElem?_of_mem hc;have hlt:i<xs.length:=by rw[<-hl];exact(List.getElem?_eq_some_iff.1 hi).1
  exact e.len (hR i c xs[i] hi (List.getElem?_eq_getElem hlt))
 have hfl:css.flatten.length=xs.length*e.sz:=by rw[rq css hlen,hl]
 refine⟨css,hl,⟨hfl,.inr ⟨h.size,xs.length,css.flatten.toArray,rfl,hb,by simp,Nat.le_refl _,hm,by rw[List.size_toArray,hfl],by rw[<-hfl];exact List.take_length⟩⟩,fun i cs x h1 h2=>?_⟩
 exact e.mv (hR i cs x h1 h2) ⟨by simp,fun b hb' ho=>⟨(Ext.push (fun _=>False) h _).block b hb' (fun k=>k),fun k=>by
  rcases k with k|k
  · simp[cV,Value.ownBlock] at k;omega
  · exact ho k⟩⟩
theorem fq.get (q:fq h O v x):∃k t a n c,v= .agg #[.int .i64 k,.string (bs t),.slice a n c]/\eN.R h O [.int .i64 k,.string (bs t),.slice a n c] x:=by
 obtain⟨cs,rfl,q⟩:=q;cases x with
 |mk k t l =>
  obtain⟨w,rfl,q2⟩:=lf q;obtain⟨a,n,c,rfl,_⟩:=q2.open;exact⟨k,t,a,n,c,rfl,q⟩
theorem fq.of (q:eN.R h O cs x):fq h O (.agg cs.toArray) x:=⟨cs,rfl,q⟩
theorem fq.ext {h':aA}{M O':Nat->Prop}(q:fq h O v x) (e:Ext M h h') (hm:∀b,b<h.size->¬O b->¬M b/\¬O' b):fq h' O' v x:=q.mv (Mv.cY e hm)
theorem cy {h':aA}{M O':Nat->Prop}(q:eN.R h O cs x) (e:Ext M h h') (hm:∀b,b<h.size->¬O b->¬M b/\¬O' b):eN.R h' O' cs x:=eN.mv q (Mv.cY e hm)
theorem me {T:TypeId}(q:eN.R h O cs x) (ho:¬O h.size):bX eN (h.push (.cells cs.toArray T)) O (.slice (some ⟨h.size,0,none⟩) 1 1) [x]:=bX.nH q ho
theorem s7 {c1 c2:List Value}{y:Tr}{T:TypeId}(q1:eN.R h O c1 x) (q2:eN.R h O c2 y){base:Nat}(hb:base<=h.size):dx eN O (h.push (.cells (c1++c2).toArray T)) base T (.slice (some ⟨h.size,0,none⟩) 2 2) [x,y]:=by
 have:=dx.Iz (e:=eN) (O:=O) (h:=h) (css:=[c1,c2]) (xs:=[x,y]) (t:=T) (base:=base) (n:=2) rfl (fun i cs z h1 h2=>by
  match i with
  | 0=>simp at h1 h2;subst h1 h2;exact q1
  | 1=>simp at h1 h2;subst h1 h2;exact q2
  |i+2=>simp at h1) hb rfl (by decide)
 simpa using this
end
end Go.Proofs.YtmehdcdbeafljaaGreatDoor

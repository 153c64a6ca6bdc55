/- What the proof of the statement leans on (part 30). -/
import Derived.Test.YtpjgdgdnbkjoiaaGreatDoorQzc

namespace Go.Proofs.YtpjgdgdnbkjoiaaGreatDoor
open Go.Proofs.Tryz
open Go Go.Lw
set_option maxRecDepth 20000 set_option maxHeartbeats 4000000
section
variable {a b n c i base:Nat}{l:List By}{s:By}{h h':ai}{O Z:Nat->Prop}{v u w:Value}{oa:Option Addr}
abbrev ox (x:By):Value:=.string (bs x)
def NE (l:List By):Prop:=∀s∈l,s≠[]
theorem NE.len:∀{l:List By},NE l->l.length<=(aY l).length
 | [],_=>Nat.le_refl _
 |s::r,h=>by
  have h1:=NE.len (l:=r) fun x hx=>h x (by simp[hx])
  have h2:0<s.length:=List.length_pos_iff.2 (h s (by simp));rw[aY,List.length_append,List.length_cons];omega
theorem NE.app {a b:List By}(h1:NE a) (h2:NE b):NE (a++b):=fun s hs=>(List.mem_append.1 hs).elim (h1 s) (h2 s)
theorem NE.take {l:List By}(h:NE l) (i:Nat):NE (l.take i):=fun s hs=>h s (List.mem_of_mem_take hs)
theorem NE.drop {l:List By}(h:NE l) (i:Nat):NE (l.drop i):=fun s hs=>h s (List.mem_of_mem_drop hs)
theorem NE.some (h:NE l) (s:By):NE (je l s):=by
 unfold je;split
 · exact h
 · rename_i hs;exact h.app fun x hx=>by rw[List.mem_singleton.1 hx];exact hs
def Dg (h:ai) (O:Nat->Prop) (v:Value) (s:By):Prop :=
 ∃b vl l,v= .pointer (some ⟨b,0,none⟩)/\¬O b/\aE h b 137 [.bool true,vl,.int .i64 (s.length:Nat)]/\bC sx h O vl l/\aY l=s/\NE l
theorem Dg.mv {h h':ai}{O O':Nat->Prop}{v:Value}{s:By}(k:Dg h O v s) (m:Mv O O' h h'):Dg h' O' v s:=by
 obtain⟨b,vl,l,hv,ho,hk,h1,h2,h3⟩:=k;have hm:=m.block b hk.lt ho;exact⟨b,vl,l,hv,hm.2,hm.1.trans hk,h1.mv m,h2,h3⟩
theorem Hi (h:decide (bs s=⟨#[]⟩)=true):s=[]:=gX (of_decide_eq_true h:bs s=bs [])
theorem lz (hv:bC sx h O v l) (hl:(aY l).length<=100000000) :
 af Tryz.prog 34 #[v] h (aX fun r h'=>(∃b:Nat,r= .pointer (some ⟨b,0,none⟩)/\h.size<=b/\aE h' b 137 [.bool true,v,.int .i64 ((aY l).length:Nat)])/\ak h h'):=by
 obtain⟨oa,n,c,rfl,hsl⟩:=id hv.open;have hn:=hsl.len;have hcap:=hsl.cap;have hle:=hsl.le;simp only[maxLen] at hcap;refine cu ?_;refine ah ?_;refine xp rfl (aB (H.Ho _ _ _ _) rfl) ?_;refine xo rfl (nk) ?_;rintro _ h1 ⟨rfl,k1,e1,z1⟩;have k1:aE h1 h.size 137 [.bool true,.slice oa n c,.int .i64 0]:=k1;refine ah ?_;refine nq (σ:=Nat) (fun i=>[(11,.int .i64 (i:Nat))]) (fun i h'=>i<=n/\aE h' h.size 137 [.bool true,.slice oa n c,.int .i64 ((aY (l.take i)).length:Nat)]/\ak h h') (fun i=>n-i) (0) ⟨Nat.zero_le _,k1,e1⟩ rfl ?_;rintro i g ⟨hi,kg,eg⟩ ih;refine ah ?_;refine bN (fun hlt=>?_) (fun hlt=>?_)
 · obtain⟨s,hs⟩:∃s,l[i]? =some s:=⟨_,List.getElem?_eq_getElem (by omega)⟩
   obtain⟨b,o,cs,ha,_,hrow,rfl⟩:=(hsl.mv (Mv.aj eg)).get i s hs;have hbs:=aF s;have htk:l.take (i+1)=l.take i++[s]:=by rw[List.take_add_one,hs];rfl
   have hfl:(aY (l.take (i+1))).length=(aY (l.take i)).length+s.length:=by rw[htk,cZ,List.length_append];simp[aY]
   have hle2:(aY (l.take (i+1))).length<=(aY l).length:=by rw[<-qG l (i+1),List.length_append];omega
   have hz:=eg.size
   iterate 4 refine bZ ?_
   refine eu ?_;refine xp rfl (eK rfl rfl i rfl ha) ?_;refine xp rfl (aM rfl (hrow 0 _ rfl)) ?_;refine ah ?_;refine xp rfl (aM rfl (kg.cell (i:=2) rfl)) ?_;refine ah ?_;refine bQ rfl (gq rfl rfl kg) ?_;rintro _ g2 ⟨rfl,k2,x2,z2⟩;have k2:aE g2 h.size 137 [.bool true,.slice oa n c,.int .i64 ((aY (l.take (i+1))).length:Nat)]:=by rw[hfl,<-hbs];exact k2
   refine ah ?_;exact ih (i+1) ⟨by omega,k2,ak.only eg x2 (Nat.le_refl _)⟩
 · rw[List.take_of_length_le (by omega)] at kg;refine ah ?_;refine bE ?_;exact⟨_,rfl,⟨_,rfl,Nat.le_refl _,kg⟩,eg⟩
theorem nJ (hv:bC sx h O v l) (s:By) (hl:l.length<=100000000) :
 af Tryz.prog 35 #[v,.string (bs s)] h (aX fun r h'=>((s=[]/\r=v)\/(s≠[]/\ax h' h.size 9 1 r (l.length+1) (l.map ox++[ox s])))/\ak h h'):=by
 obtain⟨oa,n,c,rfl,hsl⟩:=id hv.open;have hn:=hsl.len;have hle:=hsl.le;have hcap:=hsl.cap;have hrow:=(bC.row (h1:=fun _=>rfl) hv).2.1;refine cu ?_;refine ah ?_;refine Dm (fun hs=>?_) (fun hs=>?_)
 · refine ah ?_;refine bE ?_;exact⟨_,rfl,.inl ⟨Hi hs,rfl⟩,Ext.refl _ _⟩
 · have hs0:s≠[]:=fun e=>by subst e;simp[bs] at hs
   refine ah ?_;refine xp rfl (an.iI underlying22 H.lS rfl rfl n rfl rfl n rfl (Nat.le_refl _) hle) ?_;refine ah ?_;refine xo rfl (sO [_]) ?_;rintro _ h1 ⟨rfl,hh1⟩;have e1:ak h h1:=by rw[hh1];exact Ext.push _ _ _
   have hr1:Lw.rowAt h1 h.size 0 [ox s]:=by rw[hh1];exact cJ h [ox s] _
   refine xo rfl (az.xT underlying22 H.xw rfl rfl (xs:=l.map ox) (news:=[ox s]) (by simp[hn]) (hrow.imp id fun⟨b,o,q1,q2⟩=>⟨b,o,q1,e1.rowAt (fun q=>q) q2⟩) rfl (by simp) ⟨_,_,rfl,hr1⟩ (by decide) (by simp only[maxLen];omega) (by omega)) ?_;rintro v2 h2 ⟨ho2,e2⟩;refine ah ?_;refine bE ?_;have hz:=e1.size;have ho3:ax h2 h.size 9 1 v2 (l.length+1) (l.map ox++[ox s]):=by rw[hn];exact ax.lower ho2 hz
   exact⟨_,rfl,.inr ⟨hs0,ho3⟩,e1.trans e2⟩
structure Hz (h':ai) (base:Nat) (oa:Option Addr) (n c:Nat) (l:List By) (a:Nat) (u w:Value) (A B:List By):Prop where
 fa:aY A=(aY l).take a
 fb:aY B=(aY l).drop a
 na:NE A
 nb:NE B
 ahead:ax h' base 9 1 u A.length (A.map ox)\/(∃i,i<=n/\u= .slice oa i c/\A=l.take i)\/(u= .slice oa n n/\A=l/\B=[])
 behind:(B≠[]/\ax h' base 9 1 w B.length (B.map ox))\/(B=[]/\w= .slice none 0 0)
theorem FD {g gF:ai}{k:Nat}(C:Lj l a i s k) (hne:NE l) (hn:l.length=n)
 (hu:(s.take k=[]/\u= .slice (bF oa 0 1 c) (i-0) (c-0))\/(s.take k≠[]/\ax gF g.size 9 1 u ((l.take i).length+1) ((l.take i).map ox++[ox (s.take k)])))
 (hw:ax gF g.size 9 1 w (1+(n-(i+1))) ([ox (s.drop k)]++(l.drop (i+1)).map ox)):∃A B,Hz gF g.size oa n c l a u w A B:=by
 have hil:=(List.getElem?_eq_some_iff.1 C.at_).1;have hk:=C.lt;have hsd:s.drop k≠[]:=fun e=>by have:=congrArg List.length e;rw[List.length_drop,List.length_nil] at this;omega
 refine⟨je (l.take i) (s.take k),s.drop k::l.drop (i+1),C.flat.1,C.flat.2,(hne.take i).some _,fun x hx=>?_,?_,.inl ⟨by simp,?_⟩⟩
 · rcases List.mem_cons.1 hx with e|e
   · subst e;exact hsd
   · exact hne.drop _ x e
 · rcases hu with ⟨h0,rfl⟩|⟨h0,hu⟩
   · refine .inr (.inl ⟨i,by omega,by rw[iB];rfl,by unfold je;rw[if_pos h0]⟩)
   · refine .inl ?_;unfold je;rw[if_neg h0];simpa using hu
 · have e:(s.drop k::l.drop (i+1)).length=1+(n-(i+1)):=by simp;omega
   rw[e];exact hw
theorem qN (hv:bC sx h O (.slice oa n c) l) (hne:NE l) (ha:a<=(aY l).length) (hl:(aY l).length<=100000000) :
 af Tryz.prog 112 #[.slice oa n c,.int .i64 (a:Nat)] h (aX fun r h'=>(∃u w A B,r= .tuple #[u,w]/\Hz h' h.size oa n c l a u w A B)/\ak h h'):=by
 obtain⟨_,_,_,e0,hsl⟩:=id hv.open;cases e0;have hn:=hsl.len;have hle:=hsl.le;have hcap:=hsl.cap;simp only[maxLen] at hcap;have hll:=hne.len;refine af.of func112 rfl rfl ?_;refine b9 func112 2 [0,1,4,5] rfl ?_;refine aC rfl ?_;refine eB func112 1 rfl ?_;refine xp rfl (an.cM underlying22 rfl) ?_;refine cV 1 [0,1,4,5,8,9,10] rfl ?_;refine G.block rfl rfl ?_;refine hU (σ:=Nat×Nat) (fun q=>[(0,.slice oa n c),(1,.int .i64 (q.2:Nat)),(8,.slice oa n c),(9,.int .i64 (n:Nat)),(10,.int .i64 (q.1:Nat))]) (fun q h'=>h'=h/\q.1<=n/\(aY (l.take q.1)).length+q.2=a) (fun q=>n-q.1) ((0,a)) rfl ⟨rfl,rfl,rfl,rfl,rfl,trivial⟩ ⟨rfl,Nat.zero_le _,by simp[aY]⟩ ?_;rintro⟨i,k⟩ g ⟨hg,hi,hsum⟩ ih
 try dsimp only
 dsimp only at hi hsum;subst hg;refine b9 func112 1 [0,1,8,9,10,11] rfl ?_;refine aC rfl ?_;refine dQ rfl rfl (fun hlt=>?_) (fun hlt=>?_)
 · obtain⟨s,hs⟩:∃s,l[i]? =some s:=⟨_,List.getElem?_eq_getElem (by omega)⟩
   obtain⟨b,o,cs,ha1,_,hrow,rfl⟩:=hsl.get i s hs;have hbs:=aF s;refine aR rfl ?_;refine aC rfl ?_;refine G.block rfl rfl ?_;refine eB func112 1 rfl ?_;refine xp rfl (an.cx underlying22 H.lS rfl rfl i rfl ha1 (by omega)) ?_;refine xp rfl (au H.ve rfl (hrow 0 _ rfl)) ?_;refine cV 2 [0,1,6,7,8,9,10,11] rfl ?_;refine aC rfl ?_;refine eB func112 2 rfl ?_;refine xp rfl (an.bH underlying9 rfl) ?_;refine cV 1 [0,1,6,7,8,9,10,11,18] rfl ?_;refine dQ rfl rfl (fun hks=>?_) (fun hks=>?_)
   · have C:Lj l a i s k:=⟨hs,by omega,hsum⟩
     have hq1:(bs s).extract 0 k=bs (s.take k):=by rw[jq s 0 k (Nat.zero_le _),List.drop_zero]
     have hq2:(bs s).extract k (bs s).size=bs (s.drop k):=js s k
     have hpre:bC sx g O (.slice (bF oa 0 1 c) (i-0) (c-0)) (l.take i):=by
      have:=(hsl.part (Nat.zero_le i) hi).shut
      rwa [List.drop_zero] at this
     have hpost:bC sx g O (.slice (bF oa (i+1) 1 c) (n-(i+1)) (c-(i+1))) (l.drop (i+1)):=by
      have:=(hsl.part (show i+1<=n by omega) (Nat.le_refl n)).shut
      rwa [List.take_of_length_le (by omega)] at this
     have hsome:∀{h'},ak g h'->af Tryz.prog 35 #[.slice (bF oa 0 1 c) i c,.string ((bs s).extract 0 k)] h' (aX fun r h2=>((s.take k=[]/\r= .slice (bF oa 0 1 c) (i-0) (c-0))\/(s.take k≠[]/\ax h2 h'.size 9 1 r ((l.take i).length+1) ((l.take i).map ox++[ox (s.take k)])))/\ak h' h2):=fun {h'} e=>by
      rw[hq1];exact nJ (hpre.aj e) (s.take k) (by rw[List.length_take];omega)
     have hrp:=(bC.row (h1:=fun _=>rfl) hpost).2.1;have hdl:((l.drop (i+1)).map ox).length=(n-(i+1))*1:=by simp;omega
     have h1d:∀u∈(l.drop (i+1)).map ox,u.oneCell'=true:=fun u hu=>by obtain⟨_,_,rfl⟩:=List.mem_map.1 hu;rfl
     refine aC rfl ?_;refine cU (fun b=>Array.size g<=b) (fun i=>Nat.blt i 18) (sz:=18) (listed:= #[false,false,false,false,false,false,false,false,false,false,false,false,false,false,false,false,false,false]) func112 H.mixed rfl rfl rfl ?_;refine aP 0 1 (by kernel_rfl) rfl ?_;refine aP 1 3 (by kernel_rfl) rfl ?_;refine cj 2 7 (by kernel_rfl) rfl (fun h' e=>an.cW underlying22 H.lS rfl rfl i rfl (by omega)) ?_;refine aP 3 15 (by kernel_rfl) rfl ?_;refine aP 4 31 (by kernel_rfl) rfl ?_;refine cj 5 63 (by kernel_rfl) rfl (fun h' e=>an.iw underlying9 rfl rfl k rfl (by omega)) ?_;refine aP 7 191 (by kernel_rfl) rfl ?_;refine aP 8 447 (by kernel_rfl) rfl ?_;refine cj 9 959 (by kernel_rfl) rfl (fun h' e=>an.eE underlying9 rfl rfl k rfl (by omega)) ?_;refine aP 11 3007 (by kernel_rfl) rfl ?_;refine aP 12 7103 (by kernel_rfl) rfl ?_;refine cj 13 15295 (by kernel_rfl) rfl (fun h' e=>an.dm rfl rfl ⟨by omega,by omega⟩) ?_;refine cj 14 31679 (by kernel_rfl) rfl (fun h' e=>an.jk underlying22 H.lS rfl rfl (i+1) (by omega) (by omega)) ?_;refine RD.yx 6 10 (li:= #[true,true,true,true,true,true,true,true,true,true,false,true,true,true,true,false,false,false]) (lj:= #[true,true,true,true,true,true,false,true,true,true,true,true,true,true,true,false,false,false]) rfl rfl (by kernel_rfl) rfl rfl rfl rfl rfl rfl (ay (vs:=[_,_]) func35 rfl H.N3 rfl (af.cD (hsome (Ext.refl _ _)))) (az.pz (us:=[_]) underlying22 H.xw rfl rfl (by decide) (by simp[Value.oneCell'])) (by kernel_rfl) (by kernel_rfl) ?_ ?_
     · rintro u5 g5 ⟨hu5,e5⟩;refine⟨fun _=>e5.mono (fun _ _ q=>q.elim),?_⟩;refine jU 10 32767 (by kernel_rfl) rfl (az.pz (us:=[_]) underlying22 H.xw rfl rfl (by decide) (by simp[Value.oneCell'])) ?_;rintro _ g6 ⟨rfl,hg6⟩;refine⟨fun _=>by rw[hg6];exact Ext.push _ _ _,?_⟩;have e6:ak g5 g6:=by rw[hg6];exact Ext.push _ _ _
       have ho6:ax g6 g5.size 9 1 (.slice (some ⟨g5.size,0,none⟩) 1 1) 1 [ox (s.drop k)]:=by rw[hg6,show ox (s.drop k)= .string ((bs s).extract k (bs s).size) by rw[hq2]];exact pF g5 [.string ((bs s).extract k (bs s).size)] 9 1 rfl (by decide) g5.size (Nat.le_refl _)
       have hz5:=e5.size;have hz6:=e6.size;have e56:=e5.trans e6;refine jU 15 65535 (by kernel_rfl) rfl (az.append underlying22 H.xw rfl rfl ho6 hdl (hrp.imp id fun⟨b,o,q1,q2⟩=>⟨b,o,q1,e56.rowAt (fun q=>q) q2⟩) h1d (by simp only[maxLen];omega) (by omega) (by omega)) ?_;rintro w7 g7 ⟨ho7,hx7,_,hv7⟩;refine⟨fun _=>hx7.mono (fun b _ q=>by have:=(ax.lt ho6 q.symm).1;omega),?_⟩;refine aP 16 131071 (by kernel_rfl) rfl ?_;refine aP 17 262143 (by kernel_rfl) rfl ?_;refine RD.done (by kernel_rfl) ?_;refine xu [0,1,4,5,6,7,8,9,10,11,18] rfl ?_;refine bM func112 rfl rfl ?_;refine⟨_,rfl,⟨u5,w7,?_⟩,Ext.own e56 ho6 hz5 hx7⟩;obtain⟨A,B,k⟩:=FD (gF:=g7) (w:=w7) C hne hn (hu5.imp id fun⟨q1,q2⟩=>⟨q1,ax.ext hx7 (q2.fk e6) (fun b hb e=>by have:=(ax.lt q2 hb).2;have:=(ax.lt ho6 e.symm).1;omega)⟩) (ax.lower ho7 hz5);exact⟨A,B,rfl,k⟩
     · rintro _ g5 ⟨rfl,hg5⟩;refine⟨fun _=>by rw[hg5];exact Ext.push _ _ _,?_⟩;have e5:ak g g5:=by rw[hg5];exact Ext.push _ _ _
       have ho5:ax g5 g.size 9 1 (.slice (some ⟨g.size,0,none⟩) 1 1) 1 [ox (s.drop k)]:=by rw[hg5,show ox (s.drop k)= .string ((bs s).extract k (bs s).size) by rw[hq2]];exact pF g [.string ((bs s).extract k (bs s).size)] 9 1 rfl (by decide) g.size (Nat.le_refl _)
       have hz5:=e5.size;refine jU 6 32767 (by kernel_rfl) rfl (ay (vs:=[_,_]) func35 rfl H.N3 rfl (af.cD (hsome e5))) ?_;rintro u6 g6 ⟨hu6,e6⟩;refine⟨fun _=>e6.mono (fun _ _ q=>q.elim),?_⟩;have ho6:=ho5.fk e6;have e56:=e5.trans e6;have hz6:=e6.size;refine jU 15 65535 (by kernel_rfl) rfl (az.append underlying22 H.xw rfl rfl ho6 hdl (hrp.imp id fun⟨b,o,q1,q2⟩=>⟨b,o,q1,e56.rowAt (fun q=>q) q2⟩) h1d (by simp only[maxLen];omega) (by omega) (by omega)) ?_;rintro w7 g7 ⟨ho7,hx7,_,hv7⟩;refine⟨fun _=>hx7.mono (fun b _ q=>(ax.lt ho6 q.symm).1),?_⟩;refine aP 16 131071 (by kernel_rfl) rfl ?_;refine aP 17 262143 (by kernel_rfl) rfl ?_;refine RD.done (by kernel_rfl) ?_;refine xu [0,1,4,5,6,7,8,9,10,11,18] rfl ?_;refine bM func112 rfl rfl ?_;refine⟨_,rfl,⟨u6,w7,?_⟩,Ext.own e56 ho6 (Nat.le_refl _) hx7⟩;obtain⟨A,B,k⟩:=FD (gF:=g7) (w:=w7) C hne hn (hu6.imp id fun⟨q1,q2⟩=>⟨q1,ax.ext hx7 (ax.lower q2 hz5) (fun b hb e=>by have:=(ax.lt q2 hb).1;have:=(ax.lt ho5 e.symm).2;omega)⟩) ho7;exact⟨A,B,rfl,k⟩
   · have htk:l.take (i+1)=l.take i++[s]:=by rw[List.take_add_one,hs];rfl
     have hfl:(aY (l.take (i+1))).length=(aY (l.take i)).length+s.length:=by rw[htk,cZ,List.length_append];simp[aY]
     refine aR rfl ?_;refine G.eM func112 rfl ?_;refine eU 2 rfl rfl (an.bH underlying9 rfl) ?_;refine xp rfl (an.kV rfl rfl ⟨by omega,by omega⟩) ?_;refine cV 1 [0,1,6,7,8,9,10,11,18] rfl ?_;refine G.cz ?_;refine G.eM func112 rfl ?_;refine xp rfl (an.dm rfl rfl ⟨by omega,by omega⟩) ?_;refine cV 1 [0,1,6,7,8,9,10,11,18] rfl ?_;exact ih (i+1,k-s.length) _ _ ⟨rfl,congrArg (fun x:Int=>some (Value.int .i64 x)) (by rw[hbs];omega),rfl,rfl,rfl,trivial⟩ ⟨rfl,by show i+1<=n;omega,by show _+(k-s.length)=a;rw[hfl];omega⟩ (by show n-(i+1)<n-i;omega)
 · rw[List.take_of_length_le (by omega)] at hsum;refine ah ?_;refine xp rfl (an.iI underlying22 H.lS rfl rfl n rfl rfl n rfl (Nat.le_refl _) hle) ?_;refine ah ?_;refine bE ?_;exact⟨_,rfl,⟨_,_,l,[],rfl,⟨by rw[List.take_of_length_le (by omega)],by rw[List.drop_of_length_le (by omega)];rfl,hne,(fun _ q=>by cases q),.inr (.inr ⟨rfl,rfl,rfl⟩),.inr ⟨rfl,rfl⟩⟩⟩,Ext.refl _ _⟩
theorem vQ {vl:Value}{n:Int}(hk:aE h b 137 [.bool true,vl,.int .i64 n]) :
 af Tryz.prog 110 #[.pointer (some ⟨b,0,none⟩)] h (aX fun r h'=>r= .bool false/\h'=h):=by
 refine cu ?_;refine bZ ?_;refine eu ?_;refine b7 ?_;refine fu ?_;refine bZ ?_;refine jR [(2,.bool false)] rfl ?_ ?_
 · refine b7 ?_;refine xp rfl (an.eH underlying49 rfl rfl) ?_;refine ah ?_;refine RW.dK (d:=5) (b':=false) rfl (rfl) ?_;refine ah ?_;refine xp rfl (aM rfl (hk.cell (i:=0) rfl)) ?_;refine ah ?_;exact bq rfl ⟨aq rfl (rfl),sb rfl⟩
 · refine bE ?_;exact⟨_,rfl,rfl,rfl⟩
theorem yT {vl:Value}{j:Nat}(hk:aE h b 137 [.bool true,vl,.int .i64 (n:Nat)]) (hij:i<=j) (hj:j<=n) :
 af Tryz.prog 111 #[.pointer (some ⟨b,0,none⟩),.int .i64 (i:Nat),.int .i64 (j:Nat)] h (aX fun r h'=>r= .bool true/\h'=h):=by
 refine cu ?_;refine bZ ?_;refine eu ?_;refine b7 ?_;refine fu ?_;refine bZ ?_;refine jR [(6,.bool true)] rfl ?_ ?_
 · refine ah ?_;refine RW.dK (d:=9) (b':=true) rfl (decide_eq_true (by omega)) ?_;refine ah ?_;refine RW.dK (d:=14) (b':=true) rfl (decide_eq_true (by omega)) ?_;refine ah ?_;refine xp rfl (aM rfl (hk.cell (i:=2) rfl)) ?_;refine ah ?_;exact bq rfl ⟨aq rfl (by simp;omega),sb rfl⟩
 · refine bE ?_;exact⟨_,rfl,rfl,rfl⟩
def Ot (Z:Nat->Prop) (h:ai):Nat->Prop:=fun b=>¬((bD h b 137\/bD h b 9)/\¬Z b)
theorem iR {M:Nat->Prop}(x:Ext M h h') (hM:∀b,M b->Ot Z h b):Mv (Ot Z h) (Ot Z h') h h':=Mv.cL x fun b _ hn=>⟨fun q=>hn (hM b q),fun q=>hn fun q2=>q ⟨q2.1.imp (fun k=>k.ext x (fun q3=>hM b q3 q2)) (fun k=>k.ext x (fun q3=>hM b q3 q2)),q2.2⟩⟩
theorem Mv.DV (x:ak h h'):Mv (Ot Z h) (Ot Z h') h h':=iR x fun _ q=>q.elim
abbrev Bt (Z:Nat->Prop) (h:ai) (v:Value) (s:By):Prop:=Dg h (Ot Z h) v s
theorem vT (k:ax h base 9 1 v n (l.map ox)) (hZ:∀b,Z b->b<base):bC sx h (Ot Z h) v l:=ax.Ij (h1:=fun _=>rfl) k (fun b hb q=>q ⟨.inr (ax.ty k hb),fun z=>by have:=hZ b z;have:=(ax.lt k hb).1;omega⟩)
def Qs (Z:Nat->Prop) (h:ai) (base:Nat) (v:Value) (s:By) (a:Nat):Prop :=
 ∃b vl l,v= .pointer (some ⟨b,0,none⟩)/\aE h b 137 [.bool true,vl,.int .i64 (s.length:Nat)]/\bC sx h (Ot Z h) vl l/\aY l=s/\NE l/\(ax h base 9 1 vl l.length (l.map ox)\/a=s.length)
theorem ne_nil (h:NE l) (hf:aY l=[]):l=[]:=by
 cases l with
 |nil=>rfl
 |cons s r =>
  have:=h s (by simp);rw[aY,List.append_eq_nil_iff] at hf;exact absurd hf.1 this
theorem Hz.LB {A B:List By}(C:Hz h' base oa n c l a u w A B) (hv:bC sx h (Ot Z h) (.slice oa n c) l) (e:ak h h') (hZ:∀b,Z b->b<base):bC sx h' (Ot Z h') u A:=by
 obtain⟨_,_,_,e0,hsl⟩:=id (hv.mv (Mv.DV e)).open;cases e0
 rcases C.ahead with k|⟨i,hi,rfl,rfl⟩|⟨rfl,rfl,_⟩
 · exact vT k hZ
 · have:=(hsl.part (Nat.zero_le i) hi).shut;rw[List.drop_zero,iB] at this;exact this
 · exact⟨_,_,_,rfl,hsl.len,Nat.le_refl _,Nat.le_trans hsl.le hsl.cap,hsl.get⟩
theorem Hz.Is {A B:List By}(C:Hz h' base oa n c l a u w A B) (hZ:∀b,Z b->b<base):bC sx h' (Ot Z h') w B:=by
 rcases C.behind with ⟨_,k⟩|⟨rfl,rfl⟩
 · exact vT k hZ
 · exact bC.nil _ _ _
theorem uY (l:List By):∀u∈l.map ox,u.oneCell'=true:=fun u hu=>by obtain⟨_,_,rfl⟩:=List.mem_map.1 hu;rfl
theorem yA (k:Bt Z h v s){f t:Nat}(hft:f<=t) (ht:t<=s.length) (hs:s.length<=1000000) (hZ:∀b,Z b->b<h.size) :
 af Tryz.prog 49 #[v,.int .i64 (f:Nat),.int .i64 (t:Nat)] h (aX fun r h'=>(∃u,r= .tuple #[u,.int .i64 0]/\Qs Z h' h.size u (s.take f++s.drop t) f)/\ak h h'):=by
 obtain⟨b,vl,l,rfl,ho,hk,hl,hfl,hne⟩:=k;obtain⟨oa,n,c,rfl,hsl⟩:=id hl.open;have hn:=hsl.len;have hll:=hne.len;rw[hfl] at hll;refine cu ?_;refine ah ?_;refine xo rfl (bl rfl (vQ hk)) ?_;rintro _ h0 ⟨rfl,hh0⟩;refine ah ?_;subst hh0;refine mQ rfl (by decide) ?_;refine ah ?_;refine xo rfl (bl rfl (yT hk hft ht)) ?_;rintro _ h1 ⟨rfl,hh1⟩;refine ah ?_;subst hh1;refine mQ rfl (by decide) ?_;refine ah ?_;refine xp rfl (aM rfl (hk.cell (i:=1) rfl)) ?_;refine ah ?_;refine xo rfl (bl rfl (qN hl hne (a:=f) (by rw[hfl];omega) (by rw[hfl];omega))) ?_;rintro _ h2 ⟨⟨u,w,A,B,rfl,C1⟩,e2⟩;have hu:=C1.LB hl e2 hZ;have hw:=C1.Is hZ;obtain⟨wa,wn,wc,rfl,_⟩:=id hw.open;obtain⟨ua,un,uc,rfl,hul⟩:=id hu.open;have hfA:=C1.fa;have hfB:=C1.fb;rw[hfl] at hfA hfB;have hlB:(aY B).length=s.length-f:=by rw[hfB,List.length_drop]
 have hlA:(aY A).length=f:=by rw[hfA,List.length_take];omega
 have hz2:=e2.size;refine ah ?_;rw[show ((t:Nat):Int)-((f:Nat):Int)=((t-f:Nat):Int) by omega];refine xo rfl (bl rfl (qN hw C1.nb (a:=t-f) (by omega) (by omega))) ?_;rintro _ h3 ⟨⟨u2,w2,A2,B2,rfl,C2⟩,e3⟩;have hz2:=e2.size;have hw2:=C2.Is (fun b q=>by have:=hZ b q;omega);obtain⟨xa,xn,xc,rfl,hxl⟩:=id hw2.open;have hfB2:=C2.fb;rw[hfB,List.drop_drop,show f+(t-f)=t by omega] at hfB2;have hun:=hul.len;have hule:=hul.le;have hAl:=C1.na.len;have hBl:=C2.nb.len;have hlB2:(aY B2).length=s.length-t:=by rw[hfB2,List.length_drop]
 have hxn:=hxl.len;have hfin:aY (A++B2)=s.take f++s.drop t:=by rw[cZ,hfA,hfB2]
 have hz3:=e3.size;have e03:=e2.trans e3
 rcases C2.behind with ⟨hB0,hwo⟩|⟨hB0,hwo⟩
 · have hrow:=(bC.row (h1:=fun _=>rfl) (hu.aj e3)).2.1;have hrow2:=(bC.row (h1:=fun _=>rfl) hw2).2.1;have hx0:0<xn:=by rw[<-hxn];exact List.length_pos_iff.2 hB0
   refine ah ?_;refine xp rfl (an.iI underlying22 H.lS rfl rfl un rfl rfl un rfl (Nat.le_refl _) hule) ?_;refine ah ?_;refine xo rfl (az.xT underlying22 H.xw rfl rfl (xs:=A.map ox) (news:=B2.map ox) (by simp[hun]) hrow rfl (by simp[hxn]) (hrow2.resolve_left (by omega)) hx0 (by simp only[maxLen];omega) (by omega)) ?_;rintro v4 h4 ⟨ho4,e4⟩
   have ho4:ax h4 h3.size 9 1 v4 (A++B2).length ((A++B2).map ox):=by
    rw[List.length_append,List.map_append,hun,hxn];exact ho4
   have hsl4:=vT ho4 (fun b q=>by have:=hZ b q;omega);refine xo rfl (bl rfl (lz hsl4 (by rw[hfin,List.length_append,List.length_take,List.length_drop];omega))) ?_;rintro _ h5 ⟨⟨b5,rfl,hb5,k5⟩,e5⟩;rw[hfin] at k5;have hz4:=e4.size;refine ah ?_;refine bE ?_;exact⟨_,rfl,⟨_,rfl,b5,v4,A++B2,rfl,k5,hsl4.mv (Mv.DV e5),hfin,C1.na.app C2.nb,.inl (ax.lower (ho4.fk e5) (by omega))⟩,(e03.trans e4).trans e5⟩
 · cases hwo;subst hB0;have hd0:s.drop t=[]:=by rw[<-hfB2];rfl
   have hsu:bC sx h3 (Ot Z h3) (.slice ua un un) A:=by
    obtain⟨_,_,_,e0,hul3⟩:=id (hu.mv (Mv.DV e3)).open;cases e0;exact⟨_,_,_,rfl,hul3.len,Nat.le_refl _,Nat.le_trans hul3.le hul3.cap,hul3.get⟩
   refine ah ?_;refine xp rfl (an.iI underlying22 H.lS rfl rfl un rfl rfl un rfl (Nat.le_refl _) hule) ?_;refine ah ?_;refine xo rfl (az.xS underlying22 H.xw rfl rfl (Nat.le_refl _)) ?_;rintro v4 h4 ⟨rfl,hh4⟩;subst hh4;rw[List.append_nil] at hfin;refine xo rfl (bl rfl (lz hsu (by omega))) ?_;rintro _ h5 ⟨⟨b5,rfl,hb5,k5⟩,e5⟩;rw[hfin] at k5;refine ah ?_;refine bE ?_;exact⟨_,rfl,⟨_,rfl,b5,_,A,rfl,k5,hsu.mv (Mv.DV e5),hfin,C1.na,.inr (by rw[hd0,List.append_nil,List.length_take];omega)⟩,e03.trans e5⟩
theorem yz (k:Qs Z h base v s a) (x:By) (ha:a<=s.length) (hx:s.length+x.length<=16384) (hb:base<=h.size) (hZ0:∀b,Z b->b<base) :
 af Tryz.prog 50 #[v,.int .i64 (a:Nat),.string (bs x)] h (aX fun r h'=>(∃u,r= .tuple #[u,.int .i64 0]/\Bt Z h' u (s.take a++x++s.drop a))/\Ext (fun y=>base<=y) h h'):=by
 obtain⟨b,vl,l,rfl,hk,hl,hfl,hne,hown⟩:=k;have hZ:∀b,Z b->b<h.size:=fun b q=>by have:=hZ0 b q;omega
 obtain⟨oa,n,c,rfl,hsl⟩:=id hl.open;have hn:=hsl.len;have hle:=hsl.le;have hll:=hne.len;have hbx:=aF x;rw[hfl] at hll;refine cu ?_;refine ah ?_;refine xo rfl (bl rfl (vQ hk)) ?_;rintro _ h0 ⟨rfl,hh0⟩;refine ah ?_;subst hh0;refine mQ rfl (by decide) ?_;refine ah ?_;refine xo rfl (bl rfl (yT hk (Nat.le_refl a) ha)) ?_;rintro _ h1 ⟨rfl,hh1⟩;refine ah ?_;subst hh1;refine mQ rfl (by decide) ?_;refine ah ?_;refine xp rfl (aM rfl (hk.cell (i:=2) rfl)) ?_;refine ah ?_;refine bN (fun hbig=>?_) (fun hbig=>?_)
 · exfalso;omega
 · refine ah ?_;refine xp rfl (aM rfl (hk.cell (i:=1) rfl)) ?_;refine ah ?_;refine xo rfl (bl rfl (qN hl hne (a:=a) (by rw[hfl];omega) (by rw[hfl];omega))) ?_;rintro _ h2 ⟨⟨u,w,A,B,rfl,C1⟩,e2⟩;have hu:=C1.LB hl e2 hZ;have hw:=C1.Is hZ;obtain⟨wa,wn,wc,rfl,hwl⟩:=id hw.open;have hfA:=C1.fa;have hfB:=C1.fb;rw[hfl] at hfA hfB;have hz2:=e2.size;have hAl:=C1.na.len;have hBl:=C1.nb.len;have hlA:(aY A).length=a:=by rw[hfA,List.length_take];omega
   have hlB:(aY B).length=s.length-a:=by rw[hfB,List.length_drop]
   have hwn:=hwl.len;refine ah ?_;refine xo rfl (bl rfl (nJ hu x (by omega))) ?_;rintro r3 h3 ⟨hr3,e3⟩;have hz3:=e3.size;have e03:=e2.trans e3
   -- what some hands back reads as the pieces ahead, and the text
   have hL:bC sx h3 (Ot Z h3) r3 (je A x):=by
    unfold je
    rcases hr3 with ⟨q,rfl⟩|⟨q,q2⟩
    · rw[if_pos q];exact hu.mv (Mv.DV e3)
    · rw[if_neg q];have q3:ax h3 h2.size 9 1 r3 (A.length+1) ((A++[x]).map ox):=by rw[List.map_append];exact q2
      exact vT q3 (fun b q=>by have:=hZ b q;omega)
   have hLo:B≠[]->ax h3 base 9 1 r3 (je A x).length ((je A x).map ox):=fun hB0=>by
    unfold je
    rcases hr3 with ⟨q,rfl⟩|⟨q,q2⟩
    · rw[if_pos q]
      rcases C1.ahead with k|⟨i,hi,rfl,rfl⟩|⟨_,_,q3⟩
      · exact ax.lower (k.fk e3) hb
      · rcases hown with q4|q4
        · obtain⟨_,_,e0,how⟩:=q4.open;cases e0;have:=((how.take (m:=i) (by omega) 1).fk e2).fk e3;rw[List.length_take,Nat.min_eq_left (by omega),List.map_take];simpa [iB] using this
        · exfalso;refine hB0 (ne_nil C1.nb ?_);rw[hfB,q4,List.drop_length]
      · exact absurd q3 hB0
    · rw[if_neg q,List.length_append,List.map_append];exact ax.lower q2 (by omega)
   have hfl2:aY (je A x++B)=s.take a++x++s.drop a:=by rw[cZ,tw,hfA,hfB]
   have hlen2:(s.take a++x++s.drop a).length=s.length+x.length:=by simp only[List.length_append,List.length_take,List.length_drop];omega
   have hneL:=(C1.na.some x).app C1.nb;have hLl:=(C1.na.some x).len;rw[tw,List.length_append] at hLl;obtain⟨ra,rn,rc,rfl,hrl⟩:=id hL.open;have hrn:=hrl.len
   by_cases hB0:B=[]
   · subst hB0;have hw0:wn=0:=by rw[<-hwn];rfl
     subst hw0;refine ah ?_;refine xo rfl (az.xS underlying22 H.xw rfl rfl hrl.le) ?_;rintro v4 h4 ⟨rfl,hh4⟩;subst hh4;rw[List.append_nil] at hfl2 hneL;refine xo rfl (bl rfl (lz hL (by rw[hfl2,hlen2];omega))) ?_;rintro _ h5 ⟨⟨b5,rfl,hb5,k5⟩,e5⟩;rw[hfl2] at k5;refine ah ?_;refine bE ?_;exact⟨_,rfl,⟨_,rfl,b5,_,_,rfl,fun q=>q ⟨.inl k5.ty,fun z=>by have:=hZ _ z;omega⟩,k5,hL.mv (Mv.DV e5),hfl2,hneL⟩,(e03.trans e5).mono (fun _ _ q=>q.elim)⟩
   · have hLo:=hLo hB0;rw[hrn] at hLo;have hrow2:=(bC.row (h1:=fun _=>rfl) (hw.aj e3)).2.1;refine ah ?_;refine xo rfl (az.append underlying22 H.xw rfl rfl hLo (show (B.map ox).length=wn*1 by simp[hwn]) hrow2 (uY B) (by simp only[maxLen];omega) (by omega) (by omega)) ?_;rintro v4 h4 ⟨ho4,hx4,_,hv4⟩
     have ho4:ax h4 base 9 1 v4 (je A x++B).length ((je A x++B).map ox):=by
      rw[List.length_append,List.map_append,hrn,hwn];exact ho4
     have hsl4:=vT ho4 hZ0;have e04:=(e03.mono (fun _ _ q=>q.elim):Ext (fun y=>base<=y) _ _).trans (hx4.mono (fun b _ q=>(ax.lt hLo q.symm).1));have hz4:=hx4.size;refine xo rfl (bl rfl (lz hsl4 (by rw[hfl2,hlen2];omega))) ?_;rintro _ h5 ⟨⟨b5,rfl,hb5,k5⟩,e5⟩;rw[hfl2] at k5;refine ah ?_;refine bE ?_;exact⟨_,rfl,⟨_,rfl,b5,v4,_,rfl,fun q=>q ⟨.inl k5.ty,fun z=>by have:=hZ _ z;omega⟩,k5,hsl4.mv (Mv.DV e5),hfl2,hneL⟩,e04.trans (e5.mono (fun _ _ q=>q.elim))⟩
theorem FY:(Tryz.prog.info? 5).map (·.size)=some 1:=by kernel_rfl
theorem Ek {p:Value}(hk:aE h b 218 [p,.slice none 0 0]) (n:Nat) (hn:n<=1000000000) :
 af Tryz.prog 204 #[.pointer (some ⟨b,0,none⟩),.int .i64 (n:Nat)] h (aX fun _ h'=>(∃v,aE h' b 218 [p,v]/\JY h' (b+1) 5 v [])/\Ext (fun x=>x=b) h h'/\h.size<=h'.size):=by
 have hkl:=hk.lt;have hc1:=hk.cell (i:=1) rfl;refine cu ?_;refine ah ?_;refine vi 16 (fun x=>Array.size h<=x) (fun i=>Nat.blt i 16) ?_;refine aZ 0 ?_;refine aZ 1 ?_;refine aZ 2 ?_;refine cA 3 rfl (fun h' e=>aM rfl (e.cell (show ¬Array.size h<=b by omega) hc1)) ?_;refine cA 4 rfl (fun h' e=>an.CY underlying216 rfl) ?_;refine cA 5 rfl (fun h' e=>an.LF rfl rfl ⟨by omega,by omega⟩) ?_;refine aZ 6 ?_;refine aZ 7 ?_;refine aZ 9 ?_;refine aZ 10 ?_;refine aZ 11 ?_;refine cA 12 rfl (fun h' e=>aM rfl (e.cell (show ¬Array.size h<=b by omega) hc1)) ?_;refine aZ 13 ?_;refine iL 8 rfl (az.makeNoZero (ps:=_) (t:=216) func217 (by decide +kernel) (by kernel_rfl) (by kernel_rfl) rfl underlying216 rfl n (by omega) hn) ?_;rintro _ h1 ⟨cs,rfl,hh1,hn1,hn2⟩;refine⟨fun _=>by rw[hh1];exact Ext.push _ _ _,?_⟩;refine cA 14 rfl (fun h' e=>an.cW underlying216 H.QL rfl rfl 0 rfl (Nat.zero_le _)) ?_;refine aZ 15 ?_;refine pQ ?_;refine ah ?_;have e1:ak h h1:=by rw[hh1];exact Ext.push _ _ _
 have k1:=hk.aj e1
 have ho:JY h1 (b+1) 5 (.slice (bF (some ⟨h.size,0,none⟩) 0 1 cs.size) 0 cs.size) []:=by
  have hp:bF (some ⟨h.size,0,none⟩) 0 1 cs.size=some ⟨h.size,0,none⟩:=by
   unfold bF;split
   · rfl
   · rfl
  rw[hp];exact⟨rfl,.inr ⟨h.size,cs.size,cs,rfl,hkl,by rw[hh1];simp,Nat.zero_le _,hn2,by simp,by simp⟩⟩
 refine xp rfl (aM rfl (k1.cell (i:=1) rfl)) ?_;refine xp rfl (an.Jw underlying216 FY rfl rfl rfl) ?_;refine ah ?_;refine bQ rfl (gq rfl rfl k1) ?_;rintro _ h2 ⟨rfl,k2,x2,z2⟩;refine ah ?_;refine J7 ?_;have z1:=e1.size;refine⟨_,rfl,⟨_,k2,ax.ext x2 ho (fun g hg=>?_)⟩,?_,by omega⟩
 · have:=(ax.lt ho hg).1;omega
 · exact(e1.mono (fun _ _ k=>k.elim)).trans x2
theorem EX (hk:aE h b 218 [.pointer none,.slice none 0 0]) (n:Nat) (hn:n<=1000000000) :
 af Tryz.prog 184 #[.pointer (some ⟨b,0,none⟩),.int .i64 (n:Nat)] h (aX fun _ h'=>pM h' b 218 5 []/\Ext (fun x=>x=b) h h'):=by
 refine cu ?_;refine ah ?_;refine xo rfl (bl rfl (iX hk (.inl rfl))) ?_;rintro _ h1 ⟨k1,x1,z1⟩;refine fu ?_
 iterate 2 refine bZ ?_
 refine eu ?_
 iterate 2 refine b7 ?_
 refine fu ?_;refine mQ rfl (by simp) ?_
 iterate 2 refine bZ ?_
 refine cU (fun _=>False) (fun i=>Nat.blt i 13) (sz:=13) (listed:= #[false,false,false,false,false,false,false,false,false,false,false,false,false]) func184 H.mixed rfl rfl rfl ?_;refine aZ 0 ?_;refine aZ 1 ?_;refine aZ 2 ?_;refine cA 3 rfl (fun h' e=>aM rfl (e.cell (fun q=>q) (k1.cell (i:=1) rfl))) ?_;refine cA 4 rfl (fun h' e=>an.CY underlying216 rfl) ?_;refine aZ 5 ?_;refine aZ 6 ?_;refine aZ 7 ?_;refine cA 8 rfl (fun h' e=>aM rfl (e.cell (fun q=>q) (k1.cell (i:=1) rfl))) ?_;refine aZ 9 ?_;refine aZ 10 ?_;refine aZ 11 ?_;refine aZ 12 ?_;refine pQ ?_;refine bN (fun hlt=>?_) (fun hlt=>?_)
 · refine ah ?_;refine xo rfl (bl rfl (Ek k1 n hn)) ?_;rintro _ h2 ⟨⟨v,k2,ho⟩,x2,z2⟩;refine ah ?_;refine J7 ?_;exact⟨_,rfl,⟨_,_,k2,.inr rfl,ho⟩,x1.trans x2⟩
 · refine ah ?_;refine J7 ?_;exact⟨_,rfl,⟨_,_,k1,.inr rfl,cg.nil _ _ _ _⟩,x1⟩
theorem GV {ws:List By}{w:By}(h:ws[i]? =some w):(aY (ws.take (i+1))).length=(aY (ws.take i)).length+w.length:=by
 rw[List.take_add_one,h,cZ,List.length_append];simp[aY]
theorem wX (ws:List By) (i:Nat):(aY (ws.take i)).length<=(aY ws).length:=by rw[<-qG ws i,List.length_append];omega
theorem Eh {ws:List By}(hv:bC sx h O v ws) (hb:(aY ws).length<=100000000) :
 af Tryz.prog 140 #[v,.string ⟨#[]⟩] h (aX fun r h'=>r= .string (bs (aY ws))/\ak h h'):=by
 obtain⟨oa,n,c,rfl,hsl⟩:=hv.open;have hn:=hsl.len;subst hn;have h32:(⟨#[]⟩:ByteArray).size=0:=rfl;have hle:=hsl.le;have hcap:=hsl.cap;simp only[maxLen] at hcap;refine cu ?_;refine ah ?_;refine bN (fun h0=>?_) (fun h0=>?_)
 · have:ws=[]:=List.eq_nil_of_length_eq_zero (by omega);subst this;refine ah ?_;refine bE ?_;exact⟨_,rfl,rfl,Ext.refl _ _⟩
 · refine ah ?_;refine bN (fun h1=>?_) (fun h1=>?_)
   · obtain⟨x,rfl⟩:∃x,ws=[x]:=List.length_eq_one_iff.1 (by omega);obtain⟨b,o,y,ha,_,hy,hc⟩:=hsl.at (show 0 < [x].length from Nat.one_pos);cases hy;refine bZ ?_;refine eu ?_;refine b7 ?_;refine xp rfl (eK rfl rfl 0 rfl ha Nat.one_pos) ?_;refine xp rfl (aM rfl hc) ?_;refine ah ?_;refine bE ?_;exact⟨_,rfl,by simp[aY];rfl,Ext.refl _ _⟩
   · refine ah ?_;refine mQ rfl (by decide) ?_;refine ah ?_;refine hU (σ:=Nat) (fun i=>[(0,.slice oa ws.length c),(1,.string ⟨#[]⟩),(5,.int .i64 ((aY (ws.take i)).length:Nat)),(39,.slice oa ws.length c),(40,.int .i64 (ws.length:Nat)),(41,.int .i64 (i:Nat))]) (fun i h'=>i<=ws.length/\h'=h) (fun i=>ws.length-i) (0) rfl ⟨rfl,rfl,rfl,rfl,rfl,rfl,trivial⟩ ⟨Nat.zero_le _,rfl⟩ ?_;rintro i g ⟨hi,hg⟩ ih;subst hg;have hsle:=wX ws (i+1);refine b9 func140 1 [0,1,5,39,40,41,42] rfl ?_;refine aC rfl ?_;refine dQ rfl rfl (fun hlt=>?_) (fun hlt=>?_)
     · have hil:i<ws.length:=by omega
       obtain⟨w,hw⟩:∃w,ws[i]? =some w:=⟨_,List.getElem?_eq_getElem hil⟩
       have hst:=GV hw;have hwz:=aF w;obtain⟨b,o,y,ha,_,hy,hc⟩:=hsl.at hil;rw[hw] at hy;cases hy;refine aR rfl ?_;refine aC rfl ?_;refine G.block rfl rfl ?_;refine xr func140 rfl ?_;refine xp rfl (an.cx underlying22 H.lS rfl rfl i rfl ha (by omega)) ?_;refine xp rfl (au H.ve rfl hc) ?_;refine cV 1 [0,1,5,7,39,40,41,42] rfl ?_;refine aC rfl ?_;refine eB func140 1 rfl ?_;refine xp rfl (an.bH underlying9 rfl) ?_;refine eU 1 rfl rfl (an.kV rfl rfl ⟨by omega,by omega⟩) ?_;refine cV 1 [0,1,5,7,39,40,41,42,49] rfl ?_;refine aA rfl rfl (fun hc=>absurd hc (by simp;omega)) (fun _=>?_);refine aR rfl ?_;refine G.eM func140 rfl ?_;refine eU 2 rfl rfl (an.bH underlying9 rfl) ?_;refine xp rfl (an.dm rfl rfl ⟨by omega,by omega⟩) ?_;refine cV 1 [0,1,5,7,39,40,41,42,49] rfl ?_;refine G.cz ?_;refine G.eM func140 rfl ?_;refine xp rfl (an.dm rfl rfl ⟨by omega,by omega⟩) ?_;refine cV 1 [0,1,5,7,39,40,41,42,49] rfl ?_;exact ih (i+1) _ _ ⟨rfl,rfl,congrArg (fun x:Int=>some (Value.int .i64 x)) (by rw[hst,hwz];omega),rfl,rfl,rfl,trivial⟩ ⟨by omega,rfl⟩ (by omega)
     · have hie:ws.take i=ws:=List.take_of_length_le (by omega);rw[hie];refine ah ?_;refine xo rfl (iT) ?_;rintro _ h1 ⟨rfl,k1,e1,z1⟩;refine ah ?_;have k1:aE h1 g.size 218 [.pointer none,.slice none 0 0]:=k1;obtain⟨x,tl,rfl⟩:∃x tl,ws=x::tl:=by cases ws with|nil=>simp at h0|cons x tl=>exact⟨x,tl,rfl⟩
       refine xo rfl (bl rfl (EX k1 _ (by omega))) ?_;rintro _ h2 ⟨hb2,x2⟩;refine ah ?_;have e02:=ak.only e1 x2 (Nat.le_refl _);have hxz:=aF x;have hxl:x.length<=(aY (x::tl)).length:=by simp[aY]
       obtain⟨b,o,y,ha,_,hy,hc⟩:=(hsl.mv (Mv.aj e02)).at (show 0<(x::tl).length by simp);cases hy;refine xp rfl (eK rfl rfl 0 rfl ha (by simp)) ?_;refine xp rfl (aM rfl hc) ?_;refine xo rfl (bl rfl (eZ (bs x) hb2 (by rw[hxz];simp only[List.length_nil];omega))) ?_;rintro _ h3 ⟨rfl,hb3,x3⟩;refine ah ?_;rw[jr,List.nil_append] at hb3;have e03:=iH e02 x3 (Nat.le_refl _);have hpart:=hsl.part (i:=1) (j:=(x::tl).length) (by simp) (Nat.le_refl _);rw[List.take_length,List.drop_one,List.tail_cons] at hpart;refine xp rfl (an.jk underlying22 H.lS rfl rfl 1 rfl (by simp)) ?_;refine ah ?_;refine nq (σ:=Nat) (fun i=>[(65,.int .i64 (i:Nat))]) (fun i h'=>i<=tl.length/\pM h' g.size 218 5 (aY (x::tl.take i))/\ak g h') (fun i=>tl.length-i) (0) ⟨Nat.zero_le _,by simpa [aY] using hb3,e03⟩ rfl ?_;rintro i g4 ⟨hi,hb4,e04⟩ ih;have hst:=wX (x::tl) (i+1);rw[List.take_succ_cons] at hst;have hlc:(x::tl).length-1=tl.length:=rfl;refine ah ?_;refine bN (fun hlt4=>?_) (fun hlt4=>?_)
       · have hil:i<tl.length:=by omega
         obtain⟨w,hw⟩:∃w,tl[i]? =some w:=⟨_,List.getElem?_eq_getElem hil⟩
         have hwz:=aF w;have hst2:=wX (x::tl) (i+2);rw[List.take_succ_cons] at hst2;have htk:tl.take (i+1)=tl.take i++[w]:=by rw[List.take_add_one,hw];rfl
         have hjn:aY (x::tl.take (i+1))=aY (x::tl.take i)++w:=by rw[htk,<-List.cons_append,cZ];simp[aY]
         have hjl:=congrArg List.length hjn;rw[List.length_append] at hjl;obtain⟨b5,o5,y5,ha5,_,hy5,hc5⟩:=(hpart.mv (Mv.aj e04)).at (show i<(x::tl).length-1 by omega);rw[hw] at hy5;cases hy5
         iterate 4 refine bZ ?_
         refine eu ?_;refine xp rfl (eK rfl rfl i rfl ha5) ?_;refine xp rfl (aM rfl hc5) ?_;refine ah ?_;refine xo rfl (bl rfl (eZ ⟨#[]⟩ hb4 (by rw[h32];omega))) ?_;rintro _ h5 ⟨rfl,hb5,x5⟩;refine ah ?_;refine xo rfl (bl rfl (eZ (bs w) hb5 (by rw[hwz,List.length_append];simp;omega))) ?_;rintro _ h6 ⟨rfl,hb6,x6⟩;refine ah ?_;rw[show (⟨#[]⟩:ByteArray).data.toList=[] from rfl,List.append_nil,jr,<-hjn] at hb6;exact ih (i+1) ⟨by omega,hb6,iH (iH e04 x5 (Nat.le_refl _)) x6 (Nat.le_refl _)⟩
       · have hie:tl.take i=tl:=List.take_of_length_le (by omega);rw[hie] at hb4;refine ah ?_;refine xo rfl (bl rfl (qi hb4 (by omega))) ?_;rintro _ h5 ⟨rfl,x5⟩;refine ah ?_;refine bE ?_;exact⟨_,rfl,rfl,iH e04 x5 (Nat.le_refl _)⟩
theorem pY (k:Dg h O v s) (hs:s.length<=1000000) :
 af Tryz.prog 87 #[v] h (aX fun r h'=>r= .string (bs s)/\ak h h'):=by
 obtain⟨b,vl,l,rfl,ho,hk,hl,hfl,hne⟩:=k;refine cu ?_;refine ah ?_;refine xo rfl (bl rfl (vQ hk)) ?_;rintro _ h0 ⟨rfl,hh0⟩;refine ah ?_;subst hh0;refine mQ rfl (by decide) ?_;refine ah ?_;refine xp rfl (aM rfl (hk.cell (i:=1) rfl)) ?_;refine xo rfl (bl rfl (Eh hl (by rw[hfl];omega))) ?_;rintro _ h1 ⟨rfl,e1⟩;refine ah ?_;refine bE ?_;exact⟨_,rfl,by rw[hfl];rfl,e1⟩
theorem DT (hZ:∀b,Z b->b<h.size):af Tryz.prog 16 #[.string ⟨#[]⟩] h (aX fun r h'=>(∃u,r= .tuple #[u,.int .i64 0]/\Bt Z h' u [])/\ak h h'):=by
 refine cu ?_;refine ah ?_;refine mQ rfl (by decide) ?_;refine ah ?_;refine xo rfl (bl rfl (nJ (O:=fun _=>False) (bC.nil _ _ _) [] (by simp))) ?_;rintro _ h1 ⟨hr,e1⟩
 rcases hr with ⟨_,rfl⟩|⟨q,_⟩
 · refine xo rfl (bl rfl (lz (O:=fun _=>False) (l:=[]) (bC.nil _ _ _) (by simp[aY]))) ?_;rintro _ h2 ⟨⟨b,rfl,hb,k2⟩,e2⟩;refine ah ?_;refine bE ?_;exact⟨_,rfl,⟨_,rfl,b,_,[],rfl,fun q=>q ⟨.inl k2.ty,fun z=>by have:=hZ _ z;have:=e1.size;omega⟩,k2,bC.nil _ _ _,rfl,fun _ q=>by cases q⟩,e1.trans e2⟩
 · exact absurd rfl q
end
end Go.Proofs.YtpjgdgdnbkjoiaaGreatDoor
namespace Go.Proofs.YtpjgdgdnbkjoiaaGreatDoor
open Go.Proofs.Tryz
open Go Go.Lw
set_option maxRecDepth 20000
section
variable {h h':ai}{b ub:Nat}{v wv gv tv:Value}{Z M:Nat->Prop}{t:TypeId}{u:Bw}
theorem ju {o:Nat}{xs ys:List Value}(k:Lw.rowAt h b o (xs++ys)):Lw.rowAt h b o xs:=fun j v hv=>k j v (by rw[List.getElem?_append_left (List.getElem?_eq_some_iff.1 hv).1];exact hv)
def Q1 (h:ai) (O:Nat->Prop) (cs:List Value) (x:By×Int):Prop:=∃tv,cs=[tv,.int .i64 x.2]/\Dg h O tv x.1
theorem Dg.one {O:Nat->Prop}{s:By}(k:Dg h O v s):v.oneCell'=true:=by obtain⟨_,_,_,rfl,_⟩:=k;rfl
def Dk:iS (By×Int):=⟨2,by decide,Q1,fun h=>by obtain⟨v,rfl,_⟩:=h;rfl,fun h=>by
 obtain⟨v,rfl,hv⟩:=h;intro u hu;simp at hu
 rcases hu with rfl|rfl
 · exact hv.one
 · rfl,fun h m=>by
 obtain⟨v,hc,hv⟩:=h;exact⟨v,hc,hv.mv m⟩⟩
structure fV (Z:Nat->Prop) (h:ai) (ub:Nat) (wv gv:Value) (u:Bw):Prop where
 blk:∃tv,aE h ub 88 [tv,.int .i64 u.c,wv,gv,.int .i64 u.o]/\Bt Z h tv u.t
 were:fm Dk (Ot Z h) h 0 85 wv u.were
 gone:fm Dk (Ot Z h) h 0 85 gv u.gone
 ne:∀b,wv.ownBlock=some b->gv.ownBlock≠some b
abbrev q9 (ub:Nat) (wv gv:Value):Nat->Prop:=fun b=>b=ub\/wv.ownBlock=some b\/gv.ownBlock=some b
theorem iD {base:Nat}{xs:List (By×Int)}(k:fm Dk (Ot Z h) h base t v xs) (x:Ext M h h') (hown:∀b,v.ownBlock=some b->¬M b) (hM:∀b,M b->Ot Z h b):fm Dk (Ot Z h') h' base t v xs :=
 k.Fm x hown (fun b _ q=>hM b q) (fun b hb q q2=>q ⟨q2.1.imp (fun k=>k.ext x (fun q3=>hM b q3 q2)) (fun k=>k.ext x (fun q3=>hM b q3 q2)),q2.2⟩)
theorem dO (k:bD h b t) (h1:t≠137) (h2:t≠9):Ot Z h b:=fun q=>q.1.elim (fun q=>k.ne q h1 rfl) (fun q=>k.ne q h2 rfl)
section
variable {Z:Nat->Prop}{h:ai}{ub:Nat}{wv gv:Value}{u:Bw}
theorem fV.yS (k:fV Z h ub wv gv u):∀b,wv.ownBlock=some b->bD h b 85:=fun _ hb=>by obtain⟨_,q⟩:=k.were.own;exact ax.ty q hb
theorem fV.CC (k:fV Z h ub wv gv u):∀b,gv.ownBlock=some b->bD h b 85:=fun _ hb=>by obtain⟨_,q⟩:=k.gone.own;exact ax.ty q hb
theorem fV.ext' (k:fV Z h ub wv gv u) (x:Ext M h h') (h1:¬M ub) (h2:∀b,wv.ownBlock=some b->¬M b) (h3:∀b,gv.ownBlock=some b->¬M b) (hM:∀b,M b->Ot Z h b):fV Z h' ub wv gv u:=by
 obtain⟨tv,kb,kt⟩:=k.blk;exact⟨⟨tv,kb.ext x h1,kt.mv (iR x hM)⟩,iD k.were x h2 hM,iD k.gone x h3 hM,k.ne⟩
theorem fV.aj (k:fV Z h ub wv gv u) (x:ak h h'):fV Z h' ub wv gv u:=k.ext' x (fun q=>q) (fun _ _ q=>q) (fun _ _ q=>q) (fun _ q=>q.elim)
theorem fV.cells {tv':Value}{u':Bw}(k:fV Z h ub wv gv u) (x:Ext (fun b=>b=ub) h h') (kb:aE h' ub 88 [tv',.int .i64 u'.c,wv,gv,.int .i64 u'.o]) (kt:Bt Z h tv' u'.t) (h1:u'.were=u.were) (h2:u'.gone=u.gone):fV Z h' ub wv gv u':=by
 obtain⟨tv,kb0,_⟩:=k.blk;have hM:∀b,b=ub->Ot Z h b:=fun b e=>by subst e;exact dO kb0.ty (by decide) (by decide)
 exact⟨⟨tv',kb,kt.mv (iR x hM)⟩,h1▸iD k.were x (fun b hb e=>by subst e;exact(k.yS b hb).ne kb0.ty (by decide) rfl) hM,h2▸iD k.gone x (fun b hb e=>by subst e;exact(k.CC b hb).ne kb0.ty (by decide) rfl) hM,k.ne⟩
end
theorem vp {c o:Int}(k:aE h ub 88 [.pointer (some ⟨b,0,none⟩),.int .i64 c,wv,gv,.int .i64 o]) :
 af Tryz.prog 51 #[.pointer (some ⟨ub,0,none⟩)] h (aX fun r h'=>r= .bool false/\h'=h):=by
 refine af.of func51 rfl rfl ?_;refine b9 func51 1 [0,2] rfl ?_;refine aC rfl ?_;refine G.eF [(2,.bool false)] [(0,_)] ⟨rfl,trivial⟩ func51 rfl ?_ ?_
 · refine eU 1 rfl rfl (an.eH underlying50 rfl rfl) ?_;refine dz 1 rfl ?_;refine RW.dK (d:=5) (b':=false) rfl (rfl) ?_;refine eU 2 rfl rfl (aa (off:=0) underlying88 rfl rfl H.iM rfl) ?_;refine xp rfl (aa (off:=0) underlying85 rfl rfl H.vw rfl) ?_;refine xp rfl (au H.JP rfl (k.cell (i:=0) rfl)) ?_;refine xp rfl (an.eH underlying49 rfl rfl) ?_;refine dz 2 rfl ?_;refine RW.done rfl ?_;exact⟨rfl,aq rfl (rfl),rfl,trivial⟩
 · refine bM func51 rfl rfl ?_;exact⟨_,rfl,rfl,rfl⟩
theorem Du {t:By}(k:Bt Z h tv t) (c:Int) :
 af Tryz.prog 17 #[tv,.int .i64 c] h (aX fun r h'=>(∃ub:Nat,r= .pointer (some ⟨ub,0,none⟩)/\h.size<=ub/\fV Z h' ub (.slice none 0 0) (.slice none 0 0) (HP t c))/\ak h h'):=by
 have k0:=k;obtain⟨b,vl,l,rfl,_⟩:=k;refine af.of func17 rfl rfl ?_;refine b9 func17 1 [0,1,4] rfl ?_;refine aC rfl ?_;refine eB func17 1 rfl ?_;refine xp rfl (an.eH underlying49 rfl rfl) ?_;refine xd [0,1,4,6] rfl ?_;refine aA rfl rfl (fun hc=>absurd hc (by simp)) (fun _=>?_);refine aR rfl ?_;refine eB func17 2 rfl ?_;refine xp rfl (aB (H.xN _ _) rfl) ?_;refine xp rfl (aB (H.MV _ _) rfl) ?_;refine xo rfl (az.iQ rfl) ?_;rintro _ h1 ⟨rfl,k1,e1,z1⟩;refine cV 1 [0,1,4,6] rfl ?_;have k1:aE h1 h.size 88 [.pointer (some ⟨b,0,none⟩),.int .i64 c,.slice none 0 0,.slice none 0 0,.int .i64 0]:=k1;refine bM func17 rfl rfl ?_;exact⟨_,rfl,⟨_,rfl,Nat.le_refl _,⟨⟨_,k1,k0.mv (Mv.DV e1)⟩,fm.nil _ _ _ _ _,fm.nil _ _ _ _ _,fun _ q=>by cases q⟩⟩,e1⟩
theorem Fi (x:Ext M h h') (hM:∀b,M b->Ot Z h b):∀b,Ot Z h' b->Ot Z h b:=fun b q q2=>q ⟨q2.1.imp (fun k=>k.ext x (fun q3=>hM b q3 q2)) (fun k=>k.ext x (fun q3=>hM b q3 q2)),q2.2⟩
theorem s9 {h7 h8:ai}{v7:Value}{t:By}{c:Int}{xs:List (By×Int)}{css:List (List Value)}(hty:∀b,v.ownBlock=some b->bD h b 85) (kub:bD h ub 88) (hc1:css.length=xs.length) (hc3:∀(i:Nat) (cs:List Value) (x:By×Int),css[i]? =some cs->xs[i]? =some x->Dk.R h (fun b=>bV v.ownBlock b\/Ot Z h b) cs x)
 (kt:Bt Z h tv t) (ho:ax h7 0 85 2 v7 (xs.length+1) (css.flatten++[tv,.int .i64 c])) (hx:Ext (bV v.ownBlock) h h7) (hv:∀b,v7.ownBlock=some b->v.ownBlock=some b\/h.size<=b) (x8:Ext (fun b=>b=ub) h7 h8) :
 fm Dk (Ot Z h8) h8 0 85 v7 (xs++[(t,c)]):=by
 have hM:∀b,bV v.ownBlock b->Ot Z h b:=fun b e=>dO (hty b e.symm) (by decide) (by decide)
 have kub7:bD h7 ub 88:=kub.ext hx (fun e=>(hty ub e.symm).ne kub (by decide) rfl);have hM8:∀b,b=ub->Ot Z h7 b:=fun b e=>by subst e;exact dO kub7 (by decide) (by decide)
 have k7:fm Dk (Ot Z h) h7 0 85 v7 (xs++[(t,c)]):=fm.nR (h:=h) (v:=v) (css:=css) (cs:=[tv,.int .i64 c]) hc1 hc3 ho hx hv ⟨tv,rfl,kt.mv ⟨Nat.le_refl _,fun b _ hn=>⟨rfl,fun q=>q.elim (fun q=>hn (hM b q)) hn⟩⟩⟩;exact k7.Fm x8 (fun b hb e=>by subst e;exact(show bD h7 b 85 from ax.ty ho hb).ne kub7 (by decide) rfl) (fun b _ e=>by subst e;exact dO kub (by decide) (by decide)) (fun b _ q=>Fi hx hM b (Fi x8 hM8 b q))
theorem yq (k:fV Z h ub wv gv u){t:By}(kt:Bt Z h tv t) (c g:Int) (hw:u.were.length<100) :
 af Tryz.prog 25 #[.pointer (some ⟨ub,0,none⟩),tv,.int .i64 c,.int .i64 g] h (aX fun r h'=>r= .bool true/\(∃wv' gv',fV Z h' ub wv' gv' (yu u t c g)/\∀b,q9 ub wv' gv' b->q9 ub wv gv b\/h.size<=b)/\Ext (q9 ub wv gv) h h'):=by
 obtain⟨tv0,kb,kt0⟩:=k.blk;have kt':=kt;obtain⟨b1,vl1,l1,rfl,_⟩:=kt';have kt0':=kt0;obtain⟨b0,vl0,l0,rfl,_⟩:=kt0'
 have hcov:(yu u t c g).were=if g<=0\/g≠u.o then u.were++[(u.t,u.c)] else u.were:=by
  unfold yu;dsimp only;rw[show u.were.length+1-100=0 by omega,List.drop_zero]
 -- the last three stores
 have last:∀{hA hD:ai}{wvA gvA:Value}{uA:Bw},fV Z hA ub wvA gvA uA->Bt Z hA (.pointer (some ⟨b1,0,none⟩)) t->uA.were=(yu u t c g).were->Ext (fun b=>b=ub) hA hD->aE hD ub 88 [.pointer (some ⟨b1,0,none⟩),.int .i64 c,wvA,.slice none 0 0,.int .i64 (if g<0 then 0 else g)]->fV Z hD ub wvA (.slice none 0 0) (yu u t c g):=fun {hA hD wvA gvA uA} kA ktA hwr x kD=>by
  obtain⟨tvA,kbA,_⟩:=kA.blk;rw[show (if g<0 then (0:Int) else g)=max g 0 by split<;>omega] at kD;have hM:∀b,b=ub->Ot Z hA b:=fun b e=>by subst e;exact dO kbA.ty (by decide) (by decide)
  exact⟨⟨_,kD,ktA.mv (iR x hM)⟩,hwr▸iD kA.were x (fun b hb e=>by subst e;exact(kA.yS b hb).ne kbA.ty (by decide) rfl) hM,fm.nil _ _ _ _ _,fun _ _ q=>by cases q⟩
 refine af.of func25 rfl rfl ?_;refine b9 func25 1 [0,1,2,3,8] rfl ?_;refine aC rfl ?_;refine aC rfl ?_;refine G.eF [(14,.bool false)] [(0,_),(1,_),(2,_),(3,_),(8,_)] ⟨rfl,rfl,rfl,rfl,rfl,trivial⟩ func25 rfl ?_ ?_
 · refine dz 1 rfl ?_;refine xo rfl (ay (vs:=[_]) func51 rfl H.Mw rfl (af.cD (vp kb))) ?_;rintro _ h0 ⟨rfl,hh0⟩;subst hh0;refine dz 1 rfl ?_;refine RW.dK (d:=11) (b':=false) rfl (rfl) ?_;refine eU 1 rfl rfl (an.eH underlying49 rfl rfl) ?_;refine dz 1 rfl ?_;refine RW.done rfl ?_;exact⟨rfl,aq rfl (rfl),rfl,rfl,rfl,rfl,rfl,trivial⟩
 · refine aA rfl rfl (fun hc=>absurd hc (by decide)) (fun _=>?_);refine aR rfl ?_;refine aC rfl ?_;refine aC rfl ?_;refine G.eF [(24,.bool (decide (g<=0\/g≠u.o)))] [(0,_),(1,_),(2,_),(3,_),(8,_),(14,_)] ⟨rfl,rfl,rfl,rfl,rfl,rfl,trivial⟩ func25 rfl ?_ ?_
   · refine dz 3 rfl ?_;refine RW.split (d:=17) rfl (fun hg1=>?_) (fun hg1=>?_)
     · have hg1':=of_decide_eq_true hg1;refine dz 7 rfl ?_;refine RW.done rfl ?_;exact⟨rfl,aq rfl (by simp[hg1']),rfl,rfl,rfl,rfl,rfl,rfl,trivial⟩
     · have hg1':=of_decide_eq_false hg1;refine eU 3 rfl rfl (aa (off:=4) underlying88 rfl rfl H.ck rfl) ?_;refine xp rfl (au H.gS rfl (kb.cell (i:=4) rfl)) ?_;refine dz 2 rfl ?_;refine RW.done rfl ?_;exact⟨rfl,aq rfl (by simp;omega),rfl,rfl,rfl,rfl,rfl,rfl,trivial⟩
   · refine dQ rfl rfl (fun hpush=>?_) (fun hpush=>?_)
     · rw[if_pos hpush] at hcov;obtain⟨css,hc1,hc2,hc3⟩:=id k.were
       have hd1:¬(bV wv.ownBlock ub\/Array.size h<=ub):=fun e=>by
        rcases e with e|e
        · exact(k.yS _ e.symm).ne kb.ty (by decide) rfl
        · have:=kb.lt;omega
       refine aC rfl ?_;refine cU (fun b=>bV wv.ownBlock b\/Array.size h<=b) (fun i=>Nat.blt i 13) (sz:=14) (listed:= #[false,false,false,false,false,false,false,false,false,false,false,false,false,false]) func25 H.mixed rfl rfl rfl ?_;refine aP 0 1 (by kernel_rfl) rfl ?_;refine aP 1 3 (by kernel_rfl) rfl ?_;refine aP 2 7 (by kernel_rfl) rfl ?_;refine cj 3 15 (by kernel_rfl) rfl (fun h' e=>aa (off:=2) underlying88 rfl rfl H.lW rfl) ?_;refine cj 4 31 (by kernel_rfl) rfl (fun h' e=>au H.xW rfl (e.cell hd1 (kb.cell (i:=2) rfl))) ?_;refine aP 5 63 (by kernel_rfl) rfl ?_;refine aP 6 127 (by kernel_rfl) rfl ?_;refine cj 7 255 (by kernel_rfl) rfl (fun h' e=>aa (off:=0) underlying88 rfl rfl H.iM rfl) ?_;refine cj 8 511 (by kernel_rfl) rfl (fun h' e=>an.aG H.JM H.iM rfl (e.rowAt hd1 (ju (xs:=[.pointer (some ⟨b0,0,none⟩),.int .i64 u.c]) kb.row)) (by first|rfl|(simp;done)|(simp;omega))) ?_;refine jU 9 1023 (by kernel_rfl) rfl (az.cy (cs:=[_,_]) underlying86 H.G4 rfl rfl (by decide)) ?_;rintro _ _ ⟨rfl,rfl⟩;refine⟨fun _=>by first|exact Ext.push _ _ _|assumption,?_⟩;refine jU 10 2047 (by kernel_rfl) rfl (az.fM underlying86 H.G4 rfl rfl (hc2) rfl rfl (by first|decide|simp[Value.oneCell']) (by omega) (by decide) (by omega)) ?_;rintro v7 h7 ⟨ho7,hx7,hx7',hv7⟩;refine⟨fun _=>hx7'.mono (fun _ _ q=>.inl q),?_⟩;obtain⟨wa,wc,rfl,how⟩:=ho7.open;have hwle:=how.le;have kb7:=kb.ext hx7 (fun e=>hd1 (.inl e));refine jU 11 4095 (by kernel_rfl) rfl (an.cD (cG rfl)) ?_;rintro _ hq_ ⟨rfl,hqe_⟩;replace hqe_:=hqe_.symm;subst hqe_;refine⟨fun _=>Ext.refl _ _,?_⟩;refine cj 12 8191 (by kernel_rfl) rfl (fun h' e=>aa (off:=2) underlying88 rfl rfl H.lW rfl) ?_;refine rf 13 16383 (by kernel_rfl) rfl (az.aO H.lW rfl rfl kb7 (by first|decide|exact of_decide_eq_true rfl|(simp;done)|(simp;omega)) rfl) ?_;rintro _ h8 ⟨rfl,k8,x8,z8⟩;refine⟨fun hk=>(nomatch hk),?_⟩;have were8:=s9 k.yS kb.ty hc1 hc3 kt0 ho7 hx7 hv7 x8;have hMw:∀b,bV wv.ownBlock b->Ot Z h b:=fun b e=>dO (k.yS b e.symm) (by decide) (by decide)
       have gone7:=iD k.gone hx7 (fun b hb e=>k.ne b e.symm hb) hMw;have hM8:∀b,b=ub->Ot Z h7 b:=fun b e=>by subst e;exact dO kb7.ty (by decide) (by decide)
       have gone8:=iD gone7 x8 (fun b hb e=>by subst e;obtain⟨_,q⟩:=gone7.own;exact(show bD h7 b 85 from ax.ty q hb).ne kb7.ty (by decide) rfl) hM8
       have hap:∀b,(Value.slice wa (u.were.length+1) wc).ownBlock=some b->gv.ownBlock≠some b:=fun b hb e=>by
        rcases hv7 b hb with q|q
        · exact k.ne b q e
        · have:=(k.CC b e).lt;omega
       have k8':fV Z h8 ub (.slice wa (u.were.length+1) wc) gv { u with were:=u.were++[(u.t,u.c)] }:=⟨⟨_,k8,(kt0.mv (iR hx7 hMw)).mv (iR x8 hM8)⟩,were8,gone8,hap⟩
       have kt8:=(kt.mv (iR hx7 hMw)).mv (iR x8 hM8);have e08:Ext (q9 ub wv gv) h h8:=(hx7.mono (fun b _ e=>.inr (.inl e.symm))).trans (x8.mono (fun b _ e=>.inl e));refine RD.done (by kernel_rfl) ?_;refine xu [0,1,2,3,8,14,24] rfl ?_;refine cU (fun b=>Array.size h8<=b) (fun i=>Nat.blt i 15) (sz:=16) (listed:= #[false,false,false,false,false,false,false,false,false,false,false,false,false,false,false,false]) func25 H.mixed rfl rfl rfl ?_;refine aP 0 1 (by kernel_rfl) rfl ?_;refine aP 1 3 (by kernel_rfl) rfl ?_;refine aP 2 7 (by kernel_rfl) rfl ?_;refine cj 3 15 (by kernel_rfl) rfl (fun h' e=>aa (off:=2) underlying88 rfl rfl H.lW rfl) ?_;refine cj 4 31 (by kernel_rfl) rfl (fun h' e=>au H.xW rfl (e.old (k8.cell (i:=2) rfl))) ?_;refine aP 5 63 (by kernel_rfl) rfl ?_;refine aP 6 127 (by kernel_rfl) rfl ?_;refine cj 7 255 (by kernel_rfl) rfl (fun h' e=>aa (off:=2) underlying88 rfl rfl H.lW rfl) ?_;refine cj 8 511 (by kernel_rfl) rfl (fun h' e=>au H.xW rfl (e.old (k8.cell (i:=2) rfl))) ?_;refine cj 9 1023 (by kernel_rfl) rfl (fun h' e=>an.cM underlying86 rfl) ?_;refine cj 10 2047 (by kernel_rfl) rfl (fun h' e=>an.kV rfl rfl ⟨by omega,by omega⟩) ?_;refine cj 11 4095 (by kernel_rfl) rfl (fun h' e=>an.max2 rfl rfl) ?_;refine cj 12 8191 (by kernel_rfl) rfl (fun h' e=>an.jk underlying86 H.iM rfl rfl 0 (by omega) (by omega)) ?_;refine jU 13 16383 (by kernel_rfl) rfl (an.cD (cG rfl)) ?_;rintro _ hq_ ⟨rfl,hqe_⟩;replace hqe_:=hqe_.symm;subst hqe_;refine⟨fun _=>Ext.refl _ _,?_⟩;refine cj 14 32767 (by kernel_rfl) rfl (fun h' e=>aa (off:=2) underlying88 rfl rfl H.lW rfl) ?_;refine rf 15 65535 (by kernel_rfl) rfl (az.aO H.lW rfl rfl k8 (by first|decide|exact of_decide_eq_true rfl|(simp;done)|(simp;omega)) rfl) ?_;rintro _ h9 ⟨rfl,k9,x9,z9⟩;refine⟨fun hk=>(nomatch hk),?_⟩;have k9:aE h9 ub 88 [.pointer (some ⟨b0,0,none⟩),.int .i64 u.c,.slice wa (u.were.length+1) wc,gv,.int .i64 u.o]:=by rw[iB] at k9;exact k9
       have k9':=k8'.cells (u':= { u with were:=u.were++[(u.t,u.c)] }) x9 k9 (by obtain⟨_,q1,q2⟩:=k8'.blk;have:=q1.cell (i:=0) rfl;rw[k8.cell (i:=0) rfl] at this;cases this;exact q2) rfl rfl;have kt9:=kt8.mv (iR x9 fun b e=>by subst e;exact dO k8.ty (by decide) (by decide));refine RD.done (by kernel_rfl) ?_;refine xu [0,1,2,3,8,14,24] rfl ?_;refine eB func25 5 rfl ?_;refine xp rfl (aB (H.xN _ _) rfl) ?_;refine eU 1 rfl rfl (an.max2 rfl rfl) ?_;refine eU 1 rfl rfl (aa (off:=0) underlying88 rfl rfl H.iM rfl) ?_;refine RW.fS rfl rfl rfl (az.aH H.iM rfl rfl k9 (by first|rfl|(simp;done)|(simp;omega)) (by first|decide|exact of_decide_eq_true rfl|(simp;done)|(simp;omega)) (by first|decide|simp[Value.oneCell'])) ?_;rintro _ hA ⟨rfl,kA,xA,zA⟩;refine eU 1 rfl rfl (aa (off:=3) underlying88 rfl rfl H.lW rfl) ?_;refine RW.fS rfl rfl rfl (az.aO H.lW rfl rfl kA (by first|decide|exact of_decide_eq_true rfl|(simp;done)|(simp;omega)) rfl) ?_;rintro _ hB ⟨rfl,kB,xB,zB⟩;refine eU 1 rfl rfl (aa (off:=4) underlying88 rfl rfl H.ck rfl) ?_;refine RW.fS rfl rfl rfl (az.aO H.ck rfl rfl kB (by first|decide|exact of_decide_eq_true rfl|(simp;done)|(simp;omega)) rfl) ?_;rintro _ hC ⟨rfl,kC,xC,zC⟩;have xx:=(xA.trans xB).trans xC;have kU:=last k9' kt9 hcov.symm xx kC;have e9:=e08.trans ((x9.trans xx).mono (fun b _ e=>.inl e));refine xd [0,1,2,3,8,14,24] rfl ?_;refine b9 func25 1 [0,1,2,3,8,14,24] rfl ?_;refine bM func25 rfl rfl ?_
       exact⟨_,rfl,rfl,⟨_,_,kU,fun b hb=>by
        rcases hb with rfl|q|q
        · exact .inl (.inl rfl)
        · rcases hv7 b q with q|q
          · exact .inl (.inr (.inl q))
          · exact .inr q
        · cases q⟩,e9⟩
     · rw[if_neg hpush] at hcov;refine aR rfl ?_;refine eB func25 5 rfl ?_;refine xp rfl (aB (H.xN _ _) rfl) ?_;refine eU 1 rfl rfl (an.max2 rfl rfl) ?_;refine eU 1 rfl rfl (aa (off:=0) underlying88 rfl rfl H.iM rfl) ?_;refine RW.fS rfl rfl rfl (az.aH H.iM rfl rfl kb (by first|rfl|(simp;done)|(simp;omega)) (by first|decide|exact of_decide_eq_true rfl|(simp;done)|(simp;omega)) (by first|decide|simp[Value.oneCell'])) ?_;rintro _ hA ⟨rfl,kA,xA,zA⟩;refine eU 1 rfl rfl (aa (off:=3) underlying88 rfl rfl H.lW rfl) ?_;refine RW.fS rfl rfl rfl (az.aO H.lW rfl rfl kA (by first|decide|exact of_decide_eq_true rfl|(simp;done)|(simp;omega)) rfl) ?_;rintro _ hB ⟨rfl,kB,xB,zB⟩;refine eU 1 rfl rfl (aa (off:=4) underlying88 rfl rfl H.ck rfl) ?_;refine RW.fS rfl rfl rfl (az.aO H.ck rfl rfl kB (by first|decide|exact of_decide_eq_true rfl|(simp;done)|(simp;omega)) rfl) ?_;rintro _ hC ⟨rfl,kC,xC,zC⟩;have xx:=(xA.trans xB).trans xC;have kU:=last k kt hcov.symm xx kC;refine xd [0,1,2,3,8,14,24] rfl ?_;refine b9 func25 1 [0,1,2,3,8,14,24] rfl ?_;refine bM func25 rfl rfl ?_
       exact⟨_,rfl,rfl,⟨_,_,kU,fun b hb=>by
        rcases hb with rfl|q|q
        · exact .inl (.inl rfl)
        · exact .inl (.inr (.inl q))
        · cases q⟩,xx.mono (fun b _ e=>.inl e)⟩
theorem vU (fa:Option Addr) (a b c d:Nat):(Value.slice fa a c).ownBlock=(Value.slice fa b d).ownBlock:=by rcases fa with _|⟨x,y,z⟩<;>rfl
theorem Fh {O:Nat->Prop}{base:Nat}{oa:Option Addr}{n c:Nat}{ys:List (By×Int)}(k:fm Dk O h base t (.slice oa n c) ys) (hn:ys.length=n){i:Nat}(hi:i<=n):fm Dk O h base t (.slice oa i c) (ys.take i):=by
 subst hn;obtain⟨css,h1,h2,h3⟩:=k;obtain⟨_,_,e0,how⟩:=h2.open;cases e0;have h4:=how.take hi Dk.sz;rw[iB] at h4
 have hlen:∀c∈css,c.length=Dk.sz:=fun c hc=>by
  obtain⟨j,hj⟩:=List.getElem?_of_mem hc;have hlt:j<ys.length:=by rw[<-h1];exact(List.getElem?_eq_some_iff.1 hj).1
  exact Dk.len (h3 j c ys[j] hj (List.getElem?_eq_getElem hlt))
 refine⟨css.take i,by simp[h1],?_,fun j cs x hc hx=>?_⟩
 · rw[sd css i hlen,List.length_take,Nat.min_eq_left hi];exact h4
 · rw[List.getElem?_take] at hc hx;split at hc
   · rename_i hj;rw[if_pos hj] at hx;have h5:=h3 j cs x hc hx;rwa [vU oa ys.length i c c] at h5
   · cases hc
theorem BC (k:fV Z h ub wv gv u) (hw:u.were.length<1000000) (hw2:u.gone.length<1000000) :
 af Tryz.prog 139 #[.pointer (some ⟨ub,0,none⟩),.pointer (some ⟨ub,2,none⟩),.pointer (some ⟨ub,3,none⟩)] h (aX fun r h'=>((ny u=none/\h'=h/\r= .tuple #[.pointer none,.int .i64 0,.bool false])\/∃u' tv wv' gv',ny u=some u'/\r= .tuple #[tv,.int .i64 u'.c,.bool true]/\Bt Z h' tv u'.t/\fV Z h' ub wv' gv' u'/\(∀b,q9 ub wv' gv' b->q9 ub wv gv b\/h.size<=b))/\Ext (q9 ub wv gv) h h'):=by
 obtain⟨tv0,kb,kt0⟩:=k.blk;obtain⟨b0,vl0,l0,rfl,_⟩:=id kt0;obtain⟨css,hc1,hc2,hc3⟩:=id k.gone;obtain⟨xss,hx1,hx2,hx3⟩:=id k.were;obtain⟨fa,fc,rfl,hfw⟩:=hx2.open;have hfle:=hfw.le;refine af.of func139 rfl rfl ?_;refine b9 func139 3 [0,1,2,6,7,8] rfl ?_;refine eB func139 2 rfl ?_;refine xp rfl (au H.xW rfl (kb.cell (i:=2) rfl)) ?_;refine xp rfl (an.cM underlying86 rfl) ?_;refine xp rfl (an.kV rfl rfl ⟨by omega,by omega⟩) ?_;refine cV 1 [0,1,2,6,7,8,9] rfl ?_;refine aC rfl ?_;refine b9 func139 2 [0,1,2,6,7,8,9,16] rfl ?_;refine dQ rfl rfl (fun h0=>?_) (fun h0=>?_)
 · have hn:u.were=[]:=List.eq_nil_of_length_eq_zero (by omega);refine b9 func139 3 [0,1,2,6,7,8,9,16] rfl ?_;refine bM func139 rfl rfl ?_;exact⟨_,rfl,.inl ⟨by unfold ny;rw[hn];rfl,rfl,rfl⟩,Ext.refl _ _⟩
 · obtain⟨xs,⟨x,xc⟩,hxs⟩:∃xs x,u.were=xs++[x]:=⟨_,_,(List.dropLast_concat_getLast (fun e=>h0 (by rw[e];decide))).symm⟩
   have hxl:u.were.length=xs.length+1:=by rw[hxs];simp
   have hd1:¬(bV gv.ownBlock ub\/Array.size h<=ub):=fun e=>by
    rcases e with e|e
    · exact(k.CC _ e.symm).ne kb.ty (by decide) rfl
    · have:=kb.lt;omega
   refine aR rfl ?_;refine aC rfl ?_;refine cU (fun b=>bV gv.ownBlock b\/Array.size h<=b) (fun i=>Nat.blt i 11) (sz:=12) (listed:= #[false,false,false,false,false,false,false,false,false,false,false,false]) func139 H.mixed rfl rfl rfl ?_;refine aP 0 1 (by kernel_rfl) rfl ?_;refine aP 1 3 (by kernel_rfl) rfl ?_;refine aP 2 7 (by kernel_rfl) rfl ?_;refine cj 3 15 (by kernel_rfl) rfl (fun h' e=>au H.xW rfl (e.cell hd1 (kb.cell (i:=3) rfl))) ?_;refine aP 4 31 (by kernel_rfl) rfl ?_;refine aP 5 63 (by kernel_rfl) rfl ?_;refine cj 6 127 (by kernel_rfl) rfl (fun h' e=>aa (off:=0) underlying88 rfl rfl H.iM rfl) ?_;refine cj 7 255 (by kernel_rfl) rfl (fun h' e=>an.aG H.JM H.iM rfl (e.rowAt hd1 (ju (xs:=[.pointer (some ⟨b0,0,none⟩),.int .i64 u.c]) kb.row)) (by first|rfl|(simp;done)|(simp;omega))) ?_;refine jU 8 511 (by kernel_rfl) rfl (az.cy (cs:=[_,_]) underlying86 H.G4 rfl rfl (by decide)) ?_;rintro _ _ ⟨rfl,rfl⟩;refine⟨fun _=>by first|exact Ext.push _ _ _|assumption,?_⟩;refine jU 9 1023 (by kernel_rfl) rfl (az.fM underlying86 H.G4 rfl rfl (hc2) rfl rfl (by first|decide|simp[Value.oneCell']) (by omega) (by decide) (by omega)) ?_;rintro v7 h7 ⟨ho7,hx7,hx7',hv7⟩;refine⟨fun _=>hx7'.mono (fun _ _ q=>.inl q),?_⟩;obtain⟨ga,gc,rfl,_⟩:=ho7.open;have kb7:=kb.ext hx7 (fun e=>hd1 (.inl e));refine aP 10 2047 (by kernel_rfl) rfl ?_;refine rf 11 4095 (by kernel_rfl) rfl (az.aO H.lW rfl rfl kb7 (by first|decide|exact of_decide_eq_true rfl|(simp;done)|(simp;omega)) rfl) ?_;rintro _ h8 ⟨rfl,k8,x8,z8⟩;refine⟨fun hk=>(nomatch hk),?_⟩;have to8:=s9 k.CC kb.ty hc1 hc3 kt0 ho7 hx7 hv7 x8;have hMw:∀b,bV gv.ownBlock b->Ot Z h b:=fun b e=>dO (k.CC b e.symm) (by decide) (by decide)
   have fr7:=iD k.were hx7 (fun b hb e=>k.ne b hb e.symm) hMw;have hM8:∀b,b=ub->Ot Z h7 b:=fun b e=>by subst e;exact dO kb7.ty (by decide) (by decide)
   have fr8:=iD fr7 x8 (fun b hb e=>by subst e;obtain⟨_,q⟩:=fr7.own;exact(show bD h7 b 85 from ax.ty q hb).ne kb7.ty (by decide) rfl) hM8
   have hne8:∀b,(Value.slice fa u.were.length fc).ownBlock=some b->(Value.slice ga (u.gone.length+1) gc).ownBlock≠some b:=fun b hb e=>by
    rcases hv7 b e with q|q
    · have e:=q.symm;exact k.ne b hb e.symm
    · have:=(hx2.lt hb).2;omega
   obtain⟨gb,gcc,cs,hgv,_,hgl,hrow,_,⟨tvx,rfl,hpx⟩,_⟩:=fr8.put (i:=xs.length) (x:=(x,xc)) (by rw[hxs,List.getElem?_concat_length]);have hfa:fa=some ⟨gb,0,none⟩:=by cases hgv;rfl
   have hcut:=Fh fr8 rfl (i:=xs.length) (by omega);rw[hxs,List.take_left] at hcut;obtain⟨bx,vlx,lx,rfl,_⟩:=id hpx;refine RD.done (by kernel_rfl) ?_;refine xu [0,1,2,6,7,8,9,16] rfl ?_;refine aC rfl ?_;refine cU (fun b=>Array.size h8<=b) (fun i=>Nat.blt i 15) (sz:=18) (listed:= #[false,false,false,false,false,false,false,false,false,false,false,false,false,false,false,false,false,false]) func139 H.mixed rfl rfl rfl ?_;refine aP 0 1 (by kernel_rfl) rfl ?_;refine aP 2 5 (by kernel_rfl) rfl ?_;refine aP 3 13 (by kernel_rfl) rfl ?_;refine cj 4 29 (by kernel_rfl) rfl (fun h' e=>au H.xW rfl (e.old (k8.cell (i:=2) rfl))) ?_;refine aP 5 61 (by kernel_rfl) rfl ?_;refine cj 6 125 (by kernel_rfl) rfl (fun h' e=>an.cx underlying86 H.iM rfl rfl xs.length (by omega) hfa (by omega)) ?_;refine cj 7 253 (by kernel_rfl) rfl (fun h' e=>an.aG H.JM H.iM rfl (e.IJ hrow) (by first|rfl|(simp;done)|(simp;omega))) ?_;refine aP 8 509 (by kernel_rfl) rfl ?_;refine aP 9 1021 (by kernel_rfl) rfl ?_;refine cj 10 2045 (by kernel_rfl) rfl (fun h' e=>au H.xW rfl (e.old (k8.cell (i:=2) rfl))) ?_;refine aP 13 10237 (by kernel_rfl) rfl ?_;refine cj 14 26621 (by kernel_rfl) rfl (fun h' e=>aa (off:=0) underlying88 rfl rfl H.iM rfl) ?_;refine RD.nC 1 (listed':= #[true,true,true,true,true,true,true,true,true,true,true,false,false,true,true,false,false,false]) rfl (by kernel_rfl) (by kernel_rfl) (by kernel_rfl) rfl rfl rfl (fun _=>aS rfl) rfl ?_;refine RD.nC 11 (listed':= #[true,true,true,true,true,true,true,true,true,true,true,true,false,true,true,false,false,false]) rfl (by kernel_rfl) (by kernel_rfl) (by kernel_rfl) rfl rfl rfl (fun _=>aS rfl) rfl ?_;refine RD.nC 12 (listed':= #[true,true,true,true,true,true,true,true,true,true,true,true,true,true,true,false,false,false]) rfl (by kernel_rfl) (by kernel_rfl) (by kernel_rfl) rfl rfl rfl (fun _=>an.cW underlying86 H.iM rfl rfl xs.length (by omega) (by omega)) rfl ?_;refine rf 15 65535 (by kernel_rfl) rfl (az.aH H.iM rfl rfl k8 (by first|rfl|(simp;done)|(simp;omega)) (by first|decide|exact of_decide_eq_true rfl|(simp;done)|(simp;omega)) (by first|decide|simp[Value.oneCell'])) ?_;rintro _ h9 ⟨rfl,k9,x9,z9⟩;refine⟨fun hk=>(nomatch hk),?_⟩;refine aP 16 131071 (by kernel_rfl) rfl ?_;refine rf 17 262143 (by kernel_rfl) rfl (az.aO H.lW rfl rfl k9 (by first|decide|exact of_decide_eq_true rfl|(simp;done)|(simp;omega)) rfl) ?_;rintro _ hA ⟨rfl,kA,xA,zA⟩;refine⟨fun hk=>(nomatch hk),?_⟩;refine RD.done (by kernel_rfl) ?_;refine xu [0,1,2,6,7,8,9,16] rfl ?_;refine eB func139 2 rfl ?_;refine xp rfl (aa (off:=4) underlying88 rfl rfl H.ck rfl) ?_;refine RW.fS rfl rfl rfl (az.aO H.ck rfl rfl kA (by first|decide|exact of_decide_eq_true rfl|(simp;done)|(simp;omega)) rfl) ?_;rintro _ hB ⟨rfl,kB,xB,zB⟩;have xx:=(x9.trans xA).trans xB;have kB:aE hB ub 88 [.pointer (some ⟨bx,0,none⟩),.int .i64 xc,.slice fa xs.length fc,.slice ga (u.gone.length+1) gc,.int .i64 0]:=by rw[iB] at kB;exact kB
   have hMB:∀b,b=ub->Ot Z h8 b:=fun b e=>by subst e;exact dO k8.ty (by decide) (by decide)
   have hub:∀{v:Value}{ys:List (By×Int)},fm Dk (Ot Z h8) h8 0 85 v ys->fm Dk (Ot Z hB) hB 0 85 v ys:=fun {v ys} kk=>iD kk xx (fun b hb e=>by subst e;obtain⟨_,q⟩:=kk.own;exact(show bD h8 b 85 from ax.ty q hb).ne k8.ty (by decide) rfl) hMB
   have ktB:Bt Z hB (.pointer (some ⟨bx,0,none⟩)) x:=(hpx.mv (O':=Ot Z h8) ⟨Nat.le_refl _,fun b _ hn=>⟨rfl,fun q=>hn (.inr q)⟩⟩).mv (iR xx hMB);have hto:=hub to8;have hfr:=hub hcut;have e0B:Ext (q9 ub (.slice fa u.were.length fc) gv) h hB:=(hx7.mono (fun b _ e=>.inr (.inr e.symm))).trans ((x8.trans xx).mono (fun b _ e=>.inl e));refine xd [0,1,2,6,7,8,9,16] rfl ?_;refine aC rfl ?_;refine cU (fun b=>Array.size hB<=b) (fun i=>Nat.blt i 13) (sz:=13) (listed:= #[false,false,false,false,false,false,false,false,false,false,false,false,false]) func139 H.mixed rfl rfl rfl ?_;refine aP 0 1 (by kernel_rfl) rfl ?_;refine aP 1 3 (by kernel_rfl) rfl ?_;refine cj 2 7 (by kernel_rfl) rfl (fun h' e=>aa (off:=0) underlying88 rfl rfl H.iM rfl) ?_;refine cj 3 15 (by kernel_rfl) rfl (fun h' e=>aa (off:=0) underlying85 rfl rfl H.vw rfl) ?_;refine cj 4 31 (by kernel_rfl) rfl (fun h' e=>au H.JP rfl (e.old (kB.cell (i:=0) rfl))) ?_;refine aP 5 63 (by kernel_rfl) rfl ?_;refine aP 6 127 (by kernel_rfl) rfl ?_;refine cj 7 255 (by kernel_rfl) rfl (fun h' e=>aa (off:=0) underlying88 rfl rfl H.iM rfl) ?_;refine cj 8 511 (by kernel_rfl) rfl (fun h' e=>aa (off:=1) underlying85 rfl rfl H.ck rfl) ?_;refine cj 9 1023 (by kernel_rfl) rfl (fun h' e=>au H.gS rfl (e.old (kB.cell (i:=1) rfl))) ?_;refine aP 10 2047 (by kernel_rfl) rfl ?_;refine aP 11 4095 (by kernel_rfl) rfl ?_;refine aP 12 8191 (by kernel_rfl) rfl ?_;refine RD.done (by kernel_rfl) ?_;refine xu [0,1,2,6,7,8,9,16] rfl ?_;refine bM func139 rfl rfl ?_;refine⟨_,rfl,.inr ⟨⟨x,xc,xs,u.gone++[(u.t,u.c)],0⟩,_,_,_,by unfold ny;rw[hxs,List.getLast?_concat];dsimp only;rw[List.dropLast_concat],rfl,ktB,⟨⟨_,kB,ktB⟩,hfr,hto,fun b hb e=>hne8 b (by rw[vU fa _ xs.length _ fc];exact hb) e⟩,fun b hb=>?_⟩,e0B⟩
   rcases hb with rfl|q|q
   · exact .inl (.inl rfl)
   · exact .inl (.inr (.inl (by rw[vU fa _ xs.length _ fc];exact q)))
   · rcases hv7 b q with q|q
     · exact .inl (.inr (.inr q))
     · exact .inr q
theorem Ac (k:fV Z h ub wv gv u) (hw:u.were.length<1000000) (hw2:u.gone.length<1000000) :
 af Tryz.prog 139 #[.pointer (some ⟨ub,0,none⟩),.pointer (some ⟨ub,3,none⟩),.pointer (some ⟨ub,2,none⟩)] h (aX fun r h'=>((jV u=none/\h'=h/\r= .tuple #[.pointer none,.int .i64 0,.bool false])\/∃u' tv wv' gv',jV u=some u'/\r= .tuple #[tv,.int .i64 u'.c,.bool true]/\Bt Z h' tv u'.t/\fV Z h' ub wv' gv' u'/\(∀b,q9 ub wv' gv' b->q9 ub wv gv b\/h.size<=b))/\Ext (q9 ub wv gv) h h'):=by
 obtain⟨tv0,kb,kt0⟩:=k.blk;obtain⟨b0,vl0,l0,rfl,_⟩:=id kt0;obtain⟨css,hc1,hc2,hc3⟩:=id k.were;obtain⟨xss,hx1,hx2,hx3⟩:=id k.gone;obtain⟨fa,fc,rfl,hfw⟩:=hx2.open;have hfle:=hfw.le;refine af.of func139 rfl rfl ?_;refine b9 func139 3 [0,1,2,6,7,8] rfl ?_;refine eB func139 2 rfl ?_;refine xp rfl (au H.xW rfl (kb.cell (i:=3) rfl)) ?_;refine xp rfl (an.cM underlying86 rfl) ?_;refine xp rfl (an.kV rfl rfl ⟨by omega,by omega⟩) ?_;refine cV 1 [0,1,2,6,7,8,9] rfl ?_;refine aC rfl ?_;refine b9 func139 2 [0,1,2,6,7,8,9,16] rfl ?_;refine dQ rfl rfl (fun h0=>?_) (fun h0=>?_)
 · have hn:u.gone=[]:=List.eq_nil_of_length_eq_zero (by omega);refine b9 func139 3 [0,1,2,6,7,8,9,16] rfl ?_;refine bM func139 rfl rfl ?_;exact⟨_,rfl,.inl ⟨by unfold jV;rw[hn];rfl,rfl,rfl⟩,Ext.refl _ _⟩
 · obtain⟨xs,⟨x,xc⟩,hxs⟩:∃xs x,u.gone=xs++[x]:=⟨_,_,(List.dropLast_concat_getLast (fun e=>h0 (by rw[e];decide))).symm⟩
   have hxl:u.gone.length=xs.length+1:=by rw[hxs];simp
   have hd1:¬(bV wv.ownBlock ub\/Array.size h<=ub):=fun e=>by
    rcases e with e|e
    · exact(k.yS _ e.symm).ne kb.ty (by decide) rfl
    · have:=kb.lt;omega
   refine aR rfl ?_;refine aC rfl ?_;refine cU (fun b=>bV wv.ownBlock b\/Array.size h<=b) (fun i=>Nat.blt i 11) (sz:=12) (listed:= #[false,false,false,false,false,false,false,false,false,false,false,false]) func139 H.mixed rfl rfl rfl ?_;refine aP 0 1 (by kernel_rfl) rfl ?_;refine aP 1 3 (by kernel_rfl) rfl ?_;refine aP 2 7 (by kernel_rfl) rfl ?_;refine cj 3 15 (by kernel_rfl) rfl (fun h' e=>au H.xW rfl (e.cell hd1 (kb.cell (i:=2) rfl))) ?_;refine aP 4 31 (by kernel_rfl) rfl ?_;refine aP 5 63 (by kernel_rfl) rfl ?_;refine cj 6 127 (by kernel_rfl) rfl (fun h' e=>aa (off:=0) underlying88 rfl rfl H.iM rfl) ?_;refine cj 7 255 (by kernel_rfl) rfl (fun h' e=>an.aG H.JM H.iM rfl (e.rowAt hd1 (ju (xs:=[.pointer (some ⟨b0,0,none⟩),.int .i64 u.c]) kb.row)) (by first|rfl|(simp;done)|(simp;omega))) ?_;refine jU 8 511 (by kernel_rfl) rfl (az.cy (cs:=[_,_]) underlying86 H.G4 rfl rfl (by decide)) ?_;rintro _ _ ⟨rfl,rfl⟩;refine⟨fun _=>by first|exact Ext.push _ _ _|assumption,?_⟩;refine jU 9 1023 (by kernel_rfl) rfl (az.fM underlying86 H.G4 rfl rfl (hc2) rfl rfl (by first|decide|simp[Value.oneCell']) (by omega) (by decide) (by omega)) ?_;rintro v7 h7 ⟨ho7,hx7,hx7',hv7⟩;refine⟨fun _=>hx7'.mono (fun _ _ q=>.inl q),?_⟩;obtain⟨ga,gc,rfl,_⟩:=ho7.open;have kb7:=kb.ext hx7 (fun e=>hd1 (.inl e));refine aP 10 2047 (by kernel_rfl) rfl ?_;refine rf 11 4095 (by kernel_rfl) rfl (az.aO H.lW rfl rfl kb7 (by first|decide|exact of_decide_eq_true rfl|(simp;done)|(simp;omega)) rfl) ?_;rintro _ h8 ⟨rfl,k8,x8,z8⟩;refine⟨fun hk=>(nomatch hk),?_⟩;have to8:=s9 k.yS kb.ty hc1 hc3 kt0 ho7 hx7 hv7 x8;have hMw:∀b,bV wv.ownBlock b->Ot Z h b:=fun b e=>dO (k.yS b e.symm) (by decide) (by decide)
   have fr7:=iD k.gone hx7 (fun b hb e=>k.ne b e.symm hb) hMw;have hM8:∀b,b=ub->Ot Z h7 b:=fun b e=>by subst e;exact dO kb7.ty (by decide) (by decide)
   have fr8:=iD fr7 x8 (fun b hb e=>by subst e;obtain⟨_,q⟩:=fr7.own;exact(show bD h7 b 85 from ax.ty q hb).ne kb7.ty (by decide) rfl) hM8
   have hne8:∀b,(Value.slice fa u.gone.length fc).ownBlock=some b->(Value.slice ga (u.were.length+1) gc).ownBlock≠some b:=fun b hb e=>by
    rcases hv7 b e with q|q
    · have e:=q.symm;exact k.ne b e.symm hb
    · have:=(hx2.lt hb).2;omega
   obtain⟨gb,gcc,cs,hgv,_,hgl,hrow,_,⟨tvx,rfl,hpx⟩,_⟩:=fr8.put (i:=xs.length) (x:=(x,xc)) (by rw[hxs,List.getElem?_concat_length]);have hfa:fa=some ⟨gb,0,none⟩:=by cases hgv;rfl
   have hcut:=Fh fr8 rfl (i:=xs.length) (by omega);rw[hxs,List.take_left] at hcut;obtain⟨bx,vlx,lx,rfl,_⟩:=id hpx;refine RD.done (by kernel_rfl) ?_;refine xu [0,1,2,6,7,8,9,16] rfl ?_;refine aC rfl ?_;refine cU (fun b=>Array.size h8<=b) (fun i=>Nat.blt i 15) (sz:=18) (listed:= #[false,false,false,false,false,false,false,false,false,false,false,false,false,false,false,false,false,false]) func139 H.mixed rfl rfl rfl ?_;refine aP 0 1 (by kernel_rfl) rfl ?_;refine aP 2 5 (by kernel_rfl) rfl ?_;refine aP 3 13 (by kernel_rfl) rfl ?_;refine cj 4 29 (by kernel_rfl) rfl (fun h' e=>au H.xW rfl (e.old (k8.cell (i:=3) rfl))) ?_;refine aP 5 61 (by kernel_rfl) rfl ?_;refine cj 6 125 (by kernel_rfl) rfl (fun h' e=>an.cx underlying86 H.iM rfl rfl xs.length (by omega) hfa (by omega)) ?_;refine cj 7 253 (by kernel_rfl) rfl (fun h' e=>an.aG H.JM H.iM rfl (e.IJ hrow) (by first|rfl|(simp;done)|(simp;omega))) ?_;refine aP 8 509 (by kernel_rfl) rfl ?_;refine aP 9 1021 (by kernel_rfl) rfl ?_;refine cj 10 2045 (by kernel_rfl) rfl (fun h' e=>au H.xW rfl (e.old (k8.cell (i:=3) rfl))) ?_;refine aP 13 10237 (by kernel_rfl) rfl ?_;refine cj 14 26621 (by kernel_rfl) rfl (fun h' e=>aa (off:=0) underlying88 rfl rfl H.iM rfl) ?_;refine RD.nC 1 (listed':= #[true,true,true,true,true,true,true,true,true,true,true,false,false,true,true,false,false,false]) rfl (by kernel_rfl) (by kernel_rfl) (by kernel_rfl) rfl rfl rfl (fun _=>aS rfl) rfl ?_;refine RD.nC 11 (listed':= #[true,true,true,true,true,true,true,true,true,true,true,true,false,true,true,false,false,false]) rfl (by kernel_rfl) (by kernel_rfl) (by kernel_rfl) rfl rfl rfl (fun _=>aS rfl) rfl ?_;refine RD.nC 12 (listed':= #[true,true,true,true,true,true,true,true,true,true,true,true,true,true,true,false,false,false]) rfl (by kernel_rfl) (by kernel_rfl) (by kernel_rfl) rfl rfl rfl (fun _=>an.cW underlying86 H.iM rfl rfl xs.length (by omega) (by omega)) rfl ?_;refine rf 15 65535 (by kernel_rfl) rfl (az.aH H.iM rfl rfl k8 (by first|rfl|(simp;done)|(simp;omega)) (by first|decide|exact of_decide_eq_true rfl|(simp;done)|(simp;omega)) (by first|decide|simp[Value.oneCell'])) ?_;rintro _ h9 ⟨rfl,k9,x9,z9⟩;refine⟨fun hk=>(nomatch hk),?_⟩;refine aP 16 131071 (by kernel_rfl) rfl ?_;refine rf 17 262143 (by kernel_rfl) rfl (az.aO H.lW rfl rfl k9 (by first|decide|exact of_decide_eq_true rfl|(simp;done)|(simp;omega)) rfl) ?_;rintro _ hA ⟨rfl,kA,xA,zA⟩;refine⟨fun hk=>(nomatch hk),?_⟩;refine RD.done (by kernel_rfl) ?_;refine xu [0,1,2,6,7,8,9,16] rfl ?_;refine eB func139 2 rfl ?_;refine xp rfl (aa (off:=4) underlying88 rfl rfl H.ck rfl) ?_;refine RW.fS rfl rfl rfl (az.aO H.ck rfl rfl kA (by first|decide|exact of_decide_eq_true rfl|(simp;done)|(simp;omega)) rfl) ?_;rintro _ hB ⟨rfl,kB,xB,zB⟩;have xx:=(x9.trans xA).trans xB;have kB:aE hB ub 88 [.pointer (some ⟨bx,0,none⟩),.int .i64 xc,.slice ga (u.were.length+1) gc,.slice fa xs.length fc,.int .i64 0]:=by rw[iB] at kB;exact kB
   have hMB:∀b,b=ub->Ot Z h8 b:=fun b e=>by subst e;exact dO k8.ty (by decide) (by decide)
   have hub:∀{v:Value}{ys:List (By×Int)},fm Dk (Ot Z h8) h8 0 85 v ys->fm Dk (Ot Z hB) hB 0 85 v ys:=fun {v ys} kk=>iD kk xx (fun b hb e=>by subst e;obtain⟨_,q⟩:=kk.own;exact(show bD h8 b 85 from ax.ty q hb).ne k8.ty (by decide) rfl) hMB
   have ktB:Bt Z hB (.pointer (some ⟨bx,0,none⟩)) x:=(hpx.mv (O':=Ot Z h8) ⟨Nat.le_refl _,fun b _ hn=>⟨rfl,fun q=>hn (.inr q)⟩⟩).mv (iR xx hMB);have hto:=hub to8;have hfr:=hub hcut;have e0B:Ext (q9 ub wv (.slice fa u.gone.length fc)) h hB:=(hx7.mono (fun b _ e=>.inr (.inl e.symm))).trans ((x8.trans xx).mono (fun b _ e=>.inl e));refine xd [0,1,2,6,7,8,9,16] rfl ?_;refine aC rfl ?_;refine cU (fun b=>Array.size hB<=b) (fun i=>Nat.blt i 13) (sz:=13) (listed:= #[false,false,false,false,false,false,false,false,false,false,false,false,false]) func139 H.mixed rfl rfl rfl ?_;refine aP 0 1 (by kernel_rfl) rfl ?_;refine aP 1 3 (by kernel_rfl) rfl ?_;refine cj 2 7 (by kernel_rfl) rfl (fun h' e=>aa (off:=0) underlying88 rfl rfl H.iM rfl) ?_;refine cj 3 15 (by kernel_rfl) rfl (fun h' e=>aa (off:=0) underlying85 rfl rfl H.vw rfl) ?_;refine cj 4 31 (by kernel_rfl) rfl (fun h' e=>au H.JP rfl (e.old (kB.cell (i:=0) rfl))) ?_;refine aP 5 63 (by kernel_rfl) rfl ?_;refine aP 6 127 (by kernel_rfl) rfl ?_;refine cj 7 255 (by kernel_rfl) rfl (fun h' e=>aa (off:=0) underlying88 rfl rfl H.iM rfl) ?_;refine cj 8 511 (by kernel_rfl) rfl (fun h' e=>aa (off:=1) underlying85 rfl rfl H.ck rfl) ?_;refine cj 9 1023 (by kernel_rfl) rfl (fun h' e=>au H.gS rfl (e.old (kB.cell (i:=1) rfl))) ?_;refine aP 10 2047 (by kernel_rfl) rfl ?_;refine aP 11 4095 (by kernel_rfl) rfl ?_;refine aP 12 8191 (by kernel_rfl) rfl ?_;refine RD.done (by kernel_rfl) ?_;refine xu [0,1,2,6,7,8,9,16] rfl ?_;refine bM func139 rfl rfl ?_;refine⟨_,rfl,.inr ⟨⟨x,xc,u.were++[(u.t,u.c)],xs,0⟩,_,_,_,by unfold jV;rw[hxs,List.getLast?_concat];dsimp only;rw[List.dropLast_concat],rfl,ktB,⟨⟨_,kB,ktB⟩,hto,hfr,fun b hb e=>hne8 b (by rw[vU fa _ xs.length _ fc];exact e) hb⟩,fun b hb=>?_⟩,e0B⟩
   rcases hb with rfl|q|q
   · exact .inl (.inl rfl)
   · rcases hv7 b q with q|q
     · exact .inl (.inr (.inl q))
     · exact .inr q
   · exact .inl (.inr (.inr (by rw[vU fa _ xs.length _ fc];exact q)))
theorem Dv (k:fV Z h ub wv gv u) (hw:u.were.length<1000000) (hw2:u.gone.length<1000000) :
 af Tryz.prog 86 #[.pointer (some ⟨ub,0,none⟩)] h (aX fun r h'=>((ny u=none/\h'=h/\r= .tuple #[.pointer none,.int .i64 0,.bool false])\/∃u' tv wv' gv',ny u=some u'/\r= .tuple #[tv,.int .i64 u'.c,.bool true]/\Bt Z h' tv u'.t/\fV Z h' ub wv' gv' u'/\(∀b,q9 ub wv' gv' b->q9 ub wv gv b\/h.size<=b))/\Ext (q9 ub wv gv) h h'):=by
 obtain⟨tv0,kb,kt0⟩:=k.blk;obtain⟨b0,vl0,l0,rfl,_⟩:=id kt0;refine af.of func86 rfl rfl ?_;refine b9 func86 3 [0,2,3,4] rfl ?_;refine aC rfl ?_;refine eB func86 1 rfl ?_;refine xo rfl (ay (vs:=[_]) func51 rfl H.Mw rfl (af.cD (vp kb))) ?_;rintro _ h0 ⟨rfl,hh0⟩;refine xd [0,2,3,4,6] rfl ?_;subst hh0;refine aA rfl rfl (fun hc=>absurd hc (by decide)) (fun _=>?_);refine aR rfl ?_;refine aC rfl ?_;refine cU (q9 ub wv gv) (fun i=>Nat.blt i 14) (sz:=14) (listed:= #[false,false,false,false,false,false,false,false,false,false,false,false,false,false]) func86 H.mixed rfl rfl rfl ?_;refine aP 0 1 (by kernel_rfl) rfl ?_;refine aP 1 3 (by kernel_rfl) rfl ?_;refine aP 2 7 (by kernel_rfl) rfl ?_;refine cj 3 15 (by kernel_rfl) rfl (fun h' e=>aa (off:=2) underlying88 rfl rfl H.lW rfl) ?_;refine aP 4 31 (by kernel_rfl) rfl ?_;refine aP 5 63 (by kernel_rfl) rfl ?_;refine cj 6 127 (by kernel_rfl) rfl (fun h' e=>aa (off:=3) underlying88 rfl rfl H.lW rfl) ?_;refine jU 7 255 (by kernel_rfl) rfl (ay (vs:=[_,_,_]) func139 rfl H.LD rfl (af.cD (BC k hw hw2))) ?_;rintro r1 h1 ⟨hr,e1⟩;refine⟨fun _=>e1,?_⟩
 rcases hr with ⟨hn,rfl,rfl⟩|⟨u',tv,wv',gv',hu,rfl,hr⟩
 · refine aP 8 511 (by kernel_rfl) rfl ?_;refine aP 9 1023 (by kernel_rfl) rfl ?_;refine aP 10 2047 (by kernel_rfl) rfl ?_;refine aP 11 4095 (by kernel_rfl) rfl ?_;refine aP 12 8191 (by kernel_rfl) rfl ?_;refine aP 13 16383 (by kernel_rfl) rfl ?_;refine RD.done (by kernel_rfl) ?_;refine xu [0,2,3,4,6] rfl ?_;refine bM func86 rfl rfl ?_;exact⟨_,rfl,.inl ⟨hn,rfl,rfl⟩,e1⟩
 · refine aP 8 511 (by kernel_rfl) rfl ?_;refine aP 9 1023 (by kernel_rfl) rfl ?_;refine aP 10 2047 (by kernel_rfl) rfl ?_;refine aP 11 4095 (by kernel_rfl) rfl ?_;refine aP 12 8191 (by kernel_rfl) rfl ?_;refine aP 13 16383 (by kernel_rfl) rfl ?_;refine RD.done (by kernel_rfl) ?_;refine xu [0,2,3,4,6] rfl ?_;refine bM func86 rfl rfl ?_;exact⟨_,rfl,.inr ⟨u',tv,wv',gv',hu,rfl,hr⟩,e1⟩
theorem DQ (k:fV Z h ub wv gv u) (hw:u.were.length<1000000) (hw2:u.gone.length<1000000) :
 af Tryz.prog 85 #[.pointer (some ⟨ub,0,none⟩)] h (aX fun r h'=>((jV u=none/\h'=h/\r= .tuple #[.pointer none,.int .i64 0,.bool false])\/∃u' tv wv' gv',jV u=some u'/\r= .tuple #[tv,.int .i64 u'.c,.bool true]/\Bt Z h' tv u'.t/\fV Z h' ub wv' gv' u'/\(∀b,q9 ub wv' gv' b->q9 ub wv gv b\/h.size<=b))/\Ext (q9 ub wv gv) h h'):=by
 obtain⟨tv0,kb,kt0⟩:=k.blk;obtain⟨b0,vl0,l0,rfl,_⟩:=id kt0;refine af.of func85 rfl rfl ?_;refine b9 func85 3 [0,2,3,4] rfl ?_;refine aC rfl ?_;refine eB func85 1 rfl ?_;refine xo rfl (ay (vs:=[_]) func51 rfl H.Mw rfl (af.cD (vp kb))) ?_;rintro _ h0 ⟨rfl,hh0⟩;refine xd [0,2,3,4,6] rfl ?_;subst hh0;refine aA rfl rfl (fun hc=>absurd hc (by decide)) (fun _=>?_);refine aR rfl ?_;refine aC rfl ?_;refine cU (q9 ub wv gv) (fun i=>Nat.blt i 14) (sz:=14) (listed:= #[false,false,false,false,false,false,false,false,false,false,false,false,false,false]) func85 H.mixed rfl rfl rfl ?_;refine aP 0 1 (by kernel_rfl) rfl ?_;refine aP 1 3 (by kernel_rfl) rfl ?_;refine aP 2 7 (by kernel_rfl) rfl ?_;refine cj 3 15 (by kernel_rfl) rfl (fun h' e=>aa (off:=3) underlying88 rfl rfl H.lW rfl) ?_;refine aP 4 31 (by kernel_rfl) rfl ?_;refine aP 5 63 (by kernel_rfl) rfl ?_;refine cj 6 127 (by kernel_rfl) rfl (fun h' e=>aa (off:=2) underlying88 rfl rfl H.lW rfl) ?_;refine jU 7 255 (by kernel_rfl) rfl (ay (vs:=[_,_,_]) func139 rfl H.LD rfl (af.cD (Ac k hw hw2))) ?_;rintro r1 h1 ⟨hr,e1⟩;refine⟨fun _=>e1,?_⟩
 rcases hr with ⟨hn,rfl,rfl⟩|⟨u',tv,wv',gv',hu,rfl,hr⟩
 · refine aP 8 511 (by kernel_rfl) rfl ?_;refine aP 9 1023 (by kernel_rfl) rfl ?_;refine aP 10 2047 (by kernel_rfl) rfl ?_;refine aP 11 4095 (by kernel_rfl) rfl ?_;refine aP 12 8191 (by kernel_rfl) rfl ?_;refine aP 13 16383 (by kernel_rfl) rfl ?_;refine RD.done (by kernel_rfl) ?_;refine xu [0,2,3,4,6] rfl ?_;refine bM func85 rfl rfl ?_;exact⟨_,rfl,.inl ⟨hn,rfl,rfl⟩,e1⟩
 · refine aP 8 511 (by kernel_rfl) rfl ?_;refine aP 9 1023 (by kernel_rfl) rfl ?_;refine aP 10 2047 (by kernel_rfl) rfl ?_;refine aP 11 4095 (by kernel_rfl) rfl ?_;refine aP 12 8191 (by kernel_rfl) rfl ?_;refine aP 13 16383 (by kernel_rfl) rfl ?_;refine RD.done (by kernel_rfl) ?_;refine xu [0,2,3,4,6] rfl ?_;refine bM func85 rfl rfl ?_;exact⟨_,rfl,.inr ⟨u',tv,wv',gv',hu,rfl,hr⟩,e1⟩
theorem G6 {a b:By}{f t e:Nat}(hd:a.drop t=b.drop e) (hc:f<t/\f<e/\a[t-1]? =b[e-1]?) (h4:f<=t/\t<=a.length/\f<=e/\e<=b.length):a.drop (t-1)=b.drop (e-1):=by
 have h1:t-1<a.length:=by omega
 have h2:e-1<b.length:=by omega
 have h3:=hc.2.2;rw[List.getElem?_eq_getElem h1,List.getElem?_eq_getElem h2] at h3;rw[List.drop_eq_getElem_cons h1,List.drop_eq_getElem_cons h2,Option.some.inj h3,show t-1+1=t by omega,show e-1+1=e by omega,hd]
theorem Bf (a b:By) (hal:a.length<=1000000) (hbl:b.length<=1000000) :
 af Tryz.prog 48 #[.string (bs a),.string (bs b)] h (aX fun r h'=>(∃f t z:Nat,r= .tuple #[.int .i64 f,.int .i64 t,.int .i64 z]/\f<=t/\t<=a.length/\f<=z/\z<=b.length/\a.take f=b.take f/\a.drop t=b.drop z)/\h'=h):=by
 have hba:=aF a;have hbb:=aF b;refine af.of func48 rfl rfl ?_;refine b9 func48 3 [0,1,4,5,6] rfl ?_;refine aC rfl ?_;refine G.block rfl rfl ?_;refine hU (σ:=Nat) (fun f=>[(0,.string (bs a)),(1,.string (bs b)),(4,.int .i64 (f:Nat))]) (fun f h'=>h'=h/\f<=a.length/\f<=b.length/\a.take f=b.take f) (fun f=>a.length-f) (0) rfl ⟨rfl,rfl,rfl,trivial⟩ ⟨rfl,Nat.zero_le _,Nat.zero_le _,rfl⟩ ?_;rintro f g ⟨hg,hfa,hfb,htk⟩ ih;subst hg;refine aC rfl ?_;refine aC rfl ?_;refine G.pq [(22,.bool (decide (f<a.length/\f<b.length/\a[f]? =b[f]?)))] [(0,_),(1,_),(4,_)] ⟨rfl,rfl,rfl,trivial⟩ (fun b=>Array.size g<=b) (fun i=>Nat.blt i 16) (sz:=16) (listed:= #[false,false,false,false,false,false,false,false,false,false,false,false,false,false,false,false]) func48 H.mixed rfl rfl rfl ?_ ?_
 · refine aP 0 1 (by kernel_rfl) rfl ?_;refine aP 1 3 (by kernel_rfl) rfl ?_;refine cj 2 7 (by kernel_rfl) rfl (fun h' e=>an.bH underlying9 rfl) ?_;refine aP 3 15 (by kernel_rfl) rfl ?_;refine cj 4 31 (by kernel_rfl) rfl (fun h' e=>an.bH underlying9 rfl) ?_;refine cj 5 63 (by kernel_rfl) rfl (fun h' e=>an.min2 rfl rfl) ?_;refine aP 6 127 (by kernel_rfl) rfl ?_;refine aP 7 255 (by kernel_rfl) rfl ?_;refine RD.split (d:=14) rfl (fun hg1=>?_) (fun hg1=>?_)
   · have hg1':=of_decide_eq_true hg1;have hq:f<a.length/\f<b.length:=by split at hg1'<;>omega
     obtain⟨x,hx⟩:∃x,a[f]? =some x:=⟨_,List.getElem?_eq_getElem hq.1⟩
     obtain⟨y,hy⟩:∃y,b[f]? =some y:=⟨_,List.getElem?_eq_getElem hq.2⟩
     refine aP 8 511 (by kernel_rfl) rfl ?_;refine aP 9 1023 (by kernel_rfl) rfl ?_;refine cj 10 2047 (by kernel_rfl) rfl (fun h' e=>an.fF underlying9 rfl rfl f rfl (iq hx)) ?_;refine aP 11 4095 (by kernel_rfl) rfl ?_;refine aP 12 8191 (by kernel_rfl) rfl ?_;refine cj 13 16383 (by kernel_rfl) rfl (fun h' e=>an.fF underlying9 rfl rfl f rfl (iq hy)) ?_;refine aP 14 32767 (by kernel_rfl) rfl ?_;refine aP 15 65535 (by kernel_rfl) rfl ?_;refine RD.done (by kernel_rfl) ?_;exact⟨rfl,aq rfl (by rw[hx,hy];simp[hq.1,hq.2,<-UInt8.toNat_inj];omega),rfl,rfl,rfl,trivial⟩
   · have hg1':=of_decide_eq_false hg1;have hq:¬(f<a.length/\f<b.length):=by split at hg1'<;>omega
     refine dw 8 511 (by kernel_rfl) rfl ?_;refine dw 9 1023 (by kernel_rfl) rfl ?_;refine dw 10 2047 (by kernel_rfl) rfl ?_;refine dw 11 4095 (by kernel_rfl) rfl ?_;refine dw 12 8191 (by kernel_rfl) rfl ?_;refine dw 13 16383 (by kernel_rfl) rfl ?_;refine dw 14 32767 (by kernel_rfl) rfl ?_;refine aP 15 65535 (by kernel_rfl) rfl ?_;refine RD.done (by kernel_rfl) ?_;exact⟨rfl,aq rfl (by rw[eq_comm,decide_eq_false_iff_not];exact fun q=>hq ⟨q.1,q.2.1⟩),rfl,rfl,rfl,trivial⟩
 · refine dQ rfl rfl (fun hc=>?_) (fun hc=>?_)
   · refine aR rfl ?_;refine G.block rfl rfl ?_;refine G.eM func48 rfl ?_;refine eU 1 rfl rfl (an.dm rfl rfl ⟨by omega,by omega⟩) ?_;refine cV 1 [0,1,4,22] rfl ?_;refine G.cz ?_;exact ih (f+1) _ _ ⟨rfl,rfl,rfl,trivial⟩ ⟨rfl,hc.1,hc.2.1,by rw[List.take_add_one,List.take_add_one,htk,hc.2.2]⟩ (by omega)
   · refine jb rfl rfl ?_;refine eB func48 1 rfl ?_;refine xp rfl (an.bH underlying9 rfl) ?_;refine eU 1 rfl rfl (an.bH underlying9 rfl) ?_;refine cV 2 [0,1,4,5,6,22] rfl ?_;refine aC rfl ?_;refine G.block rfl rfl ?_;refine hU (σ:=Nat×Nat) (fun q=>[(0,.string (bs a)),(1,.string (bs b)),(4,.int .i64 (f:Nat)),(5,.int .i64 (q.1:Nat)),(6,.int .i64 (q.2:Nat))]) (fun q h'=>h'=g/\(f<=q.1/\q.1<=a.length/\f<=q.2/\q.2<=b.length)/\a.drop q.1=b.drop q.2) (fun q=>q.1) ((a.length,b.length)) rfl ⟨rfl,rfl,rfl,rfl,rfl,trivial⟩ ⟨rfl,⟨hfa,Nat.le_refl _,hfb,Nat.le_refl _⟩,by rw[List.drop_length,List.drop_length]⟩ ?_;rintro⟨t,z⟩ g2 ⟨hg2,hb4,hd⟩ ih2
     try dsimp only
     dsimp only at hb4 hd;subst hg2;refine aC rfl ?_;refine aC rfl ?_;refine G.pq [(47,.bool (decide (f<t/\f<z/\a[t-1]? =b[z-1]?)))] [(0,_),(1,_),(4,_),(5,_),(6,_)] ⟨rfl,rfl,rfl,rfl,rfl,trivial⟩ (fun b=>Array.size g2<=b) (fun i=>Nat.blt i 19) (sz:=19) (listed:= #[false,false,false,false,false,false,false,false,false,false,false,false,false,false,false,false,false,false,false]) func48 H.mixed rfl rfl rfl ?_ ?_
     · refine aP 0 1 (by kernel_rfl) rfl ?_;refine aP 1 3 (by kernel_rfl) rfl ?_;refine aP 2 7 (by kernel_rfl) rfl ?_;refine aP 3 15 (by kernel_rfl) rfl ?_;refine RD.split (d:=32) rfl (fun hg1=>?_) (fun hg1=>?_)
       · have hg1':=of_decide_eq_true hg1;refine aP 4 31 (by kernel_rfl) rfl ?_;refine aP 5 63 (by kernel_rfl) rfl ?_;refine aP 6 127 (by kernel_rfl) rfl ?_;refine aP 7 255 (by kernel_rfl) rfl ?_;refine aP 8 511 (by kernel_rfl) rfl ?_;refine RD.split (d:=37) rfl (fun hg2=>?_) (fun hg2=>?_)
         · have hg2':=of_decide_eq_true hg2;obtain⟨x,hx⟩:∃x,a[t-1]? =some x:=⟨_,List.getElem?_eq_getElem (by omega)⟩
           obtain⟨y,hy⟩:∃y,b[z-1]? =some y:=⟨_,List.getElem?_eq_getElem (by omega)⟩
           refine aP 9 1023 (by kernel_rfl) rfl ?_;refine aP 10 2047 (by kernel_rfl) rfl ?_;refine cj 11 4095 (by kernel_rfl) rfl (fun h' e=>an.kV rfl rfl ⟨by omega,by omega⟩) ?_;refine cj 12 8191 (by kernel_rfl) rfl (fun h' e=>an.fF underlying9 rfl rfl (t-1) (by omega) (iq hx)) ?_;refine aP 13 16383 (by kernel_rfl) rfl ?_;refine aP 14 32767 (by kernel_rfl) rfl ?_;refine cj 15 65535 (by kernel_rfl) rfl (fun h' e=>an.kV rfl rfl ⟨by omega,by omega⟩) ?_;refine cj 16 131071 (by kernel_rfl) rfl (fun h' e=>an.fF underlying9 rfl rfl (z-1) (by omega) (iq hy)) ?_;refine aP 17 262143 (by kernel_rfl) rfl ?_;refine aP 18 524287 (by kernel_rfl) rfl ?_;refine RD.done (by kernel_rfl) ?_;exact⟨rfl,aq rfl (by rw[hx,hy];simp[show f<t by omega,show f<z by omega,<-UInt8.toNat_inj];omega),rfl,rfl,rfl,rfl,rfl,trivial⟩
         · have hg2':=of_decide_eq_false hg2;refine dw 9 1023 (by kernel_rfl) rfl ?_;refine dw 10 2047 (by kernel_rfl) rfl ?_;refine dw 11 4095 (by kernel_rfl) rfl ?_;refine dw 12 8191 (by kernel_rfl) rfl ?_;refine dw 13 16383 (by kernel_rfl) rfl ?_;refine dw 14 32767 (by kernel_rfl) rfl ?_;refine dw 15 65535 (by kernel_rfl) rfl ?_;refine dw 16 131071 (by kernel_rfl) rfl ?_;refine dw 17 262143 (by kernel_rfl) rfl ?_;refine aP 18 524287 (by kernel_rfl) rfl ?_;refine RD.done (by kernel_rfl) ?_;exact⟨rfl,aq rfl (by rw[eq_comm,decide_eq_false_iff_not];exact fun q=>hg2' (by have:=q.2.1;omega)),rfl,rfl,rfl,rfl,rfl,trivial⟩
       · have hg1':=of_decide_eq_false hg1;refine dw 4 31 (by kernel_rfl) rfl ?_;refine dw 5 63 (by kernel_rfl) rfl ?_;refine dw 6 127 (by kernel_rfl) rfl ?_;refine aP 7 255 (by kernel_rfl) rfl ?_;refine aP 8 511 (by kernel_rfl) rfl ?_;refine dw 9 1023 (by kernel_rfl) rfl ?_;refine dw 10 2047 (by kernel_rfl) rfl ?_;refine dw 11 4095 (by kernel_rfl) rfl ?_;refine dw 12 8191 (by kernel_rfl) rfl ?_;refine dw 13 16383 (by kernel_rfl) rfl ?_;refine dw 14 32767 (by kernel_rfl) rfl ?_;refine dw 15 65535 (by kernel_rfl) rfl ?_;refine dw 16 131071 (by kernel_rfl) rfl ?_;refine dw 17 262143 (by kernel_rfl) rfl ?_;refine aP 18 524287 (by kernel_rfl) rfl ?_;refine RD.done (by kernel_rfl) ?_;exact⟨rfl,aq rfl (by rw[eq_comm,decide_eq_false_iff_not];exact fun q=>hg1' (by have:=q.1;omega)),rfl,rfl,rfl,rfl,rfl,trivial⟩
     · refine dQ rfl rfl (fun hc2=>?_) (fun hc2=>?_)
       · refine aR rfl ?_;refine G.block rfl rfl ?_;refine eB func48 1 rfl ?_;refine xp rfl (an.kV rfl rfl ⟨by omega,by omega⟩) ?_;refine cV 1 [0,1,4,5,6,47] rfl ?_;refine G.eM func48 rfl ?_;refine eU 1 rfl rfl (an.kV rfl rfl ⟨by omega,by omega⟩) ?_;refine cV 1 [0,1,4,5,6,47] rfl ?_;refine G.cz ?_;exact ih2 (t-1,z-1) _ _ ⟨rfl,rfl,rfl,congrArg (fun x:Int=>some (Value.int .i64 x)) (by omega),congrArg (fun x:Int=>some (Value.int .i64 x)) (by omega),trivial⟩ ⟨rfl,⟨by show f<=t-1;omega,by show t-1<=a.length;omega,by show f<=z-1;omega,by show z-1<=b.length;omega⟩,G6 hd hc2 hb4⟩ (by show t-1<t;omega)
       · refine jb rfl rfl ?_;refine b9 func48 6 [0,1,4,5,6,47] rfl ?_;refine bM func48 rfl rfl ?_;exact⟨_,rfl,⟨f,t,z,rfl,hb4.1,hb4.2.1,hb4.2.2.1,hb4.2.2.2,htk,hd⟩,rfl⟩
end
end Go.Proofs.YtpjgdgdnbkjoiaaGreatDoor
namespace Go.Proofs.YtpjgdgdnbkjoiaaGreatDoor
open Go
section
variable {s x:By}{j i:Nat}{t:Tk}
abbrev Pt:=Int×ew
def iV:List Tk->List ew->Int->List Pt
  |t::ts,s::ss,a=>if a+64<=t.2.1 then (t.2.1,s)::iV ts ss t.2.1 else iV ts ss a
  |_,_,_=>[]
def fW (s:By):List ew:=(rA s).dropLast
def B0 (s:By):List Pt:=(0,(0,0))::iV (aQ s).1 (fW s) 0
theorem nG (s:By):(rA s).length=(aQ s).1.length+1:=(vz s.length 0 s (0,0)).2
theorem nH (s:By):rA s=fW s++[(aQ s).2]:=by
  have h1:=vz s.length 0 s (0,0);have h2:(rA s).getLast? =some (aQ s).2:=h1.1;have h0:rA s≠[]:=fun e=>by rw[e] at h2;cases h2
  rw[List.getLast?_eq_some_getLast h0] at h2;have:=List.dropLast_concat_getLast h0;rw[Option.some.inj h2] at this;exact this.symm
theorem jy (s:By):(fW s).length=(aQ s).1.length:=by unfold fW;rw[List.length_dropLast,nG];omega
theorem Aj (hj:j<(aQ s).1.length):(fW s)[j]? =(rA s)[j]? :=by
  rw[nH,List.getElem?_append_left (by rw[jy];exact hj)]
def OR (s:By) (a:Nat) (st:ew):Prop:=∃j,j<(aQ s).1.length/\(cH j s 0 (0,0))=(a,st)
theorem Dz (hj:j<(aQ s).1.length):(cH j s 0 (0,0)).1<s.length /\
    (aQ s).1[j]? =some (mh (s.drop (cH j s 0 (0,0)).1) (cH j s 0 (0,0)).2.1,((cH j s 0 (0,0)).1:Int),(((cH j s 0 (0,0)).1+bB (s.drop (cH j s 0 (0,0)).1) (cH j s 0 (0,0)).2.1:Nat):Int)) /\
    (rA s)[j]? =some (cH j s 0 (0,0)).2/\(cH (j+1) s 0 (0,0)).1=(cH j s 0 (0,0)).1+bB (s.drop (cH j s 0 (0,0)).1) (cH j s 0 (0,0)).2.1/\(cH (j+1) s 0 (0,0)).2=dJ (s.drop (cH j s 0 (0,0)).1) (cH j s 0 (0,0)).2:=by
  have:=HR j s.length s 0 (0,0) (Nat.le_refl _) hj;rw[Nat.sub_zero,Nat.zero_add] at this;exact this
theorem kT (ht:(aQ s).1[j]? =some t):t.2.1=(cH j s 0 (0,0)).1:=by
  have hj:=(List.getElem?_eq_some_iff.1 ht).1;have:=(Dz hj).2.1;rw[ht] at this;rw[Option.some.inj this]
theorem Dy {u:Tk}(ht:(aQ s).1[i]? =some t) (hu:(aQ s).1[j]? =some u) (h:i<j):t.2.1<u.2.1:=by
  rw[kT ht,kT hu];have hj:=(List.getElem?_eq_some_iff.1 hu).1;have:=CE (j:=i) (i:=j) (n:=s.length) (l:=s) (a:=0) (st:=(0,0)) (Nat.le_refl _) hj h;omega
theorem rj (ht:(aQ s).1[j]? =some t):0<=t.2.1/\t.2.1<s.length/\t.2.2<=s.length/\t.2.1<t.2.2:=by
  have hj:=(List.getElem?_eq_some_iff.1 ht).1;obtain⟨h1,h2,_⟩:=Dz hj;have hne:s.drop (cH j s 0 (0,0)).1≠[]:=fun e=>by have:=congrArg List.length e;rw[List.length_drop] at this;simp at this;omega
  have h3:=dH hne (cH j s 0 (0,0)).2.1;rw[List.length_drop] at h3;rw[ht] at h2;obtain rfl:=Option.some.inj h2;exact⟨by simp,by simp only;omega,by simp only;omega,by simp only;omega⟩
theorem j6:∀(ts:List Tk) (ss:List ew) (a:Int),∀p∈iV ts ss a,a+64<=p.1
  | [],ss,a,p,h=>by simp[iV] at h
  |t::ts,[],a,p,h=>by simp[iV] at h
  |t::ts,s::ss,a,p,h=>by
    rw[iV] at h;split at h
    · rename_i ha
      rcases List.mem_cons.1 h with rfl|h
      · exact ha
      · have:=j6 ts ss t.2.1 p h;omega
    · exact j6 ts ss a p h
theorem Ay:∀(ts:List Tk) (ss:List ew) (a:Int),(iV ts ss a).Pairwise fun p q=>p.1<q.1
  | [],ss,a=>by simp[iV]
  |t::ts,[],a=>by simp[iV]
  |t::ts,s::ss,a=>by
    rw[iV];split
    · refine List.pairwise_cons.2 ⟨fun q hq=>?_,Ay ts ss t.2.1⟩;have:=j6 ts ss t.2.1 q hq;simp only;omega
    · exact Ay ts ss a
theorem Kq (s:By):(B0 s).Pairwise fun p q=>p.1<q.1:=by
  unfold B0;refine List.pairwise_cons.2 ⟨fun q hq=>?_,Ay _ _ _⟩;have:=j6 _ _ _ q hq;simp only;omega
theorem B1:∀(ts:List Tk) (ss:List ew) (a:Int),∀p∈iV ts ss a,∃(j:Nat) (t:Tk),ts[j]? =some t/\ss[j]? =some p.2/\t.2.1=p.1
  | [],ss,a,p,h=>by simp[iV] at h
  |t::ts,[],a,p,h=>by simp[iV] at h
  |t::ts,s::ss,a,p,h=>by
    have key:∀b,p∈iV ts ss b->∃(j:Nat) (t':Tk),(t::ts)[j]? =some t'/\(s::ss)[j]? =some p.2/\t'.2.1=p.1:=fun b hb=>by
      obtain⟨j,t',h1,h2,h3⟩:=B1 ts ss b p hb;exact⟨j+1,t',by simpa using h1,by simpa using h2,h3⟩
    rw[iV] at h;split at h
    · rcases List.mem_cons.1 h with rfl|h
      · exact⟨0,t,rfl,rfl,rfl⟩
      · exact key _ h
    · exact key _ h
theorem vP:∀(ts:List Tk) (ss:List ew) (a:Int),(iV ts ss a).length<=ts.length
  | [],ss,a=>by simp[iV]
  |t::ts,[],a=>by simp[iV]
  |t::ts,s::ss,a=>by
    rw[iV];split
    · have:=vP ts ss t.2.1;simp;omega
    · have:=vP ts ss a;simp;omega
theorem Iv {p:Pt}(h:p∈B0 s):p=(0,(0,0))\/∃j,j<(aQ s).1.length/\((cH j s 0 (0,0)).1:Int)=p.1/\(cH j s 0 (0,0)).2=p.2:=by
  rcases List.mem_cons.1 h with h|h
  · exact .inl h
  · obtain⟨j,t,h1,h2,h3⟩:=B1 _ _ _ p h;have hj:=(List.getElem?_eq_some_iff.1 h1).1;refine .inr ⟨j,hj,by rw[<-h3,kT h1],?_⟩;rw[Aj hj,(Dz hj).2.2.1] at h2;exact Option.some.inj h2
def J2 (pts:List Pt) (a:Int) (p:Pt):Prop:=p∈pts/\(p.1<=a-3\/p=(0,(0,0)))/\∀q∈pts,q.1<=a-3->q.1<=p.1
def Dd (s s':By) (d:Int) (x:Nat):Prop:=∃a st,OR s a st/\(a:Int)+d=x/\OR s' x st
def fq (s:By) (i j:Nat) (x:By):By:=s.take i++x++s.drop j
theorem KS (x:By) (hij:i<=j) (hj:j<=s.length):(fq s i j x).length=i+x.length+(s.length-j):=by
  simp only[fq,List.length_append,List.length_take,List.length_drop];omega
theorem Jg:∀(j:Nat) (l:By) (a:Nat) (st:ew),EW st.2->EW (cH j l a st).2.2
  | 0,l,a,st,h=>h
  |j+1,l,a,st,h=>by
    rw[cH];split
    · exact h
    · exact Jg j _ _ _ (Fj h l)
theorem J3:EW ((0,0):ew).2:=by unfold EW;simp
structure fI (s s':By) (lim:Nat) (d:Int) (p:Nat) (toks:List Tk) (sts:List ew) (a:Nat) (st:ew):Prop where
  le:a<=s'.length
  ge:p<=a
  len:toks.length<=(aQ s').1.length
  go:cH toks.length s' 0 (0,0)=(a,st)
  htoks:toks=(aQ s').1.take toks.length
  hsts:sts=(rA s').take toks.length
  no:∀x,p<=x->x<a->lim<=x->¬Dd s s' d x
theorem Hu (hj:j<=(aQ s).1.length):aQ s=((aQ s).1.take j++(cR s.length (s.drop (cH j s 0 (0,0)).1) (cH j s 0 (0,0)).1 (cH j s 0 (0,0)).2).1,(cR s.length (s.drop (cH j s 0 (0,0)).1) (cH j s 0 (0,0)).1 (cH j s 0 (0,0)).2).2) /\
    rA s=(rA s).take j++jj s.length (s.drop (cH j s 0 (0,0)).1) (cH j s 0 (0,0)).2:=by
  have:=Jf j s.length s 0 (0,0) (Nat.le_refl _) hj;rw[Nat.sub_zero] at this;exact this
theorem sI (hj:j<=(aQ s).1.length):(aQ s).1.drop j=(cR s.length (s.drop (cH j s 0 (0,0)).1) (cH j s 0 (0,0)).1 (cH j s 0 (0,0)).2).1/\(aQ s).2=(cR s.length (s.drop (cH j s 0 (0,0)).1) (cH j s 0 (0,0)).1 (cH j s 0 (0,0)).2).2 /\
    (rA s).drop j=jj s.length (s.drop (cH j s 0 (0,0)).1) (cH j s 0 (0,0)).2:=by
  obtain⟨h1,h2⟩:=Hu hj;have e1:=congrArg Prod.fst h1;have e2:=congrArg Prod.snd h1;simp only at e1 e2;have hs:=nG s;refine⟨?_,e2,?_⟩
  · have:=congrArg (List.drop j) e1;rw[List.drop_append,List.drop_take,Nat.sub_self,List.take_zero,List.nil_append,List.length_take,show j-min j (aQ s).1.length=0 by omega,List.drop_zero] at this;exact this
  · have:=congrArg (List.drop j) h2;rw[List.drop_append,List.drop_take,Nat.sub_self,List.take_zero,List.nil_append,List.length_take,show j-min j (rA s).length=0 by omega,List.drop_zero] at this;exact this
theorem Je (hj:j<=(aQ s).1.length):j<(aQ s).1.length↔(cH j s 0 (0,0)).1<s.length:=by
  have hg:=qE j s 0 (0,0);constructor
  · intro h;exact(Dz h).1
  · intro h
    rcases Nat.lt_or_ge j (aQ s).1.length with k|k
    · exact k
    · exfalso;have:=(sI hj).1;rw[List.drop_of_length_le k] at this;have hne:s.drop (cH j s 0 (0,0)).1≠[]:=fun e=>by have:=congrArg List.length e;rw[List.length_drop] at this;simp at this;omega
      rw[gO hne (by rw[List.length_drop];omega)] at this;cases this
theorem MF (hi:i<(aQ s).1.length) (hj:j<(aQ s).1.length) (h:(cH i s 0 (0,0)).1=(cH j s 0 (0,0)).1):i=j:=by
  rcases Nat.lt_trichotomy i j with k|k|k
  · have:=CE (j:=i) (i:=j) (n:=s.length) (l:=s) (a:=0) (st:=(0,0)) (Nat.le_refl _) hj k;omega
  · exact k
  · have:=CE (j:=j) (i:=i) (n:=s.length) (l:=s) (a:=0) (st:=(0,0)) (Nat.le_refl _) hi k;omega
theorem DB (hij:i<=j) (hj:j<=s.length){p:Pt}(hb:J2 (B0 s) i p){k:Nat}(hk:k<=(aQ s).1.length)
    (h1:∀(q:Nat) (t:Tk),q<k->(aQ s).1[q]? =some t->t.2.1<p.1) (h2:∀(q:Nat) (t:Tk),k<=q->(aQ s).1[q]? =some t->p.1<=t.2.1) (lim:Nat) (d:Int) :
    ∃a:Nat,p.1=a/\a<=i/\fI s (fq s i j x) lim d a ((aQ s).1.take k) ((fW s).take k) a p.2:=by
  have hs:=nG s
  by_cases hp:p=(0,(0,0))
  · subst hp
    have k0:k=0:=by
      rcases Nat.eq_zero_or_pos k with h|h
      · exact h
      · exfalso;have ht:(aQ s).1[0]? =some (aQ s).1[0]:=List.getElem?_eq_getElem (by omega);have:=h1 0 _ h ht;have:=(rj ht).1;simp only at *;omega
    subst k0;exact⟨0,rfl,Nat.zero_le _,Nat.zero_le _,Nat.le_refl _,by simp,by simp[cH],by simp,by simp,fun x h3 h4=>by omega⟩
  · obtain⟨hm,hle,_⟩:=hb;have hle:=hle.resolve_right hp
    rcases Iv hm with h|⟨q,hq,hq1,hq2⟩
    · exact absurd h hp
    · have ht:(aQ s).1[q]? =some (aQ s).1[q]:=List.getElem?_eq_getElem hq;have hf:=kT ht
      have kq:k=q:=by
        rcases Nat.lt_trichotomy k q with h|h|h
        · exfalso;have hu:(aQ s).1[k]? =some (aQ s).1[k]:=List.getElem?_eq_getElem (by omega);have h3:=Dy hu ht h;have h4:=h2 k _ (Nat.le_refl _) hu;omega
        · exact h
        · exfalso;have:=h1 q _ h ht;omega
      subst kq;have hA:s=s.take i++s.drop i:=(List.take_append_drop i s).symm;have hE:fq s i j x=s.take i++(x++s.drop j):=by unfold fq;rw[List.append_assoc]
      have hlen:(s.take i).length=i:=by rw[List.length_take];omega
      obtain⟨g1,g2,g3,g4⟩:=zk k s.length (fq s i j x).length (s.take i) (s.drop i) (x++s.drop j) 0 (0,0) (by rw[<-hA];exact Nat.le_refl _) (by rw[<-hE];exact Nat.le_refl _) (by rw[<-hA];exact hk) (.inr (by rw[<-hA,hlen];omega));rw[<-hE] at g1 g2 g3 g4;rw[<-hA] at g1 g3 g4;have hgk:cH k s 0 (0,0)=((cH k s 0 (0,0)).1,p.2):=by rw[<-hq2]
      have hl:((aQ s).1.take k).length=k:=by rw[List.length_take];omega
      refine⟨(cH k s 0 (0,0)).1,hq1.symm,by omega,?_,Nat.le_refl _,?_,?_,?_,?_,fun y h3 h4=>by omega⟩
      · have:=qE k (fq s i j x) 0 (0,0);rw[g1] at this;omega
      · rw[hl];exact g2
      · rw[hl,g1];exact hgk
      · rw[hl];exact g3.symm
      · rw[hl]
        have:(fW s).take k=(rA s).take k:=by
          rw[nH,List.take_append_of_le_length (by rw[jy];omega)]
        rw[this];exact g4.symm
section
variable {s s':By}{lim:Nat}{d:Int}{p:Nat}{toks:List Tk}{sts:List ew}{a:Nat}{st:ew}
theorem fI.lt (k:fI s s' lim d p toks sts a st) (ha:a<s'.length):toks.length<(aQ s').1.length:=by
  rw[Je k.len,k.go];exact ha
theorem fI.i64 (k:fI s s' lim d p toks sts a st):EW st.2:=by
  have:=Jg toks.length s' 0 (0,0) J3;rw[k.go] at this;exact this
theorem fI.NP (k:fI s s' lim d p toks sts a st):sts.length=toks.length:=by
  have h1:=k.hsts;have h2:=k.len;have h3:=nG s';rw[h1,List.length_take];omega
theorem fI.step (k:fI s s' lim d p toks sts a st) (ha:a<s'.length) (hn:lim<=a->¬Dd s s' d a) :
    fI s s' lim d p (toks++[(mh (s'.drop a) st.1,(a:Int),((a+bB (s'.drop a) st.1:Nat):Int))]) (sts++[st]) (a+bB (s'.drop a) st.1) (dJ (s'.drop a) st):=by
  have hl:=k.lt ha;obtain⟨t1,t2,t3,t4,t5⟩:=Dz hl;rw[k.go] at t1 t2 t3 t4 t5;simp only at t1 t2 t3 t4 t5;have hne:s'.drop a≠[]:=fun e=>by have:=congrArg List.length e;rw[List.length_drop] at this;simp at this;omega
  have h3:=dH hne st.1;rw[List.length_drop] at h3;have hgo:cH (toks.length+1) s' 0 (0,0)=(a+bB (s'.drop a) st.1,dJ (s'.drop a) st):=by rw[<-t4,<-t5]
  have hsl:=nG s';refine⟨by omega,by have:=k.ge;omega,by rw[List.length_append,List.length_singleton];omega,by rw[List.length_append,List.length_singleton];exact hgo,?_,?_,fun x h1 h2 h4 hsy=>?_⟩
  · rw[List.length_append,List.length_singleton,List.take_add_one,t2,<-k.htoks];rfl
  · rw[List.length_append,List.length_singleton,List.take_add_one,t3,<-k.hsts];rfl
  · rcases Nat.lt_trichotomy x a with h|h|h
    · exact k.no x h1 h h4 hsy
    · subst h;exact hn h4 hsy
    · obtain⟨_,st1,_,_,⟨q,hq,hqg⟩⟩:=hsy;have hqx:(cH q s' 0 (0,0)).1=x:=by rw[hqg]
      have hag:(cH toks.length s' 0 (0,0)).1=a:=by rw[k.go]
      have hlt:toks.length<q:=by
        rcases Nat.lt_trichotomy toks.length q with h5|h5|h5
        · exact h5
        · subst h5;omega
        · have:=CE (j:=q) (i:=toks.length) (n:=s'.length) (l:=s') (a:=0) (st:=(0,0)) (Nat.le_refl _) hl h5;omega
      rcases Nat.lt_or_ge (toks.length+1) q with h5|h5
      · have:=CE (j:=toks.length+1) (i:=q) (n:=s'.length) (l:=s') (a:=0) (st:=(0,0)) (Nat.le_refl _) hq h5;rw[hgo] at this;simp only at this;omega
      · obtain rfl:q=toks.length+1:=by omega
        rw[hgo] at hqx;simp only at hqx;omega
theorem Kv (k:fI s s' lim d p toks sts a st) (ha:a<s'.length){old:Nat}(h1:∀(r:Nat) (t:Tk),r<old->(aQ s).1[r]? =some t->t.2.1+d<max (a:Int) lim)
    (h2:∀t:Tk,(aQ s).1[old]? =some t->¬t.2.1+d<a) (h3:lim<=a->∀t:Tk,(aQ s).1[old]? =some t->t.2.1+d=a->¬(fW s)[old]? =some st) (hl:lim<=a):¬Dd s s' d a:=by
  rintro⟨a0,st0,⟨r,hr,hrg⟩,hd,⟨q,hq,hqg⟩⟩;have hqt:q=toks.length:=MF hq (k.lt ha) (by rw[hqg,k.go]);subst hqt;rw[k.go] at hqg;obtain rfl:st=st0:=congrArg Prod.snd hqg;have ht:(aQ s).1[r]? =some (aQ s).1[r]:=List.getElem?_eq_getElem hr;have hf:=kT ht;rw[hrg] at hf;simp only at hf
  have hro:old<=r:=by
    rcases Nat.lt_or_ge r old with h|h
    · exfalso;have:=h1 r _ h ht;omega
    · exact h
  have hu:(aQ s).1[old]? =some (aQ s).1[old]:=List.getElem?_eq_getElem (by omega);have h4:=h2 _ hu
  rcases Nat.lt_or_ge old r with h|h
  · have:=Dy hu ht h;omega
  · obtain rfl:old=r:=by omega
    refine h3 hl _ ht (by omega) ?_;rw[Aj hr,(Dz hr).2.2.1,hrg]
theorem fI.done (k:fI s s' lim d p toks sts a st) (ha:a=s'.length):toks=(aQ s').1/\sts=fW s'/\st=(aQ s').2:=by
  have hl:toks.length=(aQ s').1.length:=by
    rcases Nat.lt_or_ge toks.length (aQ s').1.length with h|h
    · rw[Je k.len,k.go] at h;simp only at h;omega
    · have:=k.len;omega
  refine⟨by rw[k.htoks,hl,List.take_length],?_,?_⟩
  · rw[k.hsts,hl];have:=jy s';rw[nH,List.take_append_of_le_length (by omega),<-this,List.take_length]
  · have:=(sI k.len).2.1;rw[k.go] at this;simp only at this;rw[this,ha,List.drop_length,lO]
end
theorem zN {a b:Nat}(hij:i<=j) (hj:j<=s.length) (ha:i+x.length<=a) (hab:(b:Int)+((x.length:Int)-((j:Int)-i))=a):(fq s i j x).drop a=s.drop b:=by
  unfold fq;have hl:(s.take i++x).length=i+x.length:=by rw[List.length_append,List.length_take];omega
  rw[List.drop_append,List.drop_of_length_le (by omega),List.nil_append,List.drop_drop,hl]
  congr 1;omega
theorem Dc (hij:i<=j) (hj:j<=s.length){p:Nat}{toks:List Tk}{sts:List ew}{a:Nat}{st:ew}{d:Int}(hd:d=(x.length:Int)-((j:Int)-i)) (k:fI s (fq s i j x) (i+x.length) d p toks sts a st)
    (ha:i+x.length<=a){old:Nat}(ht:(aQ s).1[old]? =some t) (h1:t.2.1+d=a) (h2:(fW s)[old]? =some st) :
    toks++((aQ s).1.drop old).map (Lx d)=(aQ (fq s i j x)).1/\sts++(fW s).drop old=fW (fq s i j x)/\(aQ s).2=(aQ (fq s i j x)).2:=by
  subst hd;have ho:=(List.getElem?_eq_some_iff.1 ht).1;have hf:=kT ht;obtain⟨b1,b2,b3⟩:=sI (s:=s) (j:=old) (by omega);obtain⟨c1,c2,c3⟩:=sI k.len;rw[k.go] at c1 c2 c3;simp only at c1 c2 c3
  have hst:(cH old s 0 (0,0)).2=st:=by
    rw[Aj ho,(Dz ho).2.2.1] at h2;exact Option.some.inj h2
  rw[hst] at b1 b2 b3;have hb:((cH old s 0 (0,0)).1:Int)+((x.length:Int)-((j:Int)-i))=a:=by omega
  rw[zN hij hj ha hb] at c1 c2 c3;generalize (cH old s 0 (0,0)).1=b at *;have hbl:(s.drop b).length<=s.length:=by rw[List.length_drop];omega
  have hbl':(s.drop b).length<=(fq s i j x).length:=by rw[<-zN hij hj ha hb,List.length_drop];omega
  have hsh:=xV ((x.length:Int)-((j:Int)-i)) (fq s i j x).length (s.drop b) b a st hb.symm;rw[pE _ s.length (s.drop b) b st hbl' hbl] at hsh;rw[hsh] at c1 c2;simp only at c1 c2;rw[sU _ s.length (s.drop b) st hbl' hbl] at c3;refine⟨?_,?_,by rw[b2,c2]⟩
  · rw[b1]
    conv=>lhs;rw[k.htoks]
    rw[<-c1,List.take_append_drop]
  · have hd1:(rA s).drop old=(fW s).drop old++[(aQ s).2]:=by
      have:=jy s;rw[nH,List.drop_append_of_le_length (by omega)]
    have e:sts++(fW s).drop old++[(aQ s).2]=fW (fq s i j x)++[(aQ (fq s i j x)).2]:=by
      rw[<-nH,List.append_assoc,<-hd1,b3,<-c3]
      conv=>lhs;rw[k.hsts]
      rw[List.take_append_drop]
    exact(List.append_inj' e rfl).1
end
end Go.Proofs.YtpjgdgdnbkjoiaaGreatDoor
namespace Go.Proofs.YtpjgdgdnbkjoiaaGreatDoor
open Go.Proofs.Tryz
open Go Go.Lw
set_option maxRecDepth 20000
theorem Fx:Tryz.prog.underlying 44=some (.struct (Tryz.prog.fieldsOf 44)):=by kernel_rfl
theorem Ig:Tryz.prog.stoodInHeld 44=false:=by kernel_rfl
theorem Jc:Tryz.prog.eqGuardType Tryz.prog.depth 44=false:=by kernel_rfl
theorem NN {t:TypeId}(hf:∃f0 f1:Field,(Tryz.prog.fieldsOf t).toList=[f0,f1]/\(f0.name≠ "_" /\f0.type=3/\f0.offset=0)/\(f1.name≠ "_" /\f1.type=3/\f1.offset=1))
    (hi:aU Tryz.prog 3=some false) (x y:ew) (w:World):(Op.eqFields 9999 (aK x).toArray (aK y).toArray (Tryz.prog.fieldsOf t).toList).run Tryz.prog w= .ok (decide (x=y)) w:=by
  obtain⟨f0,f1,e,⟨n0,t0,o0⟩,⟨n1,t1,o1⟩⟩:=hf;rw[e];have h1:=si (P:=Tryz.prog) (d:=9999) (xs:=(aK x).toArray) (ys:=(aK y).toArray) (fs:=[]) (w:=w) n1 (by rw[t1];exact hi) (u:=.int .i64 x.2) (v:=.int .i64 y.2) (by rw[o1];rfl) (by rw[o1];rfl) (by rw[t1];exact run_equalIn_int w 9998 _ _ _ _ _ underlying3) rfl;have h0:=si n0 (by rw[t0];exact hi) (u:=.int .i64 x.1) (v:=.int .i64 y.1) (by rw[o0];rfl) (by rw[o0];rfl) (by rw[t0];exact run_equalIn_int w 9998 _ _ _ _ _ underlying3) h1;rw[h0]
  congr 1
  obtain⟨a,b⟩:=x;obtain⟨a',b'⟩:=y;simp only[Prod.mk.injEq,vb,Bool.and_true];rw[Bool.eq_iff_iff];simp
theorem NO (x y:ew) (w:World):(Op.eqFields 9999 (aK x).toArray (aK y).toArray (Tryz.prog.fieldsOf 44).toList).run Tryz.prog w= .ok (decide (x=y)) w :=
  NN ⟨_,_,rfl,⟨by decide,rfl,rfl⟩,⟨by decide,rfl,rfl⟩⟩ (by kernel_rfl) x y w
end Go.Proofs.YtpjgdgdnbkjoiaaGreatDoor
namespace Go.Proofs.YtpjgdgdnbkjoiaaGreatDoor
open Go.Proofs.Tryz
open Go Go.Lw
set_option maxRecDepth 20000 set_option maxHeartbeats 4000000
section
variable {b:Nat}{h:ai}{v tv sv pv l:Value}{O:Nat->Prop}{xs:List Tk}{s:By}{en:ew}{n:Int}
theorem Jb {a:Nat}(hb:a+b<4611686018427387904):Int.fdiv ((a:Int)+(b:Int)) (2 ^ min ((1:Int).toNat) IntKind.u64.bits)=(((a+b) / 2:Nat):Int):=by
 have:(2:Int) ^ min ((1:Int).toNat) IntKind.u64.bits=2:=by decide
 rw[this,Int.fdiv_eq_ediv_of_nonneg _ (by decide)];omega
theorem rJ {g:FuncId}{caps:List Value}(hf:Nb Tryz.prog g) (n:Nat) (hn:n<=1000000) (p:Nat->Bool) (hp:∀i:Nat,i<n->af Tryz.prog g ([Value.int .i64 (i:Nat)]++caps).toArray h (aX fun r h'=>r= .bool (p i)/\h'=h)) :
 af Tryz.prog 119 #[.int .i64 (n:Nat),.func (.func g) #[] caps.toArray] h (aX fun r h'=>(∃k:Nat,r= .int .i64 (k:Nat)/\k<=n/\(0<k->p (k-1)=false)/\(k<n->p k=true))/\h'=h):=by
 refine cu ?_;refine ah ?_;refine nq (σ:=Nat×Nat) (fun q=>[(5,.int .i64 (q.1:Nat)),(6,.int .i64 (q.2:Nat))]) (fun q h'=>h'=h/\q.1<=q.2/\q.2<=n/\(0<q.1->p (q.1-1)=false)/\(q.2<n->p q.2=true)) (fun q=>q.2-q.1) ((0,n)) ⟨rfl,Nat.zero_le _,Nat.le_refl _,fun k=>absurd k (Nat.lt_irrefl _),fun k=>absurd k (Nat.lt_irrefl _)⟩ rfl ?_;rintro⟨i,j⟩ w ⟨rfl,hij,hj,h1,h2⟩ ih
 try dsimp only
 dsimp only at hij hj h1 h2;refine ah ?_;refine bN (fun hlt=>?_) (fun hlt=>?_)
 · have hlt':i<j:=by omega
   have hm:(i+j) / 2<n:=by omega
   iterate 3 refine bZ ?_
   refine eu ?_
   iterate 3 refine b7 ?_
   refine xp rfl (Ns rfl (kR (by omega))) ?_;refine xp rfl (FN rfl rfl (by decide)) ?_;rw[Jb (by omega)];have hpm:=hp ((i+j) / 2) hm;generalize hmm:(i+j) / 2=m at *;refine xp rfl (Ns rfl (wrap_i64 ⟨by omega,by omega⟩)) ?_;refine ah ?_;refine xo rfl (az.JB (vs:=[_]) rfl hf rfl (af.cD (hpm))) ?_;rintro _ w1 ⟨rfl,hw1⟩;refine ah ?_;subst hw1;refine Dm (fun hb=>?_) (fun hb=>?_)
   · have hb':p m=false:=by simpa using hb
     refine ah ?_;exact ih (m+1,j) ⟨rfl,by show m+1<=j;omega,hj,fun _=>by show p (m+1-1)=false;rw[Nat.add_sub_cancel];exact hb',h2⟩
   · have hb':p m=true:=by simpa using hb
     refine ah ?_;exact ih (i,m) ⟨rfl,by show i<=m;omega,by show m<=n;omega,h1,fun _=>hb'⟩
 · obtain rfl:i=j:=by omega
   refine ah ?_;refine bE ?_;exact⟨_,rfl,⟨i,rfl,hj,h1,h2⟩,rfl⟩
theorem A6 {b1 b2:Nat}{a:Int}(k1:aE h b1 41 [v]) (k2:aE h b2 3 [.int .i64 a]) (hv:bC HD h O v xs) (i:Nat){t:Tk}(ht:xs[i]? =some t) :
 af Tryz.prog 121 #[.int .i64 (i:Nat),.pointer (some ⟨b1,0,none⟩),.pointer (some ⟨b2,0,none⟩)] h (aX fun r h'=>r= .bool (decide (a<=t.2.1))/\h'=h):=by
 obtain⟨va,vn,vc,rfl,hvs⟩:=hv.open;have hl:xs.length=vn:=hvs.len;have hi:=(List.getElem?_eq_some_iff.1 ht).1;obtain⟨bb,o,t',ha,_,ht',hrow⟩:=hvs.s7 (i:=i) (by omega);obtain rfl:t'=t:=Option.some.inj (ht'.symm.trans ht);refine cu ?_;refine ah ?_;refine nj rfl (aM rfl (k1.cell (i:=0) rfl)) ?_;refine Ng ?_;refine nj rfl (eK rfl rfl i rfl ha) ?_;refine ah ?_;refine nj rfl (aM rfl (hrow 1 _ rfl)) ?_;refine nj rfl (aM rfl (k2.cell (i:=0) rfl)) ?_;refine ah ?_;refine bE ?_;exact⟨_,rfl,rfl,rfl⟩
theorem Ag (hv:bC HD h O v xs) (hx:xs.length<=1000000) (hs:∀(i j:Nat) (t u:Tk),xs[i]? =some t->xs[j]? =some u->i<j->t.2.1<u.2.1) (a:Int) :
 af Tryz.prog 70 #[v,.int .i64 a] h (aX fun r h'=>(∃k:Nat,r= .int .i64 (k:Nat)/\k<=xs.length/\(∀(q:Nat) (t:Tk),q<k->xs[q]? =some t->t.2.1<a)/\(∀(q:Nat) (t:Tk),k<=q->xs[q]? =some t->a<=t.2.1))/\ak h h'):=by
 obtain⟨va,vn,vc,rfl,hvs⟩:=id hv.open;have hl:xs.length=vn:=hvs.len;subst hl;refine cu ?_;refine ah ?_;refine xo rfl (nk) ?_;rintro _ h1 ⟨rfl,k1,e1,z1⟩;refine xo rfl (nk) ?_;rintro _ h2 ⟨rfl,k2,e2,z2⟩;have k1:aE h1 h.size 41 [.slice va xs.length vc]:=k1;have k2:aE h2 h1.size 3 [.int .i64 a]:=k2;have e02:=e1.trans e2
 have hsr:=rJ (h:=h2) (g:=121) (caps:=[.pointer (some ⟨h.size,0,none⟩),.pointer (some ⟨h1.size,0,none⟩)]) ⟨_,func121,rfl,by kernel_rfl⟩ xs.length hx (fun i=>match xs[i]? with|some t=>decide (a<=t.2.1)|none=>false) (fun i hi=>by
  have ht:xs[i]? =some xs[i]:=List.getElem?_eq_getElem hi;simp only[ht];exact A6 (k1.aj e2) k2 (hv.aj e02) i ht)
 refine ah ?_;refine xp rfl (aM rfl ((k1.aj e2).cell (i:=0) rfl)) ?_;refine ah ?_;refine xp rfl (an.makeFunc (vs:=[_,_]) rfl) ?_;refine xo rfl (bl rfl hsr) ?_;rintro _ h3 ⟨⟨k,rfl,hk,hk1,hk2⟩,hh3⟩;refine ah ?_;subst hh3;refine bE ?_;refine⟨_,rfl,⟨k,rfl,hk,fun q t hq ht=>?_,fun q t hq ht=>?_⟩,e02⟩
 · have h0:=hk1 (by omega);have hl:xs[k-1]? =some xs[k-1]:=List.getElem?_eq_getElem (by omega);simp only[hl] at h0;have h0:=of_decide_eq_false h0
   rcases Nat.lt_or_ge q (k-1) with h4|h4
   · have:=hs q (k-1) t _ ht hl h4;omega
   · obtain rfl:q=k-1:=by omega
     rw[ht] at hl;obtain rfl:=Option.some.inj hl;omega
 · have hq':=(List.getElem?_eq_some_iff.1 ht).1;have h0:=hk2 (by omega);have hl:xs[k]? =some xs[k]:=List.getElem?_eq_getElem (by omega);simp only[hl] at h0;have h0:=of_decide_eq_true h0
   rcases Nat.lt_or_ge k q with h4|h4
   · have:=hs k q _ t hl ht h4;omega
   · obtain rfl:q=k:=by omega
     rw[ht] at hl;obtain rfl:=Option.some.inj hl;omega
def jJ (p:Pt):List Value:=[.int .i64 p.1,.int .i64 p.2.1,.int .i64 p.2.2]
theorem Az (p:Pt):∀v∈jJ p,v.oneCell'=true:=fun v hv=>by simp[jJ] at hv;rcases hv with rfl|rfl|rfl<;>rfl
def MQ:iS Pt:=.record 3 (by decide) jJ (fun _=>rfl) Az
def ng (l:Value) (s:By) (tv sv:Value) (en:ew) (pv:Value) (n:Int):List Value:=[l,.string (bs s),tv,sv,.int .i64 en.1,.int .i64 en.2,pv,.int .i64 n]
def gf (O:Nat->Prop) (h:ai) (b:Nat) (s:By) (n:Int):Prop :=
 ∃h0 lb tv sv pv,kF h0/\uP (fun x=>x=b\/O x) h (.pointer (some ⟨lb,0,none⟩))/\ak h0 h/\(h0.size<=b/\∀y,O y->h0.size<=y)/\aE h b 94 (ng (.pointer (some ⟨lb,0,none⟩)) s tv sv (aQ s).2 pv n) /\
  bC HD h (fun x=>x=b\/O x) tv (aQ s).1/\bC O1 h (fun x=>x=b\/O x) sv (fW s)/\bC MQ h (fun x=>x=b\/O x) pv (B0 s)
theorem sD (hv:bC HD h O v xs) (hx:xs.length<=1000000) :
 af Tryz.prog 66 #[v] h (aX fun r h'=>gP 3 bY h' h.size 128 r xs/\ak h h'):=by
 obtain⟨va,vn,vc,rfl,hvs⟩:=hv.open;have hl:xs.length=vn:=hvs.len;subst hl;refine cu ?_;refine bZ ?_;refine eu ?_;refine b7 ?_;refine fu ?_
 iterate 2 refine bZ ?_
 refine eu ?_;refine b7 ?_;refine xp rfl (an.Fz underlying41 rfl rfl) ?_;refine ah ?_;refine Dm (fun hn=>?_) (fun hn=>?_)
 · refine ah ?_;refine bE ?_
   have hx0:xs=[]:=by
    have hva:va=none:=by simpa using hn
    rcases xs with _|⟨x,xs⟩
    · rfl
    · obtain⟨b,o,cs,ha,_⟩:=hvs.get 0 x rfl;rw[hva] at ha;cases ha
   subst hx0;exact⟨_,rfl,gP.nil _ _ _ _ _,Ext.refl _ _⟩
 · refine ah ?_;refine xo rfl (Qh) ?_;rintro _ h1 ⟨rfl,hh1⟩;have e1:ak h h1:=by rw[hh1];exact Ext.push _ _ _
   have z1:h1.size=h.size+1:=by rw[hh1];simp
   have ho1:ax h1 h.size 128 3 (.slice (some ⟨h.size,0,none⟩) 0 0) 0 []:=by rw[hh1];exact yf h _ 3 h.size (Nat.le_refl _)
   have hrow:=(hvs.mv (Mv.aj e1)).NU;refine ah ?_;refine xo rfl (az.append underlying41 H.lG rfl rfl ho1 (iO (enc:=bY) (sz:=3) (fun _=>rfl) xs) hrow (fun u hu=>by obtain⟨x,_,hx⟩:=List.mem_flatMap.1 hu;exact dA x u hx) (by simp only[maxLen];omega) (by omega) (by omega)) ?_;rintro v2 h2 ⟨ho2,hx2,_,hv2⟩;refine ah ?_;refine bE ?_;refine⟨_,rfl,?_,Ext.own e1 ho1 (Nat.le_refl _) hx2⟩;have:ax h2 h.size 128 3 v2 (0+xs.length) ([]++xs.flatMap bY):=ho2;rw[Nat.zero_add,List.nil_append] at this;exact this
theorem Bi {xs:List ew}(hv:bC O1 h O v xs) (hx:xs.length<=1000000) :
 af Tryz.prog 71 #[v] h (aX fun r h'=>gP 2 aK h' h.size 44 r xs/\ak h h'):=by
 obtain⟨va,vn,vc,rfl,hvs⟩:=hv.open;have hl:xs.length=vn:=hvs.len;subst hl;refine cu ?_;refine bZ ?_;refine eu ?_;refine b7 ?_;refine fu ?_
 iterate 2 refine bZ ?_
 refine eu ?_;refine b7 ?_;refine xp rfl (an.Fz underlying92 rfl rfl) ?_;refine ah ?_;refine Dm (fun hn=>?_) (fun hn=>?_)
 · refine ah ?_;refine bE ?_
   have hx0:xs=[]:=by
    have hva:va=none:=by simpa using hn
    rcases xs with _|⟨x,xs⟩
    · rfl
    · obtain⟨b,o,cs,ha,_⟩:=hvs.get 0 x rfl;rw[hva] at ha;cases ha
   subst hx0;exact⟨_,rfl,gP.nil _ _ _ _ _,Ext.refl _ _⟩
 · refine ah ?_;refine xo rfl (Qh) ?_;rintro _ h1 ⟨rfl,hh1⟩;have e1:ak h h1:=by rw[hh1];exact Ext.push _ _ _
   have z1:h1.size=h.size+1:=by rw[hh1];simp
   have ho1:ax h1 h.size 44 2 (.slice (some ⟨h.size,0,none⟩) 0 0) 0 []:=by rw[hh1];exact yf h _ 2 h.size (Nat.le_refl _)
   have hrow:=(hvs.mv (Mv.aj e1)).NU;refine ah ?_;refine xo rfl (az.append underlying92 H.sj rfl rfl ho1 (iO (enc:=aK) (sz:=2) (fun _=>rfl) xs) hrow (fun u hu=>by obtain⟨x,_,hx⟩:=List.mem_flatMap.1 hu;exact bL x u hx) (by simp only[maxLen];omega) (by omega) (by omega)) ?_;rintro v2 h2 ⟨ho2,hx2,_,hv2⟩;refine ah ?_;refine bE ?_;refine⟨_,rfl,?_,Ext.own e1 ho1 (Nat.le_refl _) hx2⟩;have:ax h2 h.size 44 2 v2 (0+xs.length) ([]++xs.flatMap aK):=ho2;rw[Nat.zero_add,List.nil_append] at this;exact this
theorem BV {lp:Option Addr}(k:aE h b 94 (ng (.pointer lp) s tv sv en pv n)) :
 af Tryz.prog 65 #[.pointer (some ⟨b,0,none⟩)] h (aX fun r h'=>r= .bool lp.isNone/\h'=h):=by
 refine cu ?_;refine bZ ?_;refine eu ?_;refine b7 ?_;refine fu ?_;refine bZ ?_;refine eu ?_;refine b7 ?_;refine xp rfl (an.eH underlying51 rfl rfl) ?_;refine ah ?_;refine RW.dK (d:=5) (b':=false) rfl (rfl) ?_;refine ah ?_;refine xp rfl (aM rfl (k.cell (i:=0) rfl)) ?_;refine xp rfl (an.eH underlying65 rfl rfl) ?_;refine ah ?_;refine bE ?_;exact⟨_,rfl,rfl,rfl⟩
theorem yL {b1 b2:Nat}{pts:List Pt}{a:Int}(k1:aE h b1 51 [.pointer (some ⟨b,0,none⟩)]) (k2:aE h b2 3 [.int .i64 a])
 (k:aE h b 94 (ng l s tv sv en pv n)) (hp:bC MQ h O pv pts) (i:Nat){t:Pt}(ht:pts[i]? =some t) (ha : -1000000<=a/\a<=1000000) :
 af Tryz.prog 120 #[.int .i64 (i:Nat),.pointer (some ⟨b1,0,none⟩),.pointer (some ⟨b2,0,none⟩)] h (aX fun r h'=>r= .bool (decide (a-3<t.1))/\h'=h):=by
 obtain⟨va,vn,vc,rfl,hvs⟩:=hp.open;have hl:pts.length=vn:=hvs.len;have hi:=(List.getElem?_eq_some_iff.1 ht).1;obtain⟨bb,o,t',hva,_,ht',hrow⟩:=hvs.s7 (i:=i) (by omega);obtain rfl:t'=t:=Option.some.inj (ht'.symm.trans ht);refine cu ?_;refine ah ?_;refine nj rfl (aM rfl (k1.cell (i:=0) rfl)) ?_;refine ah ?_;refine nj rfl (aM rfl (k.cell (i:=6) rfl)) ?_;refine Ng ?_;refine nj rfl (eK rfl rfl i rfl hva) ?_;refine ah ?_;refine nj rfl (aM rfl (hrow 0 _ rfl)) ?_;refine nj rfl (aM rfl (k2.cell (i:=0) rfl)) ?_;refine ah ?_;refine bE ?_;exact⟨_,rfl,rfl,rfl⟩
theorem Bm {pts:List Pt}(k:aE h b 94 (ng l s tv sv en pv n)) (hp:bC MQ h O pv pts) (hpl:pts.length<=1000000) (h0:pts[0]? =some (0,(0,0)))
 (hs:pts.Pairwise fun p q=>p.1<q.1) (a:Int) (ha : -1000000<=a/\a<=1000000) :
 af Tryz.prog 69 #[.pointer (some ⟨b,0,none⟩),.int .i64 a] h (aX fun r h'=>(∃p,r= .agg (jJ p).toArray/\J2 pts a p)/\ak h h'):=by
 obtain⟨va,vn,vc,rfl,hvs⟩:=id hp.open;have hl:pts.length=vn:=hvs.len;subst hl;have hpos:0<pts.length:=(List.getElem?_eq_some_iff.1 h0).1;refine cu ?_;refine ah ?_;refine xo rfl (nk) ?_;rintro _ h1 ⟨rfl,k1,e1,z1⟩;refine xo rfl (nk) ?_;rintro _ h2 ⟨rfl,k2,e2,z2⟩;refine xo rfl (iT) ?_;rintro _ h3 ⟨rfl,k3,e3,z3⟩;have k1:aE h1 h.size 51 [.pointer (some ⟨b,0,none⟩)]:=k1;have k2:aE h2 h1.size 3 [.int .i64 a]:=k2;have k3:aE h3 h2.size 90 (jJ (0,(0,0))):=k3;have e03:=(e1.trans e2).trans e3;have y1:=e1.size;have y2:=e2.size;have q1:=(k1.aj e2).aj e3;have q2:=k2.aj e3;have q:=k.aj e03;have hp3:=hp.aj e03
 have hsr:=rJ (h:=h3) (g:=120) (caps:=[.pointer (some ⟨h.size,0,none⟩),.pointer (some ⟨h1.size,0,none⟩)]) ⟨_,func120,rfl,by kernel_rfl⟩ pts.length hpl (fun i=>match pts[i]? with|some t=>decide (a-3<t.1)|none=>false) (fun i hi=>by
  have ht:pts[i]? =some pts[i]:=List.getElem?_eq_getElem hi;simp only[ht];exact yL q1 q2 q hp3 i ht ha)
 refine ah ?_;refine xp rfl (aM rfl (q1.cell (i:=0) rfl)) ?_;refine ah ?_;refine xp rfl (aM rfl (q.cell (i:=6) rfl)) ?_;refine ah ?_;refine xp rfl (an.makeFunc (vs:=[_,_]) rfl) ?_;refine xo rfl (bl rfl hsr) ?_;rintro _ h4 ⟨⟨j,rfl,hj,hj1,hj2⟩,hh4⟩;subst hh4;have hmx:(if (j:Int)-1<0 then 0 else (j:Int)-1)=((j-1:Nat):Int):=by split<;>omega
 have hjl:j-1<pts.length:=by omega
 obtain⟨bb,o,t,hva,_,ht,hrow⟩:=(hvs.mv (Mv.aj e03)).s7 hjl;refine ah ?_;refine xp rfl (aM rfl (q1.cell (i:=0) rfl)) ?_;refine ah ?_;refine xp rfl (aM rfl (q.cell (i:=6) rfl)) ?_
 iterate 3 refine b7 ?_
 refine xp rfl (eK rfl rfl (j-1) hmx hva hjl) ?_;refine xp rfl (eN rfl hrow) ?_;refine bQ rfl (er rfl rfl k3 (Az _)) ?_;rintro _ h5 ⟨rfl,k5,x5,z5⟩;refine ah ?_;have k5:aE h5 h2.size 90 (jJ t):=k5;refine jQ (jd rfl k5.row jP) ?_
 have hlt:∀(x y:Nat) (p q:Pt),x<y->pts[x]? =some p->pts[y]? =some q->p.1<q.1:=fun x y p q hxy hx hy=>by
  obtain⟨hx',rfl⟩:=List.getElem?_eq_some_iff.1 hx;obtain⟨hy',rfl⟩:=List.getElem?_eq_some_iff.1 hy;exact List.pairwise_iff_getElem.1 hs x y hx' hy' hxy
 refine⟨_,rfl,⟨t,rfl,List.mem_of_getElem? ht,?_,fun q hq hqa=>?_⟩,ak.only e03 x5 (by omega)⟩
 · rcases Nat.eq_zero_or_pos j with h6|h6
   · subst h6;rw[h0] at ht;exact .inr (Option.some.inj ht).symm
   · have:=hj1 h6;simp only[ht] at this;have:=of_decide_eq_false this;exact .inl (by omega)
 · obtain⟨i,hi,rfl⟩:=List.getElem_of_mem hq;have hiq:pts[i]? =some pts[i]:=List.getElem?_eq_getElem hi
   rcases Nat.lt_trichotomy i (j-1) with h6|h6|h6
   · have:=hlt i (j-1) _ _ h6 hiq ht;omega
   · rw[<-h6,hiq] at ht;rw[Option.some.inj ht];exact Int.le_refl _
   · exfalso;have hjj:j<=i:=by omega
     have hq2:pts[j]? =some pts[j]:=List.getElem?_eq_getElem (by omega);have:=hj2 (by omega);simp only[hq2] at this;have h7:=of_decide_eq_true this
     rcases Nat.lt_or_ge j i with h8|h8
     · have:=hlt j i _ _ h8 hq2 hiq;omega
     · obtain rfl:j=i:=by omega
       omega
theorem gf.none {O:Nat->Prop}{h:ai}{b:Nat}{s:By}{n:Int}(k:gf O h b s n):af Tryz.prog 65 #[.pointer (some ⟨b,0,none⟩)] h (aX fun r h'=>r= .bool false/\h'=h):=by
 obtain⟨h0,lb,tv,sv,pv,_,_,_,_,kb,_⟩:=k;exact BV kb
theorem gf.aj {O:Nat->Prop}{h h':ai}{b:Nat}{s:By}{n:Int}(k:gf O h b s n) (e:ak h h'):gf O h' b s n:=by
 obtain⟨h0,lb,tv,sv,pv,k1,k2,k3,k4,k5,k6,k7,k8⟩:=k;exact⟨h0,lb,tv,sv,pv,k1,k2.mv (Mv.aj e),k3.trans e,k4,k5.aj e,k6.aj e,k7.aj e,k8.aj e⟩
theorem sH (s:By):(aQ s).1.length<=s.length:=C9 _ _ _ _
theorem Ae (k:gf O h b s n) (hs:s.length<=1000000):af Tryz.prog 29 #[.pointer (some ⟨b,0,none⟩)] h (aX fun r h'=>gP 3 bY h' h.size 128 r (aQ s).1/\ak h h'):=by
 have hn:=k.none;have hal:=sH s;obtain⟨h0,lb,tv,sv,pv,_,_,_,_,kb,ht,_⟩:=k;refine cu ?_;refine ah ?_;refine xo rfl (bl rfl hn) ?_;rintro _ h1 ⟨rfl,hh1⟩;refine ah ?_;subst hh1;refine mQ rfl (by decide) ?_;refine ah ?_;refine xp rfl (aM rfl (kb.cell (i:=2) rfl)) ?_;refine xo rfl (bl rfl (sD ht (by omega))) ?_;rintro v2 h2 ⟨ho,e2⟩;refine ah ?_;refine bE ?_;exact⟨_,rfl,ho,e2⟩
theorem Kp (s:By):(B0 s).length<=s.length+1:=by
 have h1:=vP (aQ s).1 (fW s) 0;have h2:=sH s;simp only[B0,List.length_cons];omega
theorem D5 {toks:List Tk}{sts:List ew}(k:aE h b 94 (ng l s tv sv en pv n)) (ht:bC HD h (fun x=>x=b\/O x) tv toks) (hs:bC O1 h (fun x=>x=b\/O x) sv sts)
 (hl:sts.length=toks.length) (htl:toks.length<=900000) (hpos:∀t∈toks,-1000000<=t.2.1/\t.2.1<=1000000) (hO:∀y,O y->y<h.size:=by first|exact fun _ q=>False.elim q|assumption) :
 af Tryz.prog 73 #[.pointer (some ⟨b,0,none⟩)] h (aX fun _ h'=>(∃pv',aE h' b 94 (ng l s tv sv en pv' n)/\bC MQ h' (fun x=>x=b\/O x) pv' ((0,(0,0))::iV toks sts 0))/\Ext (fun x=>x=b) h h'):=by
 have hb:=k.lt;obtain⟨ta,tn,tc,rfl,hts⟩:=id ht.open;obtain⟨sa,sn,sc,rfl,hss⟩:=id hs.open;have htn:toks.length=tn:=hts.len;have hsn:sts.length=sn:=hss.len;generalize htgt:((0,(0,0))::iV toks sts 0:List Pt)=tgt;refine cu ?_;refine ah ?_;refine xp rfl (aB (H.L0 ) rfl) ?_;refine xo rfl (Kh) ?_;rintro _ h1 ⟨rfl,hh1⟩;have e1:ak h h1:=by rw[hh1];exact Ext.push _ _ _
 have z1:h1.size=h.size+1:=by rw[hh1];simp
 have ho1:gP 3 jJ h1 h.size 90 (.slice (some ⟨h.size,0,none⟩) 1 1) [(0,(0,0))]:=by rw[hh1];exact gP.mT (fun _=>rfl) h ((0,(0,0)):Pt) 90 h.size (Nat.le_refl _) rfl
 refine ah ?_;refine bQ rfl (gq rfl rfl ((k.aj e1))) ?_;rintro _ h2 ⟨rfl,k2,x2,z2⟩;have k2:aE h2 b 94 (ng l s (.slice ta tn tc) (.slice sa sn sc) en (.slice (some ⟨h.size,0,none⟩) 1 1) n):=k2;have ho2:gP 3 jJ h2 h.size 90 (.slice (some ⟨h.size,0,none⟩) 1 1) [(0,(0,0))]:=ax.ext x2 ho1 (fun x hx (q:x=b)=>by have:=(ax.lt ho1 hx).1;omega);have e02:Ext (fun x=>x=b) h h2:=(ak.of e1).trans x2;refine ah ?_;refine xp rfl (aM rfl (k2.cell (i:=2) rfl)) ?_;refine ah ?_;refine nq (σ:=Nat×Value×List Pt×Pt) (fun q=>[(14,.int .i64 (q.1:Nat))]) (fun q h'=>(q.1<=tn/\q.2.2.1.length<=q.1/\ -1000000<=q.2.2.2.1/\q.2.2.2.1<=1000000)/\Ext (fun x=>x=b) h h'/\aE h' b 94 (ng l s (.slice ta tn tc) (.slice sa sn sc) en q.2.1 n)/\gP 3 jJ h' h.size 90 q.2.1 (q.2.2.1++[q.2.2.2])/\(q.2.2.1++[q.2.2.2])++iV (toks.drop q.1) (sts.drop q.1) q.2.2.2.1=tgt) (fun q=>tn-q.1) ((0,.slice (some ⟨h.size,0,none⟩) 1 1,[],(0,(0,0)))) ⟨⟨Nat.zero_le _,Nat.le_refl _,show (-1000000:Int)<=0 by decide,show (0:Int)<=1000000 by decide⟩,e02,k2,ho2,htgt⟩ rfl ?_;rintro⟨i,pv,pre,last⟩ g ⟨⟨hi,hpl,hl1,hl2⟩,eg,kg,hp,hcon⟩ ih
 try dsimp only
 dsimp only at hi hpl hl1 hl2 kg hp hcon;have zg:=eg.size;refine ah ?_;refine bN (fun hlt=>?_) (fun hlt=>?_)
 · have hit:i<tn:=by omega
   obtain⟨bt,ot,t,hta,hbt,htk,hrow⟩:=((ht.pK eg).open_slice).s7 hit;obtain⟨bs',os',st,hsa,hbs',hst,hrow0⟩:=hss.s7 (i:=i) (by omega);have hrow2:=eg.rowAt (fun q=>hbs' (.inl q)) hrow0;have hbsz:bs'<h.size:=fD hrow0 (List.cons_ne_nil _ _);have hdt:toks.drop i=t::toks.drop (i+1):=by obtain⟨h3,h4⟩:=List.getElem?_eq_some_iff.1 htk;rw[<-h4];exact List.drop_eq_getElem_cons h3
   have hds:sts.drop i=st::sts.drop (i+1):=by obtain⟨h3,h4⟩:=List.getElem?_eq_some_iff.1 hst;rw[<-h4];exact List.drop_eq_getElem_cons h3
   have htp:=hpos t (List.mem_of_getElem? htk);rw[hdt,hds,iV] at hcon
   iterate 4 refine bZ ?_
   refine eu ?_;refine b7 ?_;refine xp rfl (eK rfl rfl i rfl hta hit) ?_;refine xp rfl (eN rfl hrow) ?_;refine xo rfl (iT) ?_;rintro _ g1 ⟨rfl,k3,f1,y1⟩;refine ah ?_;refine bQ rfl (er rfl rfl k3 (dA _)) ?_;rintro _ g2 ⟨rfl,k3,x3,y3⟩;have k3:aE g2 g.size 128 (bY t):=k3;have eg2:ak g g2:=ak.only (h0:=g) f1 x3 (Nat.le_refl _);have kg2:=kg.aj eg2;have hp2:=hp.aj eg2;have zg2:=eg2.size;have hpr:bC MQ g2 (fun _=>False) pv (pre++[last]):=gP.read hp2 (fun _ _ k=>k);obtain⟨pa,pn,pc,rfl,hps⟩:=hpr.open;have hpn:(pre++[last]).length=pn:=hps.len;have hpn1:pre.length+1=pn:=by rw[<-hpn];simp
   obtain⟨bp,op,lp,hpa,_,hlp,hrow3⟩:=hps.s7 (i:=pre.length) (by omega);obtain rfl:last=lp:=by simpa using hlp
   have hrowS:=eg2.rowAt (fun k=>k) hrow2;refine ah ?_;refine nj rfl (aM rfl (k3.cell (i:=1) rfl)) ?_;refine ah ?_;refine nj rfl (aM rfl (kg2.cell (i:=6) rfl)) ?_;refine ah ?_;refine nj rfl (aM rfl (kg2.cell (i:=6) rfl)) ?_
   iterate 2 refine Ng ?_
   refine nj rfl (eK rfl rfl pre.length (by omega) hpa) ?_;refine ah ?_;refine nj rfl (aM rfl (hrow3 0 _ rfl)) ?_;refine ah ?_;refine bN (fun hge=>?_) (fun hge=>?_)
   · have hge':last.1+64<=t.2.1:=hge;rw[if_pos hge'] at hcon;have hpo:=(ax.lt hp2 (b:=bp) (by rw[hpa];rfl))
     have hMb:¬(bV (Value.slice pa pn pc).ownBlock b\/Array.size g2<=b):=by
      rintro(q|q)
      · have:=(ax.lt hp2 q.symm).1;omega
      · have:=kg2.lt;omega
     have hM3:¬(bV (Value.slice pa pn pc).ownBlock g.size\/Array.size g2<=g.size):=by
      rintro(q|q)
      · have:=(ax.lt hp q.symm).2;omega
      · have:=k3.lt;omega
     have hMS:¬(bV (Value.slice pa pn pc).ownBlock bs'\/Array.size g2<=bs'):=by
      rintro(q|q)
      · have:=(ax.lt hp2 q.symm).1;omega
      · omega
     have hho2:ax g2 h.size 90 3 (.slice pa pn pc) (pre++[last]).length ((pre++[last]).flatMap jJ):=hp2;refine vi 20 (fun x=>bV (Value.slice pa pn pc).ownBlock x\/Array.size g2<=x) (fun i=>Nat.blt i 19) ?_;refine aZ 0 ?_;refine aZ 1 ?_;refine aZ 2 ?_;refine aZ 3 ?_;refine cA 4 rfl (fun h' e=>aM rfl (e.cell hMb (kg2.cell (i:=6) rfl))) ?_;refine aZ 5 ?_;refine cA 6 rfl (fun h' e=>aM rfl (e.cell hM3 (k3.cell (i:=1) rfl))) ?_;refine aZ 7 ?_;refine aZ 8 ?_;refine aZ 9 ?_;refine cA 10 rfl (fun h' e=>aM rfl (e.cell hMb (kg2.cell (i:=3) rfl))) ?_;refine aZ 11 ?_;refine cA 12 rfl (fun h' e=>eK rfl rfl i rfl hsa) ?_;refine cA 13 rfl (fun h' e=>eN rfl (e.rowAt hMS hrowS)) ?_;refine cA 14 rfl (fun h' e=>aB (H.JF _ _ _) rfl) ?_;refine iL 15 rfl (Kh) ?_;rintro _ g3 ⟨rfl,hg3⟩;refine⟨fun _=>by rw[hg3];exact Ext.push _ _ _,?_⟩;have f3:ak g2 g3:=by rw[hg3];exact Ext.push _ _ _
     have y3:g3.size=g2.size+1:=by rw[hg3];simp
     have hrA:Lw.rowAt g3 g2.size 0 (jJ (t.2.1,st)):=by rw[hg3];exact cJ _ _ _
     refine iL 16 rfl (az.append underlying91 H.MN rfl rfl (hho2.fk f3) rfl (.inr ⟨_,_,rfl,hrA⟩) (Az _) (by simp only[maxLen];omega) (by omega) (by omega)) ?_;rintro v4 g4 ⟨ho4,hx4,_,hv4⟩;refine⟨fun _=>hx4.mono (fun _ _ k=>.inl k),?_⟩;have kg4:=(kg2.aj f3).ext hx4 (fun q=>hMb (.inl q));have z4:=hx4.size;obtain⟨qa,qc,hvq,_⟩:=ax.open ho4;refine J8 17 ?_;refine aZ 18 ?_;refine pO 19 rfl (gq rfl rfl kg4 (by rw[hvq];rfl)) ?_;rintro _ g5 ⟨rfl,kg5,x5,z5⟩;refine⟨nofun,?_⟩;refine pQ ?_;refine ah ?_;have kg5:aE g5 b 94 (ng l s (.slice ta tn tc) (.slice sa sn sc) en v4 n):=kg5;have ho4':gP 3 jJ g4 h.size 90 v4 ((pre++[last])++[(t.2.1,st)]):=gP.of ho4 rfl rfl;have ho5:gP 3 jJ g5 h.size 90 v4 ((pre++[last])++[(t.2.1,st)]):=ax.ext x5 ho4' (fun x hx (q:x=b)=>by have:=(ax.lt ho4' hx).1;omega)
     have eg5:Ext (fun x=>x=b) h g5:=⟨by have:=x5.size;omega,fun x hx hn=>by
      rw[x5.block x (by omega) hn,hx4.block x (by omega) (fun q=>by have:=(ax.lt hp q.symm).1;omega),f3.block x (by omega) (fun q=>q),eg2.block x (by omega) (fun q=>q)];exact eg.block x hx hn⟩
     exact ih (i+1,v4,pre++[last],(t.2.1,st)) ⟨⟨by show i+1<=tn;omega,by simp;omega,htp.1,htp.2⟩,eg5,kg5,ho5,by rw[<-hcon];simp⟩
   · have hge':¬last.1+64<=t.2.1:=hge;rw[if_neg hge'] at hcon;refine ah ?_;exact ih (i+1,.slice pa pn pc,pre,last) ⟨⟨by show i+1<=tn;omega,by show pre.length<=i+1;omega,hl1,hl2⟩,eg.trans (ak.of eg2),kg2,hp2,hcon⟩
 · obtain rfl:i=tn:=by omega
   have hdt:toks.drop i=[]:=List.drop_of_length_le (by omega);rw[hdt] at hcon;have hcon:(pre++[last])=tgt:=by rw[<-hcon];simp[iV]
   refine ah ?_;refine J7 ?_;exact⟨_,rfl,⟨pv,kg,by rw[<-hcon];exact gP.read hp (fun x hx q=>by rcases q with q|q;omega;have:=hO x q;omega)⟩,eg⟩
end
end Go.Proofs.YtpjgdgdnbkjoiaaGreatDoor
namespace Go.Proofs.YtpjgdgdnbkjoiaaGreatDoor
open Go Go.Lw
set_option maxRecDepth 20000
section
variable {st:ew}{g:ai}{base:Nat}
def nF (lim a old:Nat) (d:Int) (st:ew) (T:List Tk) (S:List ew):Bool :=
  decide (lim<=a) && match T[old]?,S[old]? with
    |some t,some s=>decide (t.2.1+d=(a:Int)) && decide (s=st)
    |_,_=>false
theorem yV {lim a old:Nat}{d:Int}{T:List Tk}{S:List ew}(h:nF lim a old d st T S=true):lim<=a/\∃t,T[old]? =some t/\t.2.1+d=a/\S[old]? =some st:=by
  unfold nF at h;rw[Bool.and_eq_true] at h;obtain⟨h1,h2⟩:=h;refine⟨of_decide_eq_true h1,?_⟩;split at h2
  · rename_i t s ht hs;rw[Bool.and_eq_true] at h2;exact⟨t,ht,of_decide_eq_true h2.1,by rw[hs,of_decide_eq_true h2.2]⟩
  · cases h2
theorem Ia {lim a old:Nat}{d:Int}{T:List Tk}{S:List ew}(h:nF lim a old d st T S=false) (hl:lim<=a) (t:Tk) (ht:T[old]? =some t) (hd:t.2.1+d=a):¬S[old]? =some st:=by
  intro hs;unfold nF at h;rw[decide_eq_true hl,ht,hs,Bool.true_and] at h;simp only[decide_eq_true hd,decide_true,Bool.and_self] at h;cases h
theorem vL {base':Nat}{vt vs:Value}{toks:List Tk}{pre:List ew}(ht:gP 3 bY g base 128 vt toks) (hs:gP 2 aK g base' 44 vs pre):∀b,bV vt.ownBlock b->¬bV vs.ownBlock b:=fun b hb hc=>by
  obtain⟨cur,fr,h1⟩:=ax.ty ht hb.symm;obtain⟨cur',fr',h2⟩:=ax.ty hs hc.symm;have:=h1.symm.trans h2;simp at this
def Nf (g:ai) (base:Nat) (vt vs:Value) (toks:List Tk) (sts:List ew) (t:Tk) (st:ew) (q:Value×Value) (h:ai):Prop :=
  gP 3 bY h base 128 q.1 (toks++[t])/\gP 2 aK h base 44 q.2 (sts++[st])/\Ext (fun b=>bV vt.ownBlock b\/bV vs.ownBlock b) g h/\(∀b,q.2.ownBlock=some b->vs.ownBlock=some b\/g.size<=b)
theorem lN {w2 w4:ai}{vt vs vt2 vs2:Value}{toks:List Tk}{sts:List ew}{t:Tk}(ho:gP 3 bY g base 128 vt toks) (hs:gP 2 aK g base 44 vs sts) (x1:Ext (bV vt.ownBlock) g w2) (hv2:∀b,vt2.ownBlock=some b->vt.ownBlock=some b\/g.size<=b)
    (ho2:ax w2 base 128 3 vt2 (toks.length+1) (toks.flatMap bY++bY t)) (x2:Ext (bV vs.ownBlock) w2 w4) (ho4:ax w4 base 44 2 vs2 (sts.length+1) (sts.flatMap aK++aK st)) (hv4:∀b,vs2.ownBlock=some b->vs.ownBlock=some b\/g.size<=b):Nf g base vt vs toks sts t st (vt2,vs2) w4:=by
  have hd:=vL (g:=g) ho hs;refine⟨gP.of (ax.ext x2 ho2 (fun b hb k=>?_)) rfl rfl,gP.of ho4 rfl rfl,(x1.mono (fun _ _ k=>.inl k)).trans (x2.mono (fun _ _ k=>.inr k)),hv4⟩
  rcases hv2 b hb with h|h
  · exact hd b h.symm k
  · have:=(ax.lt hs k.symm).2;omega
def sM (s s':By) (i lim:Nat) (d:Int) (m:Int):Prop:=0<=m/\∃(p:Pt) (a e:Nat),J2 (B0 s) i p/\p.1=a/\a<=i/\a<=e/\e<=s'.length/\m<=3*((e:Int)-a)/\∀x,a<=x->x<e->lim<=x->¬Dd s s' d x
def OT (g:ai) (t:Tk) (st:ew) (q:Nat×Nat) (h:ai):Prop:=aE h q.1 128 (bY t)/\aE h q.2 44 (aK st)/\ak g h/\g.size<=q.1/\g.size<=q.2/\q.1≠q.2
theorem jv {w3 w4 w5:ai}{b1 b2:Nat}{t:Tk}(e:ak g w3) (h1:g.size<=b1) (h2:g.size<=b2) (hne:b1≠b2) (x4:Ext (fun b=>b=b1) w3 w4) (x5:Ext (fun b=>b=b2) w4 w5) (d7:aE w4 b1 128 (bY t)) (d8:aE w5 b2 44 (aK st)):OT g t st (b1,b2) w5 :=
  ⟨d7.ext x5 hne,d8,ak.only (ak.only e x4 h1) x5 h2,h1,h2,hne⟩
theorem iC {h:ai}{c sz n:Nat}{t t':TypeId}{v:Value}{xs cs:List Value}(k:ax h base t sz v n xs) (kc:aE h c t' cs) (hne:t≠t'):¬bV v.ownBlock c:=fun hb=>by
  obtain⟨cur,fr,h1⟩:=ax.ty k hb.symm;have h2:=h1.symm.trans kc;simp only[Option.some.injEq,Obj.cells.injEq] at h2;exact hne h2.2.1
structure L6 (h:ai) (b c B:Nat) (s x:By) (i j:Nat) (d:Int) (pa:Nat) (l tv sv pv:Value) (a:Nat) (st:ew) (old:Nat) (m:Int) (tv':Value) (toks:List Tk) (sv':Value) (sts:List ew) (h':ai):Prop where
  tk:fI s (fq s i j x) (i+x.length) d pa toks sts a st
  ol:old<=(aQ s).1.length
  ob:∀(r:Nat) (t:Tk),r<old->(aQ s).1[r]? =some t->t.2.1+d<max (a:Int) ((i+x.length:Nat):Int)
  m0:0<=m
  m1:m<=3*((a:Int)-pa)
  ex:Ext (fun y=>y=b) h h'
  kd:aE h' b 94 (ng l s tv sv (aQ s).2 pv m)
  kc:aE h' c 44 (aK st)
  ho:gP 3 bY h' B 128 tv' toks
  hp:gP 2 aK h' B 44 sv' sts
  nc:∀y,sv'.ownBlock=some y->y≠c
  cb:B<=c
  hB:h.size<=B
theorem L6.old {h:ai}{b c B:Nat}{s x:By}{i j:Nat}{d:Int}{pa:Nat}{l tv sv pv:Value}{a:Nat}{st:ew}{old r:Nat}{m:Int}{tv':Value}{toks:List Tk}{sv':Value}{sts:List ew}{h':ai}(k:L6 h b c B s x i j d pa l tv sv pv a st old m tv' toks sv' sts h')
    (hr:r<=(aQ s).1.length) (hb:∀(r':Nat) (t:Tk),r'<r->(aQ s).1[r']? =some t->t.2.1+d<max (a:Int) ((i+x.length:Nat):Int)):L6 h b c B s x i j d pa l tv sv pv a st r m tv' toks sv' sts h' :=
  ⟨k.tk,hr,hb,k.m0,k.m1,k.ex,k.kd,k.kc,k.ho,k.hp,k.nc,k.cb,k.hB⟩
def BO (T:List Tk) (r:Nat) (d:Int) (a:Nat):Bool:=match T[r]? with
  |some t=>decide (t.2.1+d<(a:Int))
  |none=>false
structure Q5 (h:ai) (b c B:Nat) (s x:By) (i j:Nat) (d:Int) (l tv sv pv:Value) (m:Int) (tv' sv':Value) (h':ai):Prop where
  ex:Ext (fun y=>y=b) h h'
  kd:aE h' b 94 (ng l s tv sv (aQ s).2 pv m)
  kc:aE h' c 44 (aK (aQ (fq s i j x)).2)
  ho:gP 3 bY h' B 128 tv' (aQ (fq s i j x)).1
  hp:gP 2 aK h' B 44 sv' (fW (fq s i j x))
  so:sM s (fq s i j x) i (i+x.length) d m
  cb:B<=c
  hB:h.size<=B
end
end Go.Proofs.YtpjgdgdnbkjoiaaGreatDoor
namespace Go.Proofs.YtpjgdgdnbkjoiaaGreatDoor
open Go.Proofs.Tryz
open Go Go.Lw
set_option maxRecDepth 20000
set_option maxHeartbeats 4000000 in
theorem xy {O:Nat->Prop}{h:ai}{b:Nat}{s:By}{n:Int}(k:gf O h b s n) (x:By) (i j:Nat) (hij:i<=j) (hj:j<=s.length) (hs:s.length<=16384) (hx:i+x.length+(s.length-j)<=16384) (hO:∀y,O y->y<h.size:=by first|exact fun _ q=>False.elim q|assumption) :
 af Tryz.prog 36 #[.pointer (some ⟨b,0,none⟩),.int .i64 (i:Nat),.int .i64 (j:Nat),.string (bs x)] h (aX fun r h'=>(r= .int .i64 0/\∃m,gf O h' b (fq s i j x) m/\sM s (fq s i j x) i (i+x.length) ((x.length:Int)-((j:Int)-i)) m)/\Ext (fun y=>y=b) h h'):=by
 obtain⟨h0,lb,tv,sv,pv,kG,kL,k3,hb0,kd,ht,hsv,hp⟩:=k;have hbs:=aF s;have hbx:=aF x;have hal:=sH s;have hpl:=Kp s;have hsl:=jy s;have hb:=kd.lt;have hEl:=KS x hij hj;have hEb:=aF (fq s i j x);obtain⟨ta,tn,tc,rfl,hts⟩:=id ht.open;obtain⟨sa,sn,sc,rfl,hss⟩:=id hsv.open;have htn:(aQ s).1.length=tn:=hts.len;have hsn:(fW s).length=sn:=hss.len;have htc:=hts.le;have hsc:=hss.le;obtain⟨d,hd⟩:∃d,d=(x.length:Int)-((j:Int)-i):=⟨_,rfl⟩
 rw[<-hd];have hq1:(bs s).extract 0 i=bs (s.take i):=by rw[jq s 0 i (Nat.zero_le _),List.drop_zero]
 have hq2:(bs s).extract j (bs s).size=bs (s.drop j):=js s j;refine af.of func36 rfl rfl ?_;refine b9 func36 1 [0,1,2,3,8] rfl ?_;refine FT rfl ?_;refine aC rfl ?_;refine G.block rfl rfl ?_;refine eB func36 1 rfl ?_;refine xo rfl (ay (vs:=[_]) func65 rfl H.Pw rfl (af.cD ((BV kd)))) ?_;rintro _ h ⟨rfl,hg0⟩;refine cV 1 [0,1,2,3,8,23] rfl ?_;subst hg0;refine aA rfl rfl (fun hc=>absurd hc (by simp)) (fun _=>?_);refine aC rfl ?_;refine G.eF [(26,.bool false)] [(0,_),(1,_),(2,_),(3,_),(8,_),(23,_)] ⟨rfl,rfl,rfl,rfl,rfl,rfl,trivial⟩ func36 rfl ?_ ?_
 · refine dz 3 rfl ?_;refine RW.dK (d:=29) (b':=false) rfl (by simp) ?_;refine dz 5 rfl ?_;refine RW.dK (d:=34) (b':=false) rfl (by simp;omega) ?_;refine eU 3 rfl rfl (aa (off:=1) underlying94 rfl rfl H.lS rfl) ?_;refine xp rfl (au H.ve rfl (kd.cell (i:=1) rfl)) ?_;refine xp rfl (an.bH underlying9 rfl) ?_;refine dz 3 rfl ?_;refine RW.done rfl ?_;exact⟨rfl,aq rfl (by simp[hbs];omega),rfl,rfl,rfl,rfl,rfl,rfl,trivial⟩
 · refine aA rfl rfl (fun hc=>absurd hc (by decide)) (fun _=>?_);refine eB func36 1 rfl ?_;refine xp rfl (an.bH underlying9 rfl) ?_;refine eU 2 rfl rfl (aa (off:=1) underlying94 rfl rfl H.lS rfl) ?_;refine xp rfl (au H.ve rfl (kd.cell (i:=1) rfl)) ?_;refine xp rfl (an.bH underlying9 rfl) ?_;refine xp rfl (an.kV rfl rfl ⟨by omega,by omega⟩) ?_;refine eU 2 rfl rfl (an.kV rfl rfl ⟨by omega,by omega⟩) ?_;refine xp rfl (an.dm rfl rfl ⟨by omega,by omega⟩) ?_;refine cV 2 [0,1,2,3,8,23,26,43] rfl ?_;refine aA rfl rfl (fun hc=>absurd hc (by simp[hbs,hbx];omega)) (fun _=>?_);refine aR rfl ?_;refine G.cz ?_;refine aC rfl ?_;refine G.CP func36 H.mixed rfl (by kernel_rfl) ?_;refine RQ.aD rfl rfl rfl rfl (aS rfl) ?_;refine RQ.aD rfl rfl rfl rfl (cG rfl) ?_;refine RQ.aD rfl rfl rfl rfl (aa (off:=1) underlying94 rfl rfl H.lS rfl) ?_;refine RQ.aD rfl rfl rfl rfl (au H.ve rfl (kd.cell (i:=1) rfl)) ?_;refine RQ.aD rfl rfl rfl rfl (aS rfl) ?_;refine RQ.aD rfl rfl rfl rfl (an.iw underlying9 rfl rfl i rfl (by omega)) ?_;rw[hq1];refine RQ.aD rfl rfl rfl rfl (aS rfl) ?_;refine RQ.aD rfl rfl rfl rfl (an.mM rfl rfl (by rw[aF,aF,List.length_take];omega)) ?_;refine RQ.aD rfl rfl rfl rfl (aS rfl) ?_;refine RQ.aD rfl rfl rfl rfl (cG rfl) ?_;refine RQ.aD rfl rfl rfl rfl (aa (off:=1) underlying94 rfl rfl H.lS rfl) ?_;refine RQ.aD rfl rfl rfl rfl (au H.ve rfl (kd.cell (i:=1) rfl)) ?_;refine RQ.aD rfl rfl rfl rfl (aS rfl) ?_;refine RQ.aD rfl rfl rfl rfl (an.eE underlying9 rfl rfl j rfl (by omega)) ?_;rw[hq2,fK];refine RQ.aD rfl rfl rfl rfl (an.mM rfl rfl (by rw[aF,aF,List.length_append,List.length_take,List.length_drop];omega)) ?_;rw[fK,show s.take i++x++s.drop j=fq s i j x from rfl];have hbef:=Bm kd hp (by omega) rfl (Kq s) (i:Int) (by omega);refine RQ.aD rfl rfl rfl rfl (an.assign rfl) ?_;refine RQ.done rfl ?_;refine xu [0,1,2,3,8,9,23,26,43] rfl ?_;refine eB func36 1 rfl ?_;refine xp rfl (an.bH underlying9 rfl) ?_;refine eU 2 rfl rfl (aa (off:=1) underlying94 rfl rfl H.lS rfl) ?_;refine xp rfl (au H.ve rfl (kd.cell (i:=1) rfl)) ?_;refine xp rfl (an.bH underlying9 rfl) ?_;refine xp rfl (an.kV rfl rfl ⟨by omega,by omega⟩) ?_;rw[show ((bs (fq s i j x)).size:Int)-((bs s).size:Nat)=d by omega];refine cV 1 [0,1,2,3,8,9,10,23,26,43] rfl ?_;refine eB func36 2 rfl ?_;refine xo rfl (ay (vs:=[_,_]) func69 rfl H.Pu rfl (af.cD (hbef))) ?_;rintro _ g1 ⟨⟨p,rfl,hbp⟩,e1⟩;refine xo rfl (az.cC H.Np) ?_;rintro _ g2 ⟨rfl,k11,e2,z2⟩;refine RW.fS rfl rfl rfl (az.aH H.ND rfl rfl k11 (by first|rfl|(simp;done)|(simp;omega)) (by first|decide|exact of_decide_eq_true rfl|(simp;done)|(simp;omega)) (Az _)) ?_;rintro _ g3 ⟨rfl,k11,x3,z3⟩;have k11:aE g3 g1.size 90 (jJ p):=k11;have z1:=e1.size;have zz2:=e2.size;have e03:ak h g3:=ak.only (e1.trans e2) x3 z1;have kd3:=kd.aj e03;have hM1:¬Array.size g3<=b:=by have:=kd3.lt;omega
   have hM2:¬Array.size g3<=g1.size:=by have:=k11.lt;omega
   have hfst:=Ag (ht.aj e03) (by omega) (fun i j t u h1 h2 h3=>Dy h1 h2 h3) p.1;refine xd [0,1,2,3,8,9,10,11,23,26,43] rfl ?_;refine aC rfl ?_;refine cU (fun b=>Array.size g3<=b) (fun i=>Nat.blt i 8) (sz:=8) (listed:= #[false,false,false,false,false,false,false,false]) func36 H.mixed rfl rfl rfl ?_;refine aP 0 1 (by kernel_rfl) rfl ?_;refine aP 1 3 (by kernel_rfl) rfl ?_;refine cj 2 7 (by kernel_rfl) rfl (fun h' e=>aa (off:=2) underlying94 rfl rfl H.uI rfl) ?_;refine cj 3 15 (by kernel_rfl) rfl (fun h' e=>au H.yN rfl (e.cell hM1 (kd3.cell (i:=2) rfl))) ?_;refine cj 4 31 (by kernel_rfl) rfl (fun h' e=>aa (off:=0) underlying90 rfl rfl H.ck rfl) ?_;refine cj 5 63 (by kernel_rfl) rfl (fun h' e=>au H.gS rfl (e.cell hM2 (k11.cell (i:=0) rfl))) ?_;refine jU 6 127 (by kernel_rfl) rfl (ay (vs:=[_,_]) func70 rfl H.Pr rfl (af.cD (hfst))) ?_;rintro _ g4 ⟨⟨q,rfl,hqk,hq3,hq4⟩,e4⟩;refine⟨fun _=>e4.of,?_⟩;have e04:ak h g4:=e03.trans e4;have kd4:=kd.aj e04;have k11:=k11.aj e4;have hM1:¬Array.size g4<=b:=by have:=kd4.lt;omega
   have hct:=sD (v:=.slice (bF ta 0 3 tc) q tc) (xs:=(aQ s).1.take q) (((ht.aj e04).open_slice).part (i:=0) (j:=q) (Nat.zero_le _) (by omega)).shut (by rw[List.length_take];omega);have hcs:∀g5,ak g4 g5->_:=fun g5 e5=>Bi (v:=.slice (bF sa 0 2 sc) q sc) (xs:=(fW s).take q) (((hsv.aj (e04.trans e5)).open_slice).part (i:=0) (j:=q) (Nat.zero_le _) (by omega)).shut (by rw[List.length_take];omega)
   refine aP 7 255 (by kernel_rfl) rfl ?_;refine RD.done (by kernel_rfl) ?_;refine xu [0,1,2,3,8,9,10,11,12,23,26,43] rfl ?_;refine aC rfl ?_;refine cU (fun b=>Array.size g4<=b) (fun i=>Nat.blt i 16) (sz:=16) (listed:= #[false,false,false,false,false,false,false,false,false,false,false,false,false,false,false,false]) func36 H.mixed rfl rfl rfl ?_;refine aP 0 1 (by kernel_rfl) rfl ?_;refine aP 1 3 (by kernel_rfl) rfl ?_;refine cj 2 7 (by kernel_rfl) rfl (fun h' e=>aa (off:=2) underlying94 rfl rfl H.uI rfl) ?_;refine cj 3 15 (by kernel_rfl) rfl (fun h' e=>au H.yN rfl (e.cell hM1 (kd4.cell (i:=2) rfl))) ?_;refine aP 4 31 (by kernel_rfl) rfl ?_;refine cj 5 63 (by kernel_rfl) rfl (fun h' e=>an.cW underlying41 H.jW rfl rfl q rfl (by omega)) ?_;refine aP 7 191 (by kernel_rfl) rfl ?_;refine aP 8 447 (by kernel_rfl) rfl ?_;refine cj 9 959 (by kernel_rfl) rfl (fun h' e=>aa (off:=3) underlying94 rfl rfl H.F5 rfl) ?_;refine cj 10 1983 (by kernel_rfl) rfl (fun h' e=>au H.KZ rfl (e.cell hM1 (kd4.cell (i:=3) rfl))) ?_;refine aP 11 4031 (by kernel_rfl) rfl ?_;refine cj 12 8127 (by kernel_rfl) rfl (fun h' e=>an.cW underlying92 H.ia rfl rfl q rfl (by omega)) ?_;refine jU 6 8191 (by kernel_rfl) rfl (ay (vs:=[_]) func66 rfl H.Pv rfl (af.cD (hct))) ?_;rintro tv1 g5 ⟨ho5,e5⟩;refine⟨fun _=>e5.of,?_⟩;refine jU 13 16383 (by kernel_rfl) rfl (ay (vs:=[_]) func71 rfl H.Pq rfl (af.cD (hcs _ e5))) ?_;rintro sv1 g6 ⟨hp6,e6⟩;refine⟨fun _=>e6.of,?_⟩;have z5:=e5.size;have z6:=e6.size;have e46:ak g4 g6:=e5.trans e6;have ho6:=ho5.aj e6;have k11:=k11.aj e46;have kd6:=kd4.aj e46;have hp6:gP 2 aK g6 g4.size 44 sv1 ((fW s).take q):=ax.lower hp6 z5;have hM2:¬Array.size g6<=g1.size:=by have:=k11.lt;omega
   have hr11:Lw.rowAt g6 g1.size (0+1) (aK p.2):=k11.part 1 (fun j v hj=>by match j,hj with| 0,hj=>exact hj| 1,hj=>exact hj|j+2,hj=>simp[aK] at hj);obtain⟨pa,hpa,hpi,hT⟩:=DB (x:=x) hij hj hbp hqk hq3 hq4 (i+x.length) d;refine aP 14 32767 (by kernel_rfl) rfl ?_;refine aP 15 65535 (by kernel_rfl) rfl ?_;refine RD.done (by kernel_rfl) ?_;refine xu [0,1,2,3,8,9,10,11,12,13,14,23,26,43] rfl ?_;refine aC rfl ?_;refine cU (fun b=>Array.size g6<=b) (fun i=>Nat.blt i 7) (sz:=7) (listed:= #[false,false,false,false,false,false,false]) func36 H.mixed rfl rfl rfl ?_;refine cj 0 1 (by kernel_rfl) rfl (fun h' e=>aa (off:=0) underlying90 rfl rfl H.ck rfl) ?_;refine cj 1 3 (by kernel_rfl) rfl (fun h' e=>au H.gS rfl (e.cell hM2 (k11.cell (i:=0) rfl))) ?_;refine cj 2 7 (by kernel_rfl) rfl (fun h' e=>aa (off:=1) underlying90 rfl rfl H.ia rfl) ?_;refine cj 3 15 (by kernel_rfl) rfl (fun h' e=>an.aG H.xX H.ia rfl (e.rowAt hM2 hr11) (by first|rfl|(simp;done)|(simp;omega))) ?_;refine jU 4 31 (by kernel_rfl) rfl (az.cC H.Bx) ?_;rintro _ g7 ⟨rfl,k16,e7,z7⟩;refine⟨fun _=>e7.of,?_⟩;refine aP 5 63 (by kernel_rfl) rfl ?_;refine rf 6 127 (by kernel_rfl) rfl (az.aH H.ia rfl rfl k16 (by first|rfl|(simp;done)|(simp;omega)) (by first|decide|exact of_decide_eq_true rfl|(simp;done)|(simp;omega)) (bL _)) ?_;rintro _ g8 ⟨rfl,k16,x8,z8⟩;refine⟨fun _=>x8.mono (fun b _ k=>by have k:b=g6.size:=k;omega),?_⟩;have k16:aE g8 g6.size 44 (aK p.2):=k16;have e68:ak g6 g8:=ak.only (h0:=g6) e7 x8 (Nat.le_refl _);refine RD.done (by kernel_rfl) ?_;refine xu [0,1,2,3,8,9,10,11,12,13,14,15,16,23,26,43] rfl ?_;refine eB func36 2 rfl ?_;refine xp rfl (aa (off:=7) underlying94 rfl rfl H.ck rfl) ?_;refine RW.fS rfl rfl rfl (az.aO H.ck rfl rfl (kd6.aj e68) (by first|decide|exact of_decide_eq_true rfl|(simp;done)|(simp;omega)) rfl) ?_;rintro _ g9 ⟨rfl,kd9,x9,z9⟩;have kd9:aE g9 b 94 (ng (.pointer (some ⟨lb,0,none⟩)) s (.slice ta tn tc) (.slice sa sn sc) (aQ s).2 pv 0):=kd9;have hbg:b<g6.size:=kd6.lt
   have hI0:L6 h b g6.size g4.size s x i j d pa (.pointer (some ⟨lb,0,none⟩)) (.slice ta tn tc) (.slice sa sn sc) pv pa p.2 q 0 tv1 ((aQ s).1.take q) sv1 ((fW s).take q) g9:=by
    have hown1:=fun y hy=>(ax.lt ho6 (b:=y) hy)
    have hown2:=fun y hy=>(ax.lt hp6 (b:=y) hy)
    have hb4:b<g4.size:=kd4.lt;refine⟨hT,hqk,fun r t hr hrt=>?_,Int.le_refl _,by omega,(ak.of (e04.trans (e46.trans e68))).trans x9,kd9,k16.ext x9 (fun k=>by omega),ax.ext x9 (ho6.aj e68) (fun y hy k=>?_),ax.ext x9 (hp6.aj e68) (fun y hy k=>?_),fun y hy=>?_,by omega,e04.size⟩
    · have:=hq3 r t hr hrt;omega
    · have:=hown1 y hy;omega
    · have:=hown2 y hy;omega
    · have:=hown2 y hy;omega
   have hc6:g4.size<=g6.size:=e46.size;generalize hcc:g6.size=c at *;generalize hBB:g4.size=B at *;refine xd [0,1,2,3,8,9,10,11,12,13,14,15,16,23,26,43] rfl ?_;refine b9 func36 2 [0,1,2,3,8,9,10,11,12,13,14,15,16,17,23,26,43] rfl ?_;refine aC rfl ?_;refine FU rfl ?_;refine aC rfl ?_;refine G.block rfl rfl ?_;rw[hpa];refine hU (σ:=Nat×ew×Nat×Int×(Value×List Tk)×(Value×List ew)) (fun w=>[(0,.pointer (some ⟨b,0,none⟩)),(1,.int .i64 (i:Nat)),(3,.string (bs x)),(9,.string (bs (fq s i j x))),(10,.int .i64 d),(13,w.2.2.2.2.1.1),(14,w.2.2.2.2.2.1),(15,.int .i64 (w.1:Nat)),(16,.pointer (some ⟨c,0,none⟩)),(17,.int .i64 (w.2.2.1:Nat))]) (fun w h'=>L6 h b c B s x i j d pa (.pointer (some ⟨lb,0,none⟩)) (.slice ta tn tc) (.slice sa sn sc) pv w.1 w.2.1 w.2.2.1 w.2.2.2.1 w.2.2.2.2.1.1 w.2.2.2.2.1.2 w.2.2.2.2.2.1 w.2.2.2.2.2.2 h') (fun w=>(fq s i j x).length+1-w.1) ((pa,p.2,q,0,(tv1,(aQ s).1.take q),(sv1,(fW s).take q))) rfl ⟨rfl,rfl,rfl,rfl,rfl,rfl,rfl,rfl,rfl,rfl,trivial⟩ hI0 ?_;rintro⟨a,st,old,m,⟨vt,toks⟩,⟨vs,sts⟩⟩ g hI ih
   try dsimp only
   dsimp only at hI;have hbc:b<h.size:=hb;have z0g:=hI.ex.size;have e0g:ak h0 g:=ak.only k3 hI.ex hb0.1;have kLg:=(kL.pK hI.ex).at;have hle:=hI.tk.le;have hge:=hI.tk.ge;have htl:=hI.tk.len;have hsl2:=hI.tk.NP;have hEal:=sH (fq s i j x);refine aC rfl ?_;refine eB func36 2 rfl ?_;refine xp rfl (an.bH underlying9 rfl) ?_;refine cV 1 [0,1,3,9,10,13,14,15,16,17,115] rfl ?_
   have fin:∀(a:Nat) (st:ew) (old:Nat) (m:Int) (vt:Value) (toks:List Tk) (vs:Value) (sts:List ew) (h':ai) (ρ':Env),Sub [(0,.pointer (some ⟨b,0,none⟩)),(9,.string (bs (fq s i j x))),(10,.int .i64 d),(13,vt),(14,vs),(15,.int .i64 (a:Nat)),(16,.pointer (some ⟨c,0,none⟩)),(17,.int .i64 (old:Nat))] ρ'->L6 h b c B s x i j d pa (.pointer (some ⟨lb,0,none⟩)) (.slice ta tn tc) (.slice sa sn sc) pv a st old m vt toks vs sts h'/\(a=(fq s i j x).length\/(a<(fq s i j x).length/\nF (i+x.length) a old d st (aQ s).1 (fW s)=true))->G Tryz.prog 36 f36 [.code [1,1,1,1,1,1,1,1,1,1,1,0,1],.scp [0,1]] ρ' h' (aX fun r h'=>(r= .int .i64 0/\∃m,gf O h' b (fq s i j x) m/\sM s (fq s i j x) i (i+x.length) d m)/\Ext (fun y=>y=b) h h'):=by
    rintro a st old m vt toks vs sts g ρ' hsub ⟨hI,hend⟩;refine G.sub (ρ':=[(0,.pointer (some ⟨b,0,none⟩)),(9,.string (bs (fq s i j x))),(10,.int .i64 d),(13,vt),(14,vs),(15,.int .i64 (a:Nat)),(16,.pointer (some ⟨c,0,none⟩)),(17,.int .i64 (old:Nat))]) hsub ?_;have hle:=hI.tk.le;have hge:=hI.tk.ge;have htl:=hI.tk.len;have hsl2:=hI.tk.NP;have hcb:=hI.cb;have hhB:=hI.hB;have hso:sM s (fq s i j x) i (i+x.length) d m:=⟨hI.m0,p,pa,a,hbp,hpa,hpi,hge,hle,hI.m1,hI.tk.no⟩
    refine aC rfl ?_;refine aC rfl ?_;refine G.eF [(231,.bool (decide (a<(fq s i j x).length/\old<tn)))] [(0,_),(9,_),(10,_),(13,_),(14,_),(15,_),(16,_),(17,_)] ⟨rfl,rfl,rfl,rfl,rfl,rfl,rfl,rfl,trivial⟩ func36 rfl ?_ ?_
    · refine eU 2 rfl rfl (an.bH underlying9 rfl) ?_;refine dz 2 rfl ?_;refine RW.split (d:=223) rfl (fun c1=>?_) (fun c1=>?_)
      · have c1':(a:Int)<((bs (fq s i j x)).size:Nat):=of_decide_eq_true c1;refine eU 3 rfl rfl (aa (off:=2) underlying94 rfl rfl H.uI rfl) ?_;refine xp rfl (au H.yN rfl (hI.kd.cell (i:=2) rfl)) ?_;refine xp rfl (an.cM underlying41 rfl) ?_;refine dz 2 rfl ?_;refine RW.done rfl ?_;exact⟨rfl,aq rfl (by rw[decide_eq_decide];omega),rfl,rfl,rfl,rfl,rfl,rfl,rfl,rfl,trivial⟩
      · have c1':¬(a:Int)<((bs (fq s i j x)).size:Nat):=of_decide_eq_false c1;refine dz 8 rfl ?_;refine RW.done rfl ?_;exact⟨rfl,aq rfl (by rw[decide_eq_false];omega),rfl,rfl,rfl,rfl,rfl,rfl,rfl,rfl,trivial⟩
    · have fin2:∀(m:Int) (tv2 sv2:Value) (h':ai) (ρ':Env),Sub [(0,.pointer (some ⟨b,0,none⟩)),(9,.string (bs (fq s i j x))),(13,tv2),(14,sv2),(16,.pointer (some ⟨c,0,none⟩))] ρ'->Q5 h b c B s x i j d (.pointer (some ⟨lb,0,none⟩)) (.slice ta tn tc) (.slice sa sn sc) pv m tv2 sv2 h'->G Tryz.prog 36 f36 [.code [1,1,1,1,1,1,1,1,1,1,1,1,0,1],.scp [0,1]] ρ' h' (aX fun r h'=>(r= .int .i64 0/\∃m,gf O h' b (fq s i j x) m/\sM s (fq s i j x) i (i+x.length) d m)/\Ext (fun y=>y=b) h h'):=by
       rintro m tv2 sv2 g ρ' hsub hF;refine G.sub (ρ':=[(0,.pointer (some ⟨b,0,none⟩)),(9,.string (bs (fq s i j x))),(13,tv2),(14,sv2),(16,.pointer (some ⟨c,0,none⟩))]) hsub ?_;have hbsz:=hF.kd.lt;have hcsz:=hF.kc.lt;have hMc:¬(c=b\/Array.size g<=c):=by omega
       obtain⟨qa,qc,hvq,_⟩:=ax.open hF.ho;obtain⟨qa',qc',hvq',_⟩:=ax.open hF.hp;have hhB2:=hF.hB;have hth:bC HD g (fun y=>y=b\/O y) tv2 (aQ (fq s i j x)).1:=gP.read hF.ho (fun y hy k=>by rcases k with k|k;omega;have:=hO y k;omega);have hsh:bC O1 g (fun y=>y=b\/O y) sv2 (fW (fq s i j x)):=gP.read hF.hp (fun y hy k=>by rcases k with k|k;omega;have:=hO y k;omega);refine aC rfl ?_;refine cU (fun y=>y=b\/Array.size g<=y) (fun i=>Nat.blt i 20) (sz:=20) (listed:= #[false,false,false,false,false,false,false,false,false,false,false,false,false,false,false,false,false,false,false,false]) func36 H.mixed rfl rfl rfl ?_;refine aP 0 1 (by kernel_rfl) rfl ?_;refine aP 1 3 (by kernel_rfl) rfl ?_;refine aP 2 7 (by kernel_rfl) rfl ?_;refine aP 3 15 (by kernel_rfl) rfl ?_;refine aP 4 31 (by kernel_rfl) rfl ?_;refine aP 5 63 (by kernel_rfl) rfl ?_;refine aP 6 127 (by kernel_rfl) rfl ?_;refine cj 7 255 (by kernel_rfl) rfl (fun h' e=>an.aG H.xX H.ia rfl (e.rowAt hMc hF.kc.row) (by first|rfl|(simp;done)|(simp;omega))) ?_;refine aP 8 511 (by kernel_rfl) rfl ?_;refine cj 9 1023 (by kernel_rfl) rfl (fun h' e=>aa (off:=1) underlying94 rfl rfl H.lS rfl) ?_;refine rf 10 2047 (by kernel_rfl) rfl (az.aO H.lS rfl rfl hF.kd (by first|decide|exact of_decide_eq_true rfl|(simp;done)|(simp;omega)) rfl) ?_;rintro _ g1 ⟨rfl,k1,x1,z1⟩;refine⟨fun _=>x1.mono (fun _ _ k=>.inl k),?_⟩;refine aP 11 4095 (by kernel_rfl) rfl ?_;refine cj 12 8191 (by kernel_rfl) rfl (fun h' e=>aa (off:=2) underlying94 rfl rfl H.uI rfl) ?_;refine rf 13 16383 (by kernel_rfl) rfl (az.aO H.uI rfl rfl k1 (by first|decide|exact of_decide_eq_true rfl|(simp;done)|(simp;omega)) (by rw[hvq];rfl)) ?_;rintro _ g2 ⟨rfl,k2,x2,z2⟩;refine⟨fun _=>x2.mono (fun _ _ k=>.inl k),?_⟩;refine aP 14 32767 (by kernel_rfl) rfl ?_;refine cj 15 65535 (by kernel_rfl) rfl (fun h' e=>aa (off:=3) underlying94 rfl rfl H.F5 rfl) ?_;refine rf 16 131071 (by kernel_rfl) rfl (az.aO H.F5 rfl rfl k2 (by first|decide|exact of_decide_eq_true rfl|(simp;done)|(simp;omega)) (by rw[hvq'];rfl)) ?_;rintro _ g3 ⟨rfl,k3',x3,z3⟩;refine⟨fun _=>x3.mono (fun _ _ k=>.inl k),?_⟩;refine aP 17 262143 (by kernel_rfl) rfl ?_;refine cj 18 524287 (by kernel_rfl) rfl (fun h' e=>aa (off:=4) underlying94 rfl rfl H.ia rfl) ?_;refine rf 19 1048575 (by kernel_rfl) rfl (az.aH H.ia rfl rfl k3' (by first|rfl|(simp;done)|(simp;omega)) (by first|decide|exact of_decide_eq_true rfl|(simp;done)|(simp;omega)) (bL _)) ?_;rintro _ g4 ⟨rfl,k4,x4,z4⟩;refine⟨fun _=>x4.mono (fun _ _ k=>.inl k),?_⟩;have k4:aE g4 b 94 (ng (.pointer (some ⟨lb,0,none⟩)) (fq s i j x) tv2 sv2 (aQ (fq s i j x)).2 pv m):=k4;have x04:Ext (fun y=>y=b) g g4:=((x1.trans x2).trans x3).trans x4
       have hmk:=D5 k4 (hth.pK x04) (hsh.pK x04) (jy _) (by omega) (fun t ht=>by
        obtain⟨q,hq,rfl⟩:=List.getElem_of_mem ht;have:=rj (List.getElem?_eq_getElem hq);omega) (fun y hy=>by have:=hO y hy;have:=hF.ex.size;have:=x04.size;omega)
       refine RD.done (by kernel_rfl) ?_;refine xu [0,9,13,14,16] rfl ?_;refine eB func36 1 rfl ?_;refine xo rfl (ay (vs:=[_]) func73 rfl H.Pp rfl (af.cD (hmk))) ?_;rintro _ g5 ⟨⟨pv',k5,hpt⟩,x5⟩;refine xd [0,9,13,14,16] rfl ?_;refine b9 func36 1 [0,8,9,13,14,16] rfl ?_;refine bM func36 rfl rfl ?_;have x05:Ext (fun y=>y=b) g g5:=x04.trans x5;have x0:Ext (fun y=>y=b) h g5:=hF.ex.trans x05;exact⟨_,rfl,⟨rfl,m,⟨h0,lb,tv2,sv2,pv',kG,kL.pK x0,ak.only k3 x0 hb0.1,hb0,k5,hth.pK x05,hsh.pK x05,hpt⟩,hF.so⟩,x0⟩
      refine dQ rfl rfl (fun hcp=>?_) (fun hcp=>?_)
      · obtain⟨hlim,t0,htk0,htd0,hsk0⟩:=yV (hend.resolve_left (by omega)).2;obtain⟨s1,s2,s3⟩:=Dc hij hj hd hI.tk hlim htk0 htd0 hsk0;have hEal:=sH (fq s i j x);have hEsl:=jy (fq s i j x);refine aC rfl ?_;refine b9 func36 2 [0,9,10,13,14,15,16,17,21,231] rfl ?_;refine G.block rfl rfl ?_;refine hU (σ:=Nat×(Value×List Tk)×(Value×List ew)) (fun w=>[(0,.pointer (some ⟨b,0,none⟩)),(9,.string (bs (fq s i j x))),(10,.int .i64 d),(13,w.2.1.1),(14,w.2.2.1),(16,.pointer (some ⟨c,0,none⟩)),(21,.int .i64 (w.1:Nat))]) (fun w h'=>w.1<=tn/\Ext (fun y=>y=b) h h'/\aE h' b 94 (ng (.pointer (some ⟨lb,0,none⟩)) s (.slice ta tn tc) (.slice sa sn sc) (aQ s).2 pv m)/\aE h' c 44 (aK st)/\gP 3 bY h' B 128 w.2.1.1 w.2.1.2/\gP 2 aK h' B 44 w.2.2.1 w.2.2.2/\(∀y,w.2.2.1.ownBlock=some y->y≠c)/\w.2.1.2++((aQ s).1.drop w.1).map (Lx d)=(aQ (fq s i j x)).1/\w.2.2.2++(fW s).drop w.1=fW (fq s i j x)) (fun w=>tn-w.1) ((old,(vt,toks),(vs,sts))) rfl ⟨rfl,rfl,rfl,rfl,rfl,rfl,rfl,trivial⟩ ⟨by show old<=tn;omega,hI.ex,hI.kd,hI.kc,hI.ho,hI.hp,hI.nc,s1,s2⟩ ?_;rintro⟨r,⟨vt,l1⟩,⟨vs,l2⟩⟩ g ⟨hr,ex,kdg,kcg,hog,hpg,hnc,q1,q2⟩ ih2
        try dsimp only
        dsimp only at hr kdg kcg hog hpg hnc q1 q2;have z0g:=ex.size;have hl1:l1.length<=16384:=by have:=congrArg List.length q1;rw[List.length_append] at this;omega
        have hl2:l2.length<=16384:=by have:=congrArg List.length q2;rw[List.length_append] at this;omega
        refine aC rfl ?_;refine eB func36 3 rfl ?_;refine xp rfl (aa (off:=2) underlying94 rfl rfl H.uI rfl) ?_;refine xp rfl (au H.yN rfl (kdg.cell (i:=2) rfl)) ?_;refine xp rfl (an.cM underlying41 rfl) ?_;refine cV 1 [0,9,10,13,14,16,21,239] rfl ?_;refine dQ rfl rfl (fun hrt=>?_) (fun hrt=>?_)
        · have hrt':r<tn:=by omega
          obtain⟨bt,ot,t,hta,hbt,htk,hrow⟩:=((ht.pK ex).open_slice).s7 (i:=r) (by omega);obtain⟨bs',os',su,hsa,hbs',hsu,hrow0⟩:=hss.s7 (i:=r) (by omega);have hbs2:bs'<h.size:=fD hrow0 (List.cons_ne_nil _ _);have hrow2:=ex.rowAt (fun q=>hbs' (.inl q)) hrow0;have htp:=rj htk;have hdt:(aQ s).1.drop r=t::(aQ s).1.drop (r+1):=by obtain⟨h3,h4⟩:=List.getElem?_eq_some_iff.1 htk;rw[<-h4];exact List.drop_eq_getElem_cons h3
          have hds:(fW s).drop r=su::(fW s).drop (r+1):=by obtain⟨h3,h4⟩:=List.getElem?_eq_some_iff.1 hsu;rw[<-h4];exact List.drop_eq_getElem_cons h3
          rw[hdt,List.map_cons] at q1;rw[hds] at q2;refine aR rfl ?_;refine aC rfl ?_;refine G.block rfl rfl ?_;refine eB func36 2 rfl ?_;refine xp rfl (aa (off:=2) underlying94 rfl rfl H.uI rfl) ?_;refine xp rfl (au H.yN rfl (kdg.cell (i:=2) rfl)) ?_;refine eU 1 rfl rfl (an.cx underlying41 H.jW rfl rfl r rfl hta hrt') ?_;refine xp rfl (an.aG H.JR H.jW rfl hrow (by first|rfl|(simp;done)|(simp;omega))) ?_;refine xo rfl (az.cC H.vh) ?_;rintro _ g1 ⟨rfl,k22,f1,y1⟩;refine RW.fS rfl rfl rfl (az.aH H.jW rfl rfl k22 (by first|rfl|(simp;done)|(simp;omega)) (by first|decide|exact of_decide_eq_true rfl|(simp;done)|(simp;omega)) (dA _)) ?_;rintro _ g2 ⟨rfl,k22,x2,y2⟩;have k22:aE g2 g.size 128 (bY t):=k22;have eg2:ak g g2:=ak.only (h0:=g) f1 x2 (Nat.le_refl _);have z2g:=eg2.size;have tge:∀y,vt.ownBlock=some y->B<=y/\y<g.size:=fun y hy=>ax.lt hog hy
          have sge:∀y,vs.ownBlock=some y->B<=y/\y<g.size:=fun y hy=>ax.lt hpg hy
          have hoP:ax g2 B 128 3 vt l1.length (l1.flatMap bY):=hog.aj eg2;have hpP:ax g2 B 44 2 vs l2.length (l2.flatMap aK):=hpg.aj eg2;have kd2:=kdg.aj eg2;have kc2:=kcg.aj eg2;have hdis:=vL (g:=g2) hoP hpP;have h22:=k22.lt;have hbz:=kd2.lt;have hcz:=kcg.lt
          have hM22:¬(bV vt.ownBlock g.size\/bV vs.ownBlock g.size\/Array.size g2<=g.size):=by
           rintro(k|k|k)
           · have:=tge _ k.symm;omega
           · have:=sge _ k.symm;omega
           · omega
          have hMb2:¬(bV vt.ownBlock b\/bV vs.ownBlock b\/Array.size g2<=b):=by
           rintro(k|k|k)
           · have:=tge _ k.symm;omega
           · have:=sge _ k.symm;omega
           · omega
          have hMs2:¬(bV vt.ownBlock bs'\/bV vs.ownBlock bs'\/Array.size g2<=bs'):=by
           rintro(k|k|k)
           · have:=tge _ k.symm;omega
           · have:=sge _ k.symm;omega
           · omega
          refine xd [0,9,10,13,14,16,21,22,239] rfl ?_;refine G.sy (fun(q:Value×Value) (h':ai)=>Nf g2 B vt vs l1 l2 (Lx d t) su q h') (fun(q:Value×Value)=>[(13,q.1),(14,q.2)]) [(0,_),(9,_),(10,_),(16,_),(21,_),(22,_),(239,_)] ⟨rfl,rfl,rfl,rfl,rfl,rfl,rfl,trivial⟩ (fun b=>bV vt.ownBlock b\/bV vs.ownBlock b\/Array.size g2<=b) (fun i=>Nat.blt i 26) (sz:=26) (listed:= #[false,false,false,false,false,false,false,false,false,false,false,false,false,false,false,false,false,false,false,false,false,false,false,false,false,false]) func36 H.mixed rfl rfl rfl ?_ ?_
          · refine aP 0 1 (by kernel_rfl) rfl ?_;refine cj 1 3 (by kernel_rfl) rfl (fun h' e=>aa (off:=0) underlying128 rfl rfl H.ck rfl) ?_;refine cj 2 7 (by kernel_rfl) rfl (fun h' e=>au H.gS rfl (e.cell hM22 (k22.cell (i:=0) rfl))) ?_;refine cj 3 15 (by kernel_rfl) rfl (fun h' e=>aa (off:=1) underlying128 rfl rfl H.ck rfl) ?_;refine cj 4 31 (by kernel_rfl) rfl (fun h' e=>au H.gS rfl (e.cell hM22 (k22.cell (i:=1) rfl))) ?_;refine aP 5 63 (by kernel_rfl) rfl ?_;refine cj 6 127 (by kernel_rfl) rfl (fun h' e=>an.dm rfl rfl ⟨by omega,by omega⟩) ?_;refine cj 7 255 (by kernel_rfl) rfl (fun h' e=>aa (off:=2) underlying128 rfl rfl H.ck rfl) ?_;refine cj 8 511 (by kernel_rfl) rfl (fun h' e=>au H.gS rfl (e.cell hM22 (k22.cell (i:=2) rfl))) ?_;refine aP 9 1023 (by kernel_rfl) rfl ?_;refine cj 10 2047 (by kernel_rfl) rfl (fun h' e=>an.dm rfl rfl ⟨by omega,by omega⟩) ?_;refine cj 11 4095 (by kernel_rfl) rfl (fun h' e=>aB (H.oG _ _ _) rfl) ?_;refine aP 14 20479 (by kernel_rfl) rfl ?_;refine aP 15 53247 (by kernel_rfl) rfl ?_;refine aP 16 118783 (by kernel_rfl) rfl ?_;refine cj 17 249855 (by kernel_rfl) rfl (fun h' e=>aa (off:=3) underlying94 rfl rfl H.F5 rfl) ?_;refine cj 18 511999 (by kernel_rfl) rfl (fun h' e=>au H.KZ rfl (e.cell hMb2 (kd2.cell (i:=3) rfl))) ?_;refine aP 19 1036287 (by kernel_rfl) rfl ?_;refine cj 20 2084863 (by kernel_rfl) rfl (fun h' e=>an.cx underlying92 H.ia rfl rfl r rfl hsa (by omega)) ?_;refine cj 21 4182015 (by kernel_rfl) rfl (fun h' e=>an.aG H.xX H.ia rfl (e.rowAt hMs2 (eg2.rowAt (fun k=>k) hrow2)) (by first|rfl|(simp;done)|(simp;omega))) ?_;have tlt:∀x,bV vt.ownBlock x->x<g2.size:=fun x k=>(ax.lt hoP k.symm).2
            have slt:∀x,bV vs.ownBlock x->x<g2.size:=fun x k=>(ax.lt hpP k.symm).2
            refine RD.yx 12 22 (li:= #[true,true,true,true,true,true,true,true,true,true,true,true,true,false,true,true,true,true,true,true,true,true,false,false,false,false]) (lj:= #[true,true,true,true,true,true,true,true,true,true,true,true,false,false,true,true,true,true,true,true,true,true,true,false,false,false]) rfl rfl (by kernel_rfl) rfl rfl rfl rfl rfl rfl (az.cy (cs:=[_,_,_]) underlying41 H.lG rfl rfl (by decide)) (az.cy (cs:=[_,_]) underlying92 H.sj rfl rfl (by decide)) (by kernel_rfl) (by kernel_rfl) ?_ ?_
            · rintro _ w1 ⟨rfl,hw1⟩;refine⟨fun _=>by rw[hw1];exact Ext.push _ _ _,?_⟩;have x01:ak g2 w1:=by rw[hw1];exact Ext.push _ _ _
              have z01:w1.size=g2.size+1:=by rw[hw1];simp
              have hrA:Lw.rowAt w1 g2.size 0 (bY (Lx d t)):=by rw[hw1];exact cJ _ _ _
              refine RD.yx 13 22 (li:= #[true,true,true,true,true,true,true,true,true,true,true,true,true,true,true,true,true,true,true,true,true,true,false,false,false,false]) (lj:= #[true,true,true,true,true,true,true,true,true,true,true,true,true,false,true,true,true,true,true,true,true,true,true,false,false,false]) rfl rfl (by kernel_rfl) rfl rfl rfl rfl rfl rfl (az.append underlying41 H.lG rfl rfl (hoP.fk x01) rfl (.inr ⟨_,_,rfl,hrA⟩) (dA _) (by simp only[maxLen];omega) (by omega) (by omega)) (az.cy (cs:=[_,_]) underlying92 H.sj rfl rfl (by decide)) (by kernel_rfl) (by kernel_rfl) ?_ ?_
              · rintro vt2 w2 ⟨ho2,hx2,_,hv2⟩;refine⟨fun _=>hx2.mono (fun _ _ k=>.inl k),?_⟩;have z12:=hx2.size;refine jU 22 8388607 (by kernel_rfl) rfl (az.cy (cs:=[_,_]) underlying92 H.sj rfl rfl (by decide)) ?_;rintro _ w3 ⟨rfl,hw3⟩;refine⟨fun _=>by rw[hw3];exact Ext.push _ _ _,?_⟩;have x23:ak w2 w3:=by rw[hw3];exact Ext.push _ _ _
                have z23:w3.size=w2.size+1:=by rw[hw3];simp
                have hrS:Lw.rowAt w3 w2.size 0 (aK su):=by rw[hw3];exact cJ _ _ _
                refine jU 23 16777215 (by kernel_rfl) rfl (az.append underlying92 H.sj rfl rfl ((ax.ext hx2 (hpP.fk x01) (fun b hb k=>hdis b k hb.symm)).fk x23) rfl (.inr ⟨_,_,rfl,hrS⟩) (bL _) (by simp only[maxLen];omega) (by omega) (by omega)) ?_;rintro vs2 w4 ⟨ho4,hx4,_,hv4⟩;refine⟨fun _=>hx4.mono (fun _ _ k=>.inr (.inl k)),?_⟩;refine aP 24 33554431 (by kernel_rfl) rfl ?_;refine aP 25 67108863 (by kernel_rfl) rfl ?_;refine RD.done (by kernel_rfl) ?_;exact⟨(vt2,vs2),lN hoP hpP ((ak.of x01).trans hx2) (fun b hb=>(hv2 b hb).imp id (fun k=>by omega)) ho2 ((ak.of x23).trans hx4) ho4 (fun b hb=>(hv4 b hb).imp id (fun k=>by omega)),rfl,rfl,rfl,rfl,rfl,rfl,rfl,rfl,rfl,trivial⟩
              · rintro _ w2 ⟨rfl,hw2⟩;refine⟨fun _=>by rw[hw2];exact Ext.push _ _ _,?_⟩;have x12:ak w1 w2:=by rw[hw2];exact Ext.push _ _ _
                have z12:w2.size=w1.size+1:=by rw[hw2];simp
                have hrS:Lw.rowAt w2 w1.size 0 (aK su):=by rw[hw2];exact cJ _ _ _
                have x02:=x01.trans x12;refine jU 13 8388607 (by kernel_rfl) rfl (az.append underlying41 H.lG rfl rfl (hoP.fk x02) rfl (.inr ⟨_,_,rfl,x12.rowAt (fun k=>k) hrA⟩) (dA _) (by simp only[maxLen];omega) (by omega) (by omega)) ?_;rintro vt2 w3 ⟨ho2,hx2,_,hv2⟩;refine⟨fun _=>hx2.mono (fun _ _ k=>.inl k),?_⟩;have z23:=hx2.size;refine jU 23 16777215 (by kernel_rfl) rfl (az.append underlying92 H.sj rfl rfl (ax.ext hx2 (hpP.fk x02) (fun b hb k=>hdis b k hb.symm)) rfl (.inr ⟨_,_,rfl,hx2.rowAt (fun k=>by have:=tlt _ k;omega) hrS⟩) (bL _) (by simp only[maxLen];omega) (by omega) (by omega)) ?_;rintro vs2 w4 ⟨ho4,hx4,_,hv4⟩;refine⟨fun _=>hx4.mono (fun _ _ k=>.inr (.inl k)),?_⟩;refine aP 24 33554431 (by kernel_rfl) rfl ?_;refine aP 25 67108863 (by kernel_rfl) rfl ?_;refine RD.done (by kernel_rfl) ?_;exact⟨(vt2,vs2),lN hoP hpP ((ak.of x02).trans hx2) (fun b hb=>(hv2 b hb).imp id (fun k=>by omega)) ho2 hx4 ho4 (fun b hb=>(hv4 b hb).imp id (fun k=>by omega)),rfl,rfl,rfl,rfl,rfl,rfl,rfl,rfl,rfl,trivial⟩
            · rintro _ w1 ⟨rfl,hw1⟩;refine⟨fun _=>by rw[hw1];exact Ext.push _ _ _,?_⟩;have x01:ak g2 w1:=by rw[hw1];exact Ext.push _ _ _
              have z01:w1.size=g2.size+1:=by rw[hw1];simp
              have hrS:Lw.rowAt w1 g2.size 0 (aK su):=by rw[hw1];exact cJ _ _ _
              refine jU 12 8380415 (by kernel_rfl) rfl (az.cy (cs:=[_,_,_]) underlying41 H.lG rfl rfl (by decide)) ?_;rintro _ w2 ⟨rfl,hw2⟩;refine⟨fun _=>by rw[hw2];exact Ext.push _ _ _,?_⟩;have x12:ak w1 w2:=by rw[hw2];exact Ext.push _ _ _
              have z12:w2.size=w1.size+1:=by rw[hw2];simp
              have hrA:Lw.rowAt w2 w1.size 0 (bY (Lx d t)):=by rw[hw2];exact cJ _ _ _
              have x02:=x01.trans x12;refine jU 13 8388607 (by kernel_rfl) rfl (az.append underlying41 H.lG rfl rfl (hoP.fk x02) rfl (.inr ⟨_,_,rfl,hrA⟩) (dA _) (by simp only[maxLen];omega) (by omega) (by omega)) ?_;rintro vt2 w3 ⟨ho2,hx2,_,hv2⟩;refine⟨fun _=>hx2.mono (fun _ _ k=>.inl k),?_⟩;have z23:=hx2.size;refine jU 23 16777215 (by kernel_rfl) rfl (az.append underlying92 H.sj rfl rfl (ax.ext hx2 (hpP.fk x02) (fun b hb k=>hdis b k hb.symm)) rfl (.inr ⟨_,_,rfl,hx2.rowAt (fun k=>by have:=tlt _ k;omega) (x12.rowAt (fun k=>k) hrS)⟩) (bL _) (by simp only[maxLen];omega) (by omega) (by omega)) ?_;rintro vs2 w4 ⟨ho4,hx4,_,hv4⟩;refine⟨fun _=>hx4.mono (fun _ _ k=>.inr (.inl k)),?_⟩;refine aP 24 33554431 (by kernel_rfl) rfl ?_;refine aP 25 67108863 (by kernel_rfl) rfl ?_;refine RD.done (by kernel_rfl) ?_;exact⟨(vt2,vs2),lN hoP hpP ((ak.of x02).trans hx2) (fun b hb=>(hv2 b hb).imp id (fun k=>by omega)) ho2 hx4 ho4 (fun b hb=>(hv4 b hb).imp id (fun k=>by omega)),rfl,rfl,rfl,rfl,rfl,rfl,rfl,rfl,rfl,trivial⟩
          · rintro⟨vt2,vs2⟩ g7 ⟨ho7,hp7,x7,hv7⟩;dsimp only at ho7 hp7 hv7;have z7:=x7.size;refine G.cz ?_;refine G.eM func36 rfl ?_;refine eU 1 rfl rfl (an.dm rfl rfl ⟨by omega,by omega⟩) ?_;refine cV 1 [0,9,10,13,14,16,21,22,239] rfl ?_
            exact ih2 (r+1,(vt2,l1++[Lx d t]),(vs2,l2++[su])) _ _ ⟨rfl,rfl,rfl,rfl,rfl,rfl,rfl,trivial⟩ ⟨by show r+1<=tn;omega,⟨by omega,fun y hy hn=>by
             rw[x7.block y (by omega) (by rintro(k|k);have:=tge _ k.symm;omega;have:=sge _ k.symm;omega),eg2.block y (by omega) (fun k=>k)];exact ex.block y hy hn⟩,
             kd2.ext x7 (fun k=>hMb2 (k.imp id .inl)),kc2.ext x7 (by rintro(k|k);exact iC hoP kc2 (by decide) k;exact hnc c k.symm rfl),ho7,hp7,fun y hy hyc=>by
              rcases hv7 y hy with k|k
              · exact hnc y k hyc
              · omega
             ,by simpa using q1,by simpa using q2⟩ (by show tn-(r+1)<tn-r;omega)
        · obtain rfl:r=tn:=by omega
          have hdt:(aQ s).1.drop r=[]:=List.drop_of_length_le (by omega);have hds:(fW s).drop r=[]:=List.drop_of_length_le (by omega);rw[hdt,List.map_nil,List.append_nil] at q1;rw[hds,List.append_nil] at q2;subst q1 q2;have tge:∀y,vt.ownBlock=some y->B<=y/\y<g.size:=fun y hy=>ax.lt hog hy
          have hrE:Lw.rowAt g b (0+4) (aK (aQ s).2):=kdg.part 4 (fun j v hj=>by match j,hj with| 0,hj=>exact hj| 1,hj=>exact hj|j+2,hj=>simp[aK] at hj);refine jb rfl rfl ?_;refine G.eM func36 rfl ?_;refine eU 2 rfl rfl (aa (off:=4) underlying94 rfl rfl H.ia rfl) ?_;refine xp rfl (an.aG H.xX H.ia rfl hrE (by first|rfl|(simp;done)|(simp;omega))) ?_;refine RW.fS rfl rfl rfl (az.aH H.ia rfl rfl kcg (by first|rfl|(simp;done)|(simp;omega)) (by first|decide|exact of_decide_eq_true rfl|(simp;done)|(simp;omega)) (bL _)) ?_;rintro _ g2 ⟨rfl,kc2,x2,z2⟩;refine xd [0,9,10,13,14,16,21,239] rfl ?_;have kc2:aE g2 c 44 (aK (aQ s).2):=kc2;rw[s3] at kc2;exact fin2 m vt vs _ _ ⟨rfl,rfl,rfl,rfl,rfl,trivial⟩ ⟨⟨by omega,fun y hy hn=>by rw[x2.block y (by omega) (by omega)];exact ex.block y hy hn⟩,kdg.ext x2 (by omega),kc2,ax.ext x2 hog (fun y hy k=>iC hog kcg (by decide) (by rw[hy];exact congrArg some k.symm)),ax.ext x2 hpg (fun y hy k=>hnc y hy k),hso,hcb,hhB⟩
      · have ha:a=(fq s i j x).length:=by
         rcases hend with k|⟨k1,k2⟩
         · exact k
         · exfalso;obtain⟨_,t,h2,_⟩:=yV k2;have:=(List.getElem?_eq_some_iff.1 h2).1;omega
        obtain⟨s1,s2,s3⟩:=hI.tk.done ha;subst s1 s2 s3;refine aR rfl ?_;exact fin2 m vt vs _ _ ⟨rfl,rfl,rfl,rfl,rfl,trivial⟩ ⟨hI.ex,hI.kd,hI.kc,hI.ho,hI.hp,hso,hcb,hhB⟩
   refine dQ rfl rfl (fun hlt=>?_) (fun hlt=>?_)
   · have hlt':a<(fq s i j x).length:=by omega
     refine aR rfl ?_;refine G.block rfl rfl ?_;refine aC rfl ?_;refine G.block rfl rfl ?_;refine hU (σ:=Nat) (fun r=>[(0,.pointer (some ⟨b,0,none⟩)),(1,.int .i64 (i:Nat)),(3,.string (bs x)),(9,.string (bs (fq s i j x))),(10,.int .i64 d),(13,vt),(14,vs),(15,.int .i64 (a:Nat)),(16,.pointer (some ⟨c,0,none⟩)),(17,.int .i64 (r:Nat))]) (fun r h'=>h'=g/\r<=tn/\∀(r':Nat) (t:Tk),r'<r->(aQ s).1[r']? =some t->t.2.1+d<max (a:Int) ((i+x.length:Nat):Int)) (fun r=>tn-r) (old) rfl ⟨rfl,rfl,rfl,rfl,rfl,rfl,rfl,rfl,rfl,rfl,trivial⟩ ⟨rfl,by rw[<-htn];exact hI.ol,hI.ob⟩ ?_;rintro r g ⟨hgq,hr,hrb⟩ ih2;subst hgq;refine aC rfl ?_;refine aC rfl ?_;refine G.eF [(136,.bool (BO (aQ s).1 r d a))] [(0,_),(1,_),(3,_),(9,_),(10,_),(13,_),(14,_),(15,_),(16,_),(17,_)] ⟨rfl,rfl,rfl,rfl,rfl,rfl,rfl,rfl,rfl,rfl,trivial⟩ func36 rfl ?_ ?_
     · refine eU 3 rfl rfl (aa (off:=2) underlying94 rfl rfl H.uI rfl) ?_;refine xp rfl (au H.yN rfl (hI.kd.cell (i:=2) rfl)) ?_;refine xp rfl (an.cM underlying41 rfl) ?_;refine dz 2 rfl ?_;refine RW.split (d:=123) rfl (fun c1=>?_) (fun c1=>?_)
       · have c1':(r:Int)<(tn:Nat):=of_decide_eq_true c1;obtain⟨bt,ot,t,hta,hbt,htk,hrow⟩:=((ht.pK hI.ex).open_slice).s7 (i:=r) (by omega);have htp:=rj htk;refine eU 2 rfl rfl (aa (off:=2) underlying94 rfl rfl H.uI rfl) ?_;refine xp rfl (au H.yN rfl (hI.kd.cell (i:=2) rfl)) ?_;refine eU 1 rfl rfl (an.cx underlying41 H.jW rfl rfl r rfl hta (by omega)) ?_;refine xp rfl (aa (off:=1) underlying128 rfl rfl H.ck rfl) ?_;refine xp rfl (au H.gS rfl (hrow 1 _ rfl)) ?_;refine eU 1 rfl rfl (an.dm rfl rfl ⟨by omega,by omega⟩) ?_;refine dz 3 rfl ?_;refine RW.done rfl ?_;exact⟨rfl,aq rfl (by unfold BO;rw[htk]),rfl,rfl,rfl,rfl,rfl,rfl,rfl,rfl,rfl,rfl,trivial⟩
       · have c1':¬(r:Int)<(tn:Nat):=of_decide_eq_false c1;refine dz 13 rfl ?_;refine RW.done rfl ?_;exact⟨rfl,aq rfl (by unfold BO;rw[List.getElem?_eq_none (by omega)]),rfl,rfl,rfl,rfl,rfl,rfl,rfl,rfl,rfl,rfl,trivial⟩
     · refine aA rfl rfl (fun hskip=>?_) (fun hskip=>?_)
       · obtain⟨t,htk,htlt⟩:∃t,(aQ s).1[r]? =some t/\t.2.1+d<(a:Int):=by
          unfold BO at hskip;split at hskip
          · rename_i t ht;exact⟨t,ht,of_decide_eq_true hskip⟩
          · cases hskip
         have hrn:=(List.getElem?_eq_some_iff.1 htk).1;refine aR rfl ?_;refine G.block rfl rfl ?_;refine G.eM func36 rfl ?_;refine eU 1 rfl rfl (an.dm rfl rfl ⟨by omega,by omega⟩) ?_;refine cV 1 [0,1,3,9,10,13,14,15,16,17,136] rfl ?_;refine G.cz ?_;exact ih2 (r+1) _ _ ⟨rfl,rfl,rfl,rfl,rfl,rfl,rfl,rfl,rfl,rfl,trivial⟩ ⟨rfl,by omega,fun r' t' hr' ht'=>by rcases Nat.lt_or_ge r' r with k|k;exact hrb r' t' k ht';obtain rfl:r'=r:=(by omega);rw[htk] at ht';obtain rfl:=Option.some.inj ht';omega⟩ (by omega)
       · have hnl:∀t:Tk,(aQ s).1[r]? =some t->¬t.2.1+d<(a:Int):=fun t htk hk=>by
          unfold BO at hskip;rw[htk] at hskip;simp only[decide_eq_true hk] at hskip;cases hskip
         have hI:=L6.old hI (by omega) hrb;refine jb rfl rfl ?_;refine aC rfl ?_;refine aC rfl ?_;refine G.CO [(178,.bool (nF (i+x.length) a r d st (aQ s).1 (fW s)))] [(0,_),(1,_),(3,_),(9,_),(10,_),(13,_),(14,_),(15,_),(16,_),(17,_),(136,_)] ⟨rfl,rfl,rfl,rfl,rfl,rfl,rfl,rfl,rfl,rfl,rfl,trivial⟩ func36 H.mixed rfl (by kernel_rfl) ?_ ?_
         · refine RQ.aD rfl rfl rfl rfl (aS rfl) ?_;refine RQ.aD rfl rfl rfl rfl (aS rfl) ?_;refine RQ.aD rfl rfl rfl rfl (aS rfl) ?_;refine RQ.aD rfl rfl rfl rfl (an.bH underlying9 rfl) ?_;refine RQ.aD rfl rfl rfl rfl (an.dm rfl rfl ⟨by omega,by omega⟩) ?_;refine RQ.aD rfl rfl rfl rfl (FR rfl rfl) ?_;refine RQ.aD rfl rfl rfl rfl (aS rfl) ?_;refine RQ.split (d:=145) rfl (fun c1=>?_) (fun c1=>?_)
           · have c1':((i:Int)+((bs x).size:Nat))<=(a:Nat):=of_decide_eq_true c1;have hlim:i+x.length<=a:=by omega
             refine RQ.aD rfl rfl rfl rfl (aS rfl) ?_;refine RQ.aD rfl rfl rfl rfl (aS rfl) ?_;refine RQ.aD rfl rfl rfl rfl (cG rfl) ?_;refine RQ.aD rfl rfl rfl rfl (aa (off:=2) underlying94 rfl rfl H.uI rfl) ?_;refine RQ.aD rfl rfl rfl rfl (au H.yN rfl (hI.kd.cell (i:=2) rfl)) ?_;refine RQ.aD rfl rfl rfl rfl (an.cM underlying41 rfl) ?_;refine RQ.aD rfl rfl rfl rfl (FQ rfl rfl) ?_;refine RQ.aD rfl rfl rfl rfl (an.Fg rfl rfl) ?_;refine RQ.aD rfl rfl rfl rfl (aS rfl) ?_;refine RQ.split (d:=154) rfl (fun c2=>?_) (fun c2=>?_)
             · have c2':(r:Int)<(tn:Nat):=of_decide_eq_true c2;obtain⟨bt,ot,t,hta,hbt,htk,hrow⟩:=((ht.pK hI.ex).open_slice).s7 (i:=r) (by omega);obtain⟨bs',os',su,hsa,hbs',hsu,hrow2⟩:=((hsv.pK hI.ex).open_slice).s7 (i:=r) (by omega);have htp:=rj htk;refine RQ.aD rfl rfl rfl rfl (aS rfl) ?_;refine RQ.aD rfl rfl rfl rfl (cG rfl) ?_;refine RQ.aD rfl rfl rfl rfl (aa (off:=2) underlying94 rfl rfl H.uI rfl) ?_;refine RQ.aD rfl rfl rfl rfl (au H.yN rfl (hI.kd.cell (i:=2) rfl)) ?_;refine RQ.aD rfl rfl rfl rfl (aS rfl) ?_;refine RQ.aD rfl rfl rfl rfl (an.cx underlying41 H.jW rfl rfl r rfl hta (by omega)) ?_;refine RQ.aD rfl rfl rfl rfl (aa (off:=1) underlying128 rfl rfl H.ck rfl) ?_;refine RQ.aD rfl rfl rfl rfl (au H.gS rfl (hrow 1 _ rfl)) ?_;refine RQ.aD rfl rfl rfl rfl (aS rfl) ?_;refine RQ.aD rfl rfl rfl rfl (an.dm rfl rfl ⟨by omega,by omega⟩) ?_;refine RQ.aD rfl rfl rfl rfl (aS rfl) ?_;refine RQ.aD rfl rfl rfl rfl (an.Jo rfl rfl) ?_;refine RQ.aD rfl rfl rfl rfl (an.Fg rfl rfl) ?_;refine RQ.aD rfl rfl rfl rfl (aS rfl) ?_;refine RQ.split (d:=168) rfl (fun c3=>?_) (fun c3=>?_)
               · have c3':t.2.1+d=(a:Nat):=of_decide_eq_true c3;refine RQ.aD rfl rfl rfl rfl (aS rfl) ?_;refine RQ.aD rfl rfl rfl rfl (cG rfl) ?_;refine RQ.aD rfl rfl rfl rfl (aa (off:=3) underlying94 rfl rfl H.F5 rfl) ?_;refine RQ.aD rfl rfl rfl rfl (au H.KZ rfl (hI.kd.cell (i:=3) rfl)) ?_;refine RQ.aD rfl rfl rfl rfl (aS rfl) ?_;refine RQ.aD rfl rfl rfl rfl (an.cx underlying92 H.ia rfl rfl r rfl hsa (by omega)) ?_;refine RQ.aD rfl rfl rfl rfl (an.aG H.xX H.ia rfl hrow2 (by first|rfl|(simp;done)|(simp;omega))) ?_;refine RQ.aD rfl rfl rfl rfl (an.aG H.xX H.ia rfl hI.kc.row (by first|rfl|(simp;done)|(simp;omega))) ?_;refine RQ.aD rfl rfl rfl rfl (an.ML Fx Ig Jc rfl rfl (NO _ _)) ?_;refine RQ.aD rfl rfl rfl rfl (an.Fg rfl rfl) ?_;refine RQ.done rfl ?_;exact⟨rfl,aq rfl (by unfold nF;rw[decide_eq_true hlim,htk,hsu];simp[c3']),rfl,rfl,rfl,rfl,rfl,rfl,rfl,rfl,rfl,rfl,rfl,trivial⟩
               · have c3':¬t.2.1+d=(a:Nat):=of_decide_eq_false c3;refine RQ.bn rfl rfl rfl rfl ?_;refine RQ.bn rfl rfl rfl rfl ?_;refine RQ.bn rfl rfl rfl rfl ?_;refine RQ.bn rfl rfl rfl rfl ?_;refine RQ.bn rfl rfl rfl rfl ?_;refine RQ.bn rfl rfl rfl rfl ?_;refine RQ.bn rfl rfl rfl rfl ?_;refine RQ.bn rfl rfl rfl rfl ?_;refine RQ.bn rfl rfl rfl rfl ?_;refine RQ.aD rfl rfl rfl rfl (an.vS rfl rfl) ?_;refine RQ.done rfl ?_;exact⟨rfl,aq rfl (by unfold nF;rw[htk,hsu];simp[c3']),rfl,rfl,rfl,rfl,rfl,rfl,rfl,rfl,rfl,rfl,rfl,trivial⟩
             · have c2':¬(r:Int)<(tn:Nat):=of_decide_eq_false c2;refine RQ.bn rfl rfl rfl rfl ?_;refine RQ.bn rfl rfl rfl rfl ?_;refine RQ.bn rfl rfl rfl rfl ?_;refine RQ.bn rfl rfl rfl rfl ?_;refine RQ.bn rfl rfl rfl rfl ?_;refine RQ.bn rfl rfl rfl rfl ?_;refine RQ.bn rfl rfl rfl rfl ?_;refine RQ.bn rfl rfl rfl rfl ?_;refine RQ.bn rfl rfl rfl rfl ?_;refine RQ.bn rfl rfl rfl rfl ?_;refine RQ.bn rfl rfl rfl rfl ?_;refine RQ.bn rfl rfl rfl rfl ?_;refine RQ.aD rfl rfl rfl rfl (an.vS rfl rfl) ?_;refine RQ.aD rfl rfl rfl rfl (aS rfl) ?_;refine RQ.bn rfl rfl rfl rfl ?_;refine RQ.bn rfl rfl rfl rfl ?_;refine RQ.bn rfl rfl rfl rfl ?_;refine RQ.bn rfl rfl rfl rfl ?_;refine RQ.bn rfl rfl rfl rfl ?_;refine RQ.bn rfl rfl rfl rfl ?_;refine RQ.bn rfl rfl rfl rfl ?_;refine RQ.bn rfl rfl rfl rfl ?_;refine RQ.bn rfl rfl rfl rfl ?_;refine RQ.aD rfl rfl rfl rfl (an.vS rfl rfl) ?_;refine RQ.done rfl ?_;exact⟨rfl,aq rfl (by unfold nF;rw[List.getElem?_eq_none (by omega)];simp),rfl,rfl,rfl,rfl,rfl,rfl,rfl,rfl,rfl,rfl,rfl,trivial⟩
           · have c1':¬((i:Int)+((bs x).size:Nat))<=(a:Nat):=of_decide_eq_false c1;have hlim:¬i+x.length<=a:=by omega
             refine RQ.bn rfl rfl rfl rfl ?_;refine RQ.bn rfl rfl rfl rfl ?_;refine RQ.bn rfl rfl rfl rfl ?_;refine RQ.bn rfl rfl rfl rfl ?_;refine RQ.bn rfl rfl rfl rfl ?_;refine RQ.bn rfl rfl rfl rfl ?_;refine RQ.bn rfl rfl rfl rfl ?_;refine RQ.aD rfl rfl rfl rfl (an.vS rfl rfl) ?_;refine RQ.aD rfl rfl rfl rfl (aS rfl) ?_;refine RQ.bn rfl rfl rfl rfl ?_;refine RQ.bn rfl rfl rfl rfl ?_;refine RQ.bn rfl rfl rfl rfl ?_;refine RQ.bn rfl rfl rfl rfl ?_;refine RQ.bn rfl rfl rfl rfl ?_;refine RQ.bn rfl rfl rfl rfl ?_;refine RQ.bn rfl rfl rfl rfl ?_;refine RQ.bn rfl rfl rfl rfl ?_;refine RQ.bn rfl rfl rfl rfl ?_;refine RQ.bn rfl rfl rfl rfl ?_;refine RQ.bn rfl rfl rfl rfl ?_;refine RQ.bn rfl rfl rfl rfl ?_;refine RQ.aD rfl rfl rfl rfl (an.vS rfl rfl) ?_;refine RQ.aD rfl rfl rfl rfl (aS rfl) ?_;refine RQ.bn rfl rfl rfl rfl ?_;refine RQ.bn rfl rfl rfl rfl ?_;refine RQ.bn rfl rfl rfl rfl ?_;refine RQ.bn rfl rfl rfl rfl ?_;refine RQ.bn rfl rfl rfl rfl ?_;refine RQ.bn rfl rfl rfl rfl ?_;refine RQ.bn rfl rfl rfl rfl ?_;refine RQ.bn rfl rfl rfl rfl ?_;refine RQ.bn rfl rfl rfl rfl ?_;refine RQ.aD rfl rfl rfl rfl (an.vS rfl rfl) ?_;refine RQ.done rfl ?_;exact⟨rfl,aq rfl (by unfold nF;rw[decide_eq_false hlim];simp),rfl,rfl,rfl,rfl,rfl,rfl,rfl,rfl,rfl,rfl,rfl,trivial⟩
         · refine aA rfl rfl (fun hsy=>?_) (fun hsy=>?_)
           · refine jb rfl rfl ?_;exact fin a st r m vt toks vs sts _ _ ⟨rfl,rfl,rfl,rfl,rfl,rfl,rfl,rfl,trivial⟩ ⟨hI,.inr ⟨hlt',hsy⟩⟩
           · have hsy':nF (i+x.length) a r d st (aQ s).1 (fW s)=false:=by simpa using hsy
             have hno:i+x.length<=a->¬Dd s (fq s i j x) d a:=fun hl=>Kv hI.tk hlt' hrb hnl (fun hl' t ht' hd'=>Ia hsy' hl' t ht' hd') hl
             have hstep:=hI.tk.step hlt' hno;have hne:(fq s i j x).drop a≠[]:=fun e=>by have:=congrArg List.length e;rw[List.length_drop] at this;simp at this;omega
             have hkl:=dH hne st.1;rw[List.length_drop] at hkl;have hone:∀g',ak g g'->_:=fun g' e=>zm (kG.aj (e0g.trans e)) (kLg.aj e) (fq s i j x) a hlt' (by omega) st hI.tk.i64
             unfold Ku at hone;have hst0:=KE st.1 ((fq s i j x).drop a);have hll:=jG st.1 ((fq s i j x).drop a)
             have hsp:0<=tf st.1 ((fq s i j x).drop a)/\tf st.1 ((fq s i j x).drop a)<=3*(bB ((fq s i j x).drop a) st.1:Nat):=by
              unfold bB at hkl ⊢;split
              · rw[if_pos (by assumption)] at hkl;omega
              · rw[if_neg (by assumption)] at hkl;omega
             generalize bB ((fq s i j x).drop a) st.1=L at *;generalize mh ((fq s i j x).drop a) st.1=kdd at *;generalize dJ ((fq s i j x).drop a) st=nx at *;generalize tf st.1 ((fq s i j x).drop a)=sp at *;have hMb:¬Array.size g<=b:=by have:=hI.kd.lt;omega
             have hMc:¬Array.size g<=c:=by have:=hI.kc.lt;omega
             refine aR rfl ?_;refine aC rfl ?_;refine G.sy (fun(q:Nat×Nat) (h':ai)=>OT g (kdd,(a:Int),((a+L:Nat):Int)) nx q h') (fun(q:Nat×Nat)=>[(18,.pointer (some ⟨q.1,0,none⟩)),(19,.pointer (some ⟨q.2,0,none⟩)),(20,.int .i64 sp)]) [(0,_),(1,_),(3,_),(9,_),(10,_),(13,_),(14,_),(15,_),(16,_),(17,_),(136,_),(178,_)] ⟨rfl,rfl,rfl,rfl,rfl,rfl,rfl,rfl,rfl,rfl,rfl,rfl,trivial⟩ (fun b=>Array.size g<=b) (fun i=>Nat.blt i 17) (sz:=17) (listed:= #[false,false,false,false,false,false,false,false,false,false,false,false,false,false,false,false,false]) func36 H.mixed rfl rfl rfl ?_ ?_
             · refine aP 0 1 (by kernel_rfl) rfl ?_;refine aP 1 3 (by kernel_rfl) rfl ?_;refine cj 2 7 (by kernel_rfl) rfl (fun h' e=>aa (off:=0) underlying94 rfl rfl H.NF rfl) ?_;refine cj 3 15 (by kernel_rfl) rfl (fun h' e=>au H.OE rfl (e.cell hMb (hI.kd.cell (i:=0) rfl))) ?_;refine aP 4 31 (by kernel_rfl) rfl ?_;refine aP 5 63 (by kernel_rfl) rfl ?_;refine cj 6 127 (by kernel_rfl) rfl (fun h' e=>an.aG H.xX H.ia rfl (e.rowAt hMc hI.kc.row) (by first|rfl|(simp;done)|(simp;omega))) ?_;refine RD.Mc 7 12 13 (li:= #[true,true,true,true,true,true,true,true,false,false,false,false,false,false,false,false,false]) (lj:= #[true,true,true,true,true,true,true,false,false,false,false,false,true,false,false,false,false]) (lk:= #[true,true,true,true,true,true,true,false,false,false,false,false,false,true,false,false,false]) rfl rfl rfl (by kernel_rfl) rfl rfl rfl rfl rfl rfl rfl rfl rfl (ay (vs:=[_,_,_,_]) func72 rfl H.IL rfl (af.cD (hone _ (Ext.refl _ _)))) (az.cC H.vh) (az.cC H.Bx) (by kernel_rfl) (by kernel_rfl) (by kernel_rfl) ?_ ?_ ?_
               · rintro _ w1 ⟨rfl,e1⟩;refine⟨fun _=>e1.of,?_⟩;refine aP 8 511 (by kernel_rfl) rfl ?_;refine aP 9 1023 (by kernel_rfl) rfl ?_;refine aP 10 2047 (by kernel_rfl) rfl ?_;refine aP 11 4095 (by kernel_rfl) rfl ?_;refine RD.yx 12 13 (li:= #[true,true,true,true,true,true,true,true,true,true,true,true,true,false,false,false,false]) (lj:= #[true,true,true,true,true,true,true,true,true,true,true,true,false,true,false,false,false]) rfl rfl (by kernel_rfl) rfl rfl rfl rfl rfl rfl (az.cC H.vh) (az.cC H.Bx) (by kernel_rfl) (by kernel_rfl) ?_ ?_
                 · rintro _ w2 ⟨rfl,c7,e2,y2⟩;refine⟨fun _=>e2.of,?_⟩;refine jU 13 16383 (by kernel_rfl) rfl (az.cC H.Bx) ?_;rintro _ w3 ⟨rfl,c8,e3,y3⟩;refine⟨fun _=>e3.of,?_⟩;have z1:=e1.size;have z2:=e2.size;have z3:=e3.size;refine rf 14 32767 (by kernel_rfl) rfl (az.aH H.jW rfl rfl (c7.aj e3) (by first|rfl|(simp;done)|(simp;omega)) (by first|decide|exact of_decide_eq_true rfl|(simp;done)|(simp;omega)) (dA _)) ?_;rintro _ w4 ⟨rfl,d7,x4',y4'⟩;refine⟨fun _=>x4'.mono (fun b _ k=>by have k:b=w1.size:=k;omega),?_⟩;refine rf 15 65535 (by kernel_rfl) rfl (az.aH H.ia rfl rfl ((c8).ext x4' (show ¬w2.size=w1.size by omega)) (by first|rfl|(simp;done)|(simp;omega)) (by first|decide|exact of_decide_eq_true rfl|(simp;done)|(simp;omega)) (bL _)) ?_;rintro _ w5 ⟨rfl,d8,x5,y5⟩;refine⟨fun _=>x5.mono (fun b _ k=>by have k:b=w2.size:=k;omega),?_⟩;refine aP 16 131071 (by kernel_rfl) rfl ?_;refine RD.done (by kernel_rfl) ?_;exact⟨(w1.size,w2.size),jv ((e1.trans e2).trans e3) (by omega) (by omega) (by omega) x4' x5 d7 d8,rfl,rfl,rfl,rfl,rfl,rfl,rfl,rfl,rfl,rfl,rfl,rfl,rfl,rfl,rfl,trivial⟩
                 · rintro _ w2 ⟨rfl,c8,e2,y2⟩;refine⟨fun _=>e2.of,?_⟩;refine jU 12 16383 (by kernel_rfl) rfl (az.cC H.vh) ?_;rintro _ w3 ⟨rfl,c7,e3,y3⟩;refine⟨fun _=>e3.of,?_⟩;have z1:=e1.size;have z2:=e2.size;have z3:=e3.size;refine rf 14 32767 (by kernel_rfl) rfl (az.aH H.jW rfl rfl (c7) (by first|rfl|(simp;done)|(simp;omega)) (by first|decide|exact of_decide_eq_true rfl|(simp;done)|(simp;omega)) (dA _)) ?_;rintro _ w4 ⟨rfl,d7,x4',y4'⟩;refine⟨fun _=>x4'.mono (fun b _ k=>by have k:b=w2.size:=k;omega),?_⟩;refine rf 15 65535 (by kernel_rfl) rfl (az.aH H.ia rfl rfl ((c8.aj e3).ext x4' (show ¬w1.size=w2.size by omega)) (by first|rfl|(simp;done)|(simp;omega)) (by first|decide|exact of_decide_eq_true rfl|(simp;done)|(simp;omega)) (bL _)) ?_;rintro _ w5 ⟨rfl,d8,x5,y5⟩;refine⟨fun _=>x5.mono (fun b _ k=>by have k:b=w1.size:=k;omega),?_⟩;refine aP 16 131071 (by kernel_rfl) rfl ?_;refine RD.done (by kernel_rfl) ?_;exact⟨(w2.size,w1.size),jv ((e1.trans e2).trans e3) (by omega) (by omega) (by omega) x4' x5 d7 d8,rfl,rfl,rfl,rfl,rfl,rfl,rfl,rfl,rfl,rfl,rfl,rfl,rfl,rfl,rfl,trivial⟩
               · rintro _ w1 ⟨rfl,c7,e1,y1⟩;refine⟨fun _=>e1.of,?_⟩;refine RD.yx 7 13 (li:= #[true,true,true,true,true,true,true,true,false,false,false,false,true,false,false,false,false]) (lj:= #[true,true,true,true,true,true,true,false,false,false,false,false,true,true,false,false,false]) rfl rfl (by kernel_rfl) rfl rfl rfl rfl rfl rfl (ay (vs:=[_,_,_,_]) func72 rfl H.IL rfl (af.cD (hone _ e1))) (az.cC H.Bx) (by kernel_rfl) (by kernel_rfl) ?_ ?_
                 · rintro _ w2 ⟨rfl,e2⟩;refine⟨fun _=>e2.of,?_⟩;refine aP 8 4607 (by kernel_rfl) rfl ?_;refine aP 9 5119 (by kernel_rfl) rfl ?_;refine aP 10 6143 (by kernel_rfl) rfl ?_;refine aP 11 8191 (by kernel_rfl) rfl ?_;refine jU 13 16383 (by kernel_rfl) rfl (az.cC H.Bx) ?_;rintro _ w3 ⟨rfl,c8,e3,y3⟩;refine⟨fun _=>e3.of,?_⟩;have z1:=e1.size;have z2:=e2.size;have z3:=e3.size;refine rf 14 32767 (by kernel_rfl) rfl (az.aH H.jW rfl rfl ((c7.aj e2).aj e3) (by first|rfl|(simp;done)|(simp;omega)) (by first|decide|exact of_decide_eq_true rfl|(simp;done)|(simp;omega)) (dA _)) ?_;rintro _ w4 ⟨rfl,d7,x4',y4'⟩;refine⟨fun _=>x4'.mono (fun b _ k=>by have k:b=g.size:=k;omega),?_⟩;refine rf 15 65535 (by kernel_rfl) rfl (az.aH H.ia rfl rfl ((c8).ext x4' (show ¬w2.size=g.size by omega)) (by first|rfl|(simp;done)|(simp;omega)) (by first|decide|exact of_decide_eq_true rfl|(simp;done)|(simp;omega)) (bL _)) ?_;rintro _ w5 ⟨rfl,d8,x5,y5⟩;refine⟨fun _=>x5.mono (fun b _ k=>by have k:b=w2.size:=k;omega),?_⟩;refine aP 16 131071 (by kernel_rfl) rfl ?_;refine RD.done (by kernel_rfl) ?_;exact⟨(g.size,w2.size),jv ((e1.trans e2).trans e3) (by omega) (by omega) (by omega) x4' x5 d7 d8,rfl,rfl,rfl,rfl,rfl,rfl,rfl,rfl,rfl,rfl,rfl,rfl,rfl,rfl,rfl,trivial⟩
                 · rintro _ w2 ⟨rfl,c8,e2,y2⟩;refine⟨fun _=>e2.of,?_⟩;refine jU 7 12543 (by kernel_rfl) rfl (ay (vs:=[_,_,_,_]) func72 rfl H.IL rfl (af.cD (hone _ (e1.trans e2)))) ?_;rintro _ w3 ⟨rfl,e3⟩;refine⟨fun _=>e3.of,?_⟩;have z1:=e1.size;have z2:=e2.size;have z3:=e3.size;refine aP 8 12799 (by kernel_rfl) rfl ?_;refine aP 9 13311 (by kernel_rfl) rfl ?_;refine aP 10 14335 (by kernel_rfl) rfl ?_;refine aP 11 16383 (by kernel_rfl) rfl ?_;refine rf 14 32767 (by kernel_rfl) rfl (az.aH H.jW rfl rfl ((c7.aj e2).aj e3) (by first|rfl|(simp;done)|(simp;omega)) (by first|decide|exact of_decide_eq_true rfl|(simp;done)|(simp;omega)) (dA _)) ?_;rintro _ w4 ⟨rfl,d7,x4',y4'⟩;refine⟨fun _=>x4'.mono (fun b _ k=>by have k:b=g.size:=k;omega),?_⟩;refine rf 15 65535 (by kernel_rfl) rfl (az.aH H.ia rfl rfl ((c8.aj e3).ext x4' (show ¬w1.size=g.size by omega)) (by first|rfl|(simp;done)|(simp;omega)) (by first|decide|exact of_decide_eq_true rfl|(simp;done)|(simp;omega)) (bL _)) ?_;rintro _ w5 ⟨rfl,d8,x5,y5⟩;refine⟨fun _=>x5.mono (fun b _ k=>by have k:b=w1.size:=k;omega),?_⟩;refine aP 16 131071 (by kernel_rfl) rfl ?_;refine RD.done (by kernel_rfl) ?_;exact⟨(g.size,w1.size),jv ((e1.trans e2).trans e3) (by omega) (by omega) (by omega) x4' x5 d7 d8,rfl,rfl,rfl,rfl,rfl,rfl,rfl,rfl,rfl,rfl,rfl,rfl,rfl,rfl,rfl,trivial⟩
               · rintro _ w1 ⟨rfl,c8,e1,y1⟩;refine⟨fun _=>e1.of,?_⟩;refine RD.yx 7 12 (li:= #[true,true,true,true,true,true,true,true,false,false,false,false,false,true,false,false,false]) (lj:= #[true,true,true,true,true,true,true,false,false,false,false,false,true,true,false,false,false]) rfl rfl (by kernel_rfl) rfl rfl rfl rfl rfl rfl (ay (vs:=[_,_,_,_]) func72 rfl H.IL rfl (af.cD (hone _ e1))) (az.cC H.vh) (by kernel_rfl) (by kernel_rfl) ?_ ?_
                 · rintro _ w2 ⟨rfl,e2⟩;refine⟨fun _=>e2.of,?_⟩;refine aP 8 8703 (by kernel_rfl) rfl ?_;refine aP 9 9215 (by kernel_rfl) rfl ?_;refine aP 10 10239 (by kernel_rfl) rfl ?_;refine aP 11 12287 (by kernel_rfl) rfl ?_;refine jU 12 16383 (by kernel_rfl) rfl (az.cC H.vh) ?_;rintro _ w3 ⟨rfl,c7,e3,y3⟩;refine⟨fun _=>e3.of,?_⟩;have z1:=e1.size;have z2:=e2.size;have z3:=e3.size;refine rf 14 32767 (by kernel_rfl) rfl (az.aH H.jW rfl rfl (c7) (by first|rfl|(simp;done)|(simp;omega)) (by first|decide|exact of_decide_eq_true rfl|(simp;done)|(simp;omega)) (dA _)) ?_;rintro _ w4 ⟨rfl,d7,x4',y4'⟩;refine⟨fun _=>x4'.mono (fun b _ k=>by have k:b=w2.size:=k;omega),?_⟩;refine rf 15 65535 (by kernel_rfl) rfl (az.aH H.ia rfl rfl (((c8.aj e2).aj e3).ext x4' (show ¬g.size=w2.size by omega)) (by first|rfl|(simp;done)|(simp;omega)) (by first|decide|exact of_decide_eq_true rfl|(simp;done)|(simp;omega)) (bL _)) ?_;rintro _ w5 ⟨rfl,d8,x5,y5⟩;refine⟨fun _=>x5.mono (fun b _ k=>by have k:b=g.size:=k;omega),?_⟩;refine aP 16 131071 (by kernel_rfl) rfl ?_;refine RD.done (by kernel_rfl) ?_;exact⟨(w2.size,g.size),jv ((e1.trans e2).trans e3) (by omega) (by omega) (by omega) x4' x5 d7 d8,rfl,rfl,rfl,rfl,rfl,rfl,rfl,rfl,rfl,rfl,rfl,rfl,rfl,rfl,rfl,trivial⟩
                 · rintro _ w2 ⟨rfl,c7,e2,y2⟩;refine⟨fun _=>e2.of,?_⟩;refine jU 7 12543 (by kernel_rfl) rfl (ay (vs:=[_,_,_,_]) func72 rfl H.IL rfl (af.cD (hone _ (e1.trans e2)))) ?_;rintro _ w3 ⟨rfl,e3⟩;refine⟨fun _=>e3.of,?_⟩;have z1:=e1.size;have z2:=e2.size;have z3:=e3.size;refine aP 8 12799 (by kernel_rfl) rfl ?_;refine aP 9 13311 (by kernel_rfl) rfl ?_;refine aP 10 14335 (by kernel_rfl) rfl ?_;refine aP 11 16383 (by kernel_rfl) rfl ?_;refine rf 14 32767 (by kernel_rfl) rfl (az.aH H.jW rfl rfl (c7.aj e3) (by first|rfl|(simp;done)|(simp;omega)) (by first|decide|exact of_decide_eq_true rfl|(simp;done)|(simp;omega)) (dA _)) ?_;rintro _ w4 ⟨rfl,d7,x4',y4'⟩;refine⟨fun _=>x4'.mono (fun b _ k=>by have k:b=w1.size:=k;omega),?_⟩;refine rf 15 65535 (by kernel_rfl) rfl (az.aH H.ia rfl rfl (((c8.aj e2).aj e3).ext x4' (show ¬g.size=w1.size by omega)) (by first|rfl|(simp;done)|(simp;omega)) (by first|decide|exact of_decide_eq_true rfl|(simp;done)|(simp;omega)) (bL _)) ?_;rintro _ w5 ⟨rfl,d8,x5,y5⟩;refine⟨fun _=>x5.mono (fun b _ k=>by have k:b=g.size:=k;omega),?_⟩;refine aP 16 131071 (by kernel_rfl) rfl ?_;refine RD.done (by kernel_rfl) ?_;exact⟨(w1.size,g.size),jv ((e1.trans e2).trans e3) (by omega) (by omega) (by omega) x4' x5 d7 d8,rfl,rfl,rfl,rfl,rfl,rfl,rfl,rfl,rfl,rfl,rfl,rfl,rfl,rfl,rfl,trivial⟩
             · rintro⟨b1,b2⟩ g5 ⟨d7,d8,eg5,hb1,hb2,hbn⟩;dsimp only at d7 d8 hb1 hb2 hbn;have hm0:=hI.m0;have hm1:=hI.m1;have hcb:=hI.cb;have hhB:=hI.hB;have hbsz:=hI.kd.lt;have hcsz:=hI.kc.lt;have tge:∀y,vt.ownBlock=some y->B<=y/\y<g.size:=fun y hy=>ax.lt hI.ho hy
               have sge:∀y,vs.ownBlock=some y->B<=y/\y<g.size:=fun y hy=>ax.lt hI.hp hy
               have kd5:=hI.kd.aj eg5;have z5:=eg5.size;refine eB func36 2 rfl ?_;refine xp rfl (aa (off:=7) underlying94 rfl rfl H.ck rfl) ?_;refine xp rfl (au H.gS rfl (kd5.cell (i:=7) rfl)) ?_;refine eU 1 rfl rfl (an.dm rfl rfl ⟨by omega,by omega⟩) ?_;refine eU 1 rfl rfl (aa (off:=7) underlying94 rfl rfl H.ck rfl) ?_;refine RW.fS rfl rfl rfl (az.aO H.ck rfl rfl kd5 (by first|decide|exact of_decide_eq_true rfl|(simp;done)|(simp;omega)) rfl) ?_;rintro _ g6 ⟨rfl,kd6,x6,z6⟩;have kd6:aE g6 b 94 (ng (.pointer (some ⟨lb,0,none⟩)) s (.slice ta tn tc) (.slice sa sn sc) (aQ s).2 pv (m+sp)):=kd6;have d7:=d7.ext x6 (show ¬b1=b by omega);have d8:=d8.ext x6 (show ¬b2=b by omega);have kc6:=(hI.kc.aj eg5).ext x6 (show ¬c=b by omega);have ho6:ax g6 B 128 3 vt toks.length (toks.flatMap bY):=ax.ext x6 (hI.ho.aj eg5) (fun y hy (k:y=b)=>by have:=tge y hy;omega);have hp6:ax g6 B 44 2 vs sts.length (sts.flatMap aK):=ax.ext x6 (hI.hp.aj eg5) (fun y hy (k:y=b)=>by have:=sge y hy;omega);have hdis:=vL (g:=g6) ho6 hp6;have hb1':=d7.lt;have hb2':=d8.lt;refine xd [0,1,3,9,10,13,14,15,16,17,18,19,20,136,178] rfl ?_;refine aC rfl ?_;refine xr func36 rfl ?_;refine xp rfl (aa (off:=2) underlying128 rfl rfl H.ck rfl) ?_;refine xp rfl (au H.gS rfl (d7.cell (i:=2) rfl)) ?_;refine cV 2 [0,1,3,9,10,13,14,15,16,17,18,19,20,136,178,202] rfl ?_;refine aA rfl rfl (fun hc=>absurd hc (by simp;omega)) (fun _=>?_)
               have hMa:¬(bV vt.ownBlock b1\/bV vs.ownBlock b1\/Array.size g6<=b1):=by
                rintro(k|k|k)
                · have:=tge _ k.symm;omega
                · have:=sge _ k.symm;omega
                · omega
               have hMd:¬(bV vt.ownBlock c\/bV vs.ownBlock c\/Array.size g6<=c):=by
                rintro(k|k|k)
                · exact iC ho6 kc6 (by decide) k
                · exact hI.nc c k.symm rfl
                · omega
               refine aR rfl ?_;refine aC rfl ?_;refine G.sy (fun(q:Value×Value) (h':ai)=>Nf g6 B vt vs toks sts (kdd,(a:Int),((a+L:Nat):Int)) st q h') (fun(q:Value×Value)=>[(13,q.1),(14,q.2)]) [(0,_),(1,_),(3,_),(9,_),(10,_),(15,_),(16,_),(17,_),(18,_),(19,_),(20,_),(136,_),(178,_),(202,_)] ⟨rfl,rfl,rfl,rfl,rfl,rfl,rfl,rfl,rfl,rfl,rfl,rfl,rfl,rfl,trivial⟩ (fun b=>bV vt.ownBlock b\/bV vs.ownBlock b\/Array.size g6<=b) (fun i=>Nat.blt i 10) (sz:=10) (listed:= #[false,false,false,false,false,false,false,false,false,false]) func36 H.mixed rfl rfl rfl ?_ ?_
               · refine aP 0 1 (by kernel_rfl) rfl ?_;refine cj 1 3 (by kernel_rfl) rfl (fun h' e=>an.aG H.JR H.jW rfl (e.rowAt hMa d7.row) (by first|rfl|(simp;done)|(simp;omega))) ?_;refine aP 4 19 (by kernel_rfl) rfl ?_;refine cj 5 51 (by kernel_rfl) rfl (fun h' e=>an.aG H.xX H.ia rfl (e.rowAt hMd kc6.row) (by first|rfl|(simp;done)|(simp;omega))) ?_;have tlt:∀x,bV vt.ownBlock x->x<g6.size:=fun x k=>(ax.lt ho6 k.symm).2
                 have slt:∀x,bV vs.ownBlock x->x<g6.size:=fun x k=>(ax.lt hp6 k.symm).2
                 refine RD.yx 2 6 (li:= #[true,true,true,false,true,true,false,false,false,false]) (lj:= #[true,true,false,false,true,true,true,false,false,false]) rfl rfl (by kernel_rfl) rfl rfl rfl rfl rfl rfl (az.cy (cs:=[_,_,_]) underlying41 H.lG rfl rfl (by decide)) (az.cy (cs:=[_,_]) underlying92 H.sj rfl rfl (by decide)) (by kernel_rfl) (by kernel_rfl) ?_ ?_
                 · rintro _ w1 ⟨rfl,hw1⟩;refine⟨fun _=>by rw[hw1];exact Ext.push _ _ _,?_⟩;have x01:ak g6 w1:=by rw[hw1];exact Ext.push _ _ _
                   have z01:w1.size=g6.size+1:=by rw[hw1];simp
                   have hrA:Lw.rowAt w1 g6.size 0 (bY (kdd,(a:Int),((a+L:Nat):Int))):=by rw[hw1];exact cJ _ _ _
                   refine RD.yx 3 6 (li:= #[true,true,true,true,true,true,false,false,false,false]) (lj:= #[true,true,true,false,true,true,true,false,false,false]) rfl rfl (by kernel_rfl) rfl rfl rfl rfl rfl rfl (az.append underlying41 H.lG rfl rfl (ho6.fk x01) rfl (.inr ⟨_,_,rfl,hrA⟩) (dA _) (by simp only[maxLen];omega) (by omega) (by omega)) (az.cy (cs:=[_,_]) underlying92 H.sj rfl rfl (by decide)) (by kernel_rfl) (by kernel_rfl) ?_ ?_
                   · rintro vt2 w2 ⟨ho2,hx2,_,hv2⟩;refine⟨fun _=>hx2.mono (fun _ _ k=>.inl k),?_⟩;have z12:=hx2.size;refine jU 6 127 (by kernel_rfl) rfl (az.cy (cs:=[_,_]) underlying92 H.sj rfl rfl (by decide)) ?_;rintro _ w3 ⟨rfl,hw3⟩;refine⟨fun _=>by rw[hw3];exact Ext.push _ _ _,?_⟩;have x23:ak w2 w3:=by rw[hw3];exact Ext.push _ _ _
                     have z23:w3.size=w2.size+1:=by rw[hw3];simp
                     have hrS:Lw.rowAt w3 w2.size 0 (aK st):=by rw[hw3];exact cJ _ _ _
                     refine jU 7 255 (by kernel_rfl) rfl (az.append underlying92 H.sj rfl rfl ((ax.ext hx2 (hp6.fk x01) (fun b hb k=>hdis b k hb.symm)).fk x23) rfl (.inr ⟨_,_,rfl,hrS⟩) (bL _) (by simp only[maxLen];omega) (by omega) (by omega)) ?_;rintro vs2 w4 ⟨ho4,hx4,_,hv4⟩;refine⟨fun _=>hx4.mono (fun _ _ k=>.inr (.inl k)),?_⟩;refine aP 8 511 (by kernel_rfl) rfl ?_;refine aP 9 1023 (by kernel_rfl) rfl ?_;refine RD.done (by kernel_rfl) ?_;exact⟨(vt2,vs2),lN ho6 hp6 ((ak.of x01).trans hx2) (fun b hb=>(hv2 b hb).imp id (fun k=>by omega)) ho2 ((ak.of x23).trans hx4) ho4 (fun b hb=>(hv4 b hb).imp id (fun k=>by omega)),rfl,rfl,rfl,rfl,rfl,rfl,rfl,rfl,rfl,rfl,rfl,rfl,rfl,rfl,rfl,rfl,trivial⟩
                   · rintro _ w2 ⟨rfl,hw2⟩;refine⟨fun _=>by rw[hw2];exact Ext.push _ _ _,?_⟩;have x12:ak w1 w2:=by rw[hw2];exact Ext.push _ _ _
                     have z12:w2.size=w1.size+1:=by rw[hw2];simp
                     have hrS:Lw.rowAt w2 w1.size 0 (aK st):=by rw[hw2];exact cJ _ _ _
                     have x02:=x01.trans x12;refine jU 3 127 (by kernel_rfl) rfl (az.append underlying41 H.lG rfl rfl (ho6.fk x02) rfl (.inr ⟨_,_,rfl,x12.rowAt (fun k=>k) hrA⟩) (dA _) (by simp only[maxLen];omega) (by omega) (by omega)) ?_;rintro vt2 w3 ⟨ho2,hx2,_,hv2⟩;refine⟨fun _=>hx2.mono (fun _ _ k=>.inl k),?_⟩;have z23:=hx2.size;refine jU 7 255 (by kernel_rfl) rfl (az.append underlying92 H.sj rfl rfl (ax.ext hx2 (hp6.fk x02) (fun b hb k=>hdis b k hb.symm)) rfl (.inr ⟨_,_,rfl,hx2.rowAt (fun k=>by have:=tlt _ k;omega) hrS⟩) (bL _) (by simp only[maxLen];omega) (by omega) (by omega)) ?_;rintro vs2 w4 ⟨ho4,hx4,_,hv4⟩;refine⟨fun _=>hx4.mono (fun _ _ k=>.inr (.inl k)),?_⟩;refine aP 8 511 (by kernel_rfl) rfl ?_;refine aP 9 1023 (by kernel_rfl) rfl ?_;refine RD.done (by kernel_rfl) ?_;exact⟨(vt2,vs2),lN ho6 hp6 ((ak.of x02).trans hx2) (fun b hb=>(hv2 b hb).imp id (fun k=>by omega)) ho2 hx4 ho4 (fun b hb=>(hv4 b hb).imp id (fun k=>by omega)),rfl,rfl,rfl,rfl,rfl,rfl,rfl,rfl,rfl,rfl,rfl,rfl,rfl,rfl,rfl,rfl,trivial⟩
                 · rintro _ w1 ⟨rfl,hw1⟩;refine⟨fun _=>by rw[hw1];exact Ext.push _ _ _,?_⟩;have x01:ak g6 w1:=by rw[hw1];exact Ext.push _ _ _
                   have z01:w1.size=g6.size+1:=by rw[hw1];simp
                   have hrS:Lw.rowAt w1 g6.size 0 (aK st):=by rw[hw1];exact cJ _ _ _
                   refine jU 2 119 (by kernel_rfl) rfl (az.cy (cs:=[_,_,_]) underlying41 H.lG rfl rfl (by decide)) ?_;rintro _ w2 ⟨rfl,hw2⟩;refine⟨fun _=>by rw[hw2];exact Ext.push _ _ _,?_⟩;have x12:ak w1 w2:=by rw[hw2];exact Ext.push _ _ _
                   have z12:w2.size=w1.size+1:=by rw[hw2];simp
                   have hrA:Lw.rowAt w2 w1.size 0 (bY (kdd,(a:Int),((a+L:Nat):Int))):=by rw[hw2];exact cJ _ _ _
                   have x02:=x01.trans x12;refine jU 3 127 (by kernel_rfl) rfl (az.append underlying41 H.lG rfl rfl (ho6.fk x02) rfl (.inr ⟨_,_,rfl,hrA⟩) (dA _) (by simp only[maxLen];omega) (by omega) (by omega)) ?_;rintro vt2 w3 ⟨ho2,hx2,_,hv2⟩;refine⟨fun _=>hx2.mono (fun _ _ k=>.inl k),?_⟩;have z23:=hx2.size;refine jU 7 255 (by kernel_rfl) rfl (az.append underlying92 H.sj rfl rfl (ax.ext hx2 (hp6.fk x02) (fun b hb k=>hdis b k hb.symm)) rfl (.inr ⟨_,_,rfl,hx2.rowAt (fun k=>by have:=tlt _ k;omega) (x12.rowAt (fun k=>k) hrS)⟩) (bL _) (by simp only[maxLen];omega) (by omega) (by omega)) ?_;rintro vs2 w4 ⟨ho4,hx4,_,hv4⟩;refine⟨fun _=>hx4.mono (fun _ _ k=>.inr (.inl k)),?_⟩;refine aP 8 511 (by kernel_rfl) rfl ?_;refine aP 9 1023 (by kernel_rfl) rfl ?_;refine RD.done (by kernel_rfl) ?_;exact⟨(vt2,vs2),lN ho6 hp6 ((ak.of x02).trans hx2) (fun b hb=>(hv2 b hb).imp id (fun k=>by omega)) ho2 hx4 ho4 (fun b hb=>(hv4 b hb).imp id (fun k=>by omega)),rfl,rfl,rfl,rfl,rfl,rfl,rfl,rfl,rfl,rfl,rfl,rfl,rfl,rfl,rfl,rfl,trivial⟩
               · rintro⟨vt2,vs2⟩ g7 ⟨ho7,hp7,x7,hv7⟩;dsimp only at ho7 hp7 hv7;have d7:=d7.ext x7 (fun k=>hMa (k.imp id .inl));have d8:=d8.ext x7 (by rintro(k|k);have:=tge _ k.symm;omega;have:=sge _ k.symm;omega);have kc7:=kc6.ext x7 (fun k=>hMd (k.imp id .inl));have kd7:=kd6.ext x7 (by rintro(k|k);have:=tge _ k.symm;omega;have:=sge _ k.symm;omega);have z7:=x7.size;have tge2:∀y,vt2.ownBlock=some y->B<=y/\y<g7.size:=fun y hy=>ax.lt ho7 hy
                 have sge2:∀y,vs2.ownBlock=some y->B<=y/\y<g7.size:=fun y hy=>ax.lt hp7 hy
                 have hnc2:∀y,vs2.ownBlock=some y->y≠c:=fun y hy hyc=>by
                  rcases hv7 y hy with k|k
                  · exact hI.nc y k hyc
                  · omega
                 have hM7:¬(b1=c\/Array.size g7<=b1):=by omega
                 have hM8:¬(b2=c\/Array.size g7<=b2):=by omega
                 refine cU (fun b=>b=c\/Array.size g7<=b) (fun i=>Nat.blt i 5) (sz:=5) (listed:= #[false,false,false,false,false]) func36 H.mixed rfl rfl rfl ?_;refine cj 0 1 (by kernel_rfl) rfl (fun h' e=>aa (off:=2) underlying128 rfl rfl H.ck rfl) ?_;refine cj 1 3 (by kernel_rfl) rfl (fun h' e=>au H.gS rfl (e.cell hM7 (d7.cell (i:=2) rfl))) ?_;refine cj 2 7 (by kernel_rfl) rfl (fun h' e=>an.aG H.xX H.ia rfl (e.rowAt hM8 d8.row) (by first|rfl|(simp;done)|(simp;omega))) ?_;refine aP 3 15 (by kernel_rfl) rfl ?_;refine rf 4 31 (by kernel_rfl) rfl (az.aH H.ia rfl rfl kc7 (by first|rfl|(simp;done)|(simp;omega)) (by first|decide|exact of_decide_eq_true rfl|(simp;done)|(simp;omega)) (bL nx)) ?_;rintro _ g8 ⟨rfl,kc8,x8,z8⟩;refine⟨fun _=>x8.mono (fun _ _ k=>.inl k),?_⟩;refine RD.done (by kernel_rfl) ?_;refine xu [0,1,3,9,10,13,14,15,16,17,18,19,20,136,178,202] rfl ?_;refine G.cz ?_;have kc8:aE g8 c 44 (aK nx):=kc8
                 have hI2:L6 h b c B s x i j d pa (.pointer (some ⟨lb,0,none⟩)) (.slice ta tn tc) (.slice sa sn sc) pv (a+L) nx r (m+sp) vt2 (toks++[(kdd,(a:Int),((a+L:Nat):Int))]) vs2 (sts++[st]) g8 :=
                  ⟨hstep,hI.ol,fun r' t h1 h2=>by have:=hI.ob r' t h1 h2;omega,by omega,by omega,
                   ⟨by omega,fun y hy hn=>by
                    rw[x8.block y (by omega) (by omega),x7.block y (by omega) (by rintro(k|k);have:=tge _ k.symm;omega;have:=sge _ k.symm;omega),x6.block y (by omega) hn,eg5.block y (by omega) (fun k=>k)];exact hI.ex.block y hy hn⟩,
                   kd7.ext x8 (show ¬b=c by omega),kc8,ax.ext x8 ho7 (fun y hy k=>iC ho7 kc7 (by decide) (by rw[hy];exact congrArg some k.symm)),ax.ext x8 hp7 (fun y hy k=>hnc2 y hy k),hnc2,hI.cb,hI.hB⟩
                 exact ih (a+L,nx,r,m+sp,(vt2,toks++[(kdd,(a:Int),((a+L:Nat):Int))]),(vs2,sts++[st])) _ _ ⟨rfl,rfl,rfl,rfl,rfl,rfl,rfl,rfl,rfl,rfl,trivial⟩ hI2 (by show (fq s i j x).length+1-(a+L)<(fq s i j x).length+1-a;omega)
   · refine jb rfl rfl ?_;exact fin a st old m vt toks vs sts _ _ ⟨rfl,rfl,rfl,rfl,rfl,rfl,rfl,rfl,trivial⟩ ⟨hI,.inl (by omega)⟩
end Go.Proofs.YtpjgdgdnbkjoiaaGreatDoor
namespace Go.Proofs.YtpjgdgdnbkjoiaaGreatDoor
open Go.Proofs.Tryz
open Go Go.Lw
set_option maxRecDepth 20000
section
variable {Z O:Nat->Prop}{h:ai}{b:Nat}{s:By}{n:Int}
theorem KU {h0:ai}{lb:Nat}{pv:Value}(kG:kF h0) (kL:uP (fun x=>x=b\/Z x) h (.pointer (some ⟨lb,0,none⟩))) (e:ak h0 h) (hb:h0.size<=b) (hZ:∀y,Z y->h0.size<=y) (kd:aE h b 94 (ng (.pointer (some ⟨lb,0,none⟩)) [] (.slice none 0 0) (.slice none 0 0) (0,0) pv 0)) (hp:bC MQ h (fun y=>y=b\/Z y) pv [(0,(0,0))]):gf Z h b [] 0 :=
 ⟨h0,lb,_,_,pv,kG,kL,e,⟨hb,hZ⟩,kd,bC.nil _ _ _,bC.nil _ _ _,hp⟩
theorem gf.steps (k:gf O h b s n):∃lp tv sv pv,aE h b 94 (ng (.pointer (some lp)) s tv sv (aQ s).2 pv n)/\∀h' m,aE h' b 94 (ng (.pointer (some lp)) s tv sv (aQ s).2 pv m)->Ext (fun y=>y=b) h h'->gf O h' b s m:=by
 obtain⟨h0,lb,tv,sv,pv,kG,kL,k3,hb0,kd,ht,hs,hp⟩:=k;exact⟨_,tv,sv,pv,kd,fun h' m k' x=>⟨h0,lb,tv,sv,pv,kG,kL.pK x,ak.only k3 x hb0.1,hb0,k',ht.pK x,hs.pK x,hp.pK x⟩⟩
theorem Bb {h00:ai}{lp:Value}(kG:kF h00) (e00:ak h00 h) (hZ:∀y,Z y->h00.size<=y/\y<h.size) (kL:uP Z h lp) (s:By) (hs:s.length<=16384) :
 af Tryz.prog 18 #[lp,.string (bs s)] h (aX fun r h'=>(∃b:Nat,r= .pointer (some ⟨b,0,none⟩)/\h.size<=b/\gf Z h' b s 0)/\ak h h'):=by
 have hbs:=aF s;obtain⟨lb,vm,rfl,kLo,kL1,kL2⟩:=id kL;have hz00:=e00.size;refine af.of func18 rfl rfl ?_;refine b9 func18 1 [0,1,4] rfl ?_;refine aC rfl ?_;refine aC rfl ?_;refine G.eF [(12,.bool false)] [(0,_),(1,_),(4,_)] ⟨rfl,rfl,rfl,trivial⟩ func18 rfl ?_ ?_
 · refine eU 1 rfl rfl (an.eH underlying65 rfl rfl) ?_;refine dz 1 rfl ?_;refine RW.dK (d:=8) (b':=false) rfl (rfl) ?_;refine eU 1 rfl rfl (an.bH underlying9 rfl) ?_;refine dz 2 rfl ?_;refine RW.done rfl ?_;exact⟨rfl,aq rfl (by simp[hbs];omega),rfl,rfl,rfl,trivial⟩
 · refine aA rfl rfl (fun hc=>absurd hc (by decide)) (fun _=>?_);refine aR rfl ?_;refine eB func18 1 rfl ?_;refine xp rfl (aB (H.L0 ) rfl) ?_;refine xo rfl (az.cy (cs:=[_,_,_]) underlying91 H.MN rfl rfl (by decide)) ?_;rintro _ h1 ⟨rfl,hh1⟩;refine xp rfl (aB (H.JE _ _ _ _) rfl) ?_;refine xo rfl (az.iQ rfl) ?_;rintro _ h2 ⟨rfl,k2,e2,z2⟩;have e1:ak h h1:=by rw[hh1];exact Ext.push _ _ _
   have z1:h1.size=h.size+1:=by rw[hh1];simp
   have ho1:gP 3 jJ h1 h.size 90 (.slice (some ⟨h.size,0,none⟩) 1 1) [(0,(0,0))]:=by rw[hh1];exact gP.mT (fun _=>rfl) h ((0,(0,0)):Pt) 90 h.size (Nat.le_refl _) rfl
   have ho2:=ho1.aj e2
   have hd:gf Z h2 h1.size [] 0:=KU kG (kL.mv (Mv.cL (e1.trans e2) fun y hy hn=>⟨fun q=>q,fun q=>q.elim (fun q=>by omega) hn⟩)) (e00.trans (e1.trans e2)) (by omega) (fun y q=>(hZ y q).1) k2 (by
    have hp:bC MQ h2 (fun y=>y=h1.size\/Z y) (.slice (some ⟨h.size,0,none⟩) 1 1) [(0,(0,0))]:=ax.Mh ho2 (fun y hy (q:y=h1.size\/Z y)=>by have h5:h.size=y:=Option.some.inj hy;rcases q with q|q;omega;have:=(hZ y q).2;omega);exact hp)
   have hed:=xy hd s 0 0 (Nat.le_refl _) (Nat.zero_le _) (Nat.zero_le _) (by simp only[List.length_nil];omega) (fun y q=>by have:=(hZ y q).2;omega);have hE:fq [] 0 0 s=s:=by simp[fq]
   rw[hE] at hed;refine cV 1 [0,1,4,5,12] rfl ?_;refine eB func18 2 rfl ?_;refine xo rfl (ay (vs:=[_,_,_,_]) func36 rfl H.N2 rfl (af.cD (hed))) ?_;rintro _ h3 ⟨⟨rfl,m,hd3,_⟩,x3⟩;obtain⟨lp,tv,sv,pv,kd,hset⟩:=hd3.steps;refine xd [0,1,4,5,12] rfl ?_;refine eB func18 2 rfl ?_;refine xp rfl (aa (off:=7) underlying94 rfl rfl H.ck rfl) ?_;refine RW.fS rfl rfl rfl (az.aO H.ck rfl rfl kd (by first|decide|exact of_decide_eq_true rfl|(simp;done)|(simp;omega)) rfl) ?_;rintro _ h4 ⟨rfl,kd4,x4,z4⟩;refine xd [0,1,4,5,12] rfl ?_;refine b9 func18 2 [0,1,4,5,12] rfl ?_;have hd4:=hset h4 0 kd4 x4;refine bM func18 rfl rfl ?_;exact⟨_,rfl,⟨_,rfl,by omega,hd4⟩,ak.only (ak.only (e1.trans e2) x3 (by omega)) x4 (by omega)⟩
theorem gf.grow {O':Nat->Prop}{h':ai}(k:gf O h b s n) (e:ak h h') (hO:∀y,O' y->O y\/h.size<=y):gf O' h' b s n:=by
 obtain⟨h0,lb,tv,sv,pv,kG,kL,k3,hb0,kd,ht,hs,hp⟩:=k
 have m:Mv (fun x=>x=b\/O x) (fun x=>x=b\/O' x) h h':=⟨e.size,fun y hy hn=>⟨e.block y hy (fun q=>q),fun q=>by
  rcases q with q|q
  · exact hn (.inl q)
  · rcases hO y q with q|q
    · exact hn (.inr q)
    · omega⟩⟩
 have hz:=k3.size;exact⟨h0,lb,tv,sv,pv,kG,kL.mv m,k3.trans e,⟨hb0.1,fun y hy=>by rcases hO y hy with q|q;exact hb0.2 y q;omega⟩,kd.aj e,ht.mv m,hs.mv m,hp.mv m⟩
theorem gf.other {h':ai}{c:Nat}(k:gf O h b s n) (hc:O c) (hcb:c≠b) (x:Ext (fun y=>y=c) h h'):gf O h' b s n:=by
 obtain⟨h0,lb,tv,sv,pv,kG,kL,k3,hb0,kd,ht,hs,hp⟩:=k;have m:Mv (fun x=>x=b\/O x) (fun x=>x=b\/O x) h h':=Mv.cL x (fun y _ hn=>⟨fun q=>hn (.inr (by rw[q];exact hc)),hn⟩);exact⟨h0,lb,tv,sv,pv,kG,kL.mv m,ak.only k3 x (hb0.2 c hc),hb0,kd.ext x (fun q=>hcb q.symm),ht.mv m,hs.mv m,hp.mv m⟩
theorem mJ {eb db:Nat}{s:MS}{rv hv lv fv tv uv r1 r2 r3 r4:Value}(kb:aE h eb 57 (sP s rv hv lv fv++[tv,uv,.pointer (some ⟨db,0,none⟩),r1,r2,r3,r4])) (kt:Bt Z h tv s.text) (kd:gf O h db s.text n) (b:By) (hs:s.text.length<=16384) (hb:b.length<=16384) (hO:∀y,O y->y<h.size) (hOe:O eb) (hne:eb≠db) (hZ:∀y,Z y->y<h.size) :
 af Tryz.prog 24 #[.pointer (some ⟨eb,0,none⟩),.string (bs b)] h (aX fun _ h'=>(∃tv',aE h' eb 57 (sP s rv hv lv fv++[tv',uv,.pointer (some ⟨db,0,none⟩),r1,r2,r3,r4])/\Bt Z h' tv' b/\∃m,gf O h' db b m)/\Ext (fun y=>y=eb\/y=db) h h'):=by
 have hbb:=aF b;have hbl:=kb.lt;refine af.of func24 rfl rfl ?_;refine eB func24 2 rfl ?_;refine xp rfl (aa (off:=0) underlying57 rfl rfl H.cn rfl) ?_;refine xp rfl (aa (off:=0) underlying31 rfl rfl H.lS rfl) ?_;refine xp rfl (au H.ve rfl (kb.cell (i:=0) rfl)) ?_;refine dz 1 rfl ?_;refine xo rfl (ay (vs:=[_,_]) func48 rfl H.PC rfl (af.cD (Bf s.text b (by omega) (by omega)))) ?_;rintro _ h0 ⟨⟨f,t,z,rfl,hft,ht,hfz,hz,htk,hdr⟩,hh0⟩;subst hh0;have hln:=congrArg List.length hdr;rw[List.length_drop,List.length_drop] at hln;have hpc:=AB htk hdr hfz hz;have hxl:((b.drop f).take (z-f)).length=z-f:=by rw[List.length_take,List.length_drop];omega
 have hq:(bs b).extract f z=bs ((b.drop f).take (z-f)):=by rw[jq b f z hfz,List.drop_take]
 have htf:(s.text.take f).length=f:=by rw[List.length_take];omega
 generalize (b.drop f).take (z-f)=x at hpc hxl hq;refine cV 7 [0,1,4,5,6] rfl ?_;refine aC rfl ?_;refine eB func24 2 rfl ?_;refine xp rfl (aa (off:=19) underlying57 rfl rfl H.vw rfl) ?_;refine xp rfl (au H.JP rfl (kb.cell (i:=19) rfl)) ?_;refine dz 2 rfl ?_;refine xo rfl (ay (vs:=[_,_,_]) func49 rfl H.PB rfl (af.cD (yA kt hft ht (by omega) hZ))) ?_;rintro _ h1 ⟨⟨u,rfl,kx⟩,e1⟩;refine cV 5 [0,1,4,5,6,7,8] rfl ?_;refine b9 func24 2 [0,1,4,5,6,7,8,31] rfl ?_;refine aA rfl rfl (fun _=>?_) (fun hc=>absurd hc (by simp));have hins:=yz kx x (by rw[List.length_append,htf];omega) (by rw[List.length_append,htf,List.length_drop];omega) e1.size hZ;rw[List.take_left' htf,List.drop_left' htf,hpc,<-hq] at hins;refine eB func24 5 rfl ?_;refine xp rfl (an.rG underlying9 rfl rfl f rfl rfl z rfl hfz (by omega)) ?_;refine xo rfl (ay (vs:=[_,_,_]) func50 rfl H.PA rfl (af.cD (hins))) ?_;rintro _ h2 ⟨⟨u2,rfl,k2⟩,x2⟩;have e2:=lQ e1 x2;have kb2:=kb.aj e2;obtain⟨ub2,vl2,l2,rfl,_⟩:=id k2;refine cV 5 [0,1,4,5,6,7,8,31] rfl ?_;refine b9 func24 2 [0,1,4,5,6,7,8,31,43] rfl ?_;refine aA rfl rfl (fun _=>?_) (fun hc=>absurd hc (by simp));refine G.eM func24 rfl ?_;refine eU 3 rfl rfl (aa (off:=19) underlying57 rfl rfl H.vw rfl) ?_;refine RW.fS rfl rfl rfl (az.aO H.vw rfl rfl kb2 (by first|decide|exact of_decide_eq_true rfl|(simp;done)|(simp;omega)) rfl) ?_;rintro _ h3 ⟨rfl,k3,x3,z3⟩;have k3:aE h3 eb 57 (sP s rv hv lv fv++[.pointer (some ⟨ub2,0,none⟩),uv,.pointer (some ⟨db,0,none⟩),r1,r2,r3,r4]):=k3;have hz2:=e2.size;have hz3:=x3.size;have kd3:=(kd.aj e2).other hOe hne x3;have kt3:=k2.mv (iR x3 fun y e=>by subst e;exact dO kb2.ty (by decide) (by decide));have hed:=xy kd3 x f t hft ht hs (by omega) (fun y q=>by have:=hO y q;omega);rw[show fq s.text f t x=b from hpc,<-hq] at hed;refine xd [0,1,4,5,6,7,8,31,43] rfl ?_;refine cU (fun y=>y=db) (fun i=>Nat.blt i 11) (sz:=11) (listed:= #[false,false,false,false,false,false,false,false,false,false,false]) func24 H.mixed rfl rfl rfl ?_;refine aP 0 1 (by kernel_rfl) rfl ?_;refine aP 1 3 (by kernel_rfl) rfl ?_;refine cj 2 7 (by kernel_rfl) rfl (fun h' e=>aa (off:=21) underlying57 rfl rfl H.Kn rfl) ?_;refine cj 3 15 (by kernel_rfl) rfl (fun h' e=>au H.JO rfl (e.cell hne (k3.cell (i:=21) rfl))) ?_;refine aP 4 31 (by kernel_rfl) rfl ?_;refine aP 5 63 (by kernel_rfl) rfl ?_;refine aP 6 127 (by kernel_rfl) rfl ?_;refine aP 7 255 (by kernel_rfl) rfl ?_;refine aP 8 511 (by kernel_rfl) rfl ?_;refine cj 9 1023 (by kernel_rfl) rfl (fun h' e=>an.rG underlying9 rfl rfl f rfl rfl z rfl hfz (by omega)) ?_;refine jU 10 2047 (by kernel_rfl) rfl (ay (vs:=[_,_,_,_]) func36 rfl H.N2 rfl (af.cD (hed))) ?_;rintro _ h4 ⟨⟨rfl,m,kd4,_⟩,x4⟩;refine⟨fun _=>x4,?_⟩;refine RD.done (by kernel_rfl) ?_;refine xu [0,1,4,5,6,7,8,31,43] rfl ?_;refine G.G2 func24 rfl ?_;have k4:=k3.ext x4 hne;exact⟨_,rfl,⟨_,k4,kt3.mv (iR x4 fun y e=>by subst e;obtain⟨_,_,_,_,_,_,_,_,_,kk,_⟩:=kd3;exact dO kk.ty (by decide) (by decide)),m,kd4⟩,((e2.mono (fun _ _ q=>q.elim)).trans (x3.mono (fun y _ e=>.inl e))).trans (x4.mono (fun y _ e=>.inr e))⟩
end
end Go.Proofs.YtpjgdgdnbkjoiaaGreatDoor
namespace Go.Proofs.YtpjgdgdnbkjoiaaGreatDoor
open Go
def Qc (s:By):Prop:=∀c∈s,c.toNat<128
def oh (s t:MS) (c:Cm):Int:=if s.mode=4\/s.lines.length≠t.lines.length\/s.at_≠t.at_ then -1 else if c.kind=2 then 1+max t.from_ 0 else 0
structure nr where
  s:MS
  u:Bw
def mV:nr:=⟨⟨[],0,0,-1,[],[],0,[],0,0,0,[],0,[],0,0,[],[],0⟩,HP [] 0⟩
def yF (e:nr) (c:Cm):nr :=
  let t:=dh e.s c
  let g:=oh e.s t c
  ⟨t,if g<0 then HP t.text t.cur else if t.text≠e.s.text then yu e.u t.text t.cur g else e.u⟩
structure Q0 (s:MS):Prop where
  mode:s.mode=0
  hist:s.hist=[]
  at_:s.at_=0
  bells:s.bells=0
  lM:Qc s.text
section
variable {s:MS}
theorem uX {t:MS}(h:t.mode=0):CL t=t:=by
  unfold CL;rw[if_neg (fun q=>by rw[h] at q;exact absurd q.1 (by decide))]
end
structure UnI (n:Nat) (H:List (By×Int)) (e:nr) (was:List By):Prop where
  r:Q0 e.s
  len:e.s.text.length<=100*n
  tm:Tm H (2*n) e.u
  hl:H.length=2*n+1
  o:e.u.o=0
  now:e.u.t=e.s.text
  wl:was.length=n+1
  at_:∀(i:Nat) (x:By),was[i]? =some x->∃c,H[2*i]? =some (x,c)
def dY (e:nr) (redo:Bool):nr×Bool:=match (if redo=true then jV e.u else ny e.u) with
  |none=>(⟨{ e.s with bells:=e.s.bells+1 },e.u⟩,false)
  |some u=>(⟨CL { e.s with text:=u.t,cur:=(fG u.t u.c:Nat) },u⟩,true)
def gJ:Nat->nr->Bool->nr
  | 0,e,_=>e
  |n+1,e,r=>if (dY e r).2=true then gJ n (dY e r).1 r else (dY e r).1
def oy (e:nr) (redo:Bool) (n:Int):nr:=gJ (min (max n 0) 100).toNat ⟨{ e.s with last:=0,mark:= -1,mode:=if e.s.mode=3 then 2 else e.s.mode },e.u⟩ redo
structure UnT (H:List (By×Int)) (p:Nat) (e:nr):Prop where
  mode:e.s.mode=0
  bells:e.s.bells=0
  tm:Tm H p e.u
  now:e.u.t=e.s.text
end Go.Proofs.YtpjgdgdnbkjoiaaGreatDoor
namespace Go.Proofs.YtpjgdgdnbkjoiaaGreatDoor
open Go.Proofs.Tryz
open Go Go.Lw
set_option maxRecDepth 20000
section
variable {h:ai}{b:Nat}
abbrev uZ (Z:Nat->Prop) (eb db ub:Nat) (wv gv:Value):Nat->Prop:=fun y=>y=eb\/y=db\/q9 ub wv gv y\/Z y
abbrev Dj:Nat->Prop:=fun _=>False
def KT (s:MS) (rv hv lv fv tv:Value) (ub db:Nat):List Value:=sP s rv hv lv fv++[tv,.pointer (some ⟨ub,0,none⟩),.pointer (some ⟨db,0,none⟩),.int .i64 0,.bool false,.int .i64 0,.int .i32 0]
def pg (base:Nat) (h:ai):Nat->Prop:=fun y=>base<=y/\(bD h y 57\/bD h y 94\/bD h y 88\/bD h y 85)
structure qZ (Z:Nat->Prop) (base:Nat) (h:ai) (eb db ub:Nat) (wv gv tv rv hv lv fv:Value) (n:Int) (s:MS) (u:Bw):Prop where
 blk:aE h eb 57 (KT s rv hv lv fv tv ub db)
 txt:Bt Z h tv s.text
 un:fV Z h ub wv gv u
 doc:gf (uZ Z eb db ub wv gv) h db s.text n
 ms:vf (uZ Z eb db ub wv gv) h s rv hv lv fv
 low:∀y,uZ Dj eb db ub wv gv y->base<=y
 zt:∀y,Z y->bD h y 9
def fZ (Z:Nat->Prop) (base:Nat) (h:ai) (eb:Nat) (e:nr):Prop:=∃db ub wv gv tv rv hv lv fv n,qZ Z base h eb db ub wv gv tv rv hv lv fv n e.s e.u
theorem bD.lt {t:TypeId}(k:bD h b t):b<h.size:=by
 obtain⟨_,_,q⟩:=k;exact(Array.getElem?_eq_some_iff.1 q).1
theorem bD.back {M:Nat->Prop}{h':ai}{t:TypeId}(k:bD h' b t) (x:Ext M h h') (hb:b<h.size) (hm:¬M b):bD h b t:=by
 obtain⟨c,f,q⟩:=k;exact⟨c,f,(x.block b hb hm).symm.trans q⟩
theorem pg.back {base:Nat}{h h':ai}(x:Ext (pg base h) h h'):∀y,y<h.size->pg base h' y->pg base h y:=fun y hy q=>by
 by_cases hm:pg base h y
 · exact hm
 · obtain⟨q1,q2⟩:=q;exact⟨q1,q2.imp (bD.back · x hy hm) (fun q=>q.imp (bD.back · x hy hm) (fun q=>q.imp (bD.back · x hy hm) (bD.back · x hy hm)))⟩
theorem pg.trans {base:Nat}{h h1 h2:ai}(x:Ext (pg base h) h h1) (y:Ext (pg base h1) h1 h2):Ext (pg base h) h h2 :=
 ⟨Nat.le_trans x.size y.size,fun b hb hm=>(y.block b (Nat.lt_of_lt_of_le hb x.size) fun q=>hm (pg.back x b hb q)).trans (x.block b hb hm)⟩
section
variable {Z:Nat->Prop}{base:Nat}{h h':ai}{eb db ub:Nat}{wv gv tv rv hv lv fv:Value}{n:Int}{s:MS}{u:Bw}
theorem qZ.Ba (k:qZ Z base h eb db ub wv gv tv rv hv lv fv n s u):bD h db 94:=by obtain⟨_,_,_,_,_,_,_,_,_,kk,_⟩:=k.doc;exact kk.ty
theorem qZ.Lq (k:qZ Z base h eb db ub wv gv tv rv hv lv fv n s u):bD h ub 88:=by obtain⟨_,kk,_⟩:=k.un.blk;exact kk.ty
theorem qZ.ty (k:qZ Z base h eb db ub wv gv tv rv hv lv fv n s u):∀y,uZ Dj eb db ub wv gv y->pg base h y:=fun y q=>⟨k.low y q,by
 rcases q with rfl|rfl|(rfl|q|q)|q
 · exact .inl k.blk.ty
 · exact .inr (.inl k.Ba)
 · exact .inr (.inr (.inl k.Lq))
 · exact .inr (.inr (.inr (k.un.yS _ q)))
 · exact .inr (.inr (.inr (k.un.CC _ q)))
 · exact q.elim⟩
theorem uZ.split {y:Nat}(q:uZ Z eb db ub wv gv y):uZ Dj eb db ub wv gv y\/Z y:=by
 rcases q with q|q|q|q
 · exact .inl (.inl q)
 · exact .inl (.inr (.inl q))
 · exact .inl (.inr (.inr (.inl q)))
 · exact .inr q
theorem pg.lt {y:Nat}(q:pg base h y):y<h.size:=by
 rcases q.2 with q|q|q|q<;>exact q.lt
theorem pg.ns {y z:Nat}(q:pg base h y) (k:bD h z 9):y≠z:=by
 rcases q.2 with q|q|q|q<;>exact q.ne k (by decide)
theorem qZ.lt (k:qZ Z base h eb db ub wv gv tv rv hv lv fv n s u):∀y,uZ Z eb db ub wv gv y->y<h.size:=fun y q=>by
 rcases uZ.split q with q|q
 · exact(k.ty y q).lt
 · exact(k.zt y q).lt
theorem qZ.tU (k:qZ Z base h eb db ub wv gv tv rv hv lv fv n s u):eJ (uZ Z eb db ub wv gv) h (.agg (sP s rv hv lv fv).toArray) s:=⟨_,_,_,_,rfl,k.ms⟩
theorem qZ.lx (k:qZ Z base h eb db ub wv gv tv rv hv lv fv n s u):kF h:=by obtain⟨_,_,_,_,_,kG,_,k3,_⟩:=k.doc;exact kG.aj k3
theorem qZ.aj (k:qZ Z base h eb db ub wv gv tv rv hv lv fv n s u) (x:ak h h'):qZ Z base h' eb db ub wv gv tv rv hv lv fv n s u :=
 ⟨k.blk.aj x,k.txt.mv (Mv.DV x),k.un.aj x,k.doc.aj x,k.ms.aj x,k.low,fun y q=>(k.zt y q).ext x (fun q=>q)⟩
end
theorem fZ.aj {Z:Nat->Prop}{base:Nat}{h h':ai}{eb:Nat}{e:nr}(k:fZ Z base h eb e) (x:ak h h'):fZ Z base h' eb e:=by
 obtain⟨_,_,_,_,_,_,_,_,_,_,k⟩:=k;exact⟨_,_,_,_,_,_,_,_,_,_,k.aj x⟩
theorem gf.others {O O' M:Nat->Prop}{h':ai}{s:By}{n:Int}(k:gf O h b s n) (x:Ext M h h') (hM:∀y,M y->O y/\y≠b) (hO:∀y,O' y->O y\/h.size<=y):gf O' h' b s n:=by
 obtain⟨h0,lb,tv,sv,pv,kG,kL,k3,hb0,kd,ht,hs,hp⟩:=k;have hz:=k3.size;have hbl:=kd.lt
 have m:Mv (fun x=>x=b\/O x) (fun x=>x=b\/O' x) h h':=Mv.cL x (fun y hy hn=>⟨fun q=>hn (.inr (hM y q).1),fun q=>by
  rcases q with q|q
  · exact hn (.inl q)
  · rcases hO y q with q|q
    · exact hn (.inr q)
    · omega⟩)
 have e0:ak h0 h':=⟨Nat.le_trans k3.size x.size,fun y hy _=>(x.block y (by omega) (fun q=>by have:=hb0.2 y (hM y q).1;omega)).trans (k3.block y hy (fun q=>q))⟩
 exact⟨h0,lb,tv,sv,pv,kG,kL.mv m,e0,⟨hb0.1,fun y q=>by rcases hO y q with q|q;exact hb0.2 y q;omega⟩,kd.ext x (fun q=>(hM b q).2 rfl),ht.mv m,hs.mv m,hp.mv m⟩
theorem ow {eb ub db:Nat}{s:MS}{rv hv lv fv tv:Value}(k:aE h eb 57 (KT s rv hv lv fv tv ub db)) :
 af Tryz.prog 20 #[.pointer (some ⟨eb,0,none⟩)] h (aX fun r h'=>r= .bool false/\h'=h):=by
 refine af.of func20 rfl rfl ?_;refine b9 func20 1 [0,2] rfl ?_;refine aC rfl ?_;refine G.eF [(2,.bool false)] [(0,_)] ⟨rfl,trivial⟩ func20 rfl ?_ ?_
 · refine eU 1 rfl rfl (an.eH underlying24 rfl rfl) ?_;refine dz 1 rfl ?_;refine RW.dK (d:=5) (b':=false) rfl (rfl) ?_;refine eU 2 rfl rfl (aa (off:=21) underlying57 rfl rfl H.Kn rfl) ?_;refine xp rfl (au H.JO rfl (k.cell (i:=21) rfl)) ?_;refine xp rfl (an.eH underlying51 rfl rfl) ?_;refine dz 2 rfl ?_;refine RW.done rfl ?_;exact⟨rfl,aq rfl (rfl),rfl,trivial⟩
 · refine bM func20 rfl rfl ?_;exact⟨_,rfl,rfl,rfl⟩
theorem CD {O O':Nat->Prop}{v w:Value}{s t:MS}(ks:eJ O h v s) (kt:eJ O' h w t) (c:Cm) (hf:c.kind=2->t.from_<=1000000) (hls:s.lines.length<=100000000) (hlt:t.lines.length<=100000000) :
 af Tryz.prog 23 #[v,w,HE c] h (aX fun r h'=>r= .int .i64 (oh s t c)/\ak h h'):=by
 obtain⟨xa,xn,xc,ya,yn,yc,za,zn,zc,ua,un,uc,rfl,hS⟩:=eJ.get ks;obtain⟨xa',xn',xc',ya',yn',yc',za',zn',zc',ua',un',uc',rfl,hT⟩:=eJ.get kt;have l1:=hS.lines.open_slice.len;have l2:=hT.lines.open_slice.len;subst l1;subst l2;unfold oh;refine af.of func23 rfl rfl ?_;refine xr func23 rfl ?_;refine xo rfl (az.iQ rfl) ?_;rintro _ h1 ⟨rfl,k1,e1,z1⟩;refine xo rfl (az.iQ rfl) ?_;rintro _ h2 ⟨rfl,k2,e2,z2⟩;refine xo rfl (az.iQ rfl) ?_;rintro _ h3 ⟨rfl,k3,e3,z3⟩;have k1:aE h3 h.size 31 (sP s (.slice xa xn xc) (.slice ya yn yc) (.slice za s.lines.length zc) (.slice ua un uc)):=(k1.aj e2).aj e3;have k2:aE h3 h1.size 31 (sP t (.slice xa' xn' xc') (.slice ya' yn' yc') (.slice za' t.lines.length zc') (.slice ua' un' uc')):=k2.aj e3;have k3:aE h3 h2.size 28 (Ey c):=k3;refine cV 1 [0,1,2,3,4,5,6] rfl ?_;refine aC rfl ?_;refine G.block rfl rfl ?_;refine aC rfl ?_;refine G.eF [(7,.bool (decide (s.mode=4\/s.lines.length≠t.lines.length\/s.at_≠t.at_)))] [(0,_),(1,_),(2,_),(3,_),(4,_),(5,_),(6,_)] ⟨rfl,rfl,rfl,rfl,rfl,rfl,rfl,trivial⟩ func23 rfl ?_ ?_
 · refine xp rfl (aa (off:=2) underlying31 rfl rfl H.ck rfl) ?_;refine xp rfl (au H.gS rfl (k1.cell (i:=2) rfl)) ?_;refine dz 2 rfl ?_;refine RW.split (d:=11) rfl (fun q1=>?_) (fun q1=>?_)
   · have q1:=of_decide_eq_true q1;refine dz 16 rfl ?_;refine RW.done rfl ?_;exact⟨rfl,aq rfl (by simp[q1]),rfl,rfl,rfl,rfl,rfl,rfl,rfl,trivial⟩
   · have q1:=of_decide_eq_false q1;refine xp rfl (aa (off:=16) underlying31 rfl rfl H.nD rfl) ?_;refine xp rfl (au H.Da rfl (k1.cell (i:=16) rfl)) ?_;refine xp rfl (an.cM underlying22 rfl) ?_;refine xp rfl (aa (off:=16) underlying31 rfl rfl H.nD rfl) ?_;refine xp rfl (au H.Da rfl (k2.cell (i:=16) rfl)) ?_;refine xp rfl (an.cM underlying22 rfl) ?_;refine dz 3 rfl ?_;refine RW.split (d:=20) rfl (fun q2=>?_) (fun q2=>?_)
     · refine dz 7 rfl ?_;refine RW.done rfl ?_;exact⟨rfl,aq rfl (by have q3:s.lines.length≠t.lines.length:=(by simp at q2;omega);simp[q3]),rfl,rfl,rfl,rfl,rfl,rfl,rfl,trivial⟩
     · refine xp rfl (aa (off:=6) underlying31 rfl rfl H.ck rfl) ?_;refine xp rfl (au H.gS rfl (k1.cell (i:=6) rfl)) ?_;refine xp rfl (aa (off:=6) underlying31 rfl rfl H.ck rfl) ?_;refine xp rfl (au H.gS rfl (k2.cell (i:=6) rfl)) ?_;refine dz 3 rfl ?_;refine RW.done rfl ?_;exact⟨rfl,aq rfl (by have q3:s.lines.length=t.lines.length:=(by simp at q2;omega);simp[q1,q3]),rfl,rfl,rfl,rfl,rfl,rfl,rfl,trivial⟩
 · refine dQ rfl rfl (fun q=>?_) (fun q=>?_)
   · refine b9 func23 1 [0,1,2,3,4,5,6,7] rfl ?_;refine bM func23 rfl rfl ?_;exact⟨_,rfl,by rw[if_pos q];rfl,(e1.trans e2).trans e3⟩
   · rw[if_neg q];refine xr func23 rfl ?_;refine xp rfl (aa (off:=0) underlying28 rfl rfl H.ck rfl) ?_;refine xp rfl (au H.gS rfl (k3.cell (i:=0) rfl)) ?_;refine cV 2 [0,1,2,3,4,5,6,7,27] rfl ?_;refine dQ rfl rfl (fun q2=>?_) (fun q2=>?_)
     · have hf:=hf q2;rw[if_pos q2];refine xr func23 rfl ?_;refine xp rfl (aa (off:=9) underlying31 rfl rfl H.ck rfl) ?_;refine xp rfl (au H.gS rfl (k2.cell (i:=9) rfl)) ?_;refine xp rfl (an.max2 rfl rfl) ?_;refine xp rfl (an.dm rfl rfl ⟨by omega,by omega⟩) ?_;refine cV 1 [0,1,2,3,4,5,6,7,27] rfl ?_;refine bM func23 rfl rfl ?_;exact⟨_,rfl,by show Value.int .i64 (1+if t.from_<0 then 0 else t.from_)=_;congr 1;split<;>omega,(e1.trans e2).trans e3⟩
     · rw[if_neg q2];refine aR rfl ?_;refine G.cz ?_;refine b9 func23 1 [0,1,2,3,4,5,6,7,27] rfl ?_;refine bM func23 rfl rfl ?_;exact⟨_,rfl,rfl,(e1.trans e2).trans e3⟩
end
end Go.Proofs.YtpjgdgdnbkjoiaaGreatDoor

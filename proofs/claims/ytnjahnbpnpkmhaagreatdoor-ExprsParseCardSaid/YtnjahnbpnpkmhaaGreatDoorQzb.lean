/- Part 28. -/
import Derived.Test.YtnjahnbpnpkmhaaGreatDoorQza

namespace Go.Proofs.YtnjahnbpnpkmhaaGreatDoor
open Go.Proofs.Tryz
open Go Go.Lw
set_option maxRecDepth 20000 set_option maxHeartbeats 4000000
theorem G8 {m:Int}(h:¬(0<=m/\m<3)) (l:By):gI m l=(0,-1):=by
 unfold gI;rw[if_neg (by omega),if_neg (by omega),if_neg (by omega)]
theorem Ey {h:aq}{mv:Value}(hm:aL Oq h (λ_=>False) mv oV) (s:By) (i:Nat) (hi:i<s.length) (hs:s.length<=1000000) (st:kY) (hst:Fs st.2) :
 au prog 31 #[mv,.string (bs s),.int .i64 (i:Nat),.agg (aG st).toArray] h (bK λr h'=>(∃sp:Int,r= .tuple #[.agg (cR (rq (s.drop i) st.1,(i:Int),((i+fJ (s.drop i) st.1:Nat):Int))).toArray,.agg (aG (jN (s.drop i) st)).toArray,.int .i64 sp])/\aj h h'):=by
 have hbs:=aJ s;have hne:s.drop i≠[]:=λe=>by have:=congrArg List.length e;rw[List.length_drop] at this;simp at this;omega
 have hll:=xD st.1 (s.drop i);have hrl:=wF hne;have hnr:=G1 hne;rw[List.length_drop] at hll hrl;obtain⟨ma,mn,mc,rfl,hms⟩:=hm.open;have hml:3=mn:=hms.len;subst hml;refine bJ ?_;refine af ?_;refine xo rfl (mh) ?_;rintro _ h1 ⟨rfl,k7,e1,z1⟩;refine xo rfl (cL) ?_;rintro _ h2 ⟨rfl,k8,e2,z2⟩;refine xo rfl (cL) ?_;rintro _ h3 ⟨rfl,k9,e3,z3⟩;have k7:aC h1 h.size 25 (aG st):=k7;have k8:aC h2 h1.size 83 (cR (0,0,0)):=k8;have k9:aC h3 h2.size 25 (aG (0,0)):=k9;have e03:=(e1.trans e2).trans e3;have q7:=(k7.ah e2).ah e3;have q8:=k8.ah e3;have y1:=e1.size;have y2:=e2.size;have hout:∀{g g2 g3:aq},aj h3 g->Ext (λb=>b=h1.size) g g2->Ext (λb=>b=h2.size) g2 g3->aj h g3:=λea eb ec=>aj.only (aj.only (e03.trans ea) eb (by omega)) ec (by omega)
 refine aR ?_;refine cO ?_
 iterate 2 refine aQ ?_
 refine dU [(25,.bool false)] rfl ?_ ?_
 · refine af ?_;refine RW.bw (d:=20) (b':=false) rfl (by simp) ?_;refine af ?_;exact aD rfl ⟨ai rfl (by simp;omega),sb rfl⟩
 · refine dB rfl (by decide) ?_
   iterate 2 refine aQ ?_
   refine cI ?_
   iterate 3 refine aR ?_
   refine cO ?_
   iterate 2 refine aQ ?_
   refine dU [(35,.bool (decide (0<=st.1/\st.1<3)))] rfl ?_ ?_
   · refine af ?_;refine xp rfl (aA rfl (q7.cell (i:=0) rfl)) ?_;refine af ?_;refine cX 31 (λc1=>?_) (λc1=>?_)
     · have c1':(0:Int)<=st.1:=of_decide_eq_true c1;refine af ?_;refine xp rfl (aA rfl (q7.cell (i:=0) rfl)) ?_;refine af ?_;exact aD rfl ⟨ai rfl (by rw[decide_eq_decide];omega),sb rfl⟩
     · have c1':¬(0:Int)<=st.1:=of_decide_eq_false c1;refine af ?_;exact aD rfl ⟨ai rfl (by rw[decide_eq_false];omega),sb rfl⟩
   · generalize hlm:gI st.1 (s.drop i)=lm at *;obtain⟨L,rl⟩:=lm;dsimp only at hll
     have fin:∀(far:Int) (h':aq) (ρ':Env),Sub [(1,.string (bs s)),(2,.int .i64 (i:Nat)),(7,.pointer (some ⟨h.size,0,none⟩)),(8,.pointer (some ⟨h1.size,0,none⟩)),(9,.pointer (some ⟨h2.size,0,none⟩)),(11,.int .i64 L),(12,.int .i64 rl),(13,.int .i64 far)] ρ'->aj h3 h'->G prog 31 f31 [.code [1,1,1,1]] ρ' h' (bK λr h'=>(∃sp:Int,r= .tuple #[.agg (cR (rq (s.drop i) st.1,(i:Int),((i+fJ (s.drop i) st.1:Nat):Int))).toArray,.agg (aG (jN (s.drop i) st)).toArray,.int .i64 sp])/\aj h h'):=by
      rintro far g ρ' hsub eg;refine G.sub (ρ':=[(1,.string (bs s)),(2,.int .i64 (i:Nat)),(7,.pointer (some ⟨h.size,0,none⟩)),(8,.pointer (some ⟨h1.size,0,none⟩)),(9,.pointer (some ⟨h2.size,0,none⟩)),(11,.int .i64 L),(12,.int .i64 rl),(13,.int .i64 far)]) hsub ?_;have q7:=q7.ah eg;have q8:=q8.ah eg;have k9:=k9.ah eg;have yg:=eg.size;refine af ?_;refine aN (λhz=>?_) (λhz=>?_)
      · have hlen:fJ (s.drop i) st.1=mC (s.drop i):=by rw[fJ,hlm,if_pos hz]
        have hknd:rq (s.drop i) st.1=0:=by rw[rq,hlm,if_pos hz]
        have hnxt:jN (s.drop i) st=st:=by rw[jN,hlm,if_pos hz]
        rw[hlen,hknd,hnxt];have hnx:=CZ (h:=g) s i hi hs;rw[hnr] at hnx;refine af ?_;refine xo rfl (aE rfl hnx) ?_;rintro _ h5 ⟨⟨x,ok,rfl⟩,e5⟩;have r7:=q7.ah e5;have r8:=q8.ah e5;have r9:=k9.ah e5;have y5:=e5.size;have hM7:¬(h.size=h1.size\/h.size=h2.size\/Array.size h5<=h.size):=by have:=e03.size;omega
        refine af ?_;refine jK 10 (λb=>b=Array.size h1\/b=Array.size h2\/Array.size h5<=b) (λi=>Nat.blt i 9) ?_;refine aF 0 ?_;refine aF 1 ?_;refine aF 2 ?_;refine aF 3 ?_;refine bq 4 rfl (λh' e=>av (H.kM _ _ _) rfl) ?_;refine bq 5 rfl (λh' e=>cj rfl (e.rowAt hM7 r7.row)) ?_;refine aF 6 ?_;refine gU 7 rfl (aZ rfl rfl r8) ?_;rintro _ h6 ⟨rfl,w8,x6,z6⟩;refine⟨λ_=>x6.mono (λ_ _ k=>.inl k),?_⟩;refine gU 8 rfl (aZ rfl rfl ((r9.ext x6 (λk=>by omega))) (cF st)) ?_;rintro _ h7 ⟨rfl,w9,x7,z7⟩;refine⟨λ_=>x7.mono (λ_ _ k=>.inr (.inl k)),?_⟩;have w8:aC h6 h1.size 83 (cR (0,(i:Int),((i+mC (s.drop i):Nat):Int))):=by rw[Int.natCast_add];exact w8
        have w8:=w8.ext x7 (show ¬h1.size=h2.size by omega);have w9:aC h7 h2.size 25 (aG st):=w9;refine aF 9 ?_;refine fV ?_;refine cE (cz rfl w8.row (cz rfl w9.row (rO cD))) ?_;exact⟨_,rfl,⟨_,rfl⟩,hout (eg.trans e5) x6 x7⟩
      · obtain⟨L,rfl⟩:=Int.eq_ofNat_of_zero_le hll.1;have hL0:0<L:=by omega
        have hlen:fJ (s.drop i) st.1=L:=by rw[fJ,hlm,if_neg hz];rfl
        have hknd:rq (s.drop i) st.1=if kI st.1 rl=3/\cY ((s.drop i).take L)=true then 4 else kI st.1 rl:=by rw[rq,hlm,if_neg hz];rfl
        have hnxt:jN (s.drop i) st=eF st rl:=by rw[jN,hlm,if_neg hz]
        rw[hlen,hknd,hnxt];refine af ?_;refine xp rfl (aA rfl (q7.cell (i:=0) rfl)) ?_;refine af ?_;refine xo rfl (aE rfl (Dr st.1 rl)) ?_;rintro _ h5 ⟨rfl,e5⟩;generalize kI st.1 rl=kd at *;have hcut:(bs s).extract i (i+L)=bs ((s.drop i).take L):=by rw[sW s i (i+L) (by omega),List.drop_take,Nat.add_sub_cancel_left]
        have r7:=q7.ah e5;have r8:=q8.ah e5;have r9:=k9.ah e5;have y5:=e5.size;refine aR ?_;refine cO ?_
        iterate 2 refine aQ ?_
        refine H9 (fun(_u:Unit) (h':aq)=>aj h5 h') (fun(_u:Unit)=>[(78,.bool (decide (kd=3/\cY ((s.drop i).take L)=true)))]) rfl ?_ ?_
        · refine af ?_;refine cX 70 (λhc=>?_) (λhc=>?_)
          · have hc':kd=3:=of_decide_eq_true hc;refine af ?_;refine xp rfl (az.oK underlying9 rfl rfl i rfl rfl (i+L) rfl (by omega) (by omega)) ?_;rw[hcut];refine xo rfl (aE rfl (Cj ((s.drop i).take L))) ?_;rintro _ h7 ⟨rfl,e7⟩;refine af ?_;exact lN () e7 ⟨ai rfl (by simp[hc']),sb rfl⟩
          · have hc':¬kd=3:=of_decide_eq_false hc;refine af ?_;exact lN () (Ext.refl _ _) ⟨ai rfl (by simp[hc']),sb rfl⟩
        · rintro _ h6 e6;have r7:=r7.ah e6;have r8:=r8.ah e6;have r9:=r9.ah e6;have y6:=e6.size;have e36:aj h3 h6:=(eg.trans e5).trans e6;refine aN (λhw=>?_) (λhw=>?_)
          · rw[if_pos hw];refine af ?_;refine xp rfl (av (H.kM _ _ _) rfl) ?_;refine xp rfl (cj rfl r7.row) ?_;refine af ?_;refine xo rfl (aE rfl (s8 st rl hst)) ?_;rintro _ h8 ⟨rfl,e8⟩;refine af ?_;refine aO rfl (aZ rfl rfl ((r8.ah e8))) ?_;rintro _ h9 ⟨rfl,w8,x9,z9⟩;refine aO rfl (aZ rfl rfl (((r9.ah e8).ext x9 (show ¬h2.size=h1.size by omega))) (cF _)) ?_;rintro _ h10 ⟨rfl,w9,x10,z10⟩;refine af ?_;have w8:aC h9 h1.size 83 (cR (4,(i:Int),((i+L:Nat):Int))):=by rw[Int.natCast_add];exact w8
            have w8:=w8.ext x10 (show ¬h1.size=h2.size by omega);have w9:aC h10 h2.size 25 (aG (eF st rl)):=w9;refine cE (cz rfl w8.row (cz rfl w9.row (rO cD))) ?_;exact⟨_,rfl,⟨_,rfl⟩,hout (e36.trans e8) x9 x10⟩
          · rw[if_neg hw];refine af ?_;refine xp rfl (av (H.kM _ _ _) rfl) ?_;refine xp rfl (cj rfl r7.row) ?_;refine af ?_;refine xo rfl (aE rfl (s8 st rl hst)) ?_;rintro _ h8 ⟨rfl,e8⟩;refine af ?_;refine aO rfl (aZ rfl rfl ((r8.ah e8))) ?_;rintro _ h9 ⟨rfl,w8,x9,z9⟩;refine aO rfl (aZ rfl rfl (((r9.ah e8).ext x9 (show ¬h2.size=h1.size by omega))) (cF _)) ?_;rintro _ h10 ⟨rfl,w9,x10,z10⟩;refine af ?_;have w8:aC h9 h1.size 83 (cR (kd,(i:Int),((i+L:Nat):Int))):=by rw[Int.natCast_add];exact w8
            have w8:=w8.ext x10 (show ¬h1.size=h2.size by omega);have w9:aC h10 h2.size 25 (aG (eF st rl)):=w9;refine cE (cz rfl w8.row (cz rfl w9.row (rO cD))) ?_;exact⟨_,rfl,⟨_,rfl⟩,hout (e36.trans e8) x9 x10⟩
     refine aN (λhmo=>?_) (λhmo=>?_)
     · obtain⟨m,hmq⟩:∃m:Nat,st.1=(m:Nat):=⟨st.1.toNat,by omega⟩
       have hm3:m<3:=by omega
       obtain⟨bb,o,cs,hoa,_,hrow,⟨ra,rn,rc,rfl,hrs⟩⟩:=(hms.mv (Mv.ah e03)).get m _ (C7 hm3).2;have hlex:=IS hm3 s i (by omega);rw[hmq] at hlm;rw[hlm] at hlex;have hq1:(su (dD (bX (m:Nat))) s (i:Nat)).1=L:=congrArg Prod.fst hlex;have hq2:(su (dD (bX (m:Nat))) s (i:Nat)).2.1=rl:=congrArg Prod.snd hlex;have hmat:=Bq (s:=s) (a:=((i:Nat):Int)) hrs (IK (wZ hm3).1) (by show (dD (bX (m:Nat))).length<=1000000;simp only[dD,List.length_map];have:=(nu (m:Nat)).2.1;omega) hs;rw[hq1,hq2] at hmat;generalize (su (dD (bX (m:Nat))) s (i:Nat)).2.2=a3 at hmat;refine af ?_;refine xp rfl (aA rfl (q7.cell (i:=0) rfl)) ?_;refine xp rfl (bZ rfl rfl m hmq hoa) ?_;refine xp rfl (aA rfl (hrow 0 _ rfl)) ?_;refine af ?_;refine xo rfl (aE rfl hmat) ?_;rintro _ g ⟨rfl,eg⟩
       iterate 7 refine aR ?_
       refine cO ?_;exact fin a3 _ _ (by exact sb rfl) eg
     · rw[G8 hmo] at hlm;cases hlm;refine aQ ?_;exact fin 0 _ _ (by exact sb rfl) (Ext.refl _ _)
end Go.Proofs.YtnjahnbpnpkmhaaGreatDoor
namespace Go.Proofs.YtnjahnbpnpkmhaaGreatDoor
open Go Go.Lw
set_option maxRecDepth 20000
theorem Fy {g w:aq}{base:Nat}{J vs:Value}{I:List Tk}{pre:List kY}(U:fG 3 cR g base 83 J I) (hs:fG 2 aG g base 25 vs pre):∀b,bU J.ownBlock b->¬bU vs.ownBlock b:=λb Y hc=>by
  obtain⟨cur,fr,h1⟩:=aB.ty U Y.symm;obtain⟨cur',fr',Z⟩:=aB.ty hs hc.symm;have:=h1.symm.trans Z;simp at this
def Pa (g:aq) (base:Nat) (vt vs:Value) (toks:List Tk) (sts:List kY) (t:Tk) (st:kY) (q:Value×Value) (h:aq):Prop :=
  fG 3 cR h base 83 q.1 (toks++[t])/\fG 2 aG h base 25 q.2 (sts++[st])/\Ext (λb=>bU vt.ownBlock b\/bU vs.ownBlock b) g h
end Go.Proofs.YtnjahnbpnpkmhaaGreatDoor
namespace Go.Proofs.YtnjahnbpnpkmhaaGreatDoor
open Go.Proofs.Tryz
open Go Go.Lw
set_option maxRecDepth 20000 set_option maxHeartbeats 4000000
section
variable {h:aq}
theorem BU {g w2 Z:aq}{base:Nat}{Y vs U vs2:Value}{I:List Tk}{J:List kY}{t:Tk}{st:kY}(ho:fG 3 cR g base 83 Y I) (hs:fG 2 aG g base 25 vs J) (x1:Ext (bU Y.ownBlock) g w2) (aa:∀b,U.ownBlock=some b->Y.ownBlock=some b\/g.size<=b)
 (ac:aB w2 base 83 3 U (I.length+1) (I.flatMap cR++cR t)) (x2:Ext (bU vs.ownBlock) w2 Z) (ab:aB Z base 25 2 vs2 (J.length+1) (J.flatMap aG++aG st)):Pa g base Y vs I J t st (U,vs2) Z:=by
 have hd:=Fy (w:=g) ho hs;refine⟨fG.of (aB.ext x2 ac (λb hb k=>?_)) rfl rfl,fG.of ab rfl rfl,(x1.mono (λ_ _ k=>.inl k)).trans (x2.mono (λ_ _ k=>.inr k))⟩
 rcases aa b hb with h|h
 · exact hd b h.symm k
 · have:=(aB.lt hs k.symm).2;omega
theorem zl (s:By) (hs:s.length<=1000000) :
 au prog 12 #[.string (bs s)] h (bK λr h'=>(∃tv sv,r= .tuple #[tv,sv]/\aL Hx h' (λb=>b<h.size) tv (fD s).1/\aL QG h' (λb=>b<h.size) sv (Iu s))/\aj h h'):=by
 have hbs:=aJ s;generalize hres:(fD s).1=res;generalize hsts:Iu s=sts;refine bJ ?_;refine af ?_;refine xo rfl (aE rfl C6) ?_;rintro mv h1 ⟨hmv,e1⟩;refine af ?_;refine xp rfl (av (H.F7 ) rfl) ?_;refine xo rfl (lg) ?_;rintro _ _ ⟨rfl,rfl⟩;refine af ?_;have hr0:=fG.kC (λ_=>rfl) h1 ((0,0):kY) 25 h1.size (Nat.le_refl _) (cs:=aG (0,0)) rfl;have ep:=Ext.push (λ_=>False) h1 (.cells (aG (0,0)).toArray 25);refine fK (σ:=Nat×kY×(Value×List Tk)×(Value×List kY)) (λq=>[(5,q.2.2.1.1),(6,q.2.2.2.1),(7,.int .i64 (q.1:Nat))]) (λq h'=>(q.1<=s.length/\q.2.2.1.2.length<=q.1/\q.2.2.2.2.length=q.2.2.1.2.length/\Fs q.2.1.2)/\aj h1 h'/\fG 3 cR h' h1.size 83 q.2.2.1.1 q.2.2.1.2/\fG 2 aG h' h1.size 25 q.2.2.2.1 (q.2.2.2.2++[q.2.1])/\q.2.2.1.2++(jm s.length (s.drop q.1) q.1 q.2.1).1=res/\q.2.2.2.2++nj s.length (s.drop q.1) q.2.1=sts) (λq=>s.length+1-q.1) ((0,(0,0),(.slice none 0 0,[]),(.slice (some ⟨h1.size,0,none⟩) 1 1,[]))) ⟨⟨Nat.zero_le _,by simp,rfl,by show Fs 0;unfold Fs;omega⟩,ep,fG.nil _ _ _ _ _,hr0,hres,hsts⟩ rfl ?_;rintro⟨i,st,⟨vt,toks⟩,⟨vs,pre⟩⟩ g ⟨⟨hi,htl,hpl,hst⟩,eg,ho,hp,hcon,hcon2⟩ ih
 try dsimp only
 dsimp only at hi htl hpl hst ho hp hcon hcon2;have z1g:=eg.size;have hho:aB g h1.size 83 3 vt toks.length (toks.flatMap cR):=ho;have hhp:aB g h1.size 25 2 vs (pre++[st]).length ((pre++[st]).flatMap aG):=hp;have tge:∀b,vt.ownBlock=some b->h1.size<=b/\b<g.size:=λb hb=>hho.lt hb
 have sge:∀b,vs.ownBlock=some b->h1.size<=b/\b<g.size:=λb hb=>hhp.lt hb
 have hpr:aL QG g (λ_=>False) vs (pre++[st]):=fG.read hp (λ_ _ k=>k);obtain⟨pa,pn,pc,rfl,hps⟩:=hpr.open;have hpn:pre.length+1=pn:=by have:=hps.len;simpa using this
 refine af ?_;refine aN (λhlt=>?_) (λhlt=>?_)
 · have hlt':i<s.length:=by omega
   have hne:s.drop i≠[]:=λe=>by have:=congrArg List.length e;rw[List.length_drop] at this;simp at this;omega
   have hkl:=kG hne st.1;rw[List.length_drop] at hkl;rw[As hne (by rw[List.length_drop];omega)] at hcon;rw[Gx hne (by rw[List.length_drop];omega)] at hcon2;have hone:=Ey (hmv.ah eg) s i hlt' hs st hst;have hnI:=FV hst (s.drop i);rw[List.drop_drop] at hcon hcon2;generalize fJ (s.drop i) st.1=L at *;generalize rq (s.drop i) st.1=kd at *;generalize jN (s.drop i) st=nx at *;obtain⟨bb,o,x,hoa,_,hx,hrow⟩:=hps.nA (i:=pre.length) (by omega);obtain rfl:st=x:=by simpa using hx
   iterate 3 refine aQ ?_
   refine cI ?_
   iterate 7 refine aR ?_
   refine xp rfl (bZ rfl rfl pre.length (by omega) hoa) ?_;refine xp rfl (cj rfl hrow) ?_;refine xo rfl (aE rfl hone) ?_;rintro _ g1 ⟨⟨sp,rfl⟩,f1⟩;refine af ?_;refine xo rfl (cL) ?_;rintro _ g2 ⟨rfl,c7,f2,y2⟩;refine xo rfl (cL) ?_;rintro _ g3 ⟨rfl,c8,f3,y3⟩;refine aO rfl (aZ rfl rfl ((c7.ah f3)) (jW _)) ?_;rintro _ g4 ⟨rfl,d7,x4,y4⟩;have d7:aC g4 g1.size 83 (cR (kd,(i:Int),((i+L:Nat):Int))):=d7;have yz1:=f1.size;have yz2:=f2.size;have yz4:=x4.size;refine aO rfl (aZ rfl rfl (((c8.ext x4 (show ¬g2.size=g1.size by omega)))) (cF nx)) ?_;rintro _ g5 ⟨rfl,d8,x5,y5⟩;have d8:aC g5 g2.size 25 (aG nx):=d8;have d7:=d7.ext x5 (show ¬g1.size=g2.size by omega);have yz5:=x5.size;have eg5:aj g g5:=aj.only (aj.only ((f1.trans f2).trans f3) x4 (by omega)) x5 (by omega);have ho5:=hho.gR eg5;have hp5:=hhp.gR eg5;have hdis:=Fy (w:=g) ho5 hp5
   have hMa:¬(bU vt.ownBlock g1.size\/bU (Value.slice pa pn pc).ownBlock g1.size\/Array.size g5<=g1.size):=by
    rintro(k|k|k)
    · have:=tge _ k.symm;omega
    · have:=sge _ k.symm;omega
    · omega
   have hMb:¬(bU vt.ownBlock g2.size\/bU (Value.slice pa pn pc).ownBlock g2.size\/Array.size g5<=g2.size):=by
    rintro(k|k|k)
    · have:=tge _ k.symm;omega
    · have:=sge _ k.symm;omega
    · omega
   have hpl2:(pre++[st]).length=pn:=hps.len;have hlen1:toks.length+1<=1000001:=by omega
   have hlen2:pn+1<=1000002:=by omega
   refine aR ?_;refine cO ?_;refine aQ ?_;refine Nw 10 (λb=>bU vt.ownBlock b\/bU (Value.slice pa pn pc).ownBlock b\/Array.size g5<=b) (λi=>Nat.blt i 10) (fun(q:Value×Value) (h':aq)=>Pa g5 h1.size vt (.slice pa pn pc) toks (pre++[st]) (kd,(i:Int),((i+L:Nat):Int)) nx q h') (fun(q:Value×Value)=>[(5,q.1),(6,q.2)]) rfl ?_ ?_
   · refine aF 0 ?_;refine bq 1 rfl (λh' e=>cj rfl (e.rowAt hMa d7.row)) ?_;refine aF 4 ?_;refine bq 5 rfl (λh' e=>cj rfl (e.rowAt hMb d8.row)) ?_;refine Nv 2 6 rfl rfl (lg) (lg) ?_ ?_
     · rintro _ w1 ⟨rfl,hw1⟩;refine⟨λ_=>by rw[hw1];exact Ext.push _ _ _,?_⟩;have x01:aj g5 w1:=by rw[hw1];exact Ext.push _ _ _
       have z01:w1.size=g5.size+1:=by rw[hw1];simp
       have hrA:Lw.rowAt w1 g5.size 0 (cR (kd,(i:Int),((i+L:Nat):Int))):=by rw[hw1];exact ie _ _ _
       refine Nv 3 6 rfl rfl (aV.append underlying23 H.JO rfl rfl (ho5.gR x01) rfl (.inr ⟨_,_,rfl,hrA⟩) (jW _) (by simp only[maxLen];omega) (by omega) (by omega)) (lg) ?_ ?_
       · rintro vt2 w2 ⟨ho2,hx2,_,hv2⟩;refine⟨λ_=>hx2.mono (λ_ _ k=>.inl k),?_⟩;have z12:=hx2.size;refine cV 6 rfl (lg) ?_;rintro _ w3 ⟨rfl,hw3⟩;refine⟨λ_=>by rw[hw3];exact Ext.push _ _ _,?_⟩;have x23:aj w2 w3:=by rw[hw3];exact Ext.push _ _ _
         have z23:w3.size=w2.size+1:=by rw[hw3];simp
         have hrS:Lw.rowAt w3 w2.size 0 (aG nx):=by rw[hw3];exact ie _ _ _
         refine cV 7 rfl (aV.append underlying43 H.K8 rfl rfl ((aB.ext hx2 (hp5.gR x01) (λb hb k=>hdis b k hb.symm)).gR x23) rfl (.inr ⟨_,_,rfl,hrS⟩) (cF _) (by simp only[maxLen];omega) (by omega) (by omega)) ?_;rintro vs2 w4 ⟨ho4,hx4,_,hv4⟩;refine⟨λ_=>hx4.mono (λ_ _ k=>.inr (.inl k)),?_⟩;refine aF 8 ?_;refine aF 9 ?_;exact H7 (vt2,vs2) (BU ho5 hp5 ((aj.of x01).trans hx2) (λb hb=>(hv2 b hb).imp id (λk=>by omega)) ho2 ((aj.of x23).trans hx4) ho4)
       · rintro _ w2 ⟨rfl,hw2⟩;refine⟨λ_=>by rw[hw2];exact Ext.push _ _ _,?_⟩;have x12:aj w1 w2:=by rw[hw2];exact Ext.push _ _ _
         have z12:w2.size=w1.size+1:=by rw[hw2];simp
         have hrS:Lw.rowAt w2 w1.size 0 (aG nx):=by rw[hw2];exact ie _ _ _
         have x02:=x01.trans x12;refine cV 3 rfl (aV.append underlying23 H.JO rfl rfl (ho5.gR x02) rfl (.inr ⟨_,_,rfl,x12.rowAt (λk=>k) hrA⟩) (jW _) (by simp only[maxLen];omega) (by omega) (by omega)) ?_;rintro vt2 w3 ⟨ho2,hx2,_,hv2⟩;refine⟨λ_=>hx2.mono (λ_ _ k=>.inl k),?_⟩;have z23:=hx2.size;refine cV 7 rfl (aV.append underlying43 H.K8 rfl rfl (aB.ext hx2 (hp5.gR x02) (λb hb k=>hdis b k hb.symm)) rfl (.inr ⟨_,_,rfl,hx2.rowAt (λk=>by have:=tge _ k.symm;omega) hrS⟩) (cF _) (by simp only[maxLen];omega) (by omega) (by omega)) ?_;rintro vs2 w4 ⟨ho4,hx4,_,hv4⟩;refine⟨λ_=>hx4.mono (λ_ _ k=>.inr (.inl k)),?_⟩;refine aF 8 ?_;refine aF 9 ?_;exact H7 (vt2,vs2) (BU ho5 hp5 ((aj.of x02).trans hx2) (λb hb=>(hv2 b hb).imp id (λk=>by omega)) ho2 hx4 ho4)
     · rintro _ w1 ⟨rfl,hw1⟩;refine⟨λ_=>by rw[hw1];exact Ext.push _ _ _,?_⟩;have x01:aj g5 w1:=by rw[hw1];exact Ext.push _ _ _
       have z01:w1.size=g5.size+1:=by rw[hw1];simp
       have hrS:Lw.rowAt w1 g5.size 0 (aG nx):=by rw[hw1];exact ie _ _ _
       refine cV 2 rfl (lg) ?_;rintro _ w2 ⟨rfl,hw2⟩;refine⟨λ_=>by rw[hw2];exact Ext.push _ _ _,?_⟩;have x12:aj w1 w2:=by rw[hw2];exact Ext.push _ _ _
       have z12:w2.size=w1.size+1:=by rw[hw2];simp
       have hrA:Lw.rowAt w2 w1.size 0 (cR (kd,(i:Int),((i+L:Nat):Int))):=by rw[hw2];exact ie _ _ _
       have x02:=x01.trans x12;refine cV 3 rfl (aV.append underlying23 H.JO rfl rfl (ho5.gR x02) rfl (.inr ⟨_,_,rfl,hrA⟩) (jW _) (by simp only[maxLen];omega) (by omega) (by omega)) ?_;rintro vt2 w3 ⟨ho2,hx2,_,hv2⟩;refine⟨λ_=>hx2.mono (λ_ _ k=>.inl k),?_⟩;have z23:=hx2.size;refine cV 7 rfl (aV.append underlying43 H.K8 rfl rfl (aB.ext hx2 (hp5.gR x02) (λb hb k=>hdis b k hb.symm)) rfl (.inr ⟨_,_,rfl,hx2.rowAt (λk=>by have:=tge _ k.symm;omega) (x12.rowAt (λk=>k) hrS)⟩) (cF _) (by simp only[maxLen];omega) (by omega) (by omega)) ?_;rintro vs2 w4 ⟨ho4,hx4,_,hv4⟩;refine⟨λ_=>hx4.mono (λ_ _ k=>.inr (.inl k)),?_⟩;refine aF 8 ?_;refine aF 9 ?_;exact H7 (vt2,vs2) (BU ho5 hp5 ((aj.of x02).trans hx2) (λb hb=>(hv2 b hb).imp id (λk=>by omega)) ho2 hx4 ho4)
   · rintro⟨vt2,vs2⟩ g6 ⟨ho6,hp6,x6⟩;dsimp only at ho6 hp6
     have e16:aj h1 g6:=⟨by have:=x6.size;omega,λb hb _=>by
      rw[x6.block b (by omega) (by rintro(k|k);have:=tge _ k.symm;omega;have:=sge _ k.symm;omega),eg5.block b (by omega) (λk=>k)];exact eg.block b hb (λk=>k)⟩
     have d7':=d7.ext x6 (by rintro(k|k);have:=tge _ k.symm;omega;have:=sge _ k.symm;omega);refine af ?_;refine xp rfl (aA rfl (d7'.cell (i:=2) rfl)) ?_;refine af ?_;exact ih (i+L,nx,(vt2,toks++[(kd,(i:Int),((i+L:Nat):Int))]),(vs2,pre++[st])) ⟨⟨by show i+L<=s.length;omega,by simp;omega,by simp;omega,hnI⟩,e16,ho6,hp6,by simpa using hcon,by simpa using hcon2⟩
 · obtain rfl:i=s.length:=by omega
   rw[List.drop_length,DV] at hcon;rw[List.drop_length,Iv] at hcon2;refine af ?_;refine aP ?_;exact⟨_,rfl,⟨_,_,rfl,by rw[<-hcon];show aL Hx g _ _ (toks++[]);rw[List.append_nil];exact fG.read ho (λb hb k=>by have:=e1.size;omega),by rw[<-hcon2];exact fG.read hp (λb hb k=>by have:=e1.size;omega)⟩,e1.trans eg⟩
theorem Ki {α:Type}{e:gW α}{O:Nat->Prop}{v:Value}{xs:List α}(k:aL e h O v xs):aL e h (λ_=>False) v xs:=k.mv ⟨Nat.le_refl _,λb _ _=>⟨rfl,λk=>k⟩⟩
theorem Fc (s:By) (hs:s.length<=1000000) :
 au prog 5 #[.string (bs s)] h (bK λr h'=>(∃v,r= .tuple #[v,.agg (aG (fD s).2).toArray]/\aL Hx h' (λ_=>False) v (fD s).1)/\aj h h'):=by
 have hsl:=Cy s.length 0 s (0,0);have hal:(fD s).1.length<=s.length:=s7 _ _ _ _;refine bJ ?_;refine af ?_;refine xo rfl (cL) ?_;rintro _ h1 ⟨rfl,k3,e1,z1⟩;refine af ?_;refine xo rfl (aE rfl (zl s hs)) ?_;rintro _ h2 ⟨⟨tv,sv,rfl,htv,hsv⟩,e2⟩;have k3:aC h1 h.size 25 (aG (0,0)):=k3;obtain⟨pa,pn,pc,rfl,hps⟩:=hsv.open;have hpn:(Iu s).length=pn:=hps.len;have hsl2:(Iu s).getLast? =some (fD s).2/\(Iu s).length=(fD s).1.length+1:=hsl;obtain⟨bb,o,x,hoa,hbo,hx,hrow⟩:=hps.nA (i:=pn-1) (by omega)
 have hx2:x=(fD s).2:=by
  have:=hsl2.1;rw[List.getLast?_eq_getElem?,hpn,hx] at this;exact Option.some.inj this
 subst hx2;have hz1:h1.size=h.size+1:=z1;have hbb:bb<h2.size:=eT hrow (List.cons_ne_nil _ _);have hM:¬(bb=h.size\/Array.size h2<=bb):=by omega
 refine af ?_;refine jK 9 (λb=>b=Array.size h\/Array.size h2<=b) (λi=>Nat.blt i 8) ?_;refine aF 0 ?_;refine aF 1 ?_;refine aF 2 ?_;refine aF 3 ?_;refine aF 4 ?_;refine bq 5 rfl (λh' e=>bZ rfl rfl (pn-1) (by omega) hoa) ?_;refine bq 6 rfl (λh' e=>cj rfl (e.rowAt hM hrow)) ?_;refine aF 7 ?_;refine gU 8 rfl (aZ rfl rfl ((k3.ah e2)) (cF _)) ?_;rintro _ h4 ⟨rfl,k4,x4,z4⟩;refine⟨nofun,?_⟩;refine fV ?_;have k4:aC h4 h.size 25 (aG (fD s).2):=k4;refine cE (rO (cz rfl k4.row cD)) ?_;exact⟨_,rfl,⟨_,rfl,Ki (htv.mv ⟨x4.size,λb hb hn=>⟨x4.block b hb (λk=>by subst k;exact hn (by omega)),hn⟩⟩)⟩,aj.only (h0:=h) (e1.trans e2) x4 (Nat.le_refl _)⟩
theorem Dh {O O':Nat->Prop}{v v':Value}{k:List Tr}(hv:aL eN h O v k) (hv':aL eN h O' v' k) (hw:oE k<=1000000) :
 au prog 8 #[v,v'] h (bK λr h'=>r= .bool true/\aj h h'):=by
 obtain⟨a,n,c,rfl,hws⟩:=id hv.open;obtain⟨a',n',c',rfl,hws'⟩:=id hv'.open;have hn:k.length=n:=hws.len;have hn':k.length=n':=hws'.len;subst hn;subst hn';have hc:=hws.cap;have hl:=hws.le;simp only[maxLen] at hc;refine bJ ?_;refine af ?_;refine dB rfl (by simp) ?_;refine af ?_;refine fK (σ:=Nat) (λi=>[(5,.int .i64 (i:Nat))]) (λi g=>i<=k.length/\aj h g) (λi=>k.length-i) (0) ⟨Nat.zero_le _,Ext.refl _ _⟩ rfl ?_;rintro i g ⟨hi,eg⟩ ih;refine af ?_;refine aN (λhlt=>?_) (λhlt=>?_)
 · have hil:i<k.length:=by omega
   obtain⟨b,o,x,xk,xt,xa,xn,xc,ha,hx,hrow,hnx,_,_⟩:=nI (hws.mv (Mv.ah eg)) hil;obtain⟨b',o',y,yk,yt,ya,yn,yc,ha',hy,hrow',hny,_,_⟩:=nI (hws'.mv (Mv.ah eg)) hil;obtain rfl:x=y:=by rw[hx] at hy;exact Option.some.inj hy
   have hxw:x.wt<=1000000:=Nat.le_trans (Fv (List.mem_of_getElem? hx)) hw;have hss:sj x x=true:=(zP x x).2 rfl;refine af ?_;refine jK 11 (λ_=>False) (λi=>Nat.blt i 11) ?_;refine aF 0 ?_;refine aF 1 ?_;refine bq 2 rfl (λh' e=>bZ rfl rfl i rfl ha) ?_;refine bq 3 rfl (λh' e=>cj rfl (e.rowAt (λk=>k) hrow)) ?_;refine aF 5 ?_;refine aF 6 ?_;refine bq 7 rfl (λh' e=>bZ rfl rfl i rfl ha') ?_;refine bq 8 rfl (λh' e=>cj rfl (e.rowAt (λk=>k) hrow')) ?_;refine cV 4 rfl (aE rfl (HA hxw hnx)) ?_;rintro r1 g1 ⟨e1,hn1⟩;refine⟨λ_=>e1,?_⟩;refine cV 9 rfl (aE rfl (CM hn1 (hny.mv (Mv.ah e1)))) ?_;rintro _ g2 ⟨rfl,e2⟩;refine⟨λ_=>e2,?_⟩;refine aF 10 ?_;refine fV ?_;refine dB rfl (by simp[hss]) ?_;refine af ?_;exact ih (i+1) ⟨by omega,(eg.trans e1).trans e2⟩
 · refine af ?_;refine aP ?_;exact⟨_,rfl,rfl,eg⟩
theorem tW (hg:Gl h) (s:By) :
 au prog 3 #[.string (bs s)] h (bK λr h'=>r= .bool true/\aj h h'):=by
 have hbs:=aJ s;refine bJ ?_;refine af ?_;refine aN (λhlen=>?_) (λhlen=>?_)
 · refine af ?_;refine xo rfl (aE rfl (sw hg)) ?_;rintro _ h2 ⟨rfl,e2⟩;refine af ?_;refine aP ?_;exact⟨_,rfl,rfl,e2⟩
 · have hs:s.length<=400:=by omega
   have hal:(fD s).1.length<=s.length:=s7 _ _ _ _;have hmul:(fD s).1.length*(s.length+2)<=1000000000000:=Nat.le_trans (Nat.mul_le_mul (Nat.le_trans hal hs) (show s.length+2<=402 by omega)) (by decide);obtain⟨k,a,e,hP⟩:=zC s (fD s).1 (fD s).2.1;have hw:oE k<=1000000:=Nat.le_trans hP.wt (Nat.le_trans (Nat.mul_le_mul (Nat.le_trans hal hs) (show 2*s.length+42<=842 by omega)) (by decide));refine af ?_;refine xo rfl (aE rfl (Fc s (by omega))) ?_;rintro _ h1 ⟨⟨v,rfl,hv⟩,e1⟩;refine af ?_;refine xo rfl (cL) ?_;rintro _ h2 ⟨rfl,k2,e2,z2⟩;refine af ?_;refine aO rfl (aZ rfl rfl k2 (cF _)) ?_;rintro _ h3 ⟨rfl,k3,x3,z3⟩;have k3:aC h3 h1.size 25 (aG (fD s).2):=k3;have e13:aj h1 h3:=aj.only e2 x3 (Nat.le_refl _);have e03:=e1.trans e13;have c1:=rQ ((hg.ah e03).esc) (hv.ah e13) s (fD s).2 hmul (by omega) hP;refine af ?_;refine xp rfl (cj rfl k3.row) ?_;refine xo rfl (aE rfl c1) ?_;rintro _ h4 ⟨e4,lv,rfl,hlv⟩;have c2:=AG ((hv.ah e13).ah e4) s (fD s).2 hmul (by omega) hP;refine af ?_;refine xp rfl (cj rfl (k3.ah e4).row) ?_;refine xo rfl (aE rfl c2) ?_;rintro _ h5 ⟨e5,rv,rfl,hrv⟩;have e05:=(e03.trans e4).trans e5
   iterate 7 refine aR ?_
   refine cO ?_;refine aQ ?_;refine H9 (fun(u:Unit) (h':aq)=>aj h5 h') (fun(u:Unit)=>[(2,.bool true)]) rfl ?_ ?_
   · refine af ?_;refine xo rfl (aE rfl (Dh (hlv.mv (Mv.ah e5)) hrv hw)) ?_;rintro _ h6 ⟨rfl,e6⟩;refine af ?_;refine RW.bw (d:=39) (b':=true) rfl (rfl) ?_;refine af ?_;refine RW.bw (d:=44) (b':=true) rfl (by simp) ?_;refine af ?_;refine RW.bw (d:=49) (b':=true) rfl (by simp) ?_;refine xo rfl (aE rfl (sw (hg.ah (e05.trans e6)))) ?_;rintro _ h7 ⟨rfl,e7⟩;refine af ?_;exact lN () (e6.trans e7) ⟨ai rfl (rfl),sb rfl⟩
   · rintro u h6 e6;refine aP ?_;exact⟨_,rfl,rfl,e05.trans e6⟩
end
end Go.Proofs.YtnjahnbpnpkmhaaGreatDoor
